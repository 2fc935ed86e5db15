/- slices.Clone and slices.Equal at ints. -/
import Derived.Test.YtaojnjealccjiaaGreatDoorInts
import Derived.Test.YtaojnjealccjiaaGreatDoorAppend
import Derived.WalkSpells
namespace Go.Proofs.YtaojnjealccjiaaGreatDoor
open Go Go.RowKit Bg Go.Proofs
set_option linter.unusedVariables false

theorem Tryz.infoI : (Tryz.prog.info? 3).map (fun i => (i.zero, i.size, i.bytes)) = some (some (.int .i64 0), 1, 8) := by kernel_rfl

theorem arr_reads {w : World} {A : Option Addr} {xs : List Value} (h : Arr w A xs) : Reads w w.heap.size 1 A xs.length xs := by
  refine ⟨by simp, fun hn => ?_⟩
  obtain ⟨b, off, e, hlt, hc⟩ := h (fun e => by subst e; simp at hn)
  refine ⟨_, e, hlt, fun j u hu => ?_⟩
  have := hc j u hu
  unfold Addr.add
  split
  · next h0 => subst h0; exact this
  · exact this
theorem own_arr {w : World} {base : Nat} {A : Option Addr} {e : TypeId} {n c : Nat} {xs : List Value} (h : w.ownsRow base e 1 (.slice A n c) n xs) : Arr w A xs ∧ n ≤ c ∧ ∀ b o, A = some ⟨b, o, none⟩ → base ≤ b := by
  obtain ⟨h0, h1⟩ := h
  rcases h1 with ⟨h1, h2⟩ | ⟨g, cap, cur, h1, h2, h3, h4, h5, h6, h7⟩
  · injection h1 with e1 e2 e3
    subst e1 e2 e3
    have : xs = [] := List.eq_nil_of_length_eq_zero (by omega)
    subst this
    exact ⟨Arr.nil, Nat.le_refl _, fun b o h => by cases h⟩
  · injection h1 with e1 e2 e3
    subst e1 e3
    refine ⟨fun _ => ⟨g, 0, rfl, (Array.getElem?_eq_some_iff.1 h3).1, fun j v hv => ?_⟩, h4, fun b o h => by injection h with h; injection h with h; omega⟩
    rw [Nat.zero_add, cell_of_row w g j cur e (0, 0) h3]
    rw [← h7, List.getElem?_take] at hv
    split at hv
    · simpa using hv
    · cases hv

def ClonePost (xs : List Value) (w : World) (e : Ending) (w' : World) : Prop :=
  ∃ A' c', e = .returned (.slice A' xs.length c') ∧ Arr w' A' xs ∧ xs.length ≤ c' ∧ (∀ b o, A' = some ⟨b, o, none⟩ → w.heap.size ≤ b) ∧ Below w.heap.size w w'

set_option maxHeartbeats 400000 in
theorem int_clone (xs : List Value) (A : Option Addr) (c : Nat) (w : World) (h1 : ∀ u ∈ xs, u.oneCell' = true) (ha : Arr w A xs) (hl : xs.length ≤ 1000000) :
    Calls Tryz.prog 137 #[.slice A xs.length c] w (ClonePost xs w) := by
  have q : ∀ (w : World) (a : Option Addr) (n c n' c' : Nat), (binOp .eql 38 (.slice a n c) (.slice none n' c')).run Tryz.prog w = .ok (.bool a.isNone) w := fun w a n c n' c' => Lib.run_eql_slice_nil w _ _ a n c n' c' Tryz.underlying38
  rcases A with _ | ad
  · have hx : xs = [] := by
      rcases xs with _ | ⟨x, r⟩
      · rfl
      · obtain ⟨b, off, e, _⟩ := ha (by simp)
        cases e
    subst hx
    simp only [List.length_nil]
    go_enter Tryz.func137, Tryz.ntmps137
    go_wp2
    go_ret
    exact ⟨none, 0, rfl, Arr.nil, Nat.zero_le _, fun b o h => (by cases h), Below.refl _ _⟩
  · obtain ⟨i0, hi0, hz0, hz1, hz2⟩ := info_parts Tryz.infoI
    have H1 := Lib.hid h1
    clear h1
    go_enter Tryz.func137, Tryz.ntmps137
    go_wp2_with (at_builtin; refine wpList_append_any _ rfl (.tmp 5) (.tmp 6) _ rfl w.heap.size 3 i0 _ 1 8 Tryz.underlying38 hi0 hz0 hz1 hz2 rfl (by omega) _ 0 [] rfl ?c1 (w.heap.size + 1) (some ad) xs.length c xs rfl ?c2 H1.out ?c3 ?c4 ?c5 ?_)
    case c1 => exact ⟨by simp, .inr ⟨w.heap.size, 0, #[], rfl, Nat.le_refl _, heap_alloc_new w _, Nat.le_refl _, by unfold maxLen; omega, by simp, by simp⟩⟩
    case c2 => exact ((arr_reads ha).alloc (Nat.le_refl _) _).more (by omega)
    case c3 => unfold maxLen; omega
    case c4 => omega
    case c5 => simp
    intro v1 w1 hown hg _
    have hb : Below w.heap.size w w1 := ((Below.refl _ _).alloc (Nat.le_refl _) _).grown hg (by simp) (by simp [Value.ownBlock])
    clear q
    go_wp2
    go_ret
    obtain ⟨A', c', rfl⟩ : ∃ A' c', v1 = .slice A' xs.length c' := by
      rcases hown.2 with ⟨h, hn⟩ | ⟨g, cap, cur, h, _⟩
      · exact ⟨none, 0, by rw [h, hn]⟩
      · exact ⟨_, _, h⟩
    have := own_arr hown
    exact ⟨A', c', rfl, this.1, this.2.1, this.2.2, hb⟩

def EqualPost (b : Bool) (w : World) (e : Ending) (w' : World) : Prop := e = .returned (.bool b) ∧ ∃ n, w' = w.drewN n
set_option maxHeartbeats 400000 in
theorem int_equal (a b : List Int) (A A' : Option Addr) (c c' : Nat) (w : World) (ha : Arr w A (a.map iv)) (hb : Arr w A' (b.map iv)) (hl : a.length ≤ 1000000) (hl' : b.length ≤ 1000000) :
    Calls Tryz.prog 116 #[.slice A a.length c, .slice A' b.length c'] w (EqualPost (a == b) w) := by
  by_cases hlen : a.length = b.length
  · have hbn : ((a.length : Int) != (b.length : Int)) = false := by simp; omega
    have HL := Lib.hid hlen
    have hle : a.length ≤ b.length := by omega
    have hge : b.length ≤ a.length := by omega
    clear hlen
    go_enter Tryz.func116, Tryz.ntmps116
    go_wp2
    go_loopw [13] (fun u wr => ∃ k n : Nat, k ≤ a.length ∧ u = .int .i64 (k : Int) ∧ wr = w.drewN n ∧ Hid (a.take k = b.take k)) (fun u _ => a.length - (intOf u).toNat)
    case atStart => exact ⟨0, 0, Nat.zero_le _, rfl, rfl, by show a.take 0 = b.take 0; simp⟩
    case round =>
      obtain ⟨k, n, hk, rfl, rfl, HD⟩ := hrel
      by_cases hlt : k < a.length
      · obtain ⟨b1, off1, rfl, hlt1, hcell1⟩ := ha.int hlt
        obtain ⟨b2, off2, rfl, hlt2, hcell2⟩ := hb.int (k := k) (by omega)
        generalize hx : a.getD k 0 = x at hcell1
        generalize hy : b.getD k 0 = y at hcell2
        have hi1 : (k : Int) < (a.length : Int) := by omega
        have hi2 : (k : Int) < (b.length : Int) := by omega
        by_cases hxy : x = y
        · subst hxy
          have HN := Lib.hid (show a.take (k + 1) = b.take (k + 1) by
            have e3 := HD.out
            rw [List.take_succ_eq_append_getElem hlt, List.take_succ_eq_append_getElem (by omega), e3]
            congr 2
            have h1 : a.getD k 0 = a[k] := by simp [hlt]
            have h2 : b.getD k 0 = b[k]'(by omega) := by simp [show k < b.length by omega]
            rw [← h1, ← h2, hx, hy])
          have hne : (x != x) = false := by simp
          clear hx hy
          go_wp2
          go_quiet (fail)
          go_wp2
          go_roundw
          case rel => exact ⟨k + 1, n + nq, by omega, by go_num, rfl, HN⟩
          case measure => simp [intOf]; omega
        · have hne : (x != y) = true := by simpa using hxy
          have HE := Lib.hid (show (a == b) = false by
            rw [beq_eq_false_iff_ne]
            intro e
            subst e
            exact hxy (by rw [← hx, ← hy]))
          clear hx hy
          go_wp2
          go_quiet (fail)
          go_wp2
          go_ret
          exact ⟨ret_bool HE.out.symm, _, by rw [World.drewN_drewN]⟩
      · obtain rfl : k = a.length := by omega
        have HE := Lib.hid (show (a == b) = true by
          have := HD.out
          rw [List.take_of_length_le (Nat.le_refl _), List.take_of_length_le (by omega)] at this
          simpa using this)
        go_wp2
        go_ret
        exact ⟨ret_bool HE.out.symm, n, rfl⟩
  · have hbn : ((a.length : Int) != (b.length : Int)) = true := by simp; omega
    have HE := Lib.hid (show (a == b) = false by
      rw [beq_eq_false_iff_ne]
      intro e
      subst e
      exact hlen rfl)
    clear hlen
    go_enter Tryz.func116, Tryz.ntmps116
    go_wp2
    go_ret
    exact ⟨ret_bool HE.out.symm, 0, rfl⟩
end Go.Proofs.YtaojnjealccjiaaGreatDoor
