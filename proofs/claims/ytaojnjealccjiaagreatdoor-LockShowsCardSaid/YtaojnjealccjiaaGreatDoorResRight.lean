/- The contract of restate.Right. -/
import Derived.Test.YtaojnjealccjiaaGreatDoorShown
import Derived.Test.YtaojnjealccjiaaGreatDoorMap
import Derived.Test.YtaojnjealccjiaaGreatDoorWords
namespace Go.Proofs.YtaojnjealccjiaaGreatDoor
open Go Go.RowKit Bg Go.Proofs
set_option linter.unusedVariables false

/-- the slice at A holds the figures rs, which read as l -/
def Shs (M : Nat) (w : World) (A : Option Addr) (rs : List Raw) (l : List ShownV) : Prop :=
  Lst Raw.cells 10 w A rs ∧ rs.length = l.length ∧ ∀ (j : Nat) (r : Raw) (x : ShownV), rs[j]? = some r → l[j]? = some x → IsShown M w r x ∧ r.k.size ≤ 1000
theorem Shs.below {M : Nat} {w w' : World} {A : Option Addr} {rs : List Raw} {l : List ShownV} (h : Shs M w A rs l) (hb : Below w.heap.size w w') : Shs M w' A rs l :=
  ⟨h.1.below hb, h.2.1, fun j r x h1 h2 => ⟨(h.2.2 j r x h1 h2).1.below hb, (h.2.2 j r x h1 h2).2⟩⟩
/-- the figure with a number -/
theorem Shs.get {M : Nat} {w : World} {A : Option Addr} {rs : List Raw} {l : List ShownV} (h : Shs M w A rs l) {k : Nat} (hk : k < l.length) : ∃ b off r x, A = some ⟨b, off, none⟩ ∧ b < w.heap.size ∧ rs[k]? = some r ∧ l[k]? = some x ∧ IsShown M w r x ∧ r.k.size ≤ 1000 ∧ ∀ i v, r.cells[i]? = some v → w.cell? ⟨b, off + k * 10 + i, none⟩ = some v := by
  have hl := h.2.1
  have hr : rs[k]? = some rs[k] := List.getElem?_eq_getElem (by omega)
  have hx : l[k]? = some l[k] := List.getElem?_eq_getElem hk
  obtain ⟨b, off, e, hlt, hc⟩ := h.1 (fun e => by subst e; simp at hl; omega)
  obtain ⟨h1, h2⟩ := h.2.2 k _ _ hr hx
  exact ⟨b, off, _, _, e, hlt, hr, hx, h1, h2, fun i v hv => hc k _ hr i v hv⟩
def aggR (r : Raw) : Value := .agg r.cells.toArray
/-- what the map holds behind k figures -/
def lastR (rs : List Raw) (k : Nat) (key : ByteArray) : Option Value := ((rs.take k).reverse.find? fun r => decide (r.k = key)).map aggR
theorem lastR_succ {rs : List Raw} {k : Nat} {r : Raw} (h : rs[k]? = some r) : lastR rs (k + 1) = fun key => if key = r.k then some (aggR r) else lastR rs k key := by
  funext key
  unfold lastR
  obtain ⟨hk, he⟩ := List.getElem?_eq_some_iff.1 h
  rw [List.take_succ_eq_append_getElem hk, he, List.reverse_append, List.reverse_singleton, List.singleton_append, List.find?_cons]
  by_cases e : key = r.k
  · simp [e]
  · have e' : ¬ r.k = key := fun h => e h.symm
    simp [e, e']
/-- the map's figure and the list's -/
theorem last_pair {rs : List Raw} {l : List ShownV} (hl : rs.length = l.length) (hkey : ∀ (j : Nat) (r : Raw) (x : ShownV), rs[j]? = some r → l[j]? = some x → x.key = r.k) (key : ByteArray) : ∀ k, k ≤ l.length →
    (lastR rs k key = none ∧ lastOf (l.take k) key = none) ∨ ∃ (j : Nat) (r : Raw) (x : ShownV), rs[j]? = some r ∧ l[j]? = some x ∧ lastR rs k key = some (aggR r) ∧ lastOf (l.take k) key = some x
  | 0, _ => .inl ⟨rfl, rfl⟩
  | k + 1, hk => by
    have hr : rs[k]? = some rs[k] := List.getElem?_eq_getElem (by omega)
    have hx : l[k]? = some l[k] := List.getElem?_eq_getElem (by omega)
    have hkk := hkey k _ _ hr hx
    rw [lastR_succ hr, List.take_succ_eq_append_getElem (show k < l.length by omega), lastOf_snoc]
    by_cases e : key = rs[k].k
    · refine .inr ⟨k, _, _, hr, hx, if_pos e, if_pos (by rw [hkk, e])⟩
    · simp only [if_neg e, if_neg (show ¬ l[k].key = key from fun h => e (by rw [← h, hkk]))]
      exact last_pair hl hkey key k (by omega)
theorem note_take {l : List ShownV} {k : Nat} {x : ShownV} (h : l[k]? = some x) : noteOf (l.take (k + 1)) = x.note := by
  obtain ⟨hk, he⟩ := List.getElem?_eq_some_iff.1 h
  rw [List.take_succ_eq_append_getElem hk, noteOf_snoc, he]
/-- a figure that does not fit -/
theorem right_no {l : List ShownV} {k : Nat} {x : ShownV} (hk : l[k]? = some x) (hp : ∀ i, i < k → ∀ y, l[i]? = some y → stepOk oddK (l.take i) y = true) (h : stepOk oddK (l.take k) x = false) : rightL oddK l = false := by
  unfold rightL
  have := rightFrom_split oddK l [] k (by simpa using hp)
  rw [List.nil_append] at this
  obtain ⟨hlt, he⟩ := List.getElem?_eq_some_iff.1 hk
  rw [this, List.drop_eq_getElem_cons hlt, rightFrom, he, h]
  simp
theorem right_yes {l : List ShownV} (hl : l.length ≤ 2000) (hp : ∀ i, i < l.length → ∀ y, l[i]? = some y → stepOk oddK (l.take i) y = true) : rightL oddK l = true := by
  unfold rightL
  have := rightFrom_split oddK l [] l.length (by simpa using hp)
  rw [this, List.drop_of_length_le (Nat.le_refl _)]
  simp [rightFrom, hl]
theorem step_next {l : List ShownV} {k : Nat} {x : ShownV} (hk : l[k]? = some x) (hp : ∀ i, i < k → ∀ y, l[i]? = some y → stepOk oddK (l.take i) y = true) (h : stepOk oddK (l.take k) x = true) : ∀ i, i < k + 1 → ∀ y, l[i]? = some y → stepOk oddK (l.take i) y = true := by
  intro i hi y hy
  rcases Nat.lt_or_ge i k with h1 | h1
  · exact hp i h1 y hy
  · obtain rfl : i = k := by omega
    rw [hk] at hy
    obtain rfl := Option.some.inj hy
    exact h

theorem zero_shown (w : World) : (zeroValue 60).run Tryz.prog w = .ok (.agg #[Value.string ⟨#[]⟩, Value.int .i64 0, Value.int .i64 0, Value.slice none 0 0, Value.int .i64 0, Value.slice none 0 0, Value.int .i64 0, Value.slice none 0 0, Value.int .i64 0, Value.slice none 0 0]) w := by kernel_rfl
/-- what the loop keeps -/
def RightAt (rs : List Raw) (l : List ShownV) (w wr : World) (k : Nat) : Prop :=
  MapIs wr w.heap.size k (lastR rs k) ∧ (∀ i, i < k → ∀ y, l[i]? = some y → stepOk oddK (l.take i) y = true) ∧ Below w.heap.size w wr

set_option maxRecDepth 100000 in
set_option maxHeartbeats 4000000 in
theorem res_right {M : Nat} (rs : List Raw) (l : List ShownV) (A : Option Addr) (c : Nat) (w : World) (h : Shs M w A rs l) (hM : M + M + (M + M) ≤ 400000) (hl : l.length ≤ 1000000) :
    Calls Tryz.prog 8 #[.slice A l.length c] w (SaysB (rightL oddK l) w) := by
  by_cases h2 : 2000 < l.length
  · have HN := Lib.hid (show rightL oddK l = false by unfold rightL; simp; intro; omega)
    go_enter Tryz.func8, Tryz.ntmps8
    go_wp2
    go_ret
    exact ⟨ret_bool HN.out.symm, Below.refl _ _⟩
  have H := Lib.hid h
  have hmm := @run_makeMap Tryz.prog
  have hl2 : l.length ≤ 2000 := by omega
  clear h
  go_enter Tryz.func8, Tryz.ntmps8
  go_wp2
  clear hmm
  go_loopw [3, 15] (fun t r wr => ∃ k : Nat, k ≤ l.length ∧ t = .int .i64 (noteOf (l.take k)) ∧ r = .int .i64 (k : Int) ∧ RightAt rs l w wr k) (fun _ r _ => l.length - (intOf r).toNat)
  case atStart => exact ⟨0, Nat.zero_le _, rfl, rfl, MapIs.made w, fun i hi => absurd hi (Nat.not_lt_zero _), (Below.refl _ _).alloc (Nat.le_refl _) _⟩
  case round =>
    obtain ⟨k, hk, rfl, rfl, hmap, hst, hbw⟩ := hrel
    have HM := Lib.hid hmap
    have HS := Lib.hid hst
    have HB := Lib.hid hbw
    clear hmap hst hbw
    by_cases hlt : k < l.length
    · obtain ⟨b, off, r, x, rfl, hbl, hr, hx, hsh, hks, hcl⟩ := (H.out.below HB.out).get hlt
      have HCL := Lib.hid hcl
      have HR := Lib.hid hr
      have HX := Lib.hid hx
      have HSH := Lib.hid hsh
      have hgl := HM.out.lt
      have hx2 := hsh.2.1
      clear hcl hr hsh
      have a0 : wr.cell? ⟨b, off + k * 10, none⟩ = some (Value.string r.k) := HCL.out 0 _ rfl
      have a1 : wr.cell? ⟨b, off + k * 10 + 1, none⟩ = some (Value.int .i64 r.nt) := HCL.out 1 _ rfl
      have a2 : wr.cell? ⟨b, off + k * 10 + 2, none⟩ = some (Value.int .i64 r.s1) := HCL.out 2 _ rfl
      have a3 : wr.cell? ⟨b, off + k * 10 + 3, none⟩ = some (Value.slice r.A1 r.n1 r.c1) := HCL.out 3 _ rfl
      have a4 : wr.cell? ⟨b, off + k * 10 + 4, none⟩ = some (Value.int .i64 r.s2) := HCL.out 4 _ rfl
      have a5 : wr.cell? ⟨b, off + k * 10 + 5, none⟩ = some (Value.slice r.A2 r.n2 r.c2) := HCL.out 5 _ rfl
      have a6 : wr.cell? ⟨b, off + k * 10 + 6, none⟩ = some (Value.int .i64 r.s3) := HCL.out 6 _ rfl
      have a7 : wr.cell? ⟨b, off + k * 10 + 7, none⟩ = some (Value.slice r.A3 r.n3 r.c3) := HCL.out 7 _ rfl
      have a8 : wr.cell? ⟨b, off + k * 10 + 8, none⟩ = some (Value.int .i64 r.s4) := HCL.out 8 _ rfl
      have a9 : wr.cell? ⟨b, off + k * 10 + 9, none⟩ = some (Value.slice r.A4 r.n4 r.c4) := HCL.out 9 _ rfl
      have hsw := fun W (q : IsShown M W r x) => res_shown W q hks hM
      generalize hnt : noteOf (l.take k) = note at *
      cases hs : shownB oddK x with
      | false =>
        have HN := Lib.hid (right_no HX.out HS.out (show stepOk oddK (l.take k) x = false by simp [stepOk, hs]))
        rw [hs] at hsw
        have HW := Lib.hid hsw
        clear hsw hs hx hnt hx2
        go_wp2_with fail
        refine (HW.out _ (HSH.out.alloc _)).mono ?_
        rintro e w1 ⟨rfl, hb1⟩
        have hbb : Below w.heap.size w w1 := (HB.out.alloc HB.out.size _).trans (hb1.mono (by have := HB.out.size; simp <;> omega))
        clear hb1
        go_wp2_with fail
        go_ret
        exact ⟨ret_bool HN.out.symm, hbb⟩
      | true =>
        rw [hs] at hsw
        have HW := Lib.hid hsw
        by_cases hnn : r.nt < note
        · have HN := Lib.hid (right_no HX.out HS.out (show stepOk oddK (l.take k) x = false by simp [stepOk, hnt, hx2]; intros; omega))
          clear hsw hs hx hnt hx2
          go_wp2_with fail
          refine (HW.out _ (HSH.out.alloc _)).mono ?_
          rintro e w1 ⟨rfl, hb1⟩
          have e0 : w1.cell? ⟨wr.heap.size, 0, none⟩ = some (Value.string r.k) := (hb1.cell (p := ⟨wr.heap.size, 0, none⟩) (by simp)).trans (by simp [go_sem])
          have e1 : w1.cell? ⟨wr.heap.size, 1, none⟩ = some (Value.int .i64 r.nt) := (hb1.cell (p := ⟨wr.heap.size, 1, none⟩) (by simp)).trans (by simp [go_sem])
          have e2 : w1.cell? ⟨wr.heap.size, 2, none⟩ = some (Value.int .i64 r.s1) := (hb1.cell (p := ⟨wr.heap.size, 2, none⟩) (by simp)).trans (by simp [go_sem])
          have e3 : w1.cell? ⟨wr.heap.size, 3, none⟩ = some (Value.slice r.A1 r.n1 r.c1) := (hb1.cell (p := ⟨wr.heap.size, 3, none⟩) (by simp)).trans (by simp [go_sem])
          have e4 : w1.cell? ⟨wr.heap.size, 4, none⟩ = some (Value.int .i64 r.s2) := (hb1.cell (p := ⟨wr.heap.size, 4, none⟩) (by simp)).trans (by simp [go_sem])
          have e5 : w1.cell? ⟨wr.heap.size, 5, none⟩ = some (Value.slice r.A2 r.n2 r.c2) := (hb1.cell (p := ⟨wr.heap.size, 5, none⟩) (by simp)).trans (by simp [go_sem])
          have e6 : w1.cell? ⟨wr.heap.size, 6, none⟩ = some (Value.int .i64 r.s3) := (hb1.cell (p := ⟨wr.heap.size, 6, none⟩) (by simp)).trans (by simp [go_sem])
          have e7 : w1.cell? ⟨wr.heap.size, 7, none⟩ = some (Value.slice r.A3 r.n3 r.c3) := (hb1.cell (p := ⟨wr.heap.size, 7, none⟩) (by simp)).trans (by simp [go_sem])
          have e8 : w1.cell? ⟨wr.heap.size, 8, none⟩ = some (Value.int .i64 r.s4) := (hb1.cell (p := ⟨wr.heap.size, 8, none⟩) (by simp)).trans (by simp [go_sem])
          have e9 : w1.cell? ⟨wr.heap.size, 9, none⟩ = some (Value.slice r.A4 r.n4 r.c4) := (hb1.cell (p := ⟨wr.heap.size, 9, none⟩) (by simp)).trans (by simp [go_sem])
          have hbb : Below w.heap.size w w1 := (HB.out.alloc HB.out.size _).trans (hb1.mono (by have := HB.out.size; simp <;> omega))
          clear hb1
          go_wp2_with fail
          go_ret
          exact ⟨ret_bool HN.out.symm, hbb⟩
        · have hnd : decide (r.nt < note) = false := by simpa using hnn
          have hpair := last_pair H.out.2.1 (fun j r x h1 h2 => (H.out.2.2 j r x h1 h2).1.1) r.k k hk
          rcases hpair with ⟨p1, p2⟩ | ⟨j, r', x', p1, p2, p3, p4⟩
          · have HN := Lib.hid (step_next HX.out HS.out (show stepOk oddK (l.take k) x = true by
              have hxk : x.key = r.k := HSH.out.1
              simp [stepOk, hs, hnt, hx2, hxk, p2]; omega))
            have HP := Lib.hid p1
            clear hsw hs hx hnt hx2 p1 p2 hnn
            go_wp2_with fail
            refine (HW.out _ (HSH.out.alloc _)).mono ?_
            rintro e w1 ⟨rfl, hb1⟩
            have e0 : w1.cell? ⟨wr.heap.size, 0, none⟩ = some (Value.string r.k) := (hb1.cell (p := ⟨wr.heap.size, 0, none⟩) (by simp)).trans (by simp [go_sem])
            have e1 : w1.cell? ⟨wr.heap.size, 1, none⟩ = some (Value.int .i64 r.nt) := (hb1.cell (p := ⟨wr.heap.size, 1, none⟩) (by simp)).trans (by simp [go_sem])
            have e2 : w1.cell? ⟨wr.heap.size, 2, none⟩ = some (Value.int .i64 r.s1) := (hb1.cell (p := ⟨wr.heap.size, 2, none⟩) (by simp)).trans (by simp [go_sem])
            have e3 : w1.cell? ⟨wr.heap.size, 3, none⟩ = some (Value.slice r.A1 r.n1 r.c1) := (hb1.cell (p := ⟨wr.heap.size, 3, none⟩) (by simp)).trans (by simp [go_sem])
            have e4 : w1.cell? ⟨wr.heap.size, 4, none⟩ = some (Value.int .i64 r.s2) := (hb1.cell (p := ⟨wr.heap.size, 4, none⟩) (by simp)).trans (by simp [go_sem])
            have e5 : w1.cell? ⟨wr.heap.size, 5, none⟩ = some (Value.slice r.A2 r.n2 r.c2) := (hb1.cell (p := ⟨wr.heap.size, 5, none⟩) (by simp)).trans (by simp [go_sem])
            have e6 : w1.cell? ⟨wr.heap.size, 6, none⟩ = some (Value.int .i64 r.s3) := (hb1.cell (p := ⟨wr.heap.size, 6, none⟩) (by simp)).trans (by simp [go_sem])
            have e7 : w1.cell? ⟨wr.heap.size, 7, none⟩ = some (Value.slice r.A3 r.n3 r.c3) := (hb1.cell (p := ⟨wr.heap.size, 7, none⟩) (by simp)).trans (by simp [go_sem])
            have e8 : w1.cell? ⟨wr.heap.size, 8, none⟩ = some (Value.int .i64 r.s4) := (hb1.cell (p := ⟨wr.heap.size, 8, none⟩) (by simp)).trans (by simp [go_sem])
            have e9 : w1.cell? ⟨wr.heap.size, 9, none⟩ = some (Value.slice r.A4 r.n4 r.c4) := (hb1.cell (p := ⟨wr.heap.size, 9, none⟩) (by simp)).trans (by simp [go_sem])
            have hbb : Below w.heap.size w w1 := (HB.out.alloc HB.out.size _).trans (hb1.mono (by have := HB.out.size; simp <;> omega))
            have hz1 : wr.heap.size < w1.heap.size := by have := hb1.size; simp at this; omega
            have HM1 := Lib.hid ((HM.out.alloc (.cells #[Value.string r.k, Value.int .i64 r.nt, Value.int .i64 r.s1, Value.slice r.A1 r.n1 r.c1, Value.int .i64 r.s2, Value.slice r.A2 r.n2 r.c2, Value.int .i64 r.s3, Value.slice r.A3 r.n3 r.c3, Value.int .i64 r.s4, Value.slice r.A4 r.n4 r.c4] 60)).below hb1 (by simp; omega))
            have HBB := Lib.hid hbb
            clear hb1 hbb
            go_wp2_with (at_lookup; refine wpList_look_none _ rfl _ _ _ rfl 60 Tryz.underlying62 (zero_shown _) w.heap.size k (lastR rs k) rfl HM1.out r.k rfl (by unfold maxLen; omega) HP.out ?_)
            have hB2 : Below w1.heap.size w1 (w1.alloc (.cells #[Value.string ⟨#[]⟩, Value.int .i64 0, Value.int .i64 0, Value.slice none 0 0, Value.int .i64 0, Value.slice none 0 0, Value.int .i64 0, Value.slice none 0 0, Value.int .i64 0, Value.slice none 0 0] 60)) := (Below.refl _ _).alloc (Nat.le_refl _) _
            generalize w1.alloc (.cells #[Value.string ⟨#[]⟩, Value.int .i64 0, Value.int .i64 0, Value.slice none 0 0, Value.int .i64 0, Value.slice none 0 0, Value.int .i64 0, Value.slice none 0 0, Value.int .i64 0, Value.slice none 0 0] 60) = w2 at hB2 ⊢
            have f0 : w2.cell? ⟨wr.heap.size, 0, none⟩ = some (Value.string r.k) := (hB2.cell (p := ⟨wr.heap.size, 0, none⟩) hz1).trans e0
            have f1 : w2.cell? ⟨wr.heap.size, 1, none⟩ = some (Value.int .i64 r.nt) := (hB2.cell (p := ⟨wr.heap.size, 1, none⟩) hz1).trans e1
            have f2 : w2.cell? ⟨wr.heap.size, 2, none⟩ = some (Value.int .i64 r.s1) := (hB2.cell (p := ⟨wr.heap.size, 2, none⟩) hz1).trans e2
            have f3 : w2.cell? ⟨wr.heap.size, 3, none⟩ = some (Value.slice r.A1 r.n1 r.c1) := (hB2.cell (p := ⟨wr.heap.size, 3, none⟩) hz1).trans e3
            have f4 : w2.cell? ⟨wr.heap.size, 4, none⟩ = some (Value.int .i64 r.s2) := (hB2.cell (p := ⟨wr.heap.size, 4, none⟩) hz1).trans e4
            have f5 : w2.cell? ⟨wr.heap.size, 5, none⟩ = some (Value.slice r.A2 r.n2 r.c2) := (hB2.cell (p := ⟨wr.heap.size, 5, none⟩) hz1).trans e5
            have f6 : w2.cell? ⟨wr.heap.size, 6, none⟩ = some (Value.int .i64 r.s3) := (hB2.cell (p := ⟨wr.heap.size, 6, none⟩) hz1).trans e6
            have f7 : w2.cell? ⟨wr.heap.size, 7, none⟩ = some (Value.slice r.A3 r.n3 r.c3) := (hB2.cell (p := ⟨wr.heap.size, 7, none⟩) hz1).trans e7
            have f8 : w2.cell? ⟨wr.heap.size, 8, none⟩ = some (Value.int .i64 r.s4) := (hB2.cell (p := ⟨wr.heap.size, 8, none⟩) hz1).trans e8
            have f9 : w2.cell? ⟨wr.heap.size, 9, none⟩ = some (Value.slice r.A4 r.n4 r.c4) := (hB2.cell (p := ⟨wr.heap.size, 9, none⟩) hz1).trans e9
            have HM2 := Lib.hid (HM1.out.below hB2 HM1.out.lt)
            have HBB2 := Lib.hid (HBB.out.trans (hB2.mono HBB.out.size))
            clear hB2 HM1 HBB e0 e1 e2 e3 e4 e5 e6 e7 e8 e9
            go_still_tail 7, (by kernel_rfl)
            change wpList _ _ _ _ _ w2.drew
            refine wpList_put_held _ rfl (.tmp 50) (.tmp 52) (.tmp 55) _ rfl 60 Tryz.underlying62 w.heap.size k (lastR rs k) rfl HM2.out.drew (by unfold maxLen; omega) r.k (aggR r) rfl rfl (by unfold maxLen; omega) ?_
            intro w9 hm9 hg9
            have hm9' : MapIs w9 w.heap.size (k + 1) (lastR rs (k + 1)) := by rw [lastR_succ HR.out]; exact hm9
            have HM9 := Lib.hid hm9'
            have HB9 := Lib.hid (show Below w.heap.size w w9 from (HBB2.out.drew).grown hg9 (by have := HBB2.out.size; simpa using this) (fun j hj => by injection hj with hj; omega))
            have HNT := Lib.hid (show noteOf (l.take (k + 1)) = r.nt by rw [note_take HX.out]; exact HSH.out.2.1)
            clear hm9 hg9 hm9'
            go_wp2_with fail
            go_roundw
            case rel => exact ⟨k + 1, by omega, by rw [HNT.out], by go_num, HM9.out, HN.out, HB9.out⟩
            case measure => simp [intOf]; omega
          · have hsh' := H.out.2.2 j r' x' p1 p2
            have HSH' := Lib.hid hsh'.1
            have hx2' := hsh'.1.2.1
            have hxk : x.key = r.k := HSH.out.1
            have HP := Lib.hid (show lastR rs k r.k = some (.agg #[Value.string r'.k, Value.int .i64 r'.nt, Value.int .i64 r'.s1, Value.slice r'.A1 r'.n1 r'.c1, Value.int .i64 r'.s2, Value.slice r'.A2 r'.n2 r'.c2, Value.int .i64 r'.s3, Value.slice r'.A3 r'.n3 r'.c3, Value.int .i64 r'.s4, Value.slice r'.A4 r'.n4 r'.c4]) from p3)
            have hso : stepOk oddK (l.take k) x = !(r'.nt == r.nt || sameS x'.value x.value) := by
              have h9 : decide (note ≤ r.nt) = true := by simp; omega
              simp only [stepOk, hs, hnt, hx2, hxk, p4, hx2', h9, Bool.true_and]
            have HSO := Lib.hid hso
            have hspan := fun W (q' : IsShown M W r' x') (q : IsShown M W r x) => span_same r'.c1 r'.c2 r'.c3 r'.c4 r.c1 r.c2 r.c3 r.c4 W q'.2.2 q.2.2 (by omega)
            cases hnq : (r'.nt == r.nt) with
            | true =>
              have HN := Lib.hid (right_no HX.out HS.out (show stepOk oddK (l.take k) x = false by rw [HSO.out, hnq]; rfl))
              clear hsw hs hx hnt hx2 p1 p2 p3 p4 hnn hsh' hx2' hxk hso hspan
              go_wp2_with fail
              refine (HW.out _ (HSH.out.alloc _)).mono ?_
              rintro e w1 ⟨rfl, hb1⟩
              have e0 : w1.cell? ⟨wr.heap.size, 0, none⟩ = some (Value.string r.k) := (hb1.cell (p := ⟨wr.heap.size, 0, none⟩) (by simp)).trans (by simp [go_sem])
              have e1 : w1.cell? ⟨wr.heap.size, 1, none⟩ = some (Value.int .i64 r.nt) := (hb1.cell (p := ⟨wr.heap.size, 1, none⟩) (by simp)).trans (by simp [go_sem])
              have e2 : w1.cell? ⟨wr.heap.size, 2, none⟩ = some (Value.int .i64 r.s1) := (hb1.cell (p := ⟨wr.heap.size, 2, none⟩) (by simp)).trans (by simp [go_sem])
              have e3 : w1.cell? ⟨wr.heap.size, 3, none⟩ = some (Value.slice r.A1 r.n1 r.c1) := (hb1.cell (p := ⟨wr.heap.size, 3, none⟩) (by simp)).trans (by simp [go_sem])
              have e4 : w1.cell? ⟨wr.heap.size, 4, none⟩ = some (Value.int .i64 r.s2) := (hb1.cell (p := ⟨wr.heap.size, 4, none⟩) (by simp)).trans (by simp [go_sem])
              have e5 : w1.cell? ⟨wr.heap.size, 5, none⟩ = some (Value.slice r.A2 r.n2 r.c2) := (hb1.cell (p := ⟨wr.heap.size, 5, none⟩) (by simp)).trans (by simp [go_sem])
              have e6 : w1.cell? ⟨wr.heap.size, 6, none⟩ = some (Value.int .i64 r.s3) := (hb1.cell (p := ⟨wr.heap.size, 6, none⟩) (by simp)).trans (by simp [go_sem])
              have e7 : w1.cell? ⟨wr.heap.size, 7, none⟩ = some (Value.slice r.A3 r.n3 r.c3) := (hb1.cell (p := ⟨wr.heap.size, 7, none⟩) (by simp)).trans (by simp [go_sem])
              have e8 : w1.cell? ⟨wr.heap.size, 8, none⟩ = some (Value.int .i64 r.s4) := (hb1.cell (p := ⟨wr.heap.size, 8, none⟩) (by simp)).trans (by simp [go_sem])
              have e9 : w1.cell? ⟨wr.heap.size, 9, none⟩ = some (Value.slice r.A4 r.n4 r.c4) := (hb1.cell (p := ⟨wr.heap.size, 9, none⟩) (by simp)).trans (by simp [go_sem])
              have hbb : Below w.heap.size w w1 := (HB.out.alloc HB.out.size _).trans (hb1.mono (by have := HB.out.size; simp <;> omega))
              have hwr : Below wr.heap.size wr w1 := ((Below.refl _ wr).alloc (Nat.le_refl _) _).trans (hb1.mono (by simp))
              have hz1 : wr.heap.size < w1.heap.size := by have := hb1.size; simp at this; omega
              have HM1 := Lib.hid ((HM.out.alloc (.cells #[Value.string r.k, Value.int .i64 r.nt, Value.int .i64 r.s1, Value.slice r.A1 r.n1 r.c1, Value.int .i64 r.s2, Value.slice r.A2 r.n2 r.c2, Value.int .i64 r.s3, Value.slice r.A3 r.n3 r.c3, Value.int .i64 r.s4, Value.slice r.A4 r.n4 r.c4] 60)).below hb1 (by simp; omega))
              have HBB := Lib.hid hbb
              have HWR := Lib.hid hwr
              clear hb1 hbb hwr
              go_wp2_with (at_lookup; refine wpList_look_some _ rfl _ _ _ rfl 60 Tryz.underlying62 (zero_shown _) w.heap.size k (lastR rs k) rfl HM1.out r.k rfl (by unfold maxLen; omega) _ HP.out ?_)
              have hB2 : Below w1.heap.size w1 (w1.alloc (.cells #[Value.string r'.k, Value.int .i64 r'.nt, Value.int .i64 r'.s1, Value.slice r'.A1 r'.n1 r'.c1, Value.int .i64 r'.s2, Value.slice r'.A2 r'.n2 r'.c2, Value.int .i64 r'.s3, Value.slice r'.A3 r'.n3 r'.c3, Value.int .i64 r'.s4, Value.slice r'.A4 r'.n4 r'.c4] 60)) := (Below.refl _ _).alloc (Nat.le_refl _) _
              have g0 : (w1.alloc (.cells #[Value.string r'.k, Value.int .i64 r'.nt, Value.int .i64 r'.s1, Value.slice r'.A1 r'.n1 r'.c1, Value.int .i64 r'.s2, Value.slice r'.A2 r'.n2 r'.c2, Value.int .i64 r'.s3, Value.slice r'.A3 r'.n3 r'.c3, Value.int .i64 r'.s4, Value.slice r'.A4 r'.n4 r'.c4] 60)).cell? ⟨w1.heap.size, 0, none⟩ = some (Value.string r'.k) := by simp [go_sem]
              have g1 : (w1.alloc (.cells #[Value.string r'.k, Value.int .i64 r'.nt, Value.int .i64 r'.s1, Value.slice r'.A1 r'.n1 r'.c1, Value.int .i64 r'.s2, Value.slice r'.A2 r'.n2 r'.c2, Value.int .i64 r'.s3, Value.slice r'.A3 r'.n3 r'.c3, Value.int .i64 r'.s4, Value.slice r'.A4 r'.n4 r'.c4] 60)).cell? ⟨w1.heap.size, 1, none⟩ = some (Value.int .i64 r'.nt) := by simp [go_sem]
              have g2 : (w1.alloc (.cells #[Value.string r'.k, Value.int .i64 r'.nt, Value.int .i64 r'.s1, Value.slice r'.A1 r'.n1 r'.c1, Value.int .i64 r'.s2, Value.slice r'.A2 r'.n2 r'.c2, Value.int .i64 r'.s3, Value.slice r'.A3 r'.n3 r'.c3, Value.int .i64 r'.s4, Value.slice r'.A4 r'.n4 r'.c4] 60)).cell? ⟨w1.heap.size, 2, none⟩ = some (Value.int .i64 r'.s1) := by simp [go_sem]
              have g3 : (w1.alloc (.cells #[Value.string r'.k, Value.int .i64 r'.nt, Value.int .i64 r'.s1, Value.slice r'.A1 r'.n1 r'.c1, Value.int .i64 r'.s2, Value.slice r'.A2 r'.n2 r'.c2, Value.int .i64 r'.s3, Value.slice r'.A3 r'.n3 r'.c3, Value.int .i64 r'.s4, Value.slice r'.A4 r'.n4 r'.c4] 60)).cell? ⟨w1.heap.size, 3, none⟩ = some (Value.slice r'.A1 r'.n1 r'.c1) := by simp [go_sem]
              have g4 : (w1.alloc (.cells #[Value.string r'.k, Value.int .i64 r'.nt, Value.int .i64 r'.s1, Value.slice r'.A1 r'.n1 r'.c1, Value.int .i64 r'.s2, Value.slice r'.A2 r'.n2 r'.c2, Value.int .i64 r'.s3, Value.slice r'.A3 r'.n3 r'.c3, Value.int .i64 r'.s4, Value.slice r'.A4 r'.n4 r'.c4] 60)).cell? ⟨w1.heap.size, 4, none⟩ = some (Value.int .i64 r'.s2) := by simp [go_sem]
              have g5 : (w1.alloc (.cells #[Value.string r'.k, Value.int .i64 r'.nt, Value.int .i64 r'.s1, Value.slice r'.A1 r'.n1 r'.c1, Value.int .i64 r'.s2, Value.slice r'.A2 r'.n2 r'.c2, Value.int .i64 r'.s3, Value.slice r'.A3 r'.n3 r'.c3, Value.int .i64 r'.s4, Value.slice r'.A4 r'.n4 r'.c4] 60)).cell? ⟨w1.heap.size, 5, none⟩ = some (Value.slice r'.A2 r'.n2 r'.c2) := by simp [go_sem]
              have g6 : (w1.alloc (.cells #[Value.string r'.k, Value.int .i64 r'.nt, Value.int .i64 r'.s1, Value.slice r'.A1 r'.n1 r'.c1, Value.int .i64 r'.s2, Value.slice r'.A2 r'.n2 r'.c2, Value.int .i64 r'.s3, Value.slice r'.A3 r'.n3 r'.c3, Value.int .i64 r'.s4, Value.slice r'.A4 r'.n4 r'.c4] 60)).cell? ⟨w1.heap.size, 6, none⟩ = some (Value.int .i64 r'.s3) := by simp [go_sem]
              have g7 : (w1.alloc (.cells #[Value.string r'.k, Value.int .i64 r'.nt, Value.int .i64 r'.s1, Value.slice r'.A1 r'.n1 r'.c1, Value.int .i64 r'.s2, Value.slice r'.A2 r'.n2 r'.c2, Value.int .i64 r'.s3, Value.slice r'.A3 r'.n3 r'.c3, Value.int .i64 r'.s4, Value.slice r'.A4 r'.n4 r'.c4] 60)).cell? ⟨w1.heap.size, 7, none⟩ = some (Value.slice r'.A3 r'.n3 r'.c3) := by simp [go_sem]
              have g8 : (w1.alloc (.cells #[Value.string r'.k, Value.int .i64 r'.nt, Value.int .i64 r'.s1, Value.slice r'.A1 r'.n1 r'.c1, Value.int .i64 r'.s2, Value.slice r'.A2 r'.n2 r'.c2, Value.int .i64 r'.s3, Value.slice r'.A3 r'.n3 r'.c3, Value.int .i64 r'.s4, Value.slice r'.A4 r'.n4 r'.c4] 60)).cell? ⟨w1.heap.size, 8, none⟩ = some (Value.int .i64 r'.s4) := by simp [go_sem]
              have g9 : (w1.alloc (.cells #[Value.string r'.k, Value.int .i64 r'.nt, Value.int .i64 r'.s1, Value.slice r'.A1 r'.n1 r'.c1, Value.int .i64 r'.s2, Value.slice r'.A2 r'.n2 r'.c2, Value.int .i64 r'.s3, Value.slice r'.A3 r'.n3 r'.c3, Value.int .i64 r'.s4, Value.slice r'.A4 r'.n4 r'.c4] 60)).cell? ⟨w1.heap.size, 9, none⟩ = some (Value.slice r'.A4 r'.n4 r'.c4) := by simp [go_sem]
              have hz2 : w1.heap.size < (w1.alloc (.cells #[Value.string r'.k, Value.int .i64 r'.nt, Value.int .i64 r'.s1, Value.slice r'.A1 r'.n1 r'.c1, Value.int .i64 r'.s2, Value.slice r'.A2 r'.n2 r'.c2, Value.int .i64 r'.s3, Value.slice r'.A3 r'.n3 r'.c3, Value.int .i64 r'.s4, Value.slice r'.A4 r'.n4 r'.c4] 60)).heap.size := by simp
              generalize w1.alloc (.cells #[Value.string r'.k, Value.int .i64 r'.nt, Value.int .i64 r'.s1, Value.slice r'.A1 r'.n1 r'.c1, Value.int .i64 r'.s2, Value.slice r'.A2 r'.n2 r'.c2, Value.int .i64 r'.s3, Value.slice r'.A3 r'.n3 r'.c3, Value.int .i64 r'.s4, Value.slice r'.A4 r'.n4 r'.c4] 60) = w2 at *
              have f0 : w2.cell? ⟨wr.heap.size, 0, none⟩ = some (Value.string r.k) := (hB2.cell (p := ⟨wr.heap.size, 0, none⟩) hz1).trans e0
              have f1 : w2.cell? ⟨wr.heap.size, 1, none⟩ = some (Value.int .i64 r.nt) := (hB2.cell (p := ⟨wr.heap.size, 1, none⟩) hz1).trans e1
              have f2 : w2.cell? ⟨wr.heap.size, 2, none⟩ = some (Value.int .i64 r.s1) := (hB2.cell (p := ⟨wr.heap.size, 2, none⟩) hz1).trans e2
              have f3 : w2.cell? ⟨wr.heap.size, 3, none⟩ = some (Value.slice r.A1 r.n1 r.c1) := (hB2.cell (p := ⟨wr.heap.size, 3, none⟩) hz1).trans e3
              have f4 : w2.cell? ⟨wr.heap.size, 4, none⟩ = some (Value.int .i64 r.s2) := (hB2.cell (p := ⟨wr.heap.size, 4, none⟩) hz1).trans e4
              have f5 : w2.cell? ⟨wr.heap.size, 5, none⟩ = some (Value.slice r.A2 r.n2 r.c2) := (hB2.cell (p := ⟨wr.heap.size, 5, none⟩) hz1).trans e5
              have f6 : w2.cell? ⟨wr.heap.size, 6, none⟩ = some (Value.int .i64 r.s3) := (hB2.cell (p := ⟨wr.heap.size, 6, none⟩) hz1).trans e6
              have f7 : w2.cell? ⟨wr.heap.size, 7, none⟩ = some (Value.slice r.A3 r.n3 r.c3) := (hB2.cell (p := ⟨wr.heap.size, 7, none⟩) hz1).trans e7
              have f8 : w2.cell? ⟨wr.heap.size, 8, none⟩ = some (Value.int .i64 r.s4) := (hB2.cell (p := ⟨wr.heap.size, 8, none⟩) hz1).trans e8
              have f9 : w2.cell? ⟨wr.heap.size, 9, none⟩ = some (Value.slice r.A4 r.n4 r.c4) := (hB2.cell (p := ⟨wr.heap.size, 9, none⟩) hz1).trans e9
              have HM2 := Lib.hid (HM1.out.below hB2 HM1.out.lt)
              have HBB2 := Lib.hid (HBB.out.trans (hB2.mono HBB.out.size))
              have HWR2 := Lib.hid (HWR.out.trans (hB2.mono HWR.out.size))
              clear hB2 HM1 HBB HWR e0 e1 e2 e3 e4 e5 e6 e7 e8 e9
              go_wp2_with fail
              go_ret
              exact ⟨ret_bool HN.out.symm, HBB2.out⟩
            | false =>
              cases hsm : sameS x'.value x.value with
              | true =>
                have HN := Lib.hid (right_no HX.out HS.out (show stepOk oddK (l.take k) x = false by rw [HSO.out, hnq, hsm]; rfl))
                rw [hsm] at hspan
                have HSP := Lib.hid hspan
                clear hsw hs hx hnt hx2 p1 p2 p3 p4 hnn hsh' hx2' hxk hso hspan hsm
                go_wp2_with fail
                refine (HW.out _ (HSH.out.alloc _)).mono ?_
                rintro e w1 ⟨rfl, hb1⟩
                have e0 : w1.cell? ⟨wr.heap.size, 0, none⟩ = some (Value.string r.k) := (hb1.cell (p := ⟨wr.heap.size, 0, none⟩) (by simp)).trans (by simp [go_sem])
                have e1 : w1.cell? ⟨wr.heap.size, 1, none⟩ = some (Value.int .i64 r.nt) := (hb1.cell (p := ⟨wr.heap.size, 1, none⟩) (by simp)).trans (by simp [go_sem])
                have e2 : w1.cell? ⟨wr.heap.size, 2, none⟩ = some (Value.int .i64 r.s1) := (hb1.cell (p := ⟨wr.heap.size, 2, none⟩) (by simp)).trans (by simp [go_sem])
                have e3 : w1.cell? ⟨wr.heap.size, 3, none⟩ = some (Value.slice r.A1 r.n1 r.c1) := (hb1.cell (p := ⟨wr.heap.size, 3, none⟩) (by simp)).trans (by simp [go_sem])
                have e4 : w1.cell? ⟨wr.heap.size, 4, none⟩ = some (Value.int .i64 r.s2) := (hb1.cell (p := ⟨wr.heap.size, 4, none⟩) (by simp)).trans (by simp [go_sem])
                have e5 : w1.cell? ⟨wr.heap.size, 5, none⟩ = some (Value.slice r.A2 r.n2 r.c2) := (hb1.cell (p := ⟨wr.heap.size, 5, none⟩) (by simp)).trans (by simp [go_sem])
                have e6 : w1.cell? ⟨wr.heap.size, 6, none⟩ = some (Value.int .i64 r.s3) := (hb1.cell (p := ⟨wr.heap.size, 6, none⟩) (by simp)).trans (by simp [go_sem])
                have e7 : w1.cell? ⟨wr.heap.size, 7, none⟩ = some (Value.slice r.A3 r.n3 r.c3) := (hb1.cell (p := ⟨wr.heap.size, 7, none⟩) (by simp)).trans (by simp [go_sem])
                have e8 : w1.cell? ⟨wr.heap.size, 8, none⟩ = some (Value.int .i64 r.s4) := (hb1.cell (p := ⟨wr.heap.size, 8, none⟩) (by simp)).trans (by simp [go_sem])
                have e9 : w1.cell? ⟨wr.heap.size, 9, none⟩ = some (Value.slice r.A4 r.n4 r.c4) := (hb1.cell (p := ⟨wr.heap.size, 9, none⟩) (by simp)).trans (by simp [go_sem])
                have hbb : Below w.heap.size w w1 := (HB.out.alloc HB.out.size _).trans (hb1.mono (by have := HB.out.size; simp <;> omega))
                have hwr : Below wr.heap.size wr w1 := ((Below.refl _ wr).alloc (Nat.le_refl _) _).trans (hb1.mono (by simp))
                have hz1 : wr.heap.size < w1.heap.size := by have := hb1.size; simp at this; omega
                have HM1 := Lib.hid ((HM.out.alloc (.cells #[Value.string r.k, Value.int .i64 r.nt, Value.int .i64 r.s1, Value.slice r.A1 r.n1 r.c1, Value.int .i64 r.s2, Value.slice r.A2 r.n2 r.c2, Value.int .i64 r.s3, Value.slice r.A3 r.n3 r.c3, Value.int .i64 r.s4, Value.slice r.A4 r.n4 r.c4] 60)).below hb1 (by simp; omega))
                have HBB := Lib.hid hbb
                have HWR := Lib.hid hwr
                clear hb1 hbb hwr
                go_wp2_with (at_lookup; refine wpList_look_some _ rfl _ _ _ rfl 60 Tryz.underlying62 (zero_shown _) w.heap.size k (lastR rs k) rfl HM1.out r.k rfl (by unfold maxLen; omega) _ HP.out ?_)
                have hB2 : Below w1.heap.size w1 (w1.alloc (.cells #[Value.string r'.k, Value.int .i64 r'.nt, Value.int .i64 r'.s1, Value.slice r'.A1 r'.n1 r'.c1, Value.int .i64 r'.s2, Value.slice r'.A2 r'.n2 r'.c2, Value.int .i64 r'.s3, Value.slice r'.A3 r'.n3 r'.c3, Value.int .i64 r'.s4, Value.slice r'.A4 r'.n4 r'.c4] 60)) := (Below.refl _ _).alloc (Nat.le_refl _) _
                have g0 : (w1.alloc (.cells #[Value.string r'.k, Value.int .i64 r'.nt, Value.int .i64 r'.s1, Value.slice r'.A1 r'.n1 r'.c1, Value.int .i64 r'.s2, Value.slice r'.A2 r'.n2 r'.c2, Value.int .i64 r'.s3, Value.slice r'.A3 r'.n3 r'.c3, Value.int .i64 r'.s4, Value.slice r'.A4 r'.n4 r'.c4] 60)).cell? ⟨w1.heap.size, 0, none⟩ = some (Value.string r'.k) := by simp [go_sem]
                have g1 : (w1.alloc (.cells #[Value.string r'.k, Value.int .i64 r'.nt, Value.int .i64 r'.s1, Value.slice r'.A1 r'.n1 r'.c1, Value.int .i64 r'.s2, Value.slice r'.A2 r'.n2 r'.c2, Value.int .i64 r'.s3, Value.slice r'.A3 r'.n3 r'.c3, Value.int .i64 r'.s4, Value.slice r'.A4 r'.n4 r'.c4] 60)).cell? ⟨w1.heap.size, 1, none⟩ = some (Value.int .i64 r'.nt) := by simp [go_sem]
                have g2 : (w1.alloc (.cells #[Value.string r'.k, Value.int .i64 r'.nt, Value.int .i64 r'.s1, Value.slice r'.A1 r'.n1 r'.c1, Value.int .i64 r'.s2, Value.slice r'.A2 r'.n2 r'.c2, Value.int .i64 r'.s3, Value.slice r'.A3 r'.n3 r'.c3, Value.int .i64 r'.s4, Value.slice r'.A4 r'.n4 r'.c4] 60)).cell? ⟨w1.heap.size, 2, none⟩ = some (Value.int .i64 r'.s1) := by simp [go_sem]
                have g3 : (w1.alloc (.cells #[Value.string r'.k, Value.int .i64 r'.nt, Value.int .i64 r'.s1, Value.slice r'.A1 r'.n1 r'.c1, Value.int .i64 r'.s2, Value.slice r'.A2 r'.n2 r'.c2, Value.int .i64 r'.s3, Value.slice r'.A3 r'.n3 r'.c3, Value.int .i64 r'.s4, Value.slice r'.A4 r'.n4 r'.c4] 60)).cell? ⟨w1.heap.size, 3, none⟩ = some (Value.slice r'.A1 r'.n1 r'.c1) := by simp [go_sem]
                have g4 : (w1.alloc (.cells #[Value.string r'.k, Value.int .i64 r'.nt, Value.int .i64 r'.s1, Value.slice r'.A1 r'.n1 r'.c1, Value.int .i64 r'.s2, Value.slice r'.A2 r'.n2 r'.c2, Value.int .i64 r'.s3, Value.slice r'.A3 r'.n3 r'.c3, Value.int .i64 r'.s4, Value.slice r'.A4 r'.n4 r'.c4] 60)).cell? ⟨w1.heap.size, 4, none⟩ = some (Value.int .i64 r'.s2) := by simp [go_sem]
                have g5 : (w1.alloc (.cells #[Value.string r'.k, Value.int .i64 r'.nt, Value.int .i64 r'.s1, Value.slice r'.A1 r'.n1 r'.c1, Value.int .i64 r'.s2, Value.slice r'.A2 r'.n2 r'.c2, Value.int .i64 r'.s3, Value.slice r'.A3 r'.n3 r'.c3, Value.int .i64 r'.s4, Value.slice r'.A4 r'.n4 r'.c4] 60)).cell? ⟨w1.heap.size, 5, none⟩ = some (Value.slice r'.A2 r'.n2 r'.c2) := by simp [go_sem]
                have g6 : (w1.alloc (.cells #[Value.string r'.k, Value.int .i64 r'.nt, Value.int .i64 r'.s1, Value.slice r'.A1 r'.n1 r'.c1, Value.int .i64 r'.s2, Value.slice r'.A2 r'.n2 r'.c2, Value.int .i64 r'.s3, Value.slice r'.A3 r'.n3 r'.c3, Value.int .i64 r'.s4, Value.slice r'.A4 r'.n4 r'.c4] 60)).cell? ⟨w1.heap.size, 6, none⟩ = some (Value.int .i64 r'.s3) := by simp [go_sem]
                have g7 : (w1.alloc (.cells #[Value.string r'.k, Value.int .i64 r'.nt, Value.int .i64 r'.s1, Value.slice r'.A1 r'.n1 r'.c1, Value.int .i64 r'.s2, Value.slice r'.A2 r'.n2 r'.c2, Value.int .i64 r'.s3, Value.slice r'.A3 r'.n3 r'.c3, Value.int .i64 r'.s4, Value.slice r'.A4 r'.n4 r'.c4] 60)).cell? ⟨w1.heap.size, 7, none⟩ = some (Value.slice r'.A3 r'.n3 r'.c3) := by simp [go_sem]
                have g8 : (w1.alloc (.cells #[Value.string r'.k, Value.int .i64 r'.nt, Value.int .i64 r'.s1, Value.slice r'.A1 r'.n1 r'.c1, Value.int .i64 r'.s2, Value.slice r'.A2 r'.n2 r'.c2, Value.int .i64 r'.s3, Value.slice r'.A3 r'.n3 r'.c3, Value.int .i64 r'.s4, Value.slice r'.A4 r'.n4 r'.c4] 60)).cell? ⟨w1.heap.size, 8, none⟩ = some (Value.int .i64 r'.s4) := by simp [go_sem]
                have g9 : (w1.alloc (.cells #[Value.string r'.k, Value.int .i64 r'.nt, Value.int .i64 r'.s1, Value.slice r'.A1 r'.n1 r'.c1, Value.int .i64 r'.s2, Value.slice r'.A2 r'.n2 r'.c2, Value.int .i64 r'.s3, Value.slice r'.A3 r'.n3 r'.c3, Value.int .i64 r'.s4, Value.slice r'.A4 r'.n4 r'.c4] 60)).cell? ⟨w1.heap.size, 9, none⟩ = some (Value.slice r'.A4 r'.n4 r'.c4) := by simp [go_sem]
                have hz2 : w1.heap.size < (w1.alloc (.cells #[Value.string r'.k, Value.int .i64 r'.nt, Value.int .i64 r'.s1, Value.slice r'.A1 r'.n1 r'.c1, Value.int .i64 r'.s2, Value.slice r'.A2 r'.n2 r'.c2, Value.int .i64 r'.s3, Value.slice r'.A3 r'.n3 r'.c3, Value.int .i64 r'.s4, Value.slice r'.A4 r'.n4 r'.c4] 60)).heap.size := by simp
                generalize w1.alloc (.cells #[Value.string r'.k, Value.int .i64 r'.nt, Value.int .i64 r'.s1, Value.slice r'.A1 r'.n1 r'.c1, Value.int .i64 r'.s2, Value.slice r'.A2 r'.n2 r'.c2, Value.int .i64 r'.s3, Value.slice r'.A3 r'.n3 r'.c3, Value.int .i64 r'.s4, Value.slice r'.A4 r'.n4 r'.c4] 60) = w2 at *
                have f0 : w2.cell? ⟨wr.heap.size, 0, none⟩ = some (Value.string r.k) := (hB2.cell (p := ⟨wr.heap.size, 0, none⟩) hz1).trans e0
                have f1 : w2.cell? ⟨wr.heap.size, 1, none⟩ = some (Value.int .i64 r.nt) := (hB2.cell (p := ⟨wr.heap.size, 1, none⟩) hz1).trans e1
                have f2 : w2.cell? ⟨wr.heap.size, 2, none⟩ = some (Value.int .i64 r.s1) := (hB2.cell (p := ⟨wr.heap.size, 2, none⟩) hz1).trans e2
                have f3 : w2.cell? ⟨wr.heap.size, 3, none⟩ = some (Value.slice r.A1 r.n1 r.c1) := (hB2.cell (p := ⟨wr.heap.size, 3, none⟩) hz1).trans e3
                have f4 : w2.cell? ⟨wr.heap.size, 4, none⟩ = some (Value.int .i64 r.s2) := (hB2.cell (p := ⟨wr.heap.size, 4, none⟩) hz1).trans e4
                have f5 : w2.cell? ⟨wr.heap.size, 5, none⟩ = some (Value.slice r.A2 r.n2 r.c2) := (hB2.cell (p := ⟨wr.heap.size, 5, none⟩) hz1).trans e5
                have f6 : w2.cell? ⟨wr.heap.size, 6, none⟩ = some (Value.int .i64 r.s3) := (hB2.cell (p := ⟨wr.heap.size, 6, none⟩) hz1).trans e6
                have f7 : w2.cell? ⟨wr.heap.size, 7, none⟩ = some (Value.slice r.A3 r.n3 r.c3) := (hB2.cell (p := ⟨wr.heap.size, 7, none⟩) hz1).trans e7
                have f8 : w2.cell? ⟨wr.heap.size, 8, none⟩ = some (Value.int .i64 r.s4) := (hB2.cell (p := ⟨wr.heap.size, 8, none⟩) hz1).trans e8
                have f9 : w2.cell? ⟨wr.heap.size, 9, none⟩ = some (Value.slice r.A4 r.n4 r.c4) := (hB2.cell (p := ⟨wr.heap.size, 9, none⟩) hz1).trans e9
                have HM2 := Lib.hid (HM1.out.below hB2 HM1.out.lt)
                have HBB2 := Lib.hid (HBB.out.trans (hB2.mono HBB.out.size))
                have HWR2 := Lib.hid (HWR.out.trans (hB2.mono HWR.out.size))
                clear hB2 HM1 HBB HWR e0 e1 e2 e3 e4 e5 e6 e7 e8 e9
                go_wp2_with fail
                refine (HSP.out _ (HSH'.out.below HBB2.out) (HSH.out.below HWR2.out)).mono ?_
                rintro e w3 ⟨rfl, hb3⟩
                have HBB3 := Lib.hid (HBB2.out.trans (hb3.mono HBB2.out.size))
                clear hb3
                go_wp2_with fail
                go_ret
                exact ⟨ret_bool HN.out.symm, HBB3.out⟩
              | false =>
                have HN := Lib.hid (step_next HX.out HS.out (show stepOk oddK (l.take k) x = true by rw [HSO.out, hnq, hsm]; rfl))
                rw [hsm] at hspan
                have HSP := Lib.hid hspan
                clear hsw hs hx hnt hx2 p1 p2 p3 p4 hnn hsh' hx2' hxk hso hspan hsm
                go_wp2_with fail
                refine (HW.out _ (HSH.out.alloc _)).mono ?_
                rintro e w1 ⟨rfl, hb1⟩
                have e0 : w1.cell? ⟨wr.heap.size, 0, none⟩ = some (Value.string r.k) := (hb1.cell (p := ⟨wr.heap.size, 0, none⟩) (by simp)).trans (by simp [go_sem])
                have e1 : w1.cell? ⟨wr.heap.size, 1, none⟩ = some (Value.int .i64 r.nt) := (hb1.cell (p := ⟨wr.heap.size, 1, none⟩) (by simp)).trans (by simp [go_sem])
                have e2 : w1.cell? ⟨wr.heap.size, 2, none⟩ = some (Value.int .i64 r.s1) := (hb1.cell (p := ⟨wr.heap.size, 2, none⟩) (by simp)).trans (by simp [go_sem])
                have e3 : w1.cell? ⟨wr.heap.size, 3, none⟩ = some (Value.slice r.A1 r.n1 r.c1) := (hb1.cell (p := ⟨wr.heap.size, 3, none⟩) (by simp)).trans (by simp [go_sem])
                have e4 : w1.cell? ⟨wr.heap.size, 4, none⟩ = some (Value.int .i64 r.s2) := (hb1.cell (p := ⟨wr.heap.size, 4, none⟩) (by simp)).trans (by simp [go_sem])
                have e5 : w1.cell? ⟨wr.heap.size, 5, none⟩ = some (Value.slice r.A2 r.n2 r.c2) := (hb1.cell (p := ⟨wr.heap.size, 5, none⟩) (by simp)).trans (by simp [go_sem])
                have e6 : w1.cell? ⟨wr.heap.size, 6, none⟩ = some (Value.int .i64 r.s3) := (hb1.cell (p := ⟨wr.heap.size, 6, none⟩) (by simp)).trans (by simp [go_sem])
                have e7 : w1.cell? ⟨wr.heap.size, 7, none⟩ = some (Value.slice r.A3 r.n3 r.c3) := (hb1.cell (p := ⟨wr.heap.size, 7, none⟩) (by simp)).trans (by simp [go_sem])
                have e8 : w1.cell? ⟨wr.heap.size, 8, none⟩ = some (Value.int .i64 r.s4) := (hb1.cell (p := ⟨wr.heap.size, 8, none⟩) (by simp)).trans (by simp [go_sem])
                have e9 : w1.cell? ⟨wr.heap.size, 9, none⟩ = some (Value.slice r.A4 r.n4 r.c4) := (hb1.cell (p := ⟨wr.heap.size, 9, none⟩) (by simp)).trans (by simp [go_sem])
                have hbb : Below w.heap.size w w1 := (HB.out.alloc HB.out.size _).trans (hb1.mono (by have := HB.out.size; simp <;> omega))
                have hwr : Below wr.heap.size wr w1 := ((Below.refl _ wr).alloc (Nat.le_refl _) _).trans (hb1.mono (by simp))
                have hz1 : wr.heap.size < w1.heap.size := by have := hb1.size; simp at this; omega
                have HM1 := Lib.hid ((HM.out.alloc (.cells #[Value.string r.k, Value.int .i64 r.nt, Value.int .i64 r.s1, Value.slice r.A1 r.n1 r.c1, Value.int .i64 r.s2, Value.slice r.A2 r.n2 r.c2, Value.int .i64 r.s3, Value.slice r.A3 r.n3 r.c3, Value.int .i64 r.s4, Value.slice r.A4 r.n4 r.c4] 60)).below hb1 (by simp; omega))
                have HBB := Lib.hid hbb
                have HWR := Lib.hid hwr
                clear hb1 hbb hwr
                go_wp2_with (at_lookup; refine wpList_look_some _ rfl _ _ _ rfl 60 Tryz.underlying62 (zero_shown _) w.heap.size k (lastR rs k) rfl HM1.out r.k rfl (by unfold maxLen; omega) _ HP.out ?_)
                have hB2 : Below w1.heap.size w1 (w1.alloc (.cells #[Value.string r'.k, Value.int .i64 r'.nt, Value.int .i64 r'.s1, Value.slice r'.A1 r'.n1 r'.c1, Value.int .i64 r'.s2, Value.slice r'.A2 r'.n2 r'.c2, Value.int .i64 r'.s3, Value.slice r'.A3 r'.n3 r'.c3, Value.int .i64 r'.s4, Value.slice r'.A4 r'.n4 r'.c4] 60)) := (Below.refl _ _).alloc (Nat.le_refl _) _
                have g0 : (w1.alloc (.cells #[Value.string r'.k, Value.int .i64 r'.nt, Value.int .i64 r'.s1, Value.slice r'.A1 r'.n1 r'.c1, Value.int .i64 r'.s2, Value.slice r'.A2 r'.n2 r'.c2, Value.int .i64 r'.s3, Value.slice r'.A3 r'.n3 r'.c3, Value.int .i64 r'.s4, Value.slice r'.A4 r'.n4 r'.c4] 60)).cell? ⟨w1.heap.size, 0, none⟩ = some (Value.string r'.k) := by simp [go_sem]
                have g1 : (w1.alloc (.cells #[Value.string r'.k, Value.int .i64 r'.nt, Value.int .i64 r'.s1, Value.slice r'.A1 r'.n1 r'.c1, Value.int .i64 r'.s2, Value.slice r'.A2 r'.n2 r'.c2, Value.int .i64 r'.s3, Value.slice r'.A3 r'.n3 r'.c3, Value.int .i64 r'.s4, Value.slice r'.A4 r'.n4 r'.c4] 60)).cell? ⟨w1.heap.size, 1, none⟩ = some (Value.int .i64 r'.nt) := by simp [go_sem]
                have g2 : (w1.alloc (.cells #[Value.string r'.k, Value.int .i64 r'.nt, Value.int .i64 r'.s1, Value.slice r'.A1 r'.n1 r'.c1, Value.int .i64 r'.s2, Value.slice r'.A2 r'.n2 r'.c2, Value.int .i64 r'.s3, Value.slice r'.A3 r'.n3 r'.c3, Value.int .i64 r'.s4, Value.slice r'.A4 r'.n4 r'.c4] 60)).cell? ⟨w1.heap.size, 2, none⟩ = some (Value.int .i64 r'.s1) := by simp [go_sem]
                have g3 : (w1.alloc (.cells #[Value.string r'.k, Value.int .i64 r'.nt, Value.int .i64 r'.s1, Value.slice r'.A1 r'.n1 r'.c1, Value.int .i64 r'.s2, Value.slice r'.A2 r'.n2 r'.c2, Value.int .i64 r'.s3, Value.slice r'.A3 r'.n3 r'.c3, Value.int .i64 r'.s4, Value.slice r'.A4 r'.n4 r'.c4] 60)).cell? ⟨w1.heap.size, 3, none⟩ = some (Value.slice r'.A1 r'.n1 r'.c1) := by simp [go_sem]
                have g4 : (w1.alloc (.cells #[Value.string r'.k, Value.int .i64 r'.nt, Value.int .i64 r'.s1, Value.slice r'.A1 r'.n1 r'.c1, Value.int .i64 r'.s2, Value.slice r'.A2 r'.n2 r'.c2, Value.int .i64 r'.s3, Value.slice r'.A3 r'.n3 r'.c3, Value.int .i64 r'.s4, Value.slice r'.A4 r'.n4 r'.c4] 60)).cell? ⟨w1.heap.size, 4, none⟩ = some (Value.int .i64 r'.s2) := by simp [go_sem]
                have g5 : (w1.alloc (.cells #[Value.string r'.k, Value.int .i64 r'.nt, Value.int .i64 r'.s1, Value.slice r'.A1 r'.n1 r'.c1, Value.int .i64 r'.s2, Value.slice r'.A2 r'.n2 r'.c2, Value.int .i64 r'.s3, Value.slice r'.A3 r'.n3 r'.c3, Value.int .i64 r'.s4, Value.slice r'.A4 r'.n4 r'.c4] 60)).cell? ⟨w1.heap.size, 5, none⟩ = some (Value.slice r'.A2 r'.n2 r'.c2) := by simp [go_sem]
                have g6 : (w1.alloc (.cells #[Value.string r'.k, Value.int .i64 r'.nt, Value.int .i64 r'.s1, Value.slice r'.A1 r'.n1 r'.c1, Value.int .i64 r'.s2, Value.slice r'.A2 r'.n2 r'.c2, Value.int .i64 r'.s3, Value.slice r'.A3 r'.n3 r'.c3, Value.int .i64 r'.s4, Value.slice r'.A4 r'.n4 r'.c4] 60)).cell? ⟨w1.heap.size, 6, none⟩ = some (Value.int .i64 r'.s3) := by simp [go_sem]
                have g7 : (w1.alloc (.cells #[Value.string r'.k, Value.int .i64 r'.nt, Value.int .i64 r'.s1, Value.slice r'.A1 r'.n1 r'.c1, Value.int .i64 r'.s2, Value.slice r'.A2 r'.n2 r'.c2, Value.int .i64 r'.s3, Value.slice r'.A3 r'.n3 r'.c3, Value.int .i64 r'.s4, Value.slice r'.A4 r'.n4 r'.c4] 60)).cell? ⟨w1.heap.size, 7, none⟩ = some (Value.slice r'.A3 r'.n3 r'.c3) := by simp [go_sem]
                have g8 : (w1.alloc (.cells #[Value.string r'.k, Value.int .i64 r'.nt, Value.int .i64 r'.s1, Value.slice r'.A1 r'.n1 r'.c1, Value.int .i64 r'.s2, Value.slice r'.A2 r'.n2 r'.c2, Value.int .i64 r'.s3, Value.slice r'.A3 r'.n3 r'.c3, Value.int .i64 r'.s4, Value.slice r'.A4 r'.n4 r'.c4] 60)).cell? ⟨w1.heap.size, 8, none⟩ = some (Value.int .i64 r'.s4) := by simp [go_sem]
                have g9 : (w1.alloc (.cells #[Value.string r'.k, Value.int .i64 r'.nt, Value.int .i64 r'.s1, Value.slice r'.A1 r'.n1 r'.c1, Value.int .i64 r'.s2, Value.slice r'.A2 r'.n2 r'.c2, Value.int .i64 r'.s3, Value.slice r'.A3 r'.n3 r'.c3, Value.int .i64 r'.s4, Value.slice r'.A4 r'.n4 r'.c4] 60)).cell? ⟨w1.heap.size, 9, none⟩ = some (Value.slice r'.A4 r'.n4 r'.c4) := by simp [go_sem]
                have hz2 : w1.heap.size < (w1.alloc (.cells #[Value.string r'.k, Value.int .i64 r'.nt, Value.int .i64 r'.s1, Value.slice r'.A1 r'.n1 r'.c1, Value.int .i64 r'.s2, Value.slice r'.A2 r'.n2 r'.c2, Value.int .i64 r'.s3, Value.slice r'.A3 r'.n3 r'.c3, Value.int .i64 r'.s4, Value.slice r'.A4 r'.n4 r'.c4] 60)).heap.size := by simp
                generalize w1.alloc (.cells #[Value.string r'.k, Value.int .i64 r'.nt, Value.int .i64 r'.s1, Value.slice r'.A1 r'.n1 r'.c1, Value.int .i64 r'.s2, Value.slice r'.A2 r'.n2 r'.c2, Value.int .i64 r'.s3, Value.slice r'.A3 r'.n3 r'.c3, Value.int .i64 r'.s4, Value.slice r'.A4 r'.n4 r'.c4] 60) = w2 at *
                have f0 : w2.cell? ⟨wr.heap.size, 0, none⟩ = some (Value.string r.k) := (hB2.cell (p := ⟨wr.heap.size, 0, none⟩) hz1).trans e0
                have f1 : w2.cell? ⟨wr.heap.size, 1, none⟩ = some (Value.int .i64 r.nt) := (hB2.cell (p := ⟨wr.heap.size, 1, none⟩) hz1).trans e1
                have f2 : w2.cell? ⟨wr.heap.size, 2, none⟩ = some (Value.int .i64 r.s1) := (hB2.cell (p := ⟨wr.heap.size, 2, none⟩) hz1).trans e2
                have f3 : w2.cell? ⟨wr.heap.size, 3, none⟩ = some (Value.slice r.A1 r.n1 r.c1) := (hB2.cell (p := ⟨wr.heap.size, 3, none⟩) hz1).trans e3
                have f4 : w2.cell? ⟨wr.heap.size, 4, none⟩ = some (Value.int .i64 r.s2) := (hB2.cell (p := ⟨wr.heap.size, 4, none⟩) hz1).trans e4
                have f5 : w2.cell? ⟨wr.heap.size, 5, none⟩ = some (Value.slice r.A2 r.n2 r.c2) := (hB2.cell (p := ⟨wr.heap.size, 5, none⟩) hz1).trans e5
                have f6 : w2.cell? ⟨wr.heap.size, 6, none⟩ = some (Value.int .i64 r.s3) := (hB2.cell (p := ⟨wr.heap.size, 6, none⟩) hz1).trans e6
                have f7 : w2.cell? ⟨wr.heap.size, 7, none⟩ = some (Value.slice r.A3 r.n3 r.c3) := (hB2.cell (p := ⟨wr.heap.size, 7, none⟩) hz1).trans e7
                have f8 : w2.cell? ⟨wr.heap.size, 8, none⟩ = some (Value.int .i64 r.s4) := (hB2.cell (p := ⟨wr.heap.size, 8, none⟩) hz1).trans e8
                have f9 : w2.cell? ⟨wr.heap.size, 9, none⟩ = some (Value.slice r.A4 r.n4 r.c4) := (hB2.cell (p := ⟨wr.heap.size, 9, none⟩) hz1).trans e9
                have HM2 := Lib.hid (HM1.out.below hB2 HM1.out.lt)
                have HBB2 := Lib.hid (HBB.out.trans (hB2.mono HBB.out.size))
                have HWR2 := Lib.hid (HWR.out.trans (hB2.mono HWR.out.size))
                clear hB2 HM1 HBB HWR e0 e1 e2 e3 e4 e5 e6 e7 e8 e9
                go_wp2_with fail
                refine (HSP.out _ (HSH'.out.below HBB2.out) (HSH.out.below HWR2.out)).mono ?_
                rintro e w3 ⟨rfl, hb3⟩
                have h0c : w3.cell? ⟨wr.heap.size, 0, none⟩ = some (Value.string r.k) := (hb3.cell (p := ⟨wr.heap.size, 0, none⟩) (show wr.heap.size < _ by omega)).trans f0
                have h1c : w3.cell? ⟨wr.heap.size, 1, none⟩ = some (Value.int .i64 r.nt) := (hb3.cell (p := ⟨wr.heap.size, 1, none⟩) (show wr.heap.size < _ by omega)).trans f1
                have h2c : w3.cell? ⟨wr.heap.size, 2, none⟩ = some (Value.int .i64 r.s1) := (hb3.cell (p := ⟨wr.heap.size, 2, none⟩) (show wr.heap.size < _ by omega)).trans f2
                have h3c : w3.cell? ⟨wr.heap.size, 3, none⟩ = some (Value.slice r.A1 r.n1 r.c1) := (hb3.cell (p := ⟨wr.heap.size, 3, none⟩) (show wr.heap.size < _ by omega)).trans f3
                have h4c : w3.cell? ⟨wr.heap.size, 4, none⟩ = some (Value.int .i64 r.s2) := (hb3.cell (p := ⟨wr.heap.size, 4, none⟩) (show wr.heap.size < _ by omega)).trans f4
                have h5c : w3.cell? ⟨wr.heap.size, 5, none⟩ = some (Value.slice r.A2 r.n2 r.c2) := (hb3.cell (p := ⟨wr.heap.size, 5, none⟩) (show wr.heap.size < _ by omega)).trans f5
                have h6c : w3.cell? ⟨wr.heap.size, 6, none⟩ = some (Value.int .i64 r.s3) := (hb3.cell (p := ⟨wr.heap.size, 6, none⟩) (show wr.heap.size < _ by omega)).trans f6
                have h7c : w3.cell? ⟨wr.heap.size, 7, none⟩ = some (Value.slice r.A3 r.n3 r.c3) := (hb3.cell (p := ⟨wr.heap.size, 7, none⟩) (show wr.heap.size < _ by omega)).trans f7
                have h8c : w3.cell? ⟨wr.heap.size, 8, none⟩ = some (Value.int .i64 r.s4) := (hb3.cell (p := ⟨wr.heap.size, 8, none⟩) (show wr.heap.size < _ by omega)).trans f8
                have h9c : w3.cell? ⟨wr.heap.size, 9, none⟩ = some (Value.slice r.A4 r.n4 r.c4) := (hb3.cell (p := ⟨wr.heap.size, 9, none⟩) (show wr.heap.size < _ by omega)).trans f9
                have HM3 := Lib.hid (HM2.out.below hb3 HM2.out.lt)
                have HBB3 := Lib.hid (HBB2.out.trans (hb3.mono HBB2.out.size))
                clear hb3 HM2 f0 f1 f2 f3 f4 f5 f6 f7 f8 f9
                go_wp2_with fail
                go_still_tail 7, (by kernel_rfl)
                change wpList _ _ _ _ _ w3.drew
                refine wpList_put_held _ rfl (.tmp 50) (.tmp 52) (.tmp 55) _ rfl 60 Tryz.underlying62 w.heap.size k (lastR rs k) rfl HM3.out.drew (by unfold maxLen; omega) r.k (aggR r) rfl rfl (by unfold maxLen; omega) ?_
                intro w9 hm9 hg9
                have hm9' : MapIs w9 w.heap.size (k + 1) (lastR rs (k + 1)) := by rw [lastR_succ HR.out]; exact hm9
                have HM9 := Lib.hid hm9'
                have HB9 := Lib.hid (show Below w.heap.size w w9 from (HBB3.out.drew).grown hg9 (by have := HBB3.out.size; simpa using this) (fun j hj => by injection hj with hj; omega))
                have HNT := Lib.hid (show noteOf (l.take (k + 1)) = r.nt by rw [note_take HX.out]; exact HSH.out.2.1)
                clear hm9 hg9 hm9'
                go_wp2_with fail
                go_roundw
                case rel => exact ⟨k + 1, by omega, by rw [HNT.out], by go_num, HM9.out, HN.out, HB9.out⟩
                case measure => simp [intOf]; omega
    · obtain rfl : k = l.length := by omega
      have HN := Lib.hid (right_yes hl2 HS.out)
      go_wp2
      go_ret
      exact ⟨ret_bool HN.out.symm, HB.out⟩
end Go.Proofs.YtaojnjealccjiaaGreatDoor
