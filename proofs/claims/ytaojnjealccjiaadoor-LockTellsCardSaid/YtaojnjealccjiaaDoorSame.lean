/- kitbagref48.Same at two equal lists; the law's own turned. -/
import Derived.Test.YtaojnjealccjiaaDoorJoins
import Derived.Test.YtaojnjealccjiaaDoorFour
namespace Go.Proofs.YtaojnjealccjiaaDoor
open Go Go.RowKit Kb Go.Lib
set_option linter.unusedVariables false

set_option maxHeartbeats 2000000 in
theorem ref_same (j : List Akt) (A A' : Option Addr) (c c' : Nat) (w : World) (hl : Lst aktV 4 w A j) (hl' : Lst aktV 4 w A' j) (hbig : j.length ≤ maxLen) :
    Calls Tryd.prog 11 #[.slice A j.length c, .slice A' j.length c'] w fun e w' => e = .returned (.bool true) ∧ Below w.heap.size w w' := by
  unfold maxLen at hbig
  have HL := Lib.hid hl
  have HL' := Lib.hid hl'
  clear hl hl'
  generalize hn : j.length = n at *
  have HN := Lib.hid hn
  clear hn
  go_enter Tryd.func11, Tryd.ntmps11
  go_wp2_with fail
  go_loopw [5] (fun s5 wr => ∃ k : Nat, k ≤ n ∧ s5 = .int .i64 k ∧ Hid (Below w.heap.size w wr)) (fun s5 _ => n - (intOf s5).toNat)
  case atStart => exact ⟨0, Nat.zero_le _, rfl, Below.refl _ _⟩
  case round =>
    obtain ⟨k, hk, rfl, HB⟩ := hrel
    by_cases hlt : k < n
    · have hkx : k < j.length := by rw [HN.out]; exact hlt
      obtain ⟨b, off, rfl, hbl, h4⟩ := at4_of HL.out hkx
      obtain ⟨c0, c1, c2, c3⟩ := h4.below HB.out hbl
      obtain ⟨b', off', rfl, hbl', h4'⟩ := at4_of HL'.out hkx
      obtain ⟨d0, d1, d2, d3⟩ := h4'.below HB.out hbl'
      generalize j[k] = x at *
      clear h4 h4'
      have hneq : ∀ W, (binOp .neq 30 (.agg #[.int .i64 x.kind, .int .i64 x.person, .int .i64 x.day, .string x.obj]) (.agg #[.int .i64 x.kind, .int .i64 x.person, .int .i64 x.day, .string x.obj])).run Tryd.prog W = .ok (.bool false) W := fun W => by rw [neq_act, decide_eq_true rfl]; rfl
      have i4 : (k : Int) < (n : Int) := by omega
      go_wp2_with fail
      go_quiet (fail)
      go_wp2_with fail
      go_roundw
      case rel => exact ⟨k + 1, by omega, by go_num, below_drewN HB.out _⟩
      case measure => simp [intOf]; omega
    · go_wp2_with fail
      go_ret
      exact ⟨rfl, HB.out⟩

/-- the list turned, with one act once more -/
def turnL (a : List Akt) (k : Nat) : List Akt := a.reverse ++ (a[k]?).toList

def TurnPost (w : World) (T : List Akt) (e : Ending) (w' : World) : Prop := ∃ A' c', e = .returned (.slice A' T.length c') ∧ Lst aktV 4 w' A' T ∧ Below w.heap.size w w'

set_option maxHeartbeats 4000000 in
set_option maxRecDepth 100000 in
theorem law_turned (a : List Akt) (A : Option Addr) (c : Nat) (again : Int) (w : World) (hl : Lst aktV 4 w A a) (hbig : a.length ≤ 40) (h0 : 0 ≤ again) (h1 : again ≤ 255) :
    Calls Tryd.prog 25 #[.slice A a.length c, .int .i64 again] w (TurnPost w (turnL a (again.toNat % a.length))) := by
  obtain ⟨i0, hi0, hz0, hz1, hz2⟩ := info_parts Tryd.infoAct
  have fin : ∀ (v : Value) (W : World) (m : Nat) (l : List Akt), m = l.length → W.ownsRow w.heap.size 30 4 v m (l.flatMap aktV) → ∃ A' c', v = .slice A' l.length c' ∧ Lst aktV 4 W A' l := fun v W m l hm how => by
    rw [hm] at how
    rcases how.2 with ⟨e1, e2⟩ | ⟨g, cap', cur, e1, _⟩
    · rw [e1, e2]
      exact ⟨none, 0, rfl, by rw [List.eq_nil_of_length_eq_zero e2]; exact Lst.nil⟩
    · rw [e1] at how ⊢
      exact ⟨_, _, rfl, lst_of_owns (fun _ => rfl) how⟩
  have HF := Lib.hid fin
  have HL := Lib.hid hl
  clear fin hl
  generalize hT : turnL a (again.toNat % a.length) = T
  have HT := Lib.hid hT
  clear hT
  generalize hn : a.length = n at *
  have HN := Lib.hid hn
  clear hn
  have ownit : w.heap.size ≤ w.heap.size := Nat.le_refl _
  clear ownit
  go_enter Tryd.func25, Tryd.ntmps25
  go_wp2_with fail
  go_loopw [5, 6] (fun s5 s6 wr => ∃ (k m : Nat) (v5 : Value), k ≤ n ∧ m ≤ n ∧ v5 = s5 ∧ s6 = .int .i64 ((k : Int) - 1) ∧ Hid (m = n - k) ∧ Hid (wr.ownsRow w.heap.size 30 4 v5 m ((a.drop k).reverse.flatMap aktV)) ∧ Hid (Below w.heap.size w wr)) (fun _ s6 _ => (intOf s6 + 1).toNat)
  case atStart => exact ⟨n, 0, _, Nat.le_refl _, Nat.zero_le _, rfl, rfl, by show _ = _; omega, Lib.hid (by rw [show a.drop n = [] from List.drop_eq_nil_of_le (by rw [HN.out]; exact Nat.le_refl _)]; exact World.ownsRow_made w #[] 0 (Nat.le_refl _) (Nat.zero_le _) rfl), (Below.refl _ w).alloc (Nat.le_refl _) _⟩
  case round =>
    obtain ⟨k, m, v5, hk, hm, rfl, rfl, HM, HOw, HB⟩ := hrel
    have hlt5 : ∀ j, v5.ownBlock = some j → w.heap.size ≤ j ∧ j < wr.heap.size := fun j hj => HOw.out.lt j hj
    have HLt := Lib.hid hlt5
    clear hlt5
    by_cases hk0 : 0 < k
    · have hkx : k - 1 < a.length := by rw [HN.out]; omega
      obtain ⟨b, off, rfl, hbl, h4⟩ := at4_of HL.out hkx
      obtain ⟨c0, c1, c2, c3⟩ := h4.below HB.out hbl
      have hd : (a.drop (k - 1)).reverse.flatMap aktV = (a.drop k).reverse.flatMap aktV ++ aktV (a[k - 1]'hkx) := by
        rw [List.drop_eq_getElem_cons hkx, show k - 1 + 1 = k by omega]
        simp
      generalize a[k - 1] = x at c0 c1 c2 c3 hd
      clear h4
      have HD := Lib.hid hd
      clear hd
      have j1 : (0 : Int) ≤ (k : Int) - 1 := by omega
      have j2 : (k : Int) - 1 < (n : Int) := by omega
      have j3 : ((k : Int) - 1).toNat = k - 1 := by omega
      have hBs : w.heap.size ≤ wr.heap.size := HB.out.size
      go_wp2_with (at_builtin; refine wpList_append_any _ rfl (.tmp 15) (.tmp 20) _ rfl w.heap.size 30 i0 _ 4 40 Tryd.underlying22 hi0 hz0 hz1 hz2 rfl (by omega) v5 m _ rfl (HOw.out.alloc _) (wr.heap.size + 1) (some ⟨wr.heap.size, 0, none⟩) 1 1 (aktV x) rfl (reads_one ⟨by simp, by simp, by simp, by simp⟩ (by omega)) (one_akt _) (by simp only [maxLen]; omega) (by omega) (by simp; omega) ?_; intro v2 w2 hown2 hg2 hat2; have hbw2 : Below w.heap.size w w2 := (HB.out.alloc hBs _).grown hg2 (by simp; omega) (fun j hj => (HLt.out j hj).1); have HO2 := Lib.hid hown2; have HB2 := Lib.hid hbw2; clear hown2 hg2 hat2 hbw2)
      go_roundw
      case rel => exact ⟨k - 1, m + 1, _, by omega, by have := HM.out; omega, rfl, by congr 1; omega, by have := HM.out; show _ = _; omega, Lib.hid (by rw [HD.out]; exact HO2.out), HB2.out⟩
      case measure => simp [intOf]; omega
    · obtain rfl : k = 0 := by omega
      have j0 : ¬ (0 : Int) ≤ ((0 : Nat) : Int) - 1 := by decide
      by_cases hn0 : 0 < n
      · have hnx : again.toNat % n < a.length := by rw [HN.out]; exact Nat.mod_lt _ hn0
        obtain ⟨b, off, rfl, hbl, h4⟩ := at4_of HL.out hnx
        obtain ⟨c0, c1, c2, c3⟩ := h4.below HB.out hbl
        have ht : T = a.reverse ++ [a[again.toNat % n]'hnx] := by
          rw [← HT.out]; unfold turnL; rw [List.getElem?_eq_getElem hnx]; rfl
        have HT2 := Lib.hid ht
        clear ht
        obtain ⟨ag, rfl⟩ := Int.eq_ofNat_of_zero_le h0
        simp only [Int.toNat_natCast] at c0 c1 c2 c3 HT2
        generalize a[ag % n] = x at c0 c1 c2 c3 HT2
        clear h4
        have j4 : (0 : Int) < (n : Int) := by omega
        have j5 : (0 : Int) ≤ (ag : Int) % (n : Int) := Int.emod_nonneg _ (by omega)
        have j6 : (ag : Int) % (n : Int) < (n : Int) := Int.emod_lt_of_pos _ j4
        have j7 : ((ag : Int) % (n : Int)).toNat = ag % n := by omega
        have hBs : w.heap.size ≤ wr.heap.size := HB.out.size
        go_wp2_with (at_builtin; refine wpList_append_any _ rfl (.tmp 25) (.tmp 33) _ rfl w.heap.size 30 i0 _ 4 40 Tryd.underlying22 hi0 hz0 hz1 hz2 rfl (by omega) v5 m _ rfl (HOw.out.alloc _) (wr.heap.size + 1) (some ⟨wr.heap.size, 0, none⟩) 1 1 (aktV x) rfl (reads_one ⟨by simp, by simp, by simp, by simp⟩ (by omega)) (one_akt _) (by simp only [maxLen]; omega) (by omega) (by simp; omega) ?_; intro v2 w2 hown2 hg2 hat2; have hbw2 : Below w.heap.size w w2 := (HB.out.alloc hBs _).grown hg2 (by simp; omega) (fun j hj => (HLt.out j hj).1); have HO2 := Lib.hid hown2; have HB2 := Lib.hid hbw2; clear hown2 hg2 hat2 hbw2)
        go_ret
        obtain ⟨A2, c2, hv, hl2⟩ := HF.out v2 w2 (m + 1) (a.reverse ++ [x]) (by have := HM.out; have := HN.out; simp; omega) (by have := HO2.out; simpa using this)
        rw [HT2.out]
        exact ⟨A2, c2, by show Ending.returned v2 = _; rw [hv], hl2, HB2.out⟩
      · have hn1 : n = 0 := by omega
        have ha : a = [] := List.eq_nil_of_length_eq_zero (by rw [HN.out]; exact hn1)
        have HA := Lib.hid ha
        have HN1 := Lib.hid hn1
        clear ha hn1
        have j4 : ¬ (0 : Int) < (n : Int) := by omega
        go_wp2_with fail
        go_ret
        have ht : T = [] := by rw [← HT.out, HA.out]; rfl
        rw [ht]
        obtain ⟨A2, c2, hv, hl2⟩ := HF.out v5 wr m [] (by have := HM.out; have := HN1.out; show m = 0; omega) (by have := HOw.out; rw [HA.out] at this; exact this)
        exact ⟨A2, c2, by show Ending.returned v5 = _; rw [hv], hl2, HB.out⟩

end Go.Proofs.YtaojnjealccjiaaDoor
