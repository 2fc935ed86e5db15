/- The contracts of big.Same, frac.Same, frac.times, frac.slim. -/
import Derived.Test.YtaojnjealccjiaaGreatDoorFrac
namespace Go.Proofs.YtaojnjealccjiaaGreatDoor
open Go Go.RowKit Bg Go.Proofs
set_option linter.unusedVariables false

theorem equal_n {n n' : Nat} (a b : List Int) (A A' : Option Addr) (c c' : Nat) (w : World) (hn : a.length = n) (hn' : b.length = n') (ha : Arr w A (a.map iv)) (hb : Arr w A' (b.map iv)) (hl : n ≤ 1000000) (hl' : n' ≤ 1000000) :
    Calls Tryz.prog 116 #[.slice A n c, .slice A' n' c'] w (SaysB (a == b) w) := by
  subst hn hn'
  refine (int_equal a b A A' c c' w ha hb hl hl').mono ?_
  rintro e w' ⟨h1, n, h2⟩
  subst h2
  exact ⟨h1, below_drewN (Below.refl _ _) n⟩
set_option maxRecDepth 100000 in
set_option maxHeartbeats 2000000 in
theorem big_same {M M' n n' : Nat} {s s' : Int} {A A' : Option Addr} {a b : BigV} (c c' : Nat) (w : World) (h : IsBig M w s A n a) (h' : IsBig M' w s' A' n' b) (hM : M + M' ≤ 1000000) :
    Calls Tryz.prog 79 #[.agg #[.int .i64 s, .slice A n c], .agg #[.int .i64 s', .slice A' n' c']] w (SaysB (sameB a b) w) := by
  have hle := h.le
  have hle' := h'.le
  have HE := Lib.hid (fun W (k : IsBig M W s A n a) (k' : IsBig M' W s' A' n' b) => equal_n (n := n) (n' := n') a.dg b.dg A A' c c' W k.2.1 k'.2.1 k.2.2.2 k'.2.2.2 (by omega) (by omega))
  have H := Lib.hid h
  have H' := Lib.hid h'
  cases hs : (s == s') with
  | true =>
    have HN := Lib.hid (show sameB a b = (a.dg == b.dg) by unfold sameB; rw [h.1, h'.1, hs]; rfl)
    clear h h'
    go_enter Tryz.func79, Tryz.ntmps79
    go_wp2_with fail
    refine (HE.out _ ((H.out.alloc _).alloc _) ((H'.out.alloc _).alloc _)).mono ?_
    rintro e w1 ⟨rfl, hb1⟩
    have hbw : Below w.heap.size w w1 := (((Below.refl _ w).alloc (Nat.le_refl _) _).alloc (by simp <;> omega) _).trans (hb1.mono (by simp <;> omega))
    clear hb1
    go_wp2
    go_ret
    exact ⟨ret_bool HN.out.symm, hbw⟩
  | false =>
    have HN := Lib.hid (show sameB a b = false by unfold sameB; rw [h.1, h'.1, hs]; rfl)
    clear h h'
    go_enter Tryz.func79, Tryz.ntmps79
    go_wp2
    go_ret
    exact ⟨ret_bool HN.out.symm, (((Below.refl _ w).alloc (Nat.le_refl _) _).alloc (by simp <;> omega) _)⟩
set_option maxRecDepth 100000 in
set_option maxHeartbeats 2000000 in
theorem frac_same {M n nq n' nq' : Nat} {s sq s' sq' : Int} {A Aq A' Aq' : Option Addr} {a b : FracV} (c cq c' cq' : Nat) (w : World) (h : IsFrac M w s A n sq Aq nq a) (h' : IsFrac M w s' A' n' sq' Aq' nq' b) (hM : M + M ≤ 400000) :
    Calls Tryz.prog 53 #[.agg #[Value.int .i64 s, Value.slice A n c, Value.int .i64 sq, Value.slice Aq nq cq], .agg #[Value.int .i64 s', Value.slice A' n' c', Value.int .i64 sq', Value.slice Aq' nq' cq']] w (SaysB (sameF a b) w) := by
  have h1 := fun W (k : IsFrac M W s A n sq Aq nq a) (k' : IsFrac M W s' A' n' sq' Aq' nq' b) => big_same c c' W k.1 k'.1 (by omega)
  have h2 := fun W (k : IsFrac M W s A n sq Aq nq a) (k' : IsFrac M W s' A' n' sq' Aq' nq' b) => big_same cq cq' W k.2 k'.2 (by omega)
  have H := Lib.hid h
  have H' := Lib.hid h'
  cases hs : sameB a.p b.p with
  | true =>
    have HN := Lib.hid (show sameF a b = sameB a.q b.q by unfold sameF; rw [hs]; rfl)
    rw [hs] at h1
    have H1 := Lib.hid h1
    have H2 := Lib.hid h2
    generalize sameB a.q b.q = r at *
    clear h h' h1 h2 hs
    go_enter Tryz.func53, Tryz.ntmps53
    go_wp2_with fail
    refine (H1.out _ ((H.out.alloc _).alloc _) ((H'.out.alloc _).alloc _)).mono ?_
    rintro e w1 ⟨rfl, hb1⟩
    have hbw : Below w.heap.size w w1 := (((Below.refl _ w).alloc (Nat.le_refl _) _).alloc (by simp <;> omega) _).trans (hb1.mono (by simp <;> omega))
    have e00 : w1.cell? ⟨w.heap.size, 0, none⟩ = some (Value.int .i64 s) := (hb1.cell (p := ⟨w.heap.size, 0, none⟩) (by simp <;> omega)).trans (by simp [go_sem])
    have e01 : w1.cell? ⟨w.heap.size, 1, none⟩ = some (Value.slice A n c) := (hb1.cell (p := ⟨w.heap.size, 1, none⟩) (by simp <;> omega)).trans (by simp [go_sem])
    have e02 : w1.cell? ⟨w.heap.size, 2, none⟩ = some (Value.int .i64 sq) := (hb1.cell (p := ⟨w.heap.size, 2, none⟩) (by simp <;> omega)).trans (by simp [go_sem])
    have e03 : w1.cell? ⟨w.heap.size, 3, none⟩ = some (Value.slice Aq nq cq) := (hb1.cell (p := ⟨w.heap.size, 3, none⟩) (by simp <;> omega)).trans (by simp [go_sem])
    have e10 : w1.cell? ⟨w.heap.size + 1, 0, none⟩ = some (Value.int .i64 s') := (hb1.cell (p := ⟨w.heap.size + 1, 0, none⟩) (by simp <;> omega)).trans (by simp [go_sem])
    have e11 : w1.cell? ⟨w.heap.size + 1, 1, none⟩ = some (Value.slice A' n' c') := (hb1.cell (p := ⟨w.heap.size + 1, 1, none⟩) (by simp <;> omega)).trans (by simp [go_sem])
    have e12 : w1.cell? ⟨w.heap.size + 1, 2, none⟩ = some (Value.int .i64 sq') := (hb1.cell (p := ⟨w.heap.size + 1, 2, none⟩) (by simp <;> omega)).trans (by simp [go_sem])
    have e13 : w1.cell? ⟨w.heap.size + 1, 3, none⟩ = some (Value.slice Aq' nq' cq') := (hb1.cell (p := ⟨w.heap.size + 1, 3, none⟩) (by simp <;> omega)).trans (by simp [go_sem])
    have HB := Lib.hid hbw
    clear hb1 hbw
    go_wp2_with fail
    refine (H2.out _ (H.out.below HB.out) (H'.out.below HB.out)).mono ?_
    rintro e w2 ⟨rfl, hb2⟩
    have hbw : Below w.heap.size w w2 := HB.out.trans (hb2.mono HB.out.size)
    clear hb2
    go_wp2
    go_ret
    exact ⟨ret_bool HN.out.symm, hbw⟩
  | false =>
    have HN := Lib.hid (show sameF a b = false by unfold sameF; rw [hs]; rfl)
    rw [hs] at h1
    have H1 := Lib.hid h1
    clear h h' h1 h2 hs
    go_enter Tryz.func53, Tryz.ntmps53
    go_wp2_with fail
    refine (H1.out _ ((H.out.alloc _).alloc _) ((H'.out.alloc _).alloc _)).mono ?_
    rintro e w1 ⟨rfl, hb1⟩
    have hbw : Below w.heap.size w w1 := (((Below.refl _ w).alloc (Nat.le_refl _) _).alloc (by simp <;> omega) _).trans (hb1.mono (by simp <;> omega))
    clear hb1
    go_wp2
    go_ret
    exact ⟨ret_bool HN.out.symm, hbw⟩
set_option maxRecDepth 100000 in
set_option maxHeartbeats 2000000 in
theorem frac_times {M M' n n' : Nat} {s s' : Int} {A A' : Option Addr} {a b : BigV} (c c' : Nat) (w : World) (h : IsBig M w s A n a) (h' : IsBig M' w s' A' n' b) (hra : rightB a = true) (hrb : rightB b = true) (hM : M + M' ≤ 1000000) :
    Calls Tryz.prog 115 #[.agg #[Value.int .i64 s, Value.slice A n c], .agg #[Value.int .i64 s', Value.slice A' n' c']] w (GivesB (M + M') (mulB a b) w) := by
  have HM := Lib.hid (fun W (k : IsBig M W s A n a) (k' : IsBig M' W s' A' n' b) => big_mul_ c c' W k k' hra hrb hM)
  have H := Lib.hid h
  have H' := Lib.hid h'
  clear h h' hra hrb
  go_enter Tryz.func115, Tryz.ntmps115
  go_wp2_with fail
  refine (HM.out _ (((H.out.alloc _).alloc _).alloc _) (((H'.out.alloc _).alloc _).alloc _)).mono ?_
  rintro e w1 ⟨s3, A3, n3, c3, rfl, hA3, hf3, hb1⟩
  have hbw : Below w.heap.size w w1 := ((((Below.refl _ w).alloc (Nat.le_refl _) _).alloc (by simp <;> omega) _).alloc (by simp <;> omega) _).trans (hb1.mono (by simp <;> omega))
  have hz1 : w.heap.size + 1 + 1 < w1.heap.size := by have := hb1.size; simp at this; omega
  have e20 : w1.cell? ⟨w.heap.size + 1 + 1, 0, none⟩ = some (Value.int .i64 0) := (hb1.cell (p := ⟨w.heap.size + 1 + 1, 0, none⟩) (by simp <;> omega)).trans (by simp [go_sem])
  have e20f : w1.frozen? ⟨w.heap.size + 1 + 1, 0, none⟩ = false := (hb1.frozen (p := ⟨w.heap.size + 1 + 1, 0, none⟩) (by simp <;> omega)).trans (by simp [go_sem])
  have e21 : w1.cell? ⟨w.heap.size + 1 + 1, 1, none⟩ = some (Value.slice none 0 0) := (hb1.cell (p := ⟨w.heap.size + 1 + 1, 1, none⟩) (by simp <;> omega)).trans (by simp [go_sem])
  have e21f : w1.frozen? ⟨w.heap.size + 1 + 1, 1, none⟩ = false := (hb1.frozen (p := ⟨w.heap.size + 1 + 1, 1, none⟩) (by simp <;> omega)).trans (by simp [go_sem])
  have HB := Lib.hid hbw
  have HA3 := Lib.hid hA3
  have hf : Fresh (w.heap.size + 1 + 1 + 1) A3 := hf3.low (by simp)
  have HF3 := Lib.hid hf
  clear hb1 hbw hA3 hf3 hf
  have hb5 := (HB.out.setCell (p := ⟨w.heap.size + 1 + 1, 0, none⟩) (show w.heap.size ≤ w.heap.size + 1 + 1 by omega) (.int .i64 s3)).setCell (p := ⟨w.heap.size + 1 + 1, 1, none⟩) (show w.heap.size ≤ w.heap.size + 1 + 1 by omega) (.slice A3 n3 c3)
  have HB5 := Lib.hid (hb5.alloc hb5.size (.cells #[.int .i64 s3, .slice A3 n3 c3] 54))
  clear hb5
  go_wp2
  exact bodyPost_ret (v := .agg #[.int .i64 s3, .slice A3 n3 c3]) (by simp [results, Tryz.results115, go_sem, e20, e21, hz1]) rfl ⟨s3, A3, n3, c3, rfl, ((HA3.out.set_far HF3.out (by omega) _).set_far HF3.out (by omega) _).alloc _, HF3.out.low (by omega), HB5.out⟩
set_option maxRecDepth 100000 in
set_option maxHeartbeats 2000000 in
theorem frac_slim {M n : Nat} {s : Int} {A : Option Addr} {a : BigV} (c : Nat) (w : World) (h : IsBig M w s A n a) (hM : M ≤ 1000000) :
    Calls Tryz.prog 118 #[.agg #[Value.int .i64 s, Value.slice A n c]] w (GivesB M (negB (negB a)) w) := by
  have HM := Lib.hid (fun W (k : IsBig M W s A n a) => big_neg c W k hM)
  have H := Lib.hid h
  clear h
  go_enter Tryz.func118, Tryz.ntmps118
  go_wp2_with fail
  refine (HM.out _ ((H.out.alloc _).alloc _)).mono ?_
  rintro e w1 ⟨s3, A3, n3, c3, rfl, hA3, hf3, hb1⟩
  have hbw : Below w.heap.size w w1 := (((Below.refl _ w).alloc (Nat.le_refl _) _).alloc (by simp <;> omega) _).trans (hb1.mono (by simp <;> omega))
  have hz1 : w.heap.size + 1 < w1.heap.size := by have := hb1.size; simp at this; omega
  have e10 : w1.cell? ⟨w.heap.size + 1, 0, none⟩ = some (Value.int .i64 0) := (hb1.cell (p := ⟨w.heap.size + 1, 0, none⟩) (by simp <;> omega)).trans (by simp [go_sem])
  have e10f : w1.frozen? ⟨w.heap.size + 1, 0, none⟩ = false := (hb1.frozen (p := ⟨w.heap.size + 1, 0, none⟩) (by simp <;> omega)).trans (by simp [go_sem])
  have e11 : w1.cell? ⟨w.heap.size + 1, 1, none⟩ = some (Value.slice none 0 0) := (hb1.cell (p := ⟨w.heap.size + 1, 1, none⟩) (by simp <;> omega)).trans (by simp [go_sem])
  have e11f : w1.frozen? ⟨w.heap.size + 1, 1, none⟩ = false := (hb1.frozen (p := ⟨w.heap.size + 1, 1, none⟩) (by simp <;> omega)).trans (by simp [go_sem])
  have HB := Lib.hid hbw
  have HN2 := Lib.hid (big_neg c3 w1 hA3 hM)
  clear hb1 hbw hf3
  go_wp2_with fail
  refine HN2.out.mono ?_
  rintro e w2 ⟨s4, A4, n4, c4, rfl, hA4, hf4, hb2⟩
  have e10b : w2.cell? ⟨w.heap.size + 1, 0, none⟩ = some (Value.int .i64 0) := (hb2.cell (p := ⟨w.heap.size + 1, 0, none⟩) (show w.heap.size + 1 < _ by omega)).trans e10
  have e10bf : w2.frozen? ⟨w.heap.size + 1, 0, none⟩ = false := (hb2.frozen (p := ⟨w.heap.size + 1, 0, none⟩) (show w.heap.size + 1 < _ by omega)).trans e10f
  have e11b : w2.cell? ⟨w.heap.size + 1, 1, none⟩ = some (Value.slice none 0 0) := (hb2.cell (p := ⟨w.heap.size + 1, 1, none⟩) (show w.heap.size + 1 < _ by omega)).trans e11
  have e11bf : w2.frozen? ⟨w.heap.size + 1, 1, none⟩ = false := (hb2.frozen (p := ⟨w.heap.size + 1, 1, none⟩) (show w.heap.size + 1 < _ by omega)).trans e11f
  have HB2 := Lib.hid (HB.out.trans (hb2.mono HB.out.size))
  have HA4 := Lib.hid hA4
  have HF4 := Lib.hid hf4
  have hz2 : w.heap.size + 1 < w2.heap.size := Nat.lt_of_lt_of_le hz1 hb2.size
  clear hb2 hA4 hf4 e10 e11 e10f e11f
  go_wp2
  exact bodyPost_ret (v := .agg #[.int .i64 s4, .slice A4 n4 c4]) (by simp [results, Tryz.results118, go_sem, e10b, e11b]) rfl ⟨s4, A4, n4, c4, rfl, (HA4.out.set_far HF4.out hz1 _).set_far HF4.out hz1 _, HF4.out.low HB.out.size, (HB2.out.setCell (by simp <;> omega) _).setCell (by simp <;> omega) _⟩
end Go.Proofs.YtaojnjealccjiaaGreatDoor
