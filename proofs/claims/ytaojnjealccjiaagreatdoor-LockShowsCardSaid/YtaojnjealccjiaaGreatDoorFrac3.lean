/- The contracts of frac.Compare and frac.Neg, of right fractions. -/
import Derived.Test.YtaojnjealccjiaaGreatDoorFrac2
namespace Go.Proofs.YtaojnjealccjiaaGreatDoor
open Go Go.RowKit Bg Go.Proofs
set_option linter.unusedVariables false
theorem rightF_pq {f : FracV} (h : rightF f = true) : rightB f.p = true ∧ rightB f.q = true := ⟨(rightF_parts h).1, (rightF_parts h).2.1⟩
set_option maxRecDepth 100000 in
set_option maxHeartbeats 2000000 in
theorem frac_compare {M n nq n' nq' : Nat} {s sq s' sq' : Int} {A Aq A' Aq' : Option Addr} {a b : FracV} (c cq c' cq' : Nat) (w : World) (h : IsFrac M w s A n sq Aq nq a) (h' : IsFrac M w s' A' n' sq' Aq' nq' b) (hra : rightF a = true) (hrb : rightF b = true) (hM : M + M + (M + M) ≤ 400000) :
    Calls Tryz.prog 78 #[.agg #[Value.int .i64 s, Value.slice A n c, Value.int .i64 sq, Value.slice Aq nq cq], .agg #[Value.int .i64 s', Value.slice A' n' c', Value.int .i64 sq', Value.slice Aq' nq' cq']] w (SaysI (cmpF a b) w) := by
  have h1 := fun W (k : IsFrac M W s A n sq Aq nq a) => frac_right c cq W k (by omega)
  have h2 := fun W (k : IsFrac M W s' A' n' sq' Aq' nq' b) => frac_right c' cq' W k (by omega)
  have HN := Lib.hid (show cmpF a b = cmpB (mulB a.p b.q) (mulB b.p a.q) by unfold cmpF; rw [hra, hrb]; rfl)
  rw [hra] at h1
  rw [hrb] at h2
  obtain ⟨ap, aq⟩ := rightF_pq hra
  obtain ⟨bp, bq⟩ := rightF_pq hrb
  have H := Lib.hid h
  have H' := Lib.hid h'
  have H1 := Lib.hid h1
  have H2 := Lib.hid h2
  have HT1 := Lib.hid (fun W (k : IsFrac M W s A n sq Aq nq a) (k' : IsFrac M W s' A' n' sq' Aq' nq' b) => frac_times c cq' W k.1 k'.2 ap bq (by omega))
  have HT2 := Lib.hid (fun W (k : IsFrac M W s A n sq Aq nq a) (k' : IsFrac M W s' A' n' sq' Aq' nq' b) => frac_times c' cq W k'.1 k.2 bp aq (by omega))
  have HC := Lib.hid (fun W s1 A1 n1 c1 s2 A2 n2 c2 (k : IsBig (M + M) W s1 A1 n1 (mulB a.p b.q)) (k' : IsBig (M + M) W s2 A2 n2 (mulB b.p a.q)) => big_compare_ c1 c2 W k k' (rightB_mulB ap bq) (rightB_mulB bp aq) (by omega))
  clear h h' h1 h2 hra hrb ap aq bp bq
  go_enter Tryz.func78, Tryz.ntmps78
  go_wp2_with fail
  refine (H1.out _ ((H.out.alloc _).alloc _)).mono ?_
  rintro e w1 ⟨rfl, hb1⟩
  have hz1 : w.heap.size + 1 < w1.heap.size := by have := hb1.size; simp at this; omega
  have hbw : Below w.heap.size w w1 := (((Below.refl _ w).alloc (Nat.le_refl _) _).alloc (by simp <;> omega) _).trans (hb1.mono (by simp <;> omega))
  have e00 : w1.cell? ⟨w.heap.size, 0, none⟩ = some (Value.int .i64 s) := (hb1.cell (p := ⟨w.heap.size, 0, none⟩) (by simp <;> omega)).trans (by simp [go_sem])
  have e01 : w1.cell? ⟨w.heap.size, 1, none⟩ = some (Value.slice A n c) := (hb1.cell (p := ⟨w.heap.size, 1, none⟩) (by simp <;> omega)).trans (by simp [go_sem])
  have e02 : w1.cell? ⟨w.heap.size, 2, none⟩ = some (Value.int .i64 sq) := (hb1.cell (p := ⟨w.heap.size, 2, none⟩) (by simp <;> omega)).trans (by simp [go_sem])
  have e03 : w1.cell? ⟨w.heap.size, 3, none⟩ = some (Value.slice Aq nq cq) := (hb1.cell (p := ⟨w.heap.size, 3, none⟩) (by simp <;> omega)).trans (by simp [go_sem])
  have e10 : w1.cell? ⟨w.heap.size + 1, 0, none⟩ = some (Value.int .i64 s') := (hb1.cell (p := ⟨w.heap.size + 1, 0, none⟩) (by simp <;> omega)).trans (by simp [go_sem])
  have e11 : w1.cell? ⟨w.heap.size + 1, 1, none⟩ = some (Value.slice A' n' c') := (hb1.cell (p := ⟨w.heap.size + 1, 1, none⟩) (by simp <;> omega)).trans (by simp [go_sem])
  have e12 : w1.cell? ⟨w.heap.size + 1, 2, none⟩ = some (Value.int .i64 sq') := (hb1.cell (p := ⟨w.heap.size + 1, 2, none⟩) (by simp <;> omega)).trans (by simp [go_sem])
  have e13 : w1.cell? ⟨w.heap.size + 1, 3, none⟩ = some (Value.slice Aq' nq' cq') := (hb1.cell (p := ⟨w.heap.size + 1, 3, none⟩) (by simp <;> omega)).trans (by simp [go_sem])
  have HB := Lib.hid hbw
  clear hb1 hbw
  go_wp2_with fail
  refine (H2.out _ (H'.out.below HB.out)).mono ?_
  rintro e w2 ⟨rfl, hb2⟩
  have e00b : w2.cell? ⟨w.heap.size, 0, none⟩ = some (Value.int .i64 s) := (hb2.cell (p := ⟨w.heap.size, 0, none⟩) (show w.heap.size < _ by omega)).trans e00
  have e01b : w2.cell? ⟨w.heap.size, 1, none⟩ = some (Value.slice A n c) := (hb2.cell (p := ⟨w.heap.size, 1, none⟩) (show w.heap.size < _ by omega)).trans e01
  have e02b : w2.cell? ⟨w.heap.size, 2, none⟩ = some (Value.int .i64 sq) := (hb2.cell (p := ⟨w.heap.size, 2, none⟩) (show w.heap.size < _ by omega)).trans e02
  have e03b : w2.cell? ⟨w.heap.size, 3, none⟩ = some (Value.slice Aq nq cq) := (hb2.cell (p := ⟨w.heap.size, 3, none⟩) (show w.heap.size < _ by omega)).trans e03
  have e10b : w2.cell? ⟨w.heap.size + 1, 0, none⟩ = some (Value.int .i64 s') := (hb2.cell (p := ⟨w.heap.size + 1, 0, none⟩) (show w.heap.size + 1 < _ by omega)).trans e10
  have e11b : w2.cell? ⟨w.heap.size + 1, 1, none⟩ = some (Value.slice A' n' c') := (hb2.cell (p := ⟨w.heap.size + 1, 1, none⟩) (show w.heap.size + 1 < _ by omega)).trans e11
  have e12b : w2.cell? ⟨w.heap.size + 1, 2, none⟩ = some (Value.int .i64 sq') := (hb2.cell (p := ⟨w.heap.size + 1, 2, none⟩) (show w.heap.size + 1 < _ by omega)).trans e12
  have e13b : w2.cell? ⟨w.heap.size + 1, 3, none⟩ = some (Value.slice Aq' nq' cq') := (hb2.cell (p := ⟨w.heap.size + 1, 3, none⟩) (show w.heap.size + 1 < _ by omega)).trans e13
  have HB2 := Lib.hid (HB.out.trans (hb2.mono HB.out.size))
  have hz2 : w.heap.size + 1 < w2.heap.size := Nat.lt_of_lt_of_le hz1 hb2.size
  clear hb2 HB e00 e01 e02 e03 e10 e11 e12 e13
  go_wp2_with fail
  go_region_held3 (fun w' => w'.cell? ⟨w.heap.size, 0, none⟩ = some (Value.int .i64 s) ∧ w'.cell? ⟨w.heap.size, 1, none⟩ = some (Value.slice A n c) ∧ w'.cell? ⟨w.heap.size, 2, none⟩ = some (Value.int .i64 sq) ∧ w'.cell? ⟨w.heap.size, 3, none⟩ = some (Value.slice Aq nq cq) ∧ w'.cell? ⟨w.heap.size + 1, 0, none⟩ = some (Value.int .i64 s') ∧ w'.cell? ⟨w.heap.size + 1, 1, none⟩ = some (Value.slice A' n' c') ∧ w'.cell? ⟨w.heap.size + 1, 2, none⟩ = some (Value.int .i64 sq') ∧ w'.cell? ⟨w.heap.size + 1, 3, none⟩ = some (Value.slice Aq' nq' cq')) (go_keep)
    (first
     | (go_at_call 115; (with_reducible refine (HT1.out _ (H.out.below HB2.out).drew (H'.out.below HB2.out).drew).mono ?_); rintro e w3 ⟨s3, A3, n3, c3, rfl, hA3, hf3, hb3⟩; have HA3 := Lib.hid hA3; have HB3 := Lib.hid (HB2.out.trans ((below_dl hb3).mono HB2.out.size)); have e00bc : w3.cell? ⟨w.heap.size, 0, none⟩ = some (Value.int .i64 s) := ((below_dl hb3).cell (p := ⟨w.heap.size, 0, none⟩) (show w.heap.size < _ by omega)).trans e00b; have e01bc : w3.cell? ⟨w.heap.size, 1, none⟩ = some (Value.slice A n c) := ((below_dl hb3).cell (p := ⟨w.heap.size, 1, none⟩) (show w.heap.size < _ by omega)).trans e01b; have e02bc : w3.cell? ⟨w.heap.size, 2, none⟩ = some (Value.int .i64 sq) := ((below_dl hb3).cell (p := ⟨w.heap.size, 2, none⟩) (show w.heap.size < _ by omega)).trans e02b; have e03bc : w3.cell? ⟨w.heap.size, 3, none⟩ = some (Value.slice Aq nq cq) := ((below_dl hb3).cell (p := ⟨w.heap.size, 3, none⟩) (show w.heap.size < _ by omega)).trans e03b; have e10bc : w3.cell? ⟨w.heap.size + 1, 0, none⟩ = some (Value.int .i64 s') := ((below_dl hb3).cell (p := ⟨w.heap.size + 1, 0, none⟩) (show w.heap.size + 1 < _ by omega)).trans e10b; have e11bc : w3.cell? ⟨w.heap.size + 1, 1, none⟩ = some (Value.slice A' n' c') := ((below_dl hb3).cell (p := ⟨w.heap.size + 1, 1, none⟩) (show w.heap.size + 1 < _ by omega)).trans e11b; have e12bc : w3.cell? ⟨w.heap.size + 1, 2, none⟩ = some (Value.int .i64 sq') := ((below_dl hb3).cell (p := ⟨w.heap.size + 1, 2, none⟩) (show w.heap.size + 1 < _ by omega)).trans e12b; have e13bc : w3.cell? ⟨w.heap.size + 1, 3, none⟩ = some (Value.slice Aq' nq' cq') := ((below_dl hb3).cell (p := ⟨w.heap.size + 1, 3, none⟩) (show w.heap.size + 1 < _ by omega)).trans e13b; have hz3 : w.heap.size + 1 < w3.heap.size := Nat.lt_of_lt_of_le hz2 (below_dl hb3).size; clear hb3 hf3 hA3)
     | (go_at_call 115; (with_reducible refine (HT2.out _ (H.out.below HB3.out) (H'.out.below HB3.out)).mono ?_); rintro e w4 ⟨s4, A4, n4, c4, rfl, hA4, hf4, hb4⟩; have HA4 := Lib.hid hA4; have HA3b := Lib.hid (HA3.out.below hb4); have HB4 := Lib.hid (HB3.out.trans (hb4.mono HB3.out.size)); have e00bcd : w4.cell? ⟨w.heap.size, 0, none⟩ = some (Value.int .i64 s) := (hb4.cell (p := ⟨w.heap.size, 0, none⟩) (show w.heap.size < _ by omega)).trans e00bc; have e01bcd : w4.cell? ⟨w.heap.size, 1, none⟩ = some (Value.slice A n c) := (hb4.cell (p := ⟨w.heap.size, 1, none⟩) (show w.heap.size < _ by omega)).trans e01bc; have e02bcd : w4.cell? ⟨w.heap.size, 2, none⟩ = some (Value.int .i64 sq) := (hb4.cell (p := ⟨w.heap.size, 2, none⟩) (show w.heap.size < _ by omega)).trans e02bc; have e03bcd : w4.cell? ⟨w.heap.size, 3, none⟩ = some (Value.slice Aq nq cq) := (hb4.cell (p := ⟨w.heap.size, 3, none⟩) (show w.heap.size < _ by omega)).trans e03bc; have e10bcd : w4.cell? ⟨w.heap.size + 1, 0, none⟩ = some (Value.int .i64 s') := (hb4.cell (p := ⟨w.heap.size + 1, 0, none⟩) (show w.heap.size + 1 < _ by omega)).trans e10bc; have e11bcd : w4.cell? ⟨w.heap.size + 1, 1, none⟩ = some (Value.slice A' n' c') := (hb4.cell (p := ⟨w.heap.size + 1, 1, none⟩) (show w.heap.size + 1 < _ by omega)).trans e11bc; have e12bcd : w4.cell? ⟨w.heap.size + 1, 2, none⟩ = some (Value.int .i64 sq') := (hb4.cell (p := ⟨w.heap.size + 1, 2, none⟩) (show w.heap.size + 1 < _ by omega)).trans e12bc; have e13bcd : w4.cell? ⟨w.heap.size + 1, 3, none⟩ = some (Value.slice Aq' nq' cq') := (hb4.cell (p := ⟨w.heap.size + 1, 3, none⟩) (show w.heap.size + 1 < _ by omega)).trans e13bc; have hz4 : w.heap.size + 1 < w4.heap.size := Nat.lt_of_lt_of_le hz3 hb4.size; clear hb4 hf4 hA4)
     | (go_at_call 114; (with_reducible refine (HC.out _ _ _ _ _ _ _ _ _ HA3b.out HA4.out).mono ?_); rintro e w5 ⟨rfl, hb5⟩; have HB5 := Lib.hid (HB4.out.trans (hb5.mono HB4.out.size)); have e00bcdg : w5.cell? ⟨w.heap.size, 0, none⟩ = some (Value.int .i64 s) := (hb5.cell (p := ⟨w.heap.size, 0, none⟩) (show w.heap.size < _ by omega)).trans e00bcd; have e01bcdg : w5.cell? ⟨w.heap.size, 1, none⟩ = some (Value.slice A n c) := (hb5.cell (p := ⟨w.heap.size, 1, none⟩) (show w.heap.size < _ by omega)).trans e01bcd; have e02bcdg : w5.cell? ⟨w.heap.size, 2, none⟩ = some (Value.int .i64 sq) := (hb5.cell (p := ⟨w.heap.size, 2, none⟩) (show w.heap.size < _ by omega)).trans e02bcd; have e03bcdg : w5.cell? ⟨w.heap.size, 3, none⟩ = some (Value.slice Aq nq cq) := (hb5.cell (p := ⟨w.heap.size, 3, none⟩) (show w.heap.size < _ by omega)).trans e03bcd; have e10bcdg : w5.cell? ⟨w.heap.size + 1, 0, none⟩ = some (Value.int .i64 s') := (hb5.cell (p := ⟨w.heap.size + 1, 0, none⟩) (show w.heap.size + 1 < _ by omega)).trans e10bcd; have e11bcdg : w5.cell? ⟨w.heap.size + 1, 1, none⟩ = some (Value.slice A' n' c') := (hb5.cell (p := ⟨w.heap.size + 1, 1, none⟩) (show w.heap.size + 1 < _ by omega)).trans e11bcd; have e12bcdg : w5.cell? ⟨w.heap.size + 1, 2, none⟩ = some (Value.int .i64 sq') := (hb5.cell (p := ⟨w.heap.size + 1, 2, none⟩) (show w.heap.size + 1 < _ by omega)).trans e12bcd; have e13bcdg : w5.cell? ⟨w.heap.size + 1, 3, none⟩ = some (Value.slice Aq' nq' cq') := (hb5.cell (p := ⟨w.heap.size + 1, 3, none⟩) (show w.heap.size + 1 < _ by omega)).trans e13bcd; clear hb5))
  go_wp2
  go_ret
  rw [HN.out]
  exact ⟨rfl, HB5.out⟩

def GivesF (M : Nat) (f : FracV) (w : World) (e : Ending) (w' : World) : Prop := ∃ s A n c t B m d, e = .returned (.agg #[.int .i64 s, .slice A n c, .int .i64 t, .slice B m d]) ∧ IsFrac M w' s A n t B m f ∧ (Fresh w.heap.size A ∧ Fresh w.heap.size B) ∧ Below w.heap.size w w'
set_option maxRecDepth 100000 in
set_option maxHeartbeats 2000000 in
theorem frac_neg {M n nq : Nat} {s sq : Int} {A Aq : Option Addr} {a : FracV} (c cq : Nat) (w : World) (h : IsFrac M w s A n sq Aq nq a) (hra : rightF a = true) (hM : M + M ≤ 400000) :
    Calls Tryz.prog 80 #[.agg #[Value.int .i64 s, Value.slice A n c, Value.int .i64 sq, Value.slice Aq nq cq]] w (GivesF M (negF a) w) := by
  have h1 := fun W (k : IsFrac M W s A n sq Aq nq a) => frac_right c cq W k (by omega)
  have HN := Lib.hid (show negF a = ⟨negB a.p, negB (negB a.q)⟩ by unfold negF; rw [hra]; rfl)
  rw [hra] at h1
  have H := Lib.hid h
  have H1 := Lib.hid h1
  have HT1 := Lib.hid (fun W (k : IsFrac M W s A n sq Aq nq a) => big_neg c W k.1 (by omega))
  have HT2 := Lib.hid (fun W (k : IsFrac M W s A n sq Aq nq a) => frac_slim cq W k.2 (by omega))
  clear h h1 hra
  go_enter Tryz.func80, Tryz.ntmps80
  go_wp2_with fail
  refine (H1.out _ ((H.out.alloc _).alloc _)).mono ?_
  rintro e w1 ⟨rfl, hb1⟩
  have hz1 : w.heap.size + 1 < w1.heap.size := by have := hb1.size; simp at this; omega
  have hbw : Below w.heap.size w w1 := (((Below.refl _ w).alloc (Nat.le_refl _) _).alloc (by simp <;> omega) _).trans (hb1.mono (by simp <;> omega))
  have e00 : w1.cell? ⟨w.heap.size, 0, none⟩ = some (Value.int .i64 s) := (hb1.cell (p := ⟨w.heap.size, 0, none⟩) (by simp <;> omega)).trans (by simp [go_sem])
  have e01 : w1.cell? ⟨w.heap.size, 1, none⟩ = some (Value.slice A n c) := (hb1.cell (p := ⟨w.heap.size, 1, none⟩) (by simp <;> omega)).trans (by simp [go_sem])
  have e02 : w1.cell? ⟨w.heap.size, 2, none⟩ = some (Value.int .i64 sq) := (hb1.cell (p := ⟨w.heap.size, 2, none⟩) (by simp <;> omega)).trans (by simp [go_sem])
  have e03 : w1.cell? ⟨w.heap.size, 3, none⟩ = some (Value.slice Aq nq cq) := (hb1.cell (p := ⟨w.heap.size, 3, none⟩) (by simp <;> omega)).trans (by simp [go_sem])
  have e10 : w1.cell? ⟨w.heap.size + 1, 0, none⟩ = some (Value.int .i64 0) := (hb1.cell (p := ⟨w.heap.size + 1, 0, none⟩) (by simp <;> omega)).trans (by simp [go_sem])
  have e10f : w1.frozen? ⟨w.heap.size + 1, 0, none⟩ = false := (hb1.frozen (p := ⟨w.heap.size + 1, 0, none⟩) (by simp <;> omega)).trans (by simp [go_sem])
  have e11 : w1.cell? ⟨w.heap.size + 1, 1, none⟩ = some (Value.slice none 0 0) := (hb1.cell (p := ⟨w.heap.size + 1, 1, none⟩) (by simp <;> omega)).trans (by simp [go_sem])
  have e11f : w1.frozen? ⟨w.heap.size + 1, 1, none⟩ = false := (hb1.frozen (p := ⟨w.heap.size + 1, 1, none⟩) (by simp <;> omega)).trans (by simp [go_sem])
  have e12 : w1.cell? ⟨w.heap.size + 1, 2, none⟩ = some (Value.int .i64 0) := (hb1.cell (p := ⟨w.heap.size + 1, 2, none⟩) (by simp <;> omega)).trans (by simp [go_sem])
  have e12f : w1.frozen? ⟨w.heap.size + 1, 2, none⟩ = false := (hb1.frozen (p := ⟨w.heap.size + 1, 2, none⟩) (by simp <;> omega)).trans (by simp [go_sem])
  have e13 : w1.cell? ⟨w.heap.size + 1, 3, none⟩ = some (Value.slice none 0 0) := (hb1.cell (p := ⟨w.heap.size + 1, 3, none⟩) (by simp <;> omega)).trans (by simp [go_sem])
  have e13f : w1.frozen? ⟨w.heap.size + 1, 3, none⟩ = false := (hb1.frozen (p := ⟨w.heap.size + 1, 3, none⟩) (by simp <;> omega)).trans (by simp [go_sem])
  have HB := Lib.hid hbw
  clear hb1 hbw
  go_wp2_with fail
  go_region_held3 (fun w' => w'.cell? ⟨w.heap.size, 0, none⟩ = some (Value.int .i64 s) ∧ w'.cell? ⟨w.heap.size, 1, none⟩ = some (Value.slice A n c) ∧ w'.cell? ⟨w.heap.size, 2, none⟩ = some (Value.int .i64 sq) ∧ w'.cell? ⟨w.heap.size, 3, none⟩ = some (Value.slice Aq nq cq)) (go_keep)
    (first
     | (go_at_call 117; (with_reducible refine (HT1.out _ (H.out.below HB.out).drew).mono ?_); rintro e w3 ⟨s3, A3, n3, c3, rfl, hA3, hf3, hb3⟩; have HA3 := Lib.hid hA3; have HF3 := Lib.hid hf3; have HSZ := Lib.hid (below_dl hb3).size; have HB3 := Lib.hid (HB.out.trans ((below_dl hb3).mono HB.out.size)); have e00c : w3.cell? ⟨w.heap.size, 0, none⟩ = some (Value.int .i64 s) := ((below_dl hb3).cell (p := ⟨w.heap.size, 0, none⟩) (show w.heap.size < _ by omega)).trans e00; have e01c : w3.cell? ⟨w.heap.size, 1, none⟩ = some (Value.slice A n c) := ((below_dl hb3).cell (p := ⟨w.heap.size, 1, none⟩) (show w.heap.size < _ by omega)).trans e01; have e02c : w3.cell? ⟨w.heap.size, 2, none⟩ = some (Value.int .i64 sq) := ((below_dl hb3).cell (p := ⟨w.heap.size, 2, none⟩) (show w.heap.size < _ by omega)).trans e02; have e03c : w3.cell? ⟨w.heap.size, 3, none⟩ = some (Value.slice Aq nq cq) := ((below_dl hb3).cell (p := ⟨w.heap.size, 3, none⟩) (show w.heap.size < _ by omega)).trans e03; have e10c : w3.cell? ⟨w.heap.size + 1, 0, none⟩ = some (Value.int .i64 0) := ((below_dl hb3).cell (p := ⟨w.heap.size + 1, 0, none⟩) (show w.heap.size + 1 < _ by omega)).trans e10; have e10cf : w3.frozen? ⟨w.heap.size + 1, 0, none⟩ = false := ((below_dl hb3).frozen (p := ⟨w.heap.size + 1, 0, none⟩) (show w.heap.size + 1 < _ by omega)).trans e10f; have e11c : w3.cell? ⟨w.heap.size + 1, 1, none⟩ = some (Value.slice none 0 0) := ((below_dl hb3).cell (p := ⟨w.heap.size + 1, 1, none⟩) (show w.heap.size + 1 < _ by omega)).trans e11; have e11cf : w3.frozen? ⟨w.heap.size + 1, 1, none⟩ = false := ((below_dl hb3).frozen (p := ⟨w.heap.size + 1, 1, none⟩) (show w.heap.size + 1 < _ by omega)).trans e11f; have e12c : w3.cell? ⟨w.heap.size + 1, 2, none⟩ = some (Value.int .i64 0) := ((below_dl hb3).cell (p := ⟨w.heap.size + 1, 2, none⟩) (show w.heap.size + 1 < _ by omega)).trans e12; have e12cf : w3.frozen? ⟨w.heap.size + 1, 2, none⟩ = false := ((below_dl hb3).frozen (p := ⟨w.heap.size + 1, 2, none⟩) (show w.heap.size + 1 < _ by omega)).trans e12f; have e13c : w3.cell? ⟨w.heap.size + 1, 3, none⟩ = some (Value.slice none 0 0) := ((below_dl hb3).cell (p := ⟨w.heap.size + 1, 3, none⟩) (show w.heap.size + 1 < _ by omega)).trans e13; have e13cf : w3.frozen? ⟨w.heap.size + 1, 3, none⟩ = false := ((below_dl hb3).frozen (p := ⟨w.heap.size + 1, 3, none⟩) (show w.heap.size + 1 < _ by omega)).trans e13f; have hz3 : w.heap.size + 1 < w3.heap.size := Nat.lt_of_lt_of_le hz1 (below_dl hb3).size; clear hb3 hf3 hA3)
     | (go_at_call 118; (with_reducible refine (HT2.out _ (H.out.below HB3.out)).mono ?_); rintro e w4 ⟨s4, A4, n4, c4, rfl, hA4, hf4, hb4⟩; have HA4 := Lib.hid hA4; have HF4 := Lib.hid hf4; have HA3b := Lib.hid (HA3.out.below hb4); have HB4 := Lib.hid (HB3.out.trans (hb4.mono HB3.out.size)); have e00cd : w4.cell? ⟨w.heap.size, 0, none⟩ = some (Value.int .i64 s) := (hb4.cell (p := ⟨w.heap.size, 0, none⟩) (show w.heap.size < _ by omega)).trans e00c; have e01cd : w4.cell? ⟨w.heap.size, 1, none⟩ = some (Value.slice A n c) := (hb4.cell (p := ⟨w.heap.size, 1, none⟩) (show w.heap.size < _ by omega)).trans e01c; have e02cd : w4.cell? ⟨w.heap.size, 2, none⟩ = some (Value.int .i64 sq) := (hb4.cell (p := ⟨w.heap.size, 2, none⟩) (show w.heap.size < _ by omega)).trans e02c; have e03cd : w4.cell? ⟨w.heap.size, 3, none⟩ = some (Value.slice Aq nq cq) := (hb4.cell (p := ⟨w.heap.size, 3, none⟩) (show w.heap.size < _ by omega)).trans e03c; have e10cd : w4.cell? ⟨w.heap.size + 1, 0, none⟩ = some (Value.int .i64 0) := (hb4.cell (p := ⟨w.heap.size + 1, 0, none⟩) (show w.heap.size + 1 < _ by omega)).trans e10c; have e10cdf : w4.frozen? ⟨w.heap.size + 1, 0, none⟩ = false := (hb4.frozen (p := ⟨w.heap.size + 1, 0, none⟩) (show w.heap.size + 1 < _ by omega)).trans e10cf; have e11cd : w4.cell? ⟨w.heap.size + 1, 1, none⟩ = some (Value.slice none 0 0) := (hb4.cell (p := ⟨w.heap.size + 1, 1, none⟩) (show w.heap.size + 1 < _ by omega)).trans e11c; have e11cdf : w4.frozen? ⟨w.heap.size + 1, 1, none⟩ = false := (hb4.frozen (p := ⟨w.heap.size + 1, 1, none⟩) (show w.heap.size + 1 < _ by omega)).trans e11cf; have e12cd : w4.cell? ⟨w.heap.size + 1, 2, none⟩ = some (Value.int .i64 0) := (hb4.cell (p := ⟨w.heap.size + 1, 2, none⟩) (show w.heap.size + 1 < _ by omega)).trans e12c; have e12cdf : w4.frozen? ⟨w.heap.size + 1, 2, none⟩ = false := (hb4.frozen (p := ⟨w.heap.size + 1, 2, none⟩) (show w.heap.size + 1 < _ by omega)).trans e12cf; have e13cd : w4.cell? ⟨w.heap.size + 1, 3, none⟩ = some (Value.slice none 0 0) := (hb4.cell (p := ⟨w.heap.size + 1, 3, none⟩) (show w.heap.size + 1 < _ by omega)).trans e13c; have e13cdf : w4.frozen? ⟨w.heap.size + 1, 3, none⟩ = false := (hb4.frozen (p := ⟨w.heap.size + 1, 3, none⟩) (show w.heap.size + 1 < _ by omega)).trans e13cf; have hz4 : w.heap.size + 1 < w4.heap.size := Nat.lt_of_lt_of_le hz3 hb4.size; clear hb4 hf4 hA4))
  go_wp2
  rw [HN.out]
  have hf3 : Fresh w1.heap.size A3 := HF3.out
  have hf4 : Fresh w1.heap.size A4 := HF4.out.low HSZ.out
  have i3 := (((HA3b.out.set_far (i := 0) hf3 hz1 (.int .i64 s3)).set_far (i := 1) hf3 hz1 (.slice A3 n3 c3)).set_far (i := 2) hf3 hz1 (.int .i64 s4)).set_far (i := 3) hf3 hz1 (.slice A4 n4 c4)
  have i4 := (((HA4.out.set_far (i := 0) hf4 hz1 (.int .i64 s3)).set_far (i := 1) hf4 hz1 (.slice A3 n3 c3)).set_far (i := 2) hf4 hz1 (.int .i64 s4)).set_far (i := 3) hf4 hz1 (.slice A4 n4 c4)
  have hb9 := (((HB4.out.setCell (p := ⟨w.heap.size + 1, 0, none⟩) (show w.heap.size ≤ w.heap.size + 1 by omega) (.int .i64 s3)).setCell (p := ⟨w.heap.size + 1, 1, none⟩) (show w.heap.size ≤ w.heap.size + 1 by omega) (.slice A3 n3 c3)).setCell (p := ⟨w.heap.size + 1, 2, none⟩) (show w.heap.size ≤ w.heap.size + 1 by omega) (.int .i64 s4)).setCell (p := ⟨w.heap.size + 1, 3, none⟩) (show w.heap.size ≤ w.heap.size + 1 by omega) (.slice A4 n4 c4)
  exact bodyPost_ret (v := .agg #[.int .i64 s3, .slice A3 n3 c3, .int .i64 s4, .slice A4 n4 c4]) (by simp [results, Tryz.results80, go_sem, e10cd, e11cd, e12cd, e13cd]) rfl ⟨s3, A3, n3, c3, s4, A4, n4, c4, rfl, ⟨i3, i4⟩, ⟨hf3.low HB.out.size, hf4.low HB.out.size⟩, hb9⟩
end Go.Proofs.YtaojnjealccjiaaGreatDoor
