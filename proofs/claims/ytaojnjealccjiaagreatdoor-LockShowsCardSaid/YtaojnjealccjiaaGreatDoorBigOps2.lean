/- The contracts of big.Mul, big.Compare, big.Gcd, of right integers. -/
import Derived.Test.YtaojnjealccjiaaGreatDoorBigOps
namespace Go.Proofs.YtaojnjealccjiaaGreatDoor
open Go Go.RowKit Bg Go.Proofs
set_option linter.unusedVariables false

theorem below_dl {w w' : World} (h : Below w.drew.heap.size w.drew w') : Below w.heap.size w w' := ⟨h.os, h.tape, h.output, h.size, h.block⟩
def MulN (v : Nat) (w : World) (e : Ending) (w' : World) : Prop := ∃ A l c, e = .returned (.slice A l c) ∧ Arr w' A ((dig v).map nv) ∧ ((dig v).length ≤ c ∧ (dig v).length = l) ∧ Fresh w.heap.size A ∧ Below w.heap.size w w'
theorem mul_n {n n' : Nat} (a b : List Nat) (A A' : Option Addr) (c c' : Nat) (w : World) (hn : a.length = n) (hn' : b.length = n') (hda : Dig a) (hdb : Dig b) (ha : Arr w A (a.map nv)) (hb : Arr w A' (b.map nv)) (hl : n + n' ≤ 1000000) : Calls Tryz.prog 161 #[.slice A n c, .slice A' n' c'] w (MulN (val a * val b) w) := by
  subst hn hn'
  refine (big_mul a b A A' c c' w hda hdb ha hb hl).mono ?_
  rintro e w' ⟨cc, h1, h2, h3, h4, h5⟩
  exact ⟨_, _, cc, h1, h4.arr, ⟨h2, rfl⟩, fun b o e => by injection e with e; injection e with e; omega, h5⟩
theorem mul_len {n n' M M' : Nat} {a b : List Nat} (hn : a.length = n) (hn' : b.length = n') (hda : Dig a) (hdb : Dig b) (h : n ≤ M) (h' : n' ≤ M') : (dig (val a * val b)).length ≤ M + M' := by
  have h1 : (dig (val a * val b)).length ≤ a.length + b.length := dig_len_of_lt (by
    rw [Nat.pow_add]
    exact Nat.mul_lt_mul'' (val_lt hda) (val_lt hdb))
  omega
theorem sign_bound {s t : Int} (h1 : -1 ≤ s) (h2 : s ≤ 1) (h3 : -1 ≤ t) (h4 : t ≤ 1) : -9223372036854775808 ≤ s * t ∧ s * t ≤ 9223372036854775807 := by
  rcases (show s = -1 ∨ s = 0 ∨ s = 1 by omega) with h | h | h <;> subst h <;> simp <;> omega

set_option maxRecDepth 100000 in
set_option maxHeartbeats 2000000 in
theorem big_mul_ {M M' n n' : Nat} {s s' : Int} {A A' : Option Addr} {a b : BigV} (c c' : Nat) (w : World) (h : IsBig M w s A n a) (h' : IsBig M' w s' A' n' b) (hra : rightB a = true) (hrb : rightB b = true) (hM : M + M' ≤ 1000000) :
    Calls Tryz.prog 142 #[.agg #[.int .i64 s, .slice A n c], .agg #[.int .i64 s', .slice A' n' c']] w (GivesBE (M + M') (mulB a b) 0 w) := by
  have hr := fun W (h : IsBig M W s A n a) => right_of c h (by omega)
  have hr' := fun W (h : IsBig M' W s' A' n' b) => right_of c' h (by omega)
  rw [hra] at hr
  rw [hrb] at hr'
  have H := Lib.hid h
  have H' := Lib.hid h'
  have HR := Lib.hid hr
  have HR' := Lib.hid hr'
  have hle := h.le
  have hle' := h'.le
  obtain ⟨p1, p2, p3, p4, p5, p6⟩ := isBig_nat h hra
  obtain ⟨q1, q2, q3, q4, q5, q6⟩ := isBig_nat h' hrb
  have HN := Lib.hid (show mulB a b = ofZ (s * s') (val (natD a.dg) * val (natD b.dg)) by unfold mulB; rw [hra, hrb, h.1, h'.1]; rfl)
  have HM := Lib.hid (fun W (k : Arr W A ((natD a.dg).map nv)) (k' : Arr W A' ((natD b.dg).map nv)) => mul_n (n := n) (n' := n') (natD a.dg) (natD b.dg) A A' c c' W p1 q1 p2.1 q2.1 k k' (by omega))
  have HSg := Lib.hid (fun W A3 c3 (k : Arr W A3 ((dig (val (natD a.dg) * val (natD b.dg))).map nv)) (hc : (dig (val (natD a.dg) * val (natD b.dg))).length ≤ c3) => big_signed (n := (dig (val (natD a.dg) * val (natD b.dg))).length) (M + M') (s * s') (dig (val (natD a.dg) * val (natD b.dg))) A3 c3 W rfl (Dig_dig _) k hc (mul_len p1 q1 p2.1 q2.1 hle hle') hM)
  have HP := Lib.hid p3
  have HQ := Lib.hid q3
  have hw1 : IntKind.i64.wrap (s * s') = s * s' := IntWalk.i64_in _ (sign_bound p4 p5 q4 q5)
  clear hr hr' h h' hra hrb p1 p2 p3 p6 q1 q2 q3 q6
  go_enter Tryz.func142, Tryz.ntmps142
  go_wp2_with fail
  refine (HR.out _ (((H.out.alloc _).alloc _).alloc _)).mono ?_
  rintro e w1 ⟨rfl, hb1⟩
  have hz1 : w.heap.size + 1 + 1 < w1.heap.size := by have := hb1.size; simp at this; omega
  have hbw : Below w.heap.size w w1 := ((((Below.refl _ w).alloc (Nat.le_refl _) _).alloc (by simp) _).alloc (by simp <;> omega) _).trans (hb1.mono (by simp <;> omega))
  obtain ⟨hc1, hf1⟩ := bcell hb1
  have e0 : w1.cell? ⟨w.heap.size, 0, none⟩ = some (.int .i64 s) := by rw [hc1 (w.heap.size) 0 (by simp <;> omega)]; simp [go_sem]
  have e1 : w1.cell? ⟨w.heap.size, 1, none⟩ = some (.slice A n c) := by rw [hc1 (w.heap.size) 1 (by simp <;> omega)]; simp [go_sem]
  have e2 : w1.cell? ⟨w.heap.size + 1, 0, none⟩ = some (Value.int .i64 s') := by rw [hc1 (w.heap.size + 1) 0 (by simp <;> omega)]; simp [go_sem]
  have e3 : w1.cell? ⟨w.heap.size + 1, 1, none⟩ = some (Value.slice A' n' c') := by rw [hc1 (w.heap.size + 1) 1 (by simp <;> omega)]; simp [go_sem]
  have e4 : w1.cell? ⟨w.heap.size + 1 + 1, 0, none⟩ = some (Value.int .i64 0) := by rw [hc1 (w.heap.size + 1 + 1) 0 (by simp <;> omega)]; simp [go_sem]
  have e4f : w1.frozen? ⟨w.heap.size + 1 + 1, 0, none⟩ = false := by rw [hf1 (w.heap.size + 1 + 1) 0 (by simp <;> omega)]; simp [go_sem]
  have e5 : w1.cell? ⟨w.heap.size + 1 + 1, 1, none⟩ = some (Value.slice none 0 0) := by rw [hc1 (w.heap.size + 1 + 1) 1 (by simp <;> omega)]; simp [go_sem]
  have e5f : w1.frozen? ⟨w.heap.size + 1 + 1, 1, none⟩ = false := by rw [hf1 (w.heap.size + 1 + 1) 1 (by simp <;> omega)]; simp [go_sem]
  have HBW := Lib.hid hbw
  clear hb1 hc1 hf1 hbw
  go_wp2_with fail
  refine (HR'.out _ (H'.out.below HBW.out)).mono ?_
  rintro e w2 ⟨rfl, hb2⟩
  have hz2 : w.heap.size + 1 + 1 < w2.heap.size := Nat.lt_of_lt_of_le hz1 hb2.size
  have e0b : w2.cell? ⟨w.heap.size, 0, none⟩ = some (.int .i64 s) := (hb2.cell (p := ⟨w.heap.size, 0, none⟩) (show w.heap.size < _ by omega)).trans e0
  have e1b : w2.cell? ⟨w.heap.size, 1, none⟩ = some (.slice A n c) := (hb2.cell (p := ⟨w.heap.size, 1, none⟩) (show w.heap.size < _ by omega)).trans e1
  have e2b : w2.cell? ⟨w.heap.size + 1, 0, none⟩ = some (Value.int .i64 s') := (hb2.cell (p := ⟨w.heap.size + 1, 0, none⟩) (show w.heap.size + 1 < _ by omega)).trans e2
  have e3b : w2.cell? ⟨w.heap.size + 1, 1, none⟩ = some (Value.slice A' n' c') := (hb2.cell (p := ⟨w.heap.size + 1, 1, none⟩) (show w.heap.size + 1 < _ by omega)).trans e3
  have e4b : w2.cell? ⟨w.heap.size + 1 + 1, 0, none⟩ = some (Value.int .i64 0) := (hb2.cell (p := ⟨w.heap.size + 1 + 1, 0, none⟩) (show w.heap.size + 1 + 1 < _ by omega)).trans e4
  have e4bf : w2.frozen? ⟨w.heap.size + 1 + 1, 0, none⟩ = false := (hb2.frozen (p := ⟨w.heap.size + 1 + 1, 0, none⟩) (show w.heap.size + 1 + 1 < _ by omega)).trans e4f
  have e5b : w2.cell? ⟨w.heap.size + 1 + 1, 1, none⟩ = some (Value.slice none 0 0) := (hb2.cell (p := ⟨w.heap.size + 1 + 1, 1, none⟩) (show w.heap.size + 1 + 1 < _ by omega)).trans e5
  have e5bf : w2.frozen? ⟨w.heap.size + 1 + 1, 1, none⟩ = false := (hb2.frozen (p := ⟨w.heap.size + 1 + 1, 1, none⟩) (show w.heap.size + 1 + 1 < _ by omega)).trans e5f
  have HB2 := Lib.hid (HBW.out.trans (hb2.mono HBW.out.size))
  clear hb2 HBW e0 e1 e2 e3 e4 e5 e4f e5f
  have hn1 : ¬ (w.heap.size = w.heap.size + 1 + 1) := by omega
  have hn2 : ¬ (w.heap.size + 1 + 1 = w.heap.size) := by omega
  go_wp2_with fail
  go_region_held3 (fun w' => w'.cell? ⟨w.heap.size, 0, none⟩ = some (.int .i64 s) ∧ w'.cell? ⟨w.heap.size, 1, none⟩ = some (.slice A n c) ∧ w'.cell? ⟨w.heap.size + 1, 0, none⟩ = some (Value.int .i64 s') ∧ w'.cell? ⟨w.heap.size + 1, 1, none⟩ = some (Value.slice A' n' c')) (go_keep)
    (first
     | (go_at_call 161; (with_reducible refine (HM.out _ (HP.out.below HB2.out).drew (HQ.out.below HB2.out).drew).mono ?_); rintro e w3 ⟨A3, l3, c3, rfl, hA3, hl3, hf3, hb3⟩; have HL3 := Lib.hid hl3; have HF3 := Lib.hid hf3; have HA3 := Lib.hid hA3; have HB3 := Lib.hid (HB2.out.trans ((below_dl hb3).mono HB2.out.size)); have e0bc : w3.cell? ⟨w.heap.size, 0, none⟩ = some (.int .i64 s) := ((below_dl hb3).cell (p := ⟨w.heap.size, 0, none⟩) (show w.heap.size < _ by omega)).trans e0b; have e1bc : w3.cell? ⟨w.heap.size, 1, none⟩ = some (.slice A n c) := ((below_dl hb3).cell (p := ⟨w.heap.size, 1, none⟩) (show w.heap.size < _ by omega)).trans e1b; have e2bc : w3.cell? ⟨w.heap.size + 1, 0, none⟩ = some (Value.int .i64 s') := ((below_dl hb3).cell (p := ⟨w.heap.size + 1, 0, none⟩) (show w.heap.size + 1 < _ by omega)).trans e2b; have e3bc : w3.cell? ⟨w.heap.size + 1, 1, none⟩ = some (Value.slice A' n' c') := ((below_dl hb3).cell (p := ⟨w.heap.size + 1, 1, none⟩) (show w.heap.size + 1 < _ by omega)).trans e3b; have e4bc : w3.cell? ⟨w.heap.size + 1 + 1, 0, none⟩ = some (Value.int .i64 0) := ((below_dl hb3).cell (p := ⟨w.heap.size + 1 + 1, 0, none⟩) (show w.heap.size + 1 + 1 < _ by omega)).trans e4b; have e4bcf : w3.frozen? ⟨w.heap.size + 1 + 1, 0, none⟩ = false := ((below_dl hb3).frozen (p := ⟨w.heap.size + 1 + 1, 0, none⟩) (show w.heap.size + 1 + 1 < _ by omega)).trans e4bf; have e5bc : w3.cell? ⟨w.heap.size + 1 + 1, 1, none⟩ = some (Value.slice none 0 0) := ((below_dl hb3).cell (p := ⟨w.heap.size + 1 + 1, 1, none⟩) (show w.heap.size + 1 + 1 < _ by omega)).trans e5b; have e5bcf : w3.frozen? ⟨w.heap.size + 1 + 1, 1, none⟩ = false := ((below_dl hb3).frozen (p := ⟨w.heap.size + 1 + 1, 1, none⟩) (show w.heap.size + 1 + 1 < _ by omega)).trans e5bf; have hz3 : w.heap.size + 1 + 1 < w3.heap.size := Nat.lt_of_lt_of_le hz2 (below_dl hb3).size; clear hb3 hf3 hl3 hA3)
     | (go_at_call 139; (with_reducible refine (HL3.out.2 ▸ HSg.out _ _ _ HA3.out HL3.out.1).mono ?_); rintro e w4 ⟨s4, A4, n4, c4, rfl, hA4, hf4, hb4⟩; have HA4 := Lib.hid hA4; have HF4 := Lib.hid (fresh_or hf4 HF3.out); have HB4 := Lib.hid (HB3.out.trans (hb4.mono HB3.out.size)); have e0bcd : w4.cell? ⟨w.heap.size, 0, none⟩ = some (.int .i64 s) := (hb4.cell (p := ⟨w.heap.size, 0, none⟩) (show w.heap.size < _ by omega)).trans e0bc; have e1bcd : w4.cell? ⟨w.heap.size, 1, none⟩ = some (.slice A n c) := (hb4.cell (p := ⟨w.heap.size, 1, none⟩) (show w.heap.size < _ by omega)).trans e1bc; have e2bcd : w4.cell? ⟨w.heap.size + 1, 0, none⟩ = some (Value.int .i64 s') := (hb4.cell (p := ⟨w.heap.size + 1, 0, none⟩) (show w.heap.size + 1 < _ by omega)).trans e2bc; have e3bcd : w4.cell? ⟨w.heap.size + 1, 1, none⟩ = some (Value.slice A' n' c') := (hb4.cell (p := ⟨w.heap.size + 1, 1, none⟩) (show w.heap.size + 1 < _ by omega)).trans e3bc; have e4bcd : w4.cell? ⟨w.heap.size + 1 + 1, 0, none⟩ = some (Value.int .i64 0) := (hb4.cell (p := ⟨w.heap.size + 1 + 1, 0, none⟩) (show w.heap.size + 1 + 1 < _ by omega)).trans e4bc; have e4bcdf : w4.frozen? ⟨w.heap.size + 1 + 1, 0, none⟩ = false := (hb4.frozen (p := ⟨w.heap.size + 1 + 1, 0, none⟩) (show w.heap.size + 1 + 1 < _ by omega)).trans e4bcf; have e5bcd : w4.cell? ⟨w.heap.size + 1 + 1, 1, none⟩ = some (Value.slice none 0 0) := (hb4.cell (p := ⟨w.heap.size + 1 + 1, 1, none⟩) (show w.heap.size + 1 + 1 < _ by omega)).trans e5bc; have e5bcdf : w4.frozen? ⟨w.heap.size + 1 + 1, 1, none⟩ = false := (hb4.frozen (p := ⟨w.heap.size + 1 + 1, 1, none⟩) (show w.heap.size + 1 + 1 < _ by omega)).trans e5bcf; have hz4 : w.heap.size + 1 + 1 < w4.heap.size := Nat.lt_of_lt_of_le hz3 hb4.size; clear hb4 hf4 hA4)
     | (go_at_call 136; (with_reducible refine (big_checked true _ _ HA4.out).mono ?_); rintro e w5 ⟨s5, A5, n5, c5, rfl, hA5, hf5, hb5⟩; have HA5 := Lib.hid hA5; have HF5 := Lib.hid (fresh_or hf5 HF4.out); have HB5 := Lib.hid (HB4.out.trans (hb5.mono HB4.out.size)); have e0bcdg : w5.cell? ⟨w.heap.size, 0, none⟩ = some (.int .i64 s) := (hb5.cell (p := ⟨w.heap.size, 0, none⟩) (show w.heap.size < _ by omega)).trans e0bcd; have e1bcdg : w5.cell? ⟨w.heap.size, 1, none⟩ = some (.slice A n c) := (hb5.cell (p := ⟨w.heap.size, 1, none⟩) (show w.heap.size < _ by omega)).trans e1bcd; have e2bcdg : w5.cell? ⟨w.heap.size + 1, 0, none⟩ = some (Value.int .i64 s') := (hb5.cell (p := ⟨w.heap.size + 1, 0, none⟩) (show w.heap.size + 1 < _ by omega)).trans e2bcd; have e3bcdg : w5.cell? ⟨w.heap.size + 1, 1, none⟩ = some (Value.slice A' n' c') := (hb5.cell (p := ⟨w.heap.size + 1, 1, none⟩) (show w.heap.size + 1 < _ by omega)).trans e3bcd; have e4bcdg : w5.cell? ⟨w.heap.size + 1 + 1, 0, none⟩ = some (Value.int .i64 0) := (hb5.cell (p := ⟨w.heap.size + 1 + 1, 0, none⟩) (show w.heap.size + 1 + 1 < _ by omega)).trans e4bcd; have e4bcdgf : w5.frozen? ⟨w.heap.size + 1 + 1, 0, none⟩ = false := (hb5.frozen (p := ⟨w.heap.size + 1 + 1, 0, none⟩) (show w.heap.size + 1 + 1 < _ by omega)).trans e4bcdf; have e5bcdg : w5.cell? ⟨w.heap.size + 1 + 1, 1, none⟩ = some (Value.slice none 0 0) := (hb5.cell (p := ⟨w.heap.size + 1 + 1, 1, none⟩) (show w.heap.size + 1 + 1 < _ by omega)).trans e5bcd; have e5bcdgf : w5.frozen? ⟨w.heap.size + 1 + 1, 1, none⟩ = false := (hb5.frozen (p := ⟨w.heap.size + 1 + 1, 1, none⟩) (show w.heap.size + 1 + 1 < _ by omega)).trans e5bcdf; have hz5 : w.heap.size + 1 + 1 < w5.heap.size := Nat.lt_of_lt_of_le hz4 hb5.size; clear hb5 hf5 hA5))
  clear hw1
  go_wp2
  rw [HN.out]
  have hf : Fresh w2.heap.size A5 := HF5.out
  have hA5 : IsBig (M + M') w5 s5 A5 n5 (ofZ (s * s') (val (natD a.dg) * val (natD b.dg))) := by have := HA5.out; rw [val_dig] at this; exact this
  exact bodyPost_ret (v := .tuple #[.agg #[.int .i64 s5, .slice A5 n5 c5], .int .i64 0]) (by simp [results, Tryz.results142, go_sem, e4bcdg, e5bcdg]) rfl ⟨s5, A5, n5, c5, rfl, (hA5.set_far hf hz2 _).set_far hf hz2 _, hf.low HB2.out.size, (HB5.out.setCell (by simp <;> omega) _).setCell (by simp <;> omega) _⟩
end Go.Proofs.YtaojnjealccjiaaGreatDoor
