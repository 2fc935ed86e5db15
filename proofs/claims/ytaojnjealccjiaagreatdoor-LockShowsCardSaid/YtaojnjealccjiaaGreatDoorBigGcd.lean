/- The contract of big.Gcd, of right integers. -/
import Derived.Test.YtaojnjealccjiaaGreatDoorBigOps3
import Derived.Deep.LoopGhost
namespace Go.Proofs.YtaojnjealccjiaaGreatDoor
open Go Go.RowKit Bg Go.Proofs
set_option linter.unusedVariables false

/-- a slice of the call's own memory, or of an argument's, that reads as the digits of n -/
theorem div_n {x y M : Nat} {A A' : Option Addr} {c c' : Nat} (w : World) (ha : Arr w A ((dig x).map nv)) (hb : Arr w A' ((dig y).map nv)) (hx : (dig x).length ≤ M) (hy : (dig y).length ≤ M) (hM : M ≤ 400000) (h0 : y ≠ 0) :
    Calls Tryz.prog 138 #[.slice A (dig x).length c, .slice A' (dig y).length c'] w (DivPost x y w) := by
  have := big_div (dig x) (dig y) A A' c c' w (canon_dig x) (canon_dig y) ha hb (by omega) (by omega) (fun e => h0 ((dig_nil_iff y).1 e))
  rw [val_dig, val_dig] at this
  exact this
def Reads0 (w : World) (v : Value) (n : Nat) : Prop := ∃ A c, v = .slice A (dig n).length c ∧ Arr w A ((dig n).map nv)
theorem Reads0.below {w w' : World} {v : Value} {n : Nat} (h : Reads0 w v n) (hb : Below w.heap.size w w') : Reads0 w' v n := by
  obtain ⟨A, c, h1, h2⟩ := h
  exact ⟨A, c, h1, h2.below hb⟩
theorem Reads1.to0 {w : World} {v : Value} {n : Nat} (h : Reads1 w v n) : Reads0 w v n := by
  obtain ⟨A, c, h1, h2, h3⟩ := h
  exact ⟨A, c, h1, h3⟩
def GcdAt (G M : Nat) (w wr : World) (x y : Nat) (v6 v7 : Value) : Prop :=
  Nat.gcd x y = G ∧ (dig x).length ≤ M ∧ (dig y).length ≤ M ∧ Reads0 wr v6 x ∧ Reads0 wr v7 y ∧ Below w.heap.size w wr

set_option maxRecDepth 100000 in
set_option maxHeartbeats 2000000 in
theorem big_gcd {M M' n n' : Nat} {s s' : Int} {A A' : Option Addr} {a b : BigV} (c c' : Nat) (w : World) (h : IsBig M w s A n a) (h' : IsBig M' w s' A' n' b) (hra : rightB a = true) (hrb : rightB b = true) (hM : M + M' ≤ 400000) :
    Calls Tryz.prog 112 #[.agg #[.int .i64 s, .slice A n c], .agg #[.int .i64 s', .slice A' n' c']] w (GivesBE (M + M') (ofZ 1 (Nat.gcd (bval a) (bval b))) 0 w) := by
  have hr := fun W (h : IsBig M W s A n a) => right_of c h (by omega)
  have hr' := fun W (h : IsBig M' W s' A' n' b) => right_of c' h (by omega)
  rw [hra] at hr
  rw [hrb] at hr'
  have H := Lib.hid h
  have H' := Lib.hid h'
  have HR := Lib.hid hr
  have HR' := Lib.hid hr'
  have hle := h.le
  have hle' := h'.le
  obtain ⟨p1, p2, p3, p4, p5, p6⟩ := isBig_nat h hra
  obtain ⟨q1, q2, q3, q4, q5, q6⟩ := isBig_nat h' hrb
  have HK := Lib.hid (fun W (h : Arr W A ((natD a.dg).map nv)) => clone_n (n := n) (natD a.dg) A c W p1 h (by omega))
  have HP := Lib.hid p3
  have HQ := Lib.hid q3
  have hda : natD a.dg = dig (bval a) := canon_eq p2
  have hdb : natD b.dg = dig (bval b) := canon_eq q2
  have HDA := Lib.hid hda
  have HDB := Lib.hid hdb
  have HLA := Lib.hid p1
  have HLB := Lib.hid q1
  clear hr hr' h h' hra hrb p1 p2 p3 p6 q1 q2 q3 q6 hda hdb
  go_enter Tryz.func112, Tryz.ntmps112
  go_wp2_with fail
  refine (HR.out _ (((H.out.alloc _).alloc _).alloc _)).mono ?_
  rintro e w1 ⟨rfl, hb1⟩
  have hz1 : w.heap.size + 1 + 1 < w1.heap.size := by have := hb1.size; simp at this; omega
  have hbw : Below w.heap.size w w1 := ((((Below.refl _ w).alloc (Nat.le_refl _) _).alloc (by simp) _).alloc (by simp <;> omega) _).trans (hb1.mono (by simp <;> omega))
  obtain ⟨hc1, hf1⟩ := bcell hb1
  have e0 : w1.cell? ⟨w.heap.size, 0, none⟩ = some (.int .i64 s) := by rw [hc1 (w.heap.size) 0 (by simp <;> omega)]; simp [go_sem]
  have e1 : w1.cell? ⟨w.heap.size, 1, none⟩ = some (.slice A n c) := by rw [hc1 (w.heap.size) 1 (by simp <;> omega)]; simp [go_sem]
  have e2 : w1.cell? ⟨w.heap.size + 1, 0, none⟩ = some (Value.int .i64 s') := by rw [hc1 (w.heap.size + 1) 0 (by simp <;> omega)]; simp [go_sem]
  have e3 : w1.cell? ⟨w.heap.size + 1, 1, none⟩ = some (Value.slice A' n' c') := by rw [hc1 (w.heap.size + 1) 1 (by simp <;> omega)]; simp [go_sem]
  have e4 : w1.cell? ⟨w.heap.size + 1 + 1, 0, none⟩ = some (Value.int .i64 0) := by rw [hc1 (w.heap.size + 1 + 1) 0 (by simp <;> omega)]; simp [go_sem]
  have e4f : w1.frozen? ⟨w.heap.size + 1 + 1, 0, none⟩ = false := by rw [hf1 (w.heap.size + 1 + 1) 0 (by simp <;> omega)]; simp [go_sem]
  have e5 : w1.cell? ⟨w.heap.size + 1 + 1, 1, none⟩ = some (Value.slice none 0 0) := by rw [hc1 (w.heap.size + 1 + 1) 1 (by simp <;> omega)]; simp [go_sem]
  have e5f : w1.frozen? ⟨w.heap.size + 1 + 1, 1, none⟩ = false := by rw [hf1 (w.heap.size + 1 + 1) 1 (by simp <;> omega)]; simp [go_sem]
  have HBW := Lib.hid hbw
  clear hb1 hc1 hf1 hbw
  go_wp2_with fail
  refine (HR'.out _ (H'.out.below HBW.out)).mono ?_
  rintro e w2 ⟨rfl, hb2⟩
  have hz2 : w.heap.size + 1 + 1 < w2.heap.size := Nat.lt_of_lt_of_le hz1 hb2.size
  have e0b : w2.cell? ⟨w.heap.size, 0, none⟩ = some (.int .i64 s) := (hb2.cell (p := ⟨w.heap.size, 0, none⟩) (show w.heap.size < _ by omega)).trans e0
  have e1b : w2.cell? ⟨w.heap.size, 1, none⟩ = some (.slice A n c) := (hb2.cell (p := ⟨w.heap.size, 1, none⟩) (show w.heap.size < _ by omega)).trans e1
  have e2b : w2.cell? ⟨w.heap.size + 1, 0, none⟩ = some (Value.int .i64 s') := (hb2.cell (p := ⟨w.heap.size + 1, 0, none⟩) (show w.heap.size + 1 < _ by omega)).trans e2
  have e3b : w2.cell? ⟨w.heap.size + 1, 1, none⟩ = some (Value.slice A' n' c') := (hb2.cell (p := ⟨w.heap.size + 1, 1, none⟩) (show w.heap.size + 1 < _ by omega)).trans e3
  have e4b : w2.cell? ⟨w.heap.size + 1 + 1, 0, none⟩ = some (Value.int .i64 0) := (hb2.cell (p := ⟨w.heap.size + 1 + 1, 0, none⟩) (show w.heap.size + 1 + 1 < _ by omega)).trans e4
  have e4bf : w2.frozen? ⟨w.heap.size + 1 + 1, 0, none⟩ = false := (hb2.frozen (p := ⟨w.heap.size + 1 + 1, 0, none⟩) (show w.heap.size + 1 + 1 < _ by omega)).trans e4f
  have e5b : w2.cell? ⟨w.heap.size + 1 + 1, 1, none⟩ = some (Value.slice none 0 0) := (hb2.cell (p := ⟨w.heap.size + 1 + 1, 1, none⟩) (show w.heap.size + 1 + 1 < _ by omega)).trans e5
  have e5bf : w2.frozen? ⟨w.heap.size + 1 + 1, 1, none⟩ = false := (hb2.frozen (p := ⟨w.heap.size + 1 + 1, 1, none⟩) (show w.heap.size + 1 + 1 < _ by omega)).trans e5f
  have HB2 := Lib.hid (HBW.out.trans (hb2.mono HBW.out.size))
  clear hb2 HBW e0 e1 e2 e3 e4 e5 e4f e5f
  go_wp2_with fail
  go_region_held3 (fun w' => w'.cell? ⟨w.heap.size, 0, none⟩ = some (.int .i64 s) ∧ w'.cell? ⟨w.heap.size, 1, none⟩ = some (.slice A n c) ∧ w'.cell? ⟨w.heap.size + 1, 0, none⟩ = some (Value.int .i64 s') ∧ w'.cell? ⟨w.heap.size + 1, 1, none⟩ = some (Value.slice A' n' c')) (go_keep)
    (first
     | (go_at_call 137; (with_reducible refine (HK.out _ (HP.out.below HB2.out).drew).mono ?_); rintro e w3 ⟨A3, c3, rfl, hA3, hl3, hf3, hb3⟩; have HL3 := Lib.hid hl3; have HF3 := Lib.hid hf3; have HA3 := Lib.hid hA3; have HB3 := Lib.hid (HB2.out.trans ((below_dl hb3).mono HB2.out.size)); have e0bc : w3.cell? ⟨w.heap.size, 0, none⟩ = some (.int .i64 s) := ((below_dl hb3).cell (p := ⟨w.heap.size, 0, none⟩) (show w.heap.size < _ by omega)).trans e0b; have e1bc : w3.cell? ⟨w.heap.size, 1, none⟩ = some (.slice A n c) := ((below_dl hb3).cell (p := ⟨w.heap.size, 1, none⟩) (show w.heap.size < _ by omega)).trans e1b; have e2bc : w3.cell? ⟨w.heap.size + 1, 0, none⟩ = some (Value.int .i64 s') := ((below_dl hb3).cell (p := ⟨w.heap.size + 1, 0, none⟩) (show w.heap.size + 1 < _ by omega)).trans e2b; have e3bc : w3.cell? ⟨w.heap.size + 1, 1, none⟩ = some (Value.slice A' n' c') := ((below_dl hb3).cell (p := ⟨w.heap.size + 1, 1, none⟩) (show w.heap.size + 1 < _ by omega)).trans e3b; have e4bc : w3.cell? ⟨w.heap.size + 1 + 1, 0, none⟩ = some (Value.int .i64 0) := ((below_dl hb3).cell (p := ⟨w.heap.size + 1 + 1, 0, none⟩) (show w.heap.size + 1 + 1 < _ by omega)).trans e4b; have e4bcf : w3.frozen? ⟨w.heap.size + 1 + 1, 0, none⟩ = false := ((below_dl hb3).frozen (p := ⟨w.heap.size + 1 + 1, 0, none⟩) (show w.heap.size + 1 + 1 < _ by omega)).trans e4bf; have e5bc : w3.cell? ⟨w.heap.size + 1 + 1, 1, none⟩ = some (Value.slice none 0 0) := ((below_dl hb3).cell (p := ⟨w.heap.size + 1 + 1, 1, none⟩) (show w.heap.size + 1 + 1 < _ by omega)).trans e5b; have e5bcf : w3.frozen? ⟨w.heap.size + 1 + 1, 1, none⟩ = false := ((below_dl hb3).frozen (p := ⟨w.heap.size + 1 + 1, 1, none⟩) (show w.heap.size + 1 + 1 < _ by omega)).trans e5bf; have hz3 : w.heap.size + 1 + 1 < w3.heap.size := Nat.lt_of_lt_of_le hz2 (below_dl hb3).size; clear hb3 hf3 hl3 hA3))
  have hst : GcdAt (Nat.gcd (bval a) (bval b)) (M + M') w3 w3 (bval a) (bval b) (.slice A3 n c3) (.slice A' n' c') := by
    have e1 : (dig (bval a)).length = n := by rw [← HDA.out]; exact HLA.out
    have e2 : (dig (bval b)).length = n' := by rw [← HDB.out]; exact HLB.out
    exact ⟨rfl, by omega, by omega, ⟨A3, c3, by rw [e1], by rw [← HDA.out]; exact HA3.out⟩, ⟨A', c', by rw [e2], by rw [← HDB.out]; exact HQ.out.below HB3.out⟩, Below.refl _ _⟩
  go_wp2_with fail
  clear e0b e1b e2b e3b e4b e5b e4bf e5bf e0bc e1bc e2bc e3bc hz2
  go_loopg [6, 7] (bval b) (fun g v6 v7 wr => ∃ x, GcdAt (Nat.gcd (bval a) (bval b)) (M + M') w3 wr x g v6 v7)
  case atStart => exact ⟨bval a, hst⟩
  case round =>
    clear hst
    obtain ⟨x, hgc, hlx, hly, ⟨A6, c6, rfl, hA6⟩, ⟨A7, c7, rfl, hA7⟩, hbr⟩ := hrel
    have HG := Lib.hid hgc
    have HBR := Lib.hid hbr
    have hzr : w.heap.size + 1 + 1 < wr.heap.size := Nat.lt_of_lt_of_le hz3 hbr.size
    have k4 : wr.cell? ⟨w.heap.size + 1 + 1, 0, none⟩ = some (.int .i64 0) := (hbr.cell (p := ⟨w.heap.size + 1 + 1, 0, none⟩) (show w.heap.size + 1 + 1 < _ by omega)).trans e4bc
    have k5 : wr.cell? ⟨w.heap.size + 1 + 1, 1, none⟩ = some (.slice none 0 0) := (hbr.cell (p := ⟨w.heap.size + 1 + 1, 1, none⟩) (show w.heap.size + 1 + 1 < _ by omega)).trans e5bc
    have k4f : wr.frozen? ⟨w.heap.size + 1 + 1, 0, none⟩ = false := (hbr.frozen (p := ⟨w.heap.size + 1 + 1, 0, none⟩) (show w.heap.size + 1 + 1 < _ by omega)).trans e4bcf
    have k5f : wr.frozen? ⟨w.heap.size + 1 + 1, 1, none⟩ = false := (hbr.frozen (p := ⟨w.heap.size + 1 + 1, 1, none⟩) (show w.heap.size + 1 + 1 < _ by omega)).trans e5bcf
    clear hgc hbr
    by_cases hy : gk = 0
    · have hl0 : ¬ 0 < (dig gk).length := by rw [hy, dig_zero]; simp
      have hgx : Nat.gcd (bval a) (bval b) = x := by rw [← HG.out, hy, Nat.gcd_zero_right]
      have HGX := Lib.hid hgx
      have HC := Lib.hid (clone_n (n := (dig x).length) (dig x) A6 c6 wr rfl hA6 (by omega))
      clear hy hgx
      go_wp2_with fail
      refine HC.out.mono ?_
      rintro e w4 ⟨A8, c8, rfl, hA8, hl8, hf8, hb4⟩
      have HB4 := Lib.hid hb4
      have HF8 := Lib.hid hf8
      have HS := Lib.hid (big_signed (n := (dig x).length) (M + M') 1 (dig x) A8 c8 w4 rfl (Dig_dig x) hA8 hl8 hlx (by omega))
      clear hb4 hf8 HC
      go_wp2_with fail
      refine HS.out.mono ?_
      rintro e w5 ⟨s5, A5, n5, c5, rfl, hA5, hf5, hb5⟩
      have HB5 := Lib.hid (HB4.out.trans (hb5.mono HB4.out.size))
      have HF5 := Lib.hid (fresh_or hf5 HF8.out)
      have HK2 := Lib.hid (big_checked true c5 w5 hA5)
      clear hb5 hf5 HS hA5
      go_wp2_with fail
      refine HK2.out.mono ?_
      rintro e w6 ⟨s6, A9, n6, c9, rfl, hA9, hf9, hb6⟩
      have HB6 := Lib.hid (HB5.out.trans (hb6.mono HB5.out.size))
      have HF9 := Lib.hid (fresh_or hf9 HF5.out)
      have HA9 := Lib.hid hA9
      have m4 : w6.cell? ⟨w.heap.size + 1 + 1, 0, none⟩ = some (.int .i64 0) := (HB6.out.cell (p := ⟨w.heap.size + 1 + 1, 0, none⟩) hzr).trans k4
      have m5 : w6.cell? ⟨w.heap.size + 1 + 1, 1, none⟩ = some (.slice none 0 0) := (HB6.out.cell (p := ⟨w.heap.size + 1 + 1, 1, none⟩) hzr).trans k5
      have m4f : w6.frozen? ⟨w.heap.size + 1 + 1, 0, none⟩ = false := (HB6.out.frozen (p := ⟨w.heap.size + 1 + 1, 0, none⟩) hzr).trans k4f
      have m5f : w6.frozen? ⟨w.heap.size + 1 + 1, 1, none⟩ = false := (HB6.out.frozen (p := ⟨w.heap.size + 1 + 1, 1, none⟩) hzr).trans k5f
      clear hb6 hf9 HK2 hA9 k4 k5 k4f k5f
      go_wp2
      have hf : Fresh wr.heap.size A9 := HF9.out
      have hA : IsBig (M + M') w6 s6 A9 n6 (ofZ 1 (Nat.gcd (bval a) (bval b))) := by have := HA9.out; rw [val_dig] at this; rw [HGX.out]; exact this
      have hbb : Below w.heap.size w w6 := (HB3.out.trans (HBR.out.mono HB3.out.size)).trans (HB6.out.mono (Nat.le_trans HB3.out.size HBR.out.size))
      exact bodyPost_ret (v := .tuple #[.agg #[.int .i64 s6, .slice A9 n6 c9], .int .i64 0]) (by simp [results, Tryz.results112, go_sem, m4, m5]) rfl ⟨s6, A9, n6, c9, rfl, (hA.set_far hf hzr _).set_far hf hzr _, hf.low (Nat.le_trans HB3.out.size HBR.out.size), (hbb.setCell (by simp <;> omega) _).setCell (by simp <;> omega) _⟩
    · have hl0 : 0 < (dig gk).length := List.length_pos_iff.2 (fun e => hy ((dig_nil_iff gk).1 e))
      have HD := Lib.hid (div_n (c := c6) (c' := c7) wr hA6 hA7 hlx hly hM hy)
      have hyp : 0 < gk := by omega
      clear hy
      go_wp2_with fail
      refine HD.out.mono ?_
      rintro e w4 ⟨q, r, rfl, hq, hr, hb4⟩
      have HRR := Lib.hid hr
      have HB4 := Lib.hid hb4
      clear HD hq hr hb4
      go_wp2_with fail
      go_roundg (x % gk)
      case measure => exact Nat.mod_lt _ hyp
      case rel =>
        refine ⟨gk, by rw [gcd_step]; exact HG.out, hly, ?_, ⟨A7, c7, rfl, hA7.below HB4.out⟩, HRR.out.to0, HBR.out.trans (HB4.out.mono HBR.out.size)⟩
        exact Nat.le_trans (dig_len_mono (Nat.le_of_lt (Nat.mod_lt _ hyp))) hly
end Go.Proofs.YtaojnjealccjiaaGreatDoor
