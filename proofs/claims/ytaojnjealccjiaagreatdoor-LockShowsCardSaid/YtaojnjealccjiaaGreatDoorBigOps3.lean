/- The contract of big.Compare, of right integers. -/
import Derived.Test.YtaojnjealccjiaaGreatDoorBigOps2
namespace Go.Proofs.YtaojnjealccjiaaGreatDoor
open Go Go.RowKit Bg Go.Proofs
set_option linter.unusedVariables false

def SaysI (z : Int) (w : World) (e : Ending) (w' : World) : Prop := e = .returned (.int .i64 z) ∧ Below w.heap.size w w'
theorem cmp_n {n n' : Nat} (a b : List Nat) (A A' : Option Addr) (c c' : Nat) (w : World) (hn : a.length = n) (hn' : b.length = n') (hca : Canon a) (hcb : Canon b) (ha : Arr w A (a.map nv)) (hb : Arr w A' (b.map nv)) (hl : n ≤ 1000000) (hl' : n' ≤ 1000000) :
    Calls Tryz.prog 141 #[.slice A n c, .slice A' n' c'] w fun e w' => e = .returned (.int .i64 (cmpN (val a) (val b))) ∧ ∃ n, w' = w.drewN n := by
  subst hn hn'
  exact big_compare a b A A' c c' w hca hcb ha hb hl hl'
theorem cmpN_bound (x y : Nat) : -1 ≤ cmpN x y ∧ cmpN x y ≤ 1 := by
  rcases Nat.lt_trichotomy x y with h | h | h
  · rw [cmpN_lt h]; omega
  · rw [cmpN_eq h]; omega
  · rw [cmpN_gt h]; omega

set_option maxRecDepth 100000 in
set_option maxHeartbeats 2000000 in
theorem big_compare_ {M M' n n' : Nat} {s s' : Int} {A A' : Option Addr} {a b : BigV} (c c' : Nat) (w : World) (h : IsBig M w s A n a) (h' : IsBig M' w s' A' n' b) (hra : rightB a = true) (hrb : rightB b = true) (hM : M + M' ≤ 1000000) :
    Calls Tryz.prog 114 #[.agg #[.int .i64 s, .slice A n c], .agg #[.int .i64 s', .slice A' n' c']] w (SaysI (cmpB a b) w) := by
  have hr := fun W (h : IsBig M W s A n a) => right_of c h (by omega)
  have hr' := fun W (h : IsBig M' W s' A' n' b) => right_of c' h (by omega)
  rw [hra] at hr
  rw [hrb] at hr'
  have H := Lib.hid h
  have H' := Lib.hid h'
  have HR := Lib.hid hr
  have HR' := Lib.hid hr'
  have hle := h.le
  have hle' := h'.le
  obtain ⟨p1, p2, p3, p4, p5, p6⟩ := isBig_nat h hra
  obtain ⟨q1, q2, q3, q4, q5, q6⟩ := isBig_nat h' hrb
  have HP := Lib.hid p3
  have HQ := Lib.hid q3
  by_cases hss : s = s'
  · have hzb := cmpN_bound (val (natD a.dg)) (val (natD b.dg))
    have HN := Lib.hid (show cmpB a b = s * cmpN (val (natD a.dg)) (val (natD b.dg)) by unfold cmpB; rw [hra, hrb, h.1, h'.1, if_pos hss]; rfl)
    have hcn := fun W (k : Arr W A ((natD a.dg).map nv)) (k' : Arr W A' ((natD b.dg).map nv)) => cmp_n (n := n) (n' := n') (natD a.dg) (natD b.dg) A A' c c' W p1 q1 p2 q2 k k' (by omega) (by omega)
    generalize cmpN (val (natD a.dg)) (val (natD b.dg)) = z at *
    have HC := Lib.hid hcn
    have hw1 : IntKind.i64.wrap (s * z) = s * z := IntWalk.i64_in _ (sign_bound p4 p5 hzb.1 hzb.2)
    have hne : (s != s') = false := by simpa using hss
    clear hr hr' h h' hra hrb p1 p2 p3 p6 q1 q2 q3 q6 hcn hzb hss
    go_enter Tryz.func114, Tryz.ntmps114
    go_wp2_with fail
    refine (HR.out _ ((H.out.alloc _).alloc _)).mono ?_
    rintro e w1 ⟨rfl, hb1⟩
    have hz1 : w.heap.size + 1 < w1.heap.size := by have := hb1.size; simp at this; omega
    have hbw : Below w.heap.size w w1 := (((Below.refl _ w).alloc (Nat.le_refl _) _).alloc (by simp) _).trans (hb1.mono (by simp <;> omega))
    obtain ⟨hc1, hf1⟩ := bcell hb1
    have e0 : w1.cell? ⟨w.heap.size, 0, none⟩ = some (.int .i64 s) := by rw [hc1 (w.heap.size) 0 (by simp <;> omega)]; simp [go_sem]
    have e1 : w1.cell? ⟨w.heap.size, 1, none⟩ = some (.slice A n c) := by rw [hc1 (w.heap.size) 1 (by simp <;> omega)]; simp [go_sem]
    have e2 : w1.cell? ⟨w.heap.size + 1, 0, none⟩ = some (Value.int .i64 s') := by rw [hc1 (w.heap.size + 1) 0 (by simp <;> omega)]; simp [go_sem]
    have e3 : w1.cell? ⟨w.heap.size + 1, 1, none⟩ = some (Value.slice A' n' c') := by rw [hc1 (w.heap.size + 1) 1 (by simp <;> omega)]; simp [go_sem]
    have HBW := Lib.hid hbw
    clear hb1 hc1 hf1 hbw
    go_wp2_with fail
    refine (HR'.out _ (H'.out.below HBW.out)).mono ?_
    rintro e w2 ⟨rfl, hb2⟩
    have hz2 : w.heap.size + 1 < w2.heap.size := Nat.lt_of_lt_of_le hz1 hb2.size
    have e0b : w2.cell? ⟨w.heap.size, 0, none⟩ = some (.int .i64 s) := (hb2.cell (p := ⟨w.heap.size, 0, none⟩) (show w.heap.size < _ by omega)).trans e0
    have e1b : w2.cell? ⟨w.heap.size, 1, none⟩ = some (.slice A n c) := (hb2.cell (p := ⟨w.heap.size, 1, none⟩) (show w.heap.size < _ by omega)).trans e1
    have e2b : w2.cell? ⟨w.heap.size + 1, 0, none⟩ = some (Value.int .i64 s') := (hb2.cell (p := ⟨w.heap.size + 1, 0, none⟩) (show w.heap.size + 1 < _ by omega)).trans e2
    have e3b : w2.cell? ⟨w.heap.size + 1, 1, none⟩ = some (Value.slice A' n' c') := (hb2.cell (p := ⟨w.heap.size + 1, 1, none⟩) (show w.heap.size + 1 < _ by omega)).trans e3
    have HB2 := Lib.hid (HBW.out.trans (hb2.mono HBW.out.size))
    clear hb2 HBW e0 e1 e2 e3
    go_wp2_with fail
    go_quiet ((go_at_call 141; refine (HC.out _ ((HP.out.below HB2.out).drewN _) ((HQ.out.below HB2.out).drewN _)).mono ?_; rintro e w'' ⟨he, k, hw⟩; exact ⟨he, _, by rw [hw, World.drewN_drewN]⟩))
    go_wp2_with fail
    go_ret
    rw [HN.out]
    exact ⟨rfl, below_drewN HB2.out _⟩
  · have HN := Lib.hid (show cmpB a b = sgn s s' by unfold cmpB; rw [hra, hrb, h.1, h'.1, if_neg hss]; rfl)
    have HC := Lib.hid (fun w => cmp_int s s' w)
    have hne : (s != s') = true := by simpa using hss
    clear hr hr' h h' hra hrb p1 p2 p3 p6 q1 q2 q3 q6 hss
    go_enter Tryz.func114, Tryz.ntmps114
    go_wp2_with fail
    refine (HR.out _ ((H.out.alloc _).alloc _)).mono ?_
    rintro e w1 ⟨rfl, hb1⟩
    have hz1 : w.heap.size + 1 < w1.heap.size := by have := hb1.size; simp at this; omega
    have hbw : Below w.heap.size w w1 := (((Below.refl _ w).alloc (Nat.le_refl _) _).alloc (by simp) _).trans (hb1.mono (by simp <;> omega))
    obtain ⟨hc1, hf1⟩ := bcell hb1
    have e0 : w1.cell? ⟨w.heap.size, 0, none⟩ = some (.int .i64 s) := by rw [hc1 (w.heap.size) 0 (by simp <;> omega)]; simp [go_sem]
    have e1 : w1.cell? ⟨w.heap.size, 1, none⟩ = some (.slice A n c) := by rw [hc1 (w.heap.size) 1 (by simp <;> omega)]; simp [go_sem]
    have e2 : w1.cell? ⟨w.heap.size + 1, 0, none⟩ = some (Value.int .i64 s') := by rw [hc1 (w.heap.size + 1) 0 (by simp <;> omega)]; simp [go_sem]
    have e3 : w1.cell? ⟨w.heap.size + 1, 1, none⟩ = some (Value.slice A' n' c') := by rw [hc1 (w.heap.size + 1) 1 (by simp <;> omega)]; simp [go_sem]
    have HBW := Lib.hid hbw
    clear hb1 hc1 hf1 hbw
    go_wp2_with fail
    refine (HR'.out _ (H'.out.below HBW.out)).mono ?_
    rintro e w2 ⟨rfl, hb2⟩
    have hz2 : w.heap.size + 1 < w2.heap.size := Nat.lt_of_lt_of_le hz1 hb2.size
    have e0b : w2.cell? ⟨w.heap.size, 0, none⟩ = some (.int .i64 s) := (hb2.cell (p := ⟨w.heap.size, 0, none⟩) (show w.heap.size < _ by omega)).trans e0
    have e1b : w2.cell? ⟨w.heap.size, 1, none⟩ = some (.slice A n c) := (hb2.cell (p := ⟨w.heap.size, 1, none⟩) (show w.heap.size < _ by omega)).trans e1
    have e2b : w2.cell? ⟨w.heap.size + 1, 0, none⟩ = some (Value.int .i64 s') := (hb2.cell (p := ⟨w.heap.size + 1, 0, none⟩) (show w.heap.size + 1 < _ by omega)).trans e2
    have e3b : w2.cell? ⟨w.heap.size + 1, 1, none⟩ = some (Value.slice A' n' c') := (hb2.cell (p := ⟨w.heap.size + 1, 1, none⟩) (show w.heap.size + 1 < _ by omega)).trans e3
    have HB2 := Lib.hid (HBW.out.trans (hb2.mono HBW.out.size))
    clear hb2 HBW e0 e1 e2 e3
    go_wp2_with (go_at_call 74; refine (HC.out _).mono ?_; rintro e w' ⟨rfl, rfl⟩)
    go_ret
    rw [HN.out]
    exact ⟨rfl, HB2.out⟩
end Go.Proofs.YtaojnjealccjiaaGreatDoor
