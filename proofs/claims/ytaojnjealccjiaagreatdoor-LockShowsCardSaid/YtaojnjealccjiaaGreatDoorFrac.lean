/- The contracts of frac.one, frac.Right. -/
import Derived.Test.YtaojnjealccjiaaGreatDoorBigInt
namespace Go.Proofs.YtaojnjealccjiaaGreatDoor
open Go Go.RowKit Bg Go.Proofs
set_option linter.unusedVariables false

set_option maxHeartbeats 400000 in
theorem frac_one {M n G : Nat} {s : Int} {A : Option Addr} (c : Nat) (w : World) (h : IsBig M w s A n (ofZ 1 G)) (h0 : G ≠ 0) (hM : M ≤ 1000000) :
    Calls Tryz.prog 113 #[.agg #[.int .i64 s, .slice A n c]] w (SaysB (G == 1) w) := by
  have hs : s = 1 := by rw [← h.1]; unfold ofZ; rw [if_neg h0]
  subst hs
  have hi := fun W (h : IsBig M W 1 A n (ofZ 1 G)) => big_int c W h (rightB_ofZ (.inl rfl)) hM
  rw [bval_ofZ] at hi
  have HI := Lib.hid hi
  have H := Lib.hid h
  clear hi h h0
  go_enter Tryz.func113, Tryz.ntmps113
  go_wp2_with fail
  refine (HI.out _ (H.out.alloc _)).mono ?_
  rintro e w1 ⟨z, ok, rfl, hok, hb1⟩
  have hbw : Below w.heap.size w w1 := ((Below.refl _ w).alloc (Nat.le_refl _) _).trans (hb1.mono (by simp))
  have HO := Lib.hid hok
  clear hb1 hok
  cases ok with
  | true =>
    go_wp2
    go_ret
    exact ⟨ret_bool (by have := HO.out; simpa using this), hbw⟩
  | false =>
    go_wp2
    go_ret
    exact ⟨ret_bool (by have := HO.out; simpa using this), hbw⟩

/-- the cells of a fraction -/
def IsFrac (M : Nat) (w : World) (s : Int) (A : Option Addr) (n : Nat) (t : Int) (B : Option Addr) (m : Nat) (f : FracV) : Prop := IsBig M w s A n f.p ∧ IsBig M w t B m f.q
section
variable {M n m : Nat} {w w' : World} {s t : Int} {A B : Option Addr} {f : FracV}
theorem IsFrac.below (h : IsFrac M w s A n t B m f) (hb : Below w.heap.size w w') : IsFrac M w' s A n t B m f := ⟨h.1.below hb, h.2.below hb⟩
theorem IsFrac.alloc (h : IsFrac M w s A n t B m f) (o : Obj) : IsFrac M (w.alloc o) s A n t B m f := ⟨h.1.alloc o, h.2.alloc o⟩
theorem IsFrac.drew (h : IsFrac M w s A n t B m f) : IsFrac M w.drew s A n t B m f := h
theorem IsFrac.drewN (h : IsFrac M w s A n t B m f) (k : Nat) : IsFrac M (w.drewN k) s A n t B m f := h
end

set_option maxRecDepth 100000 in
set_option maxHeartbeats 2000000 in
theorem frac_right {M n m : Nat} {s t : Int} {A B : Option Addr} {f : FracV} (c d : Nat) (w : World) (h : IsFrac M w s A n t B m f) (hM : M + M ≤ 400000) :
    Calls Tryz.prog 77 #[.agg #[.int .i64 s, .slice A n c, .int .i64 t, .slice B m d]] w (SaysB (rightF f) w) := by
  have hp := fun W (h : IsBig M W s A n f.p) => right_of c h (by omega)
  have hq := fun W (h : IsBig M W t B m f.q) => right_of d h (by omega)
  have H := Lib.hid h
  have ht := h.2.1
  cases hbp : rightB f.p with
  | false =>
    have HN := Lib.hid (show rightF f = false by simp [rightF, hbp])
    rw [hbp] at hp
    have HP := Lib.hid hp
    clear hp hq hbp h ht
    go_enter Tryz.func77, Tryz.ntmps77
    go_wp2_with fail
    refine (HP.out _ (H.out.1.alloc _)).mono ?_
    rintro e w1 ⟨rfl, hb1⟩
    have hbw : Below w.heap.size w w1 := ((Below.refl _ w).alloc (Nat.le_refl _) _).trans (hb1.mono (by simp))
    clear hb1
    go_wp2
    go_ret
    exact ⟨ret_bool HN.out.symm, hbw⟩
  | true =>
    cases hbq : rightB f.q with
    | false =>
      have HN := Lib.hid (show rightF f = false by simp [rightF, hbq])
      rw [hbp] at hp
      rw [hbq] at hq
      have HP := Lib.hid hp
      have HQ := Lib.hid hq
      clear hp hq hbp hbq h ht
      go_enter Tryz.func77, Tryz.ntmps77
      go_wp2_with fail
      refine (HP.out _ (H.out.1.alloc _)).mono ?_
      rintro e w1 ⟨rfl, hb1⟩
      have hbw : Below w.heap.size w w1 := ((Below.refl _ w).alloc (Nat.le_refl _) _).trans (hb1.mono (by simp))
      have e2 : w1.cell? ⟨w.heap.size, 2, none⟩ = some (.int .i64 t) := (hb1.cell (p := ⟨w.heap.size, 2, none⟩) (by simp)).trans (by simp)
      have e3 : w1.cell? ⟨w.heap.size, 3, none⟩ = some (.slice B m d) := (hb1.cell (p := ⟨w.heap.size, 3, none⟩) (by simp)).trans (by simp)
      have HB := Lib.hid hbw
      clear hb1 hbw
      go_wp2_with fail
      refine (HQ.out _ (H.out.2.below HB.out)).mono ?_
      rintro e w2 ⟨rfl, hb2⟩
      have hbw : Below w.heap.size w w2 := HB.out.trans (hb2.mono HB.out.size)
      clear hb2
      go_wp2
      go_ret
      exact ⟨ret_bool HN.out.symm, hbw⟩
    | true =>
      rw [hbp] at hp
      rw [hbq] at hq
      have HP := Lib.hid hp
      have HQ := Lib.hid hq
      have HG := Lib.hid (fun W (k : IsFrac M W s A n t B m f) => big_gcd c d W k.1 k.2 hbp hbq hM)
      by_cases ht1 : t = 1
      · have h0 : Nat.gcd (bval f.p) (bval f.q) ≠ 0 := by
          intro e
          have := Nat.eq_zero_of_gcd_eq_zero_right e
          have := (rightB_zero hbq).1 this
          omega
        have HN := Lib.hid (show rightF f = (Nat.gcd (bval f.p) (bval f.q) == 1) by simp [rightF, hbp, hbq, ht, ht1])
        have hne : (t != 1) = false := by simpa using ht1
        generalize Nat.gcd (bval f.p) (bval f.q) = G at *
        clear hp hq hbp hbq h ht ht1
        go_enter Tryz.func77, Tryz.ntmps77
        go_wp2_with fail
        refine (HP.out _ (H.out.1.alloc _)).mono ?_
        rintro e w1 ⟨rfl, hb1⟩
        have hbw : Below w.heap.size w w1 := ((Below.refl _ w).alloc (Nat.le_refl _) _).trans (hb1.mono (by simp))
        have hz1 : w.heap.size < w1.heap.size := by have := hb1.size; simp at this; omega
        have e0 : w1.cell? ⟨w.heap.size, 0, none⟩ = some (.int .i64 s) := (hb1.cell (p := ⟨w.heap.size, 0, none⟩) (by simp)).trans (by simp)
        have e1 : w1.cell? ⟨w.heap.size, 1, none⟩ = some (.slice A n c) := (hb1.cell (p := ⟨w.heap.size, 1, none⟩) (by simp)).trans (by simp)
        have e2 : w1.cell? ⟨w.heap.size, 2, none⟩ = some (.int .i64 t) := (hb1.cell (p := ⟨w.heap.size, 2, none⟩) (by simp)).trans (by simp)
        have e3 : w1.cell? ⟨w.heap.size, 3, none⟩ = some (.slice B m d) := (hb1.cell (p := ⟨w.heap.size, 3, none⟩) (by simp)).trans (by simp)
        have HB := Lib.hid hbw
        clear hb1 hbw
        go_wp2_with fail
        refine (HQ.out _ (H.out.2.below HB.out)).mono ?_
        rintro e w2 ⟨rfl, hb2⟩
        have k0 := (hb2.cell (p := ⟨w.heap.size, 0, none⟩) hz1).trans e0
        have k1 := (hb2.cell (p := ⟨w.heap.size, 1, none⟩) hz1).trans e1
        have k2 := (hb2.cell (p := ⟨w.heap.size, 2, none⟩) hz1).trans e2
        have k3 := (hb2.cell (p := ⟨w.heap.size, 3, none⟩) hz1).trans e3
        have HB2 := Lib.hid (HB.out.trans (hb2.mono HB.out.size))
        clear hb2 e0 e1 e2 e3
        go_wp2_with fail
        refine (HG.out _ (H.out.below HB2.out)).mono ?_
        rintro e w3 ⟨s3, A3, n3, c3, rfl, hA3, hf3, hb3⟩
        have HB3 := Lib.hid (HB2.out.trans (hb3.mono HB2.out.size))
        have HA3 := Lib.hid hA3
        clear hb3 hf3 hA3 k0 k1 k2 k3
        go_wp2_with fail
        refine (frac_one c3 _ (HA3.out.alloc _) h0 (by omega)).mono ?_
        rintro e w4 ⟨rfl, hb4⟩
        have hbw : Below w.heap.size w w4 := (HB3.out.alloc HB3.out.size _).trans (hb4.mono (by have := HB3.out.size; simp <;> omega))
        clear hb4
        go_wp2
        go_ret
        exact ⟨ret_bool HN.out.symm, hbw⟩
      · have HN := Lib.hid (show rightF f = false by simp [rightF, ht, ht1])
        have hne : (t != 1) = true := by simpa using ht1
        clear hp hq hbp hbq h ht ht1
        go_enter Tryz.func77, Tryz.ntmps77
        go_wp2_with fail
        refine (HP.out _ (H.out.1.alloc _)).mono ?_
        rintro e w1 ⟨rfl, hb1⟩
        have hbw : Below w.heap.size w w1 := ((Below.refl _ w).alloc (Nat.le_refl _) _).trans (hb1.mono (by simp))
        have hz1 : w.heap.size < w1.heap.size := by have := hb1.size; simp at this; omega
        have e2 : w1.cell? ⟨w.heap.size, 2, none⟩ = some (.int .i64 t) := (hb1.cell (p := ⟨w.heap.size, 2, none⟩) (by simp)).trans (by simp)
        have e3 : w1.cell? ⟨w.heap.size, 3, none⟩ = some (.slice B m d) := (hb1.cell (p := ⟨w.heap.size, 3, none⟩) (by simp)).trans (by simp)
        have HB := Lib.hid hbw
        clear hb1 hbw
        go_wp2_with fail
        refine (HQ.out _ (H.out.2.below HB.out)).mono ?_
        rintro e w2 ⟨rfl, hb2⟩
        have k2 := (hb2.cell (p := ⟨w.heap.size, 2, none⟩) hz1).trans e2
        have hbw : Below w.heap.size w w2 := HB.out.trans (hb2.mono HB.out.size)
        clear hb2 e2 e3
        go_wp2
        go_ret
        exact ⟨ret_bool HN.out.symm, hbw⟩
end Go.Proofs.YtaojnjealccjiaaGreatDoor
