/- The contracts of span.Right, span.Same, span.Neg. -/
import Derived.Test.YtaojnjealccjiaaGreatDoorFrac3
namespace Go.Proofs.YtaojnjealccjiaaGreatDoor
open Go Go.RowKit Bg Go.Proofs
set_option linter.unusedVariables false

/-- the cells of a span -/
def IsSpan (M : Nat) (w : World) (s1 : Int) (A1 : Option Addr) (n1 : Nat) (s2 : Int) (A2 : Option Addr) (n2 : Nat) (s3 : Int) (A3 : Option Addr) (n3 : Nat) (s4 : Int) (A4 : Option Addr) (n4 : Nat) (x : SpanV) : Prop :=
  IsFrac M w s1 A1 n1 s2 A2 n2 x.lo ∧ IsFrac M w s3 A3 n3 s4 A4 n4 x.hi
section
variable {M n1 n2 n3 n4 : Nat} {w w' : World} {s1 s2 s3 s4 : Int} {A1 A2 A3 A4 : Option Addr} {x : SpanV}
theorem IsSpan.below (h : IsSpan M w s1 A1 n1 s2 A2 n2 s3 A3 n3 s4 A4 n4 x) (hb : Below w.heap.size w w') : IsSpan M w' s1 A1 n1 s2 A2 n2 s3 A3 n3 s4 A4 n4 x := ⟨h.1.below hb, h.2.below hb⟩
theorem IsSpan.alloc (h : IsSpan M w s1 A1 n1 s2 A2 n2 s3 A3 n3 s4 A4 n4 x) (o : Obj) : IsSpan M (w.alloc o) s1 A1 n1 s2 A2 n2 s3 A3 n3 s4 A4 n4 x := ⟨h.1.alloc o, h.2.alloc o⟩
theorem IsSpan.drew (h : IsSpan M w s1 A1 n1 s2 A2 n2 s3 A3 n3 s4 A4 n4 x) : IsSpan M w.drew s1 A1 n1 s2 A2 n2 s3 A3 n3 s4 A4 n4 x := h
end
set_option maxRecDepth 100000 in
set_option maxHeartbeats 2000000 in
theorem span_right {M : Nat} {nl nlq nh nhq : Nat} {sl slq sh shq : Int} {Al Alq Ah Ahq : Option Addr} {x : SpanV} (cl clq ch chq : Nat) (w : World) (h : IsSpan M w sl Al nl slq Alq nlq sh Ah nh shq Ahq nhq x) (hM : M + M + (M + M) ≤ 400000) :
    Calls Tryz.prog 52 #[.agg #[Value.int .i64 sl, Value.slice Al nl cl, Value.int .i64 slq, Value.slice Alq nlq clq, Value.int .i64 sh, Value.slice Ah nh ch, Value.int .i64 shq, Value.slice Ahq nhq chq]] w (SaysB (rightS x) w) := by
  have h1 := fun W (k : IsSpan M W sl Al nl slq Alq nlq sh Ah nh shq Ahq nhq x) => frac_right cl clq W k.1 (by omega)
  have h2 := fun W (k : IsSpan M W sl Al nl slq Alq nlq sh Ah nh shq Ahq nhq x) => frac_right ch chq W k.2 (by omega)
  have H := Lib.hid h
  cases hl : rightF x.lo with
  | false =>
    have HN := Lib.hid (show rightS x = false by simp [rightS, hl])
    rw [hl] at h1
    have H1 := Lib.hid h1
    clear h h1 h2 hl
    go_enter Tryz.func52, Tryz.ntmps52
    go_wp2_with fail
    refine (H1.out _ (H.out.alloc _)).mono ?_
    rintro e w1 ⟨rfl, hb1⟩
    have hz1 : w.heap.size < w1.heap.size := by have := hb1.size; simp at this; omega
    have hbw : Below w.heap.size w w1 := ((Below.refl _ w).alloc (Nat.le_refl _) _).trans (hb1.mono (by simp))
    have e00 : w1.cell? ⟨w.heap.size, 0, none⟩ = some (Value.int .i64 sl) := (hb1.cell (p := ⟨w.heap.size, 0, none⟩) (by simp <;> omega)).trans (by simp [go_sem])
    have e01 : w1.cell? ⟨w.heap.size, 1, none⟩ = some (Value.slice Al nl cl) := (hb1.cell (p := ⟨w.heap.size, 1, none⟩) (by simp <;> omega)).trans (by simp [go_sem])
    have e02 : w1.cell? ⟨w.heap.size, 2, none⟩ = some (Value.int .i64 slq) := (hb1.cell (p := ⟨w.heap.size, 2, none⟩) (by simp <;> omega)).trans (by simp [go_sem])
    have e03 : w1.cell? ⟨w.heap.size, 3, none⟩ = some (Value.slice Alq nlq clq) := (hb1.cell (p := ⟨w.heap.size, 3, none⟩) (by simp <;> omega)).trans (by simp [go_sem])
    have e04 : w1.cell? ⟨w.heap.size, 4, none⟩ = some (Value.int .i64 sh) := (hb1.cell (p := ⟨w.heap.size, 4, none⟩) (by simp <;> omega)).trans (by simp [go_sem])
    have e05 : w1.cell? ⟨w.heap.size, 5, none⟩ = some (Value.slice Ah nh ch) := (hb1.cell (p := ⟨w.heap.size, 5, none⟩) (by simp <;> omega)).trans (by simp [go_sem])
    have e06 : w1.cell? ⟨w.heap.size, 6, none⟩ = some (Value.int .i64 shq) := (hb1.cell (p := ⟨w.heap.size, 6, none⟩) (by simp <;> omega)).trans (by simp [go_sem])
    have e07 : w1.cell? ⟨w.heap.size, 7, none⟩ = some (Value.slice Ahq nhq chq) := (hb1.cell (p := ⟨w.heap.size, 7, none⟩) (by simp <;> omega)).trans (by simp [go_sem])
    have HB := Lib.hid hbw
    clear hb1 hbw
    go_wp2
    go_ret
    exact ⟨ret_bool HN.out.symm, HB.out⟩
  | true =>
   cases hh : rightF x.hi with
   | false =>
    have HN := Lib.hid (show rightS x = false by simp [rightS, hh])
    rw [hl] at h1
    rw [hh] at h2
    have H1 := Lib.hid h1
    have H2 := Lib.hid h2
    clear h h1 h2 hl hh
    go_enter Tryz.func52, Tryz.ntmps52
    go_wp2_with fail
    refine (H1.out _ (H.out.alloc _)).mono ?_
    rintro e w1 ⟨rfl, hb1⟩
    have hz1 : w.heap.size < w1.heap.size := by have := hb1.size; simp at this; omega
    have hbw : Below w.heap.size w w1 := ((Below.refl _ w).alloc (Nat.le_refl _) _).trans (hb1.mono (by simp))
    have e00 : w1.cell? ⟨w.heap.size, 0, none⟩ = some (Value.int .i64 sl) := (hb1.cell (p := ⟨w.heap.size, 0, none⟩) (by simp <;> omega)).trans (by simp [go_sem])
    have e01 : w1.cell? ⟨w.heap.size, 1, none⟩ = some (Value.slice Al nl cl) := (hb1.cell (p := ⟨w.heap.size, 1, none⟩) (by simp <;> omega)).trans (by simp [go_sem])
    have e02 : w1.cell? ⟨w.heap.size, 2, none⟩ = some (Value.int .i64 slq) := (hb1.cell (p := ⟨w.heap.size, 2, none⟩) (by simp <;> omega)).trans (by simp [go_sem])
    have e03 : w1.cell? ⟨w.heap.size, 3, none⟩ = some (Value.slice Alq nlq clq) := (hb1.cell (p := ⟨w.heap.size, 3, none⟩) (by simp <;> omega)).trans (by simp [go_sem])
    have e04 : w1.cell? ⟨w.heap.size, 4, none⟩ = some (Value.int .i64 sh) := (hb1.cell (p := ⟨w.heap.size, 4, none⟩) (by simp <;> omega)).trans (by simp [go_sem])
    have e05 : w1.cell? ⟨w.heap.size, 5, none⟩ = some (Value.slice Ah nh ch) := (hb1.cell (p := ⟨w.heap.size, 5, none⟩) (by simp <;> omega)).trans (by simp [go_sem])
    have e06 : w1.cell? ⟨w.heap.size, 6, none⟩ = some (Value.int .i64 shq) := (hb1.cell (p := ⟨w.heap.size, 6, none⟩) (by simp <;> omega)).trans (by simp [go_sem])
    have e07 : w1.cell? ⟨w.heap.size, 7, none⟩ = some (Value.slice Ahq nhq chq) := (hb1.cell (p := ⟨w.heap.size, 7, none⟩) (by simp <;> omega)).trans (by simp [go_sem])
    have HB := Lib.hid hbw
    clear hb1 hbw
    go_wp2_with fail
    refine (H2.out _ (H.out.below HB.out)).mono ?_
    rintro e w2 ⟨rfl, hb2⟩
    have HB2 := Lib.hid (HB.out.trans (hb2.mono HB.out.size))
    clear hb2
    go_wp2
    go_ret
    exact ⟨ret_bool HN.out.symm, HB2.out⟩
   | true =>
    have HN := Lib.hid (show rightS x = decide (cmpF x.lo x.hi ≤ 0) by simp [rightS, hl, hh])
    have h3 := fun W (k : IsSpan M W sl Al nl slq Alq nlq sh Ah nh shq Ahq nhq x) => frac_compare cl clq ch chq W k.1 k.2 hl hh hM
    generalize cmpF x.lo x.hi = z at *
    rw [hl] at h1
    rw [hh] at h2
    have H1 := Lib.hid h1
    have H2 := Lib.hid h2
    have H3 := Lib.hid h3
    clear h h1 h2 h3 hl hh
    go_enter Tryz.func52, Tryz.ntmps52
    go_wp2_with fail
    refine (H1.out _ (H.out.alloc _)).mono ?_
    rintro e w1 ⟨rfl, hb1⟩
    have hz1 : w.heap.size < w1.heap.size := by have := hb1.size; simp at this; omega
    have hbw : Below w.heap.size w w1 := ((Below.refl _ w).alloc (Nat.le_refl _) _).trans (hb1.mono (by simp))
    have e00 : w1.cell? ⟨w.heap.size, 0, none⟩ = some (Value.int .i64 sl) := (hb1.cell (p := ⟨w.heap.size, 0, none⟩) (by simp <;> omega)).trans (by simp [go_sem])
    have e01 : w1.cell? ⟨w.heap.size, 1, none⟩ = some (Value.slice Al nl cl) := (hb1.cell (p := ⟨w.heap.size, 1, none⟩) (by simp <;> omega)).trans (by simp [go_sem])
    have e02 : w1.cell? ⟨w.heap.size, 2, none⟩ = some (Value.int .i64 slq) := (hb1.cell (p := ⟨w.heap.size, 2, none⟩) (by simp <;> omega)).trans (by simp [go_sem])
    have e03 : w1.cell? ⟨w.heap.size, 3, none⟩ = some (Value.slice Alq nlq clq) := (hb1.cell (p := ⟨w.heap.size, 3, none⟩) (by simp <;> omega)).trans (by simp [go_sem])
    have e04 : w1.cell? ⟨w.heap.size, 4, none⟩ = some (Value.int .i64 sh) := (hb1.cell (p := ⟨w.heap.size, 4, none⟩) (by simp <;> omega)).trans (by simp [go_sem])
    have e05 : w1.cell? ⟨w.heap.size, 5, none⟩ = some (Value.slice Ah nh ch) := (hb1.cell (p := ⟨w.heap.size, 5, none⟩) (by simp <;> omega)).trans (by simp [go_sem])
    have e06 : w1.cell? ⟨w.heap.size, 6, none⟩ = some (Value.int .i64 shq) := (hb1.cell (p := ⟨w.heap.size, 6, none⟩) (by simp <;> omega)).trans (by simp [go_sem])
    have e07 : w1.cell? ⟨w.heap.size, 7, none⟩ = some (Value.slice Ahq nhq chq) := (hb1.cell (p := ⟨w.heap.size, 7, none⟩) (by simp <;> omega)).trans (by simp [go_sem])
    have HB := Lib.hid hbw
    clear hb1 hbw
    go_wp2_with fail
    refine (H2.out _ (H.out.below HB.out)).mono ?_
    rintro e w2 ⟨rfl, hb2⟩
    have e00b : w2.cell? ⟨w.heap.size, 0, none⟩ = some (Value.int .i64 sl) := (hb2.cell (p := ⟨w.heap.size, 0, none⟩) (show w.heap.size < _ by omega)).trans e00
    have e01b : w2.cell? ⟨w.heap.size, 1, none⟩ = some (Value.slice Al nl cl) := (hb2.cell (p := ⟨w.heap.size, 1, none⟩) (show w.heap.size < _ by omega)).trans e01
    have e02b : w2.cell? ⟨w.heap.size, 2, none⟩ = some (Value.int .i64 slq) := (hb2.cell (p := ⟨w.heap.size, 2, none⟩) (show w.heap.size < _ by omega)).trans e02
    have e03b : w2.cell? ⟨w.heap.size, 3, none⟩ = some (Value.slice Alq nlq clq) := (hb2.cell (p := ⟨w.heap.size, 3, none⟩) (show w.heap.size < _ by omega)).trans e03
    have e04b : w2.cell? ⟨w.heap.size, 4, none⟩ = some (Value.int .i64 sh) := (hb2.cell (p := ⟨w.heap.size, 4, none⟩) (show w.heap.size < _ by omega)).trans e04
    have e05b : w2.cell? ⟨w.heap.size, 5, none⟩ = some (Value.slice Ah nh ch) := (hb2.cell (p := ⟨w.heap.size, 5, none⟩) (show w.heap.size < _ by omega)).trans e05
    have e06b : w2.cell? ⟨w.heap.size, 6, none⟩ = some (Value.int .i64 shq) := (hb2.cell (p := ⟨w.heap.size, 6, none⟩) (show w.heap.size < _ by omega)).trans e06
    have e07b : w2.cell? ⟨w.heap.size, 7, none⟩ = some (Value.slice Ahq nhq chq) := (hb2.cell (p := ⟨w.heap.size, 7, none⟩) (show w.heap.size < _ by omega)).trans e07
    have HB2 := Lib.hid (HB.out.trans (hb2.mono HB.out.size))
    clear hb2 e00 e01 e02 e03 e04 e05 e06 e07
    go_wp2_with fail
    refine (H3.out _ (H.out.below HB2.out)).mono ?_
    rintro e w3 ⟨rfl, hb3⟩
    have HB3 := Lib.hid (HB2.out.trans (hb3.mono HB2.out.size))
    clear hb3
    go_wp2
    go_ret
    exact ⟨ret_bool HN.out.symm, HB3.out⟩
set_option maxRecDepth 100000 in
set_option maxHeartbeats 2000000 in
theorem span_same {M : Nat} {nl nlq nh nhq : Nat} {sl slq sh shq : Int} {Al Alq Ah Ahq : Option Addr} {nl' nlq' nh' nhq' : Nat} {sl' slq' sh' shq' : Int} {Al' Alq' Ah' Ahq' : Option Addr} {x y : SpanV} (cl clq ch chq : Nat) (cl' clq' ch' chq' : Nat) (w : World) (h : IsSpan M w sl Al nl slq Alq nlq sh Ah nh shq Ahq nhq x) (h' : IsSpan M w sl' Al' nl' slq' Alq' nlq' sh' Ah' nh' shq' Ahq' nhq' y) (hM : M + M ≤ 400000) :
    Calls Tryz.prog 28 #[.agg #[Value.int .i64 sl, Value.slice Al nl cl, Value.int .i64 slq, Value.slice Alq nlq clq, Value.int .i64 sh, Value.slice Ah nh ch, Value.int .i64 shq, Value.slice Ahq nhq chq], .agg #[Value.int .i64 sl', Value.slice Al' nl' cl', Value.int .i64 slq', Value.slice Alq' nlq' clq', Value.int .i64 sh', Value.slice Ah' nh' ch', Value.int .i64 shq', Value.slice Ahq' nhq' chq']] w (SaysB (sameS x y) w) := by
  have h1 := fun W (k : IsSpan M W sl Al nl slq Alq nlq sh Ah nh shq Ahq nhq x) (k' : IsSpan M W sl' Al' nl' slq' Alq' nlq' sh' Ah' nh' shq' Ahq' nhq' y) => frac_same cl clq cl' clq' W k.1 k'.1 (by omega)
  have h2 := fun W (k : IsSpan M W sl Al nl slq Alq nlq sh Ah nh shq Ahq nhq x) (k' : IsSpan M W sl' Al' nl' slq' Alq' nlq' sh' Ah' nh' shq' Ahq' nhq' y) => frac_same ch chq ch' chq' W k.2 k'.2 (by omega)
  have H := Lib.hid h
  have H' := Lib.hid h'
  cases hs : sameF x.lo y.lo with
  | true =>
    have HN := Lib.hid (show sameS x y = sameF x.hi y.hi by unfold sameS; rw [hs]; rfl)
    rw [hs] at h1
    have H1 := Lib.hid h1
    have H2 := Lib.hid h2
    generalize sameF x.hi y.hi = r at *
    clear h h' h1 h2 hs
    go_enter Tryz.func28, Tryz.ntmps28
    go_wp2_with fail
    refine (H1.out _ ((H.out.alloc _).alloc _) ((H'.out.alloc _).alloc _)).mono ?_
    rintro e w1 ⟨rfl, hb1⟩
    have hbw : Below w.heap.size w w1 := (((Below.refl _ w).alloc (Nat.le_refl _) _).alloc (by simp <;> omega) _).trans (hb1.mono (by simp <;> omega))
    have e00 : w1.cell? ⟨w.heap.size, 0, none⟩ = some (Value.int .i64 sl) := (hb1.cell (p := ⟨w.heap.size, 0, none⟩) (by simp <;> omega)).trans (by simp [go_sem])
    have e01 : w1.cell? ⟨w.heap.size, 1, none⟩ = some (Value.slice Al nl cl) := (hb1.cell (p := ⟨w.heap.size, 1, none⟩) (by simp <;> omega)).trans (by simp [go_sem])
    have e02 : w1.cell? ⟨w.heap.size, 2, none⟩ = some (Value.int .i64 slq) := (hb1.cell (p := ⟨w.heap.size, 2, none⟩) (by simp <;> omega)).trans (by simp [go_sem])
    have e03 : w1.cell? ⟨w.heap.size, 3, none⟩ = some (Value.slice Alq nlq clq) := (hb1.cell (p := ⟨w.heap.size, 3, none⟩) (by simp <;> omega)).trans (by simp [go_sem])
    have e04 : w1.cell? ⟨w.heap.size, 4, none⟩ = some (Value.int .i64 sh) := (hb1.cell (p := ⟨w.heap.size, 4, none⟩) (by simp <;> omega)).trans (by simp [go_sem])
    have e05 : w1.cell? ⟨w.heap.size, 5, none⟩ = some (Value.slice Ah nh ch) := (hb1.cell (p := ⟨w.heap.size, 5, none⟩) (by simp <;> omega)).trans (by simp [go_sem])
    have e06 : w1.cell? ⟨w.heap.size, 6, none⟩ = some (Value.int .i64 shq) := (hb1.cell (p := ⟨w.heap.size, 6, none⟩) (by simp <;> omega)).trans (by simp [go_sem])
    have e07 : w1.cell? ⟨w.heap.size, 7, none⟩ = some (Value.slice Ahq nhq chq) := (hb1.cell (p := ⟨w.heap.size, 7, none⟩) (by simp <;> omega)).trans (by simp [go_sem])
    have e10 : w1.cell? ⟨w.heap.size + 1, 0, none⟩ = some (Value.int .i64 sl') := (hb1.cell (p := ⟨w.heap.size + 1, 0, none⟩) (by simp <;> omega)).trans (by simp [go_sem])
    have e11 : w1.cell? ⟨w.heap.size + 1, 1, none⟩ = some (Value.slice Al' nl' cl') := (hb1.cell (p := ⟨w.heap.size + 1, 1, none⟩) (by simp <;> omega)).trans (by simp [go_sem])
    have e12 : w1.cell? ⟨w.heap.size + 1, 2, none⟩ = some (Value.int .i64 slq') := (hb1.cell (p := ⟨w.heap.size + 1, 2, none⟩) (by simp <;> omega)).trans (by simp [go_sem])
    have e13 : w1.cell? ⟨w.heap.size + 1, 3, none⟩ = some (Value.slice Alq' nlq' clq') := (hb1.cell (p := ⟨w.heap.size + 1, 3, none⟩) (by simp <;> omega)).trans (by simp [go_sem])
    have e14 : w1.cell? ⟨w.heap.size + 1, 4, none⟩ = some (Value.int .i64 sh') := (hb1.cell (p := ⟨w.heap.size + 1, 4, none⟩) (by simp <;> omega)).trans (by simp [go_sem])
    have e15 : w1.cell? ⟨w.heap.size + 1, 5, none⟩ = some (Value.slice Ah' nh' ch') := (hb1.cell (p := ⟨w.heap.size + 1, 5, none⟩) (by simp <;> omega)).trans (by simp [go_sem])
    have e16 : w1.cell? ⟨w.heap.size + 1, 6, none⟩ = some (Value.int .i64 shq') := (hb1.cell (p := ⟨w.heap.size + 1, 6, none⟩) (by simp <;> omega)).trans (by simp [go_sem])
    have e17 : w1.cell? ⟨w.heap.size + 1, 7, none⟩ = some (Value.slice Ahq' nhq' chq') := (hb1.cell (p := ⟨w.heap.size + 1, 7, none⟩) (by simp <;> omega)).trans (by simp [go_sem])
    have HB := Lib.hid hbw
    clear hb1 hbw
    go_wp2_with fail
    refine (H2.out _ (H.out.below HB.out) (H'.out.below HB.out)).mono ?_
    rintro e w2 ⟨rfl, hb2⟩
    have hbw : Below w.heap.size w w2 := HB.out.trans (hb2.mono HB.out.size)
    clear hb2
    go_wp2
    go_ret
    exact ⟨ret_bool HN.out.symm, hbw⟩
  | false =>
    have HN := Lib.hid (show sameS x y = false by unfold sameS; rw [hs]; rfl)
    rw [hs] at h1
    have H1 := Lib.hid h1
    clear h h' h1 h2 hs
    go_enter Tryz.func28, Tryz.ntmps28
    go_wp2_with fail
    refine (H1.out _ ((H.out.alloc _).alloc _) ((H'.out.alloc _).alloc _)).mono ?_
    rintro e w1 ⟨rfl, hb1⟩
    have hbw : Below w.heap.size w w1 := (((Below.refl _ w).alloc (Nat.le_refl _) _).alloc (by simp <;> omega) _).trans (hb1.mono (by simp <;> omega))
    clear hb1
    go_wp2
    go_ret
    exact ⟨ret_bool HN.out.symm, hbw⟩

def GivesS8 (M : Nat) (x : SpanV) (w : World) (e : Ending) (w' : World) : Prop := ∃ s1 A1 n1 c1 s2 A2 n2 c2 s3 A3 n3 c3 s4 A4 n4 c4, e = .returned (.agg #[.int .i64 s1, .slice A1 n1 c1, .int .i64 s2, .slice A2 n2 c2, .int .i64 s3, .slice A3 n3 c3, .int .i64 s4, .slice A4 n4 c4]) ∧ IsSpan M w' s1 A1 n1 s2 A2 n2 s3 A3 n3 s4 A4 n4 x ∧ (Fresh w.heap.size A1 ∧ Fresh w.heap.size A2 ∧ Fresh w.heap.size A3 ∧ Fresh w.heap.size A4) ∧ Below w.heap.size w w'
set_option maxRecDepth 100000 in
set_option maxHeartbeats 2000000 in
theorem span_neg {M : Nat} {nl nlq nh nhq : Nat} {sl slq sh shq : Int} {Al Alq Ah Ahq : Option Addr} {x : SpanV} (cl clq ch chq : Nat) (w : World) (h : IsSpan M w sl Al nl slq Alq nlq sh Ah nh shq Ahq nhq x) (hx : rightS x = true) (hM : M + M + (M + M) ≤ 400000) :
    Calls Tryz.prog 54 #[.agg #[Value.int .i64 sl, Value.slice Al nl cl, Value.int .i64 slq, Value.slice Alq nlq clq, Value.int .i64 sh, Value.slice Ah nh ch, Value.int .i64 shq, Value.slice Ahq nhq chq]] w (GivesS8 M (negS x) w) := by
  have h1 := fun W (k : IsSpan M W sl Al nl slq Alq nlq sh Ah nh shq Ahq nhq x) => span_right cl clq ch chq W k hM
  have HN := Lib.hid (show negS x = ⟨negF x.hi, negF x.lo⟩ by unfold negS; rw [hx]; rfl)
  rw [hx] at h1
  have hlo : rightF x.lo = true := by simp [rightS] at hx; exact hx.1.1
  have hhi : rightF x.hi = true := by simp [rightS] at hx; exact hx.1.2
  have H := Lib.hid h
  have H1 := Lib.hid h1
  have HT1 := Lib.hid (fun W (k : IsSpan M W sl Al nl slq Alq nlq sh Ah nh shq Ahq nhq x) => frac_neg ch chq W k.2 hhi (by omega))
  have HT2 := Lib.hid (fun W (k : IsSpan M W sl Al nl slq Alq nlq sh Ah nh shq Ahq nhq x) => frac_neg cl clq W k.1 hlo (by omega))
  clear h h1 hx hlo hhi
  go_enter Tryz.func54, Tryz.ntmps54
  go_wp2_with fail
  refine (H1.out _ ((H.out.alloc _).alloc _)).mono ?_
  rintro e w1 ⟨rfl, hb1⟩
  have hz1 : w.heap.size + 1 < w1.heap.size := by have := hb1.size; simp at this; omega
  have hbw : Below w.heap.size w w1 := (((Below.refl _ w).alloc (Nat.le_refl _) _).alloc (by simp <;> omega) _).trans (hb1.mono (by simp <;> omega))
  have e00 : w1.cell? ⟨w.heap.size, 0, none⟩ = some (Value.int .i64 sl) := (hb1.cell (p := ⟨w.heap.size, 0, none⟩) (by simp <;> omega)).trans (by simp [go_sem])
  have e01 : w1.cell? ⟨w.heap.size, 1, none⟩ = some (Value.slice Al nl cl) := (hb1.cell (p := ⟨w.heap.size, 1, none⟩) (by simp <;> omega)).trans (by simp [go_sem])
  have e02 : w1.cell? ⟨w.heap.size, 2, none⟩ = some (Value.int .i64 slq) := (hb1.cell (p := ⟨w.heap.size, 2, none⟩) (by simp <;> omega)).trans (by simp [go_sem])
  have e03 : w1.cell? ⟨w.heap.size, 3, none⟩ = some (Value.slice Alq nlq clq) := (hb1.cell (p := ⟨w.heap.size, 3, none⟩) (by simp <;> omega)).trans (by simp [go_sem])
  have e04 : w1.cell? ⟨w.heap.size, 4, none⟩ = some (Value.int .i64 sh) := (hb1.cell (p := ⟨w.heap.size, 4, none⟩) (by simp <;> omega)).trans (by simp [go_sem])
  have e05 : w1.cell? ⟨w.heap.size, 5, none⟩ = some (Value.slice Ah nh ch) := (hb1.cell (p := ⟨w.heap.size, 5, none⟩) (by simp <;> omega)).trans (by simp [go_sem])
  have e06 : w1.cell? ⟨w.heap.size, 6, none⟩ = some (Value.int .i64 shq) := (hb1.cell (p := ⟨w.heap.size, 6, none⟩) (by simp <;> omega)).trans (by simp [go_sem])
  have e07 : w1.cell? ⟨w.heap.size, 7, none⟩ = some (Value.slice Ahq nhq chq) := (hb1.cell (p := ⟨w.heap.size, 7, none⟩) (by simp <;> omega)).trans (by simp [go_sem])
  have e10 : w1.cell? ⟨w.heap.size + 1, 0, none⟩ = some (Value.int .i64 0) := (hb1.cell (p := ⟨w.heap.size + 1, 0, none⟩) (by simp <;> omega)).trans (by simp [go_sem])
  have e10f : w1.frozen? ⟨w.heap.size + 1, 0, none⟩ = false := (hb1.frozen (p := ⟨w.heap.size + 1, 0, none⟩) (by simp <;> omega)).trans (by simp [go_sem])
  have e11 : w1.cell? ⟨w.heap.size + 1, 1, none⟩ = some (Value.slice none 0 0) := (hb1.cell (p := ⟨w.heap.size + 1, 1, none⟩) (by simp <;> omega)).trans (by simp [go_sem])
  have e11f : w1.frozen? ⟨w.heap.size + 1, 1, none⟩ = false := (hb1.frozen (p := ⟨w.heap.size + 1, 1, none⟩) (by simp <;> omega)).trans (by simp [go_sem])
  have e12 : w1.cell? ⟨w.heap.size + 1, 2, none⟩ = some (Value.int .i64 0) := (hb1.cell (p := ⟨w.heap.size + 1, 2, none⟩) (by simp <;> omega)).trans (by simp [go_sem])
  have e12f : w1.frozen? ⟨w.heap.size + 1, 2, none⟩ = false := (hb1.frozen (p := ⟨w.heap.size + 1, 2, none⟩) (by simp <;> omega)).trans (by simp [go_sem])
  have e13 : w1.cell? ⟨w.heap.size + 1, 3, none⟩ = some (Value.slice none 0 0) := (hb1.cell (p := ⟨w.heap.size + 1, 3, none⟩) (by simp <;> omega)).trans (by simp [go_sem])
  have e13f : w1.frozen? ⟨w.heap.size + 1, 3, none⟩ = false := (hb1.frozen (p := ⟨w.heap.size + 1, 3, none⟩) (by simp <;> omega)).trans (by simp [go_sem])
  have e14 : w1.cell? ⟨w.heap.size + 1, 4, none⟩ = some (Value.int .i64 0) := (hb1.cell (p := ⟨w.heap.size + 1, 4, none⟩) (by simp <;> omega)).trans (by simp [go_sem])
  have e14f : w1.frozen? ⟨w.heap.size + 1, 4, none⟩ = false := (hb1.frozen (p := ⟨w.heap.size + 1, 4, none⟩) (by simp <;> omega)).trans (by simp [go_sem])
  have e15 : w1.cell? ⟨w.heap.size + 1, 5, none⟩ = some (Value.slice none 0 0) := (hb1.cell (p := ⟨w.heap.size + 1, 5, none⟩) (by simp <;> omega)).trans (by simp [go_sem])
  have e15f : w1.frozen? ⟨w.heap.size + 1, 5, none⟩ = false := (hb1.frozen (p := ⟨w.heap.size + 1, 5, none⟩) (by simp <;> omega)).trans (by simp [go_sem])
  have e16 : w1.cell? ⟨w.heap.size + 1, 6, none⟩ = some (Value.int .i64 0) := (hb1.cell (p := ⟨w.heap.size + 1, 6, none⟩) (by simp <;> omega)).trans (by simp [go_sem])
  have e16f : w1.frozen? ⟨w.heap.size + 1, 6, none⟩ = false := (hb1.frozen (p := ⟨w.heap.size + 1, 6, none⟩) (by simp <;> omega)).trans (by simp [go_sem])
  have e17 : w1.cell? ⟨w.heap.size + 1, 7, none⟩ = some (Value.slice none 0 0) := (hb1.cell (p := ⟨w.heap.size + 1, 7, none⟩) (by simp <;> omega)).trans (by simp [go_sem])
  have e17f : w1.frozen? ⟨w.heap.size + 1, 7, none⟩ = false := (hb1.frozen (p := ⟨w.heap.size + 1, 7, none⟩) (by simp <;> omega)).trans (by simp [go_sem])
  have HB := Lib.hid hbw
  clear hb1 hbw
  go_wp2_with fail
  go_region_held3 (fun w' => w'.cell? ⟨w.heap.size, 0, none⟩ = some (Value.int .i64 sl) ∧ w'.cell? ⟨w.heap.size, 1, none⟩ = some (Value.slice Al nl cl) ∧ w'.cell? ⟨w.heap.size, 2, none⟩ = some (Value.int .i64 slq) ∧ w'.cell? ⟨w.heap.size, 3, none⟩ = some (Value.slice Alq nlq clq) ∧ w'.cell? ⟨w.heap.size, 4, none⟩ = some (Value.int .i64 sh) ∧ w'.cell? ⟨w.heap.size, 5, none⟩ = some (Value.slice Ah nh ch) ∧ w'.cell? ⟨w.heap.size, 6, none⟩ = some (Value.int .i64 shq) ∧ w'.cell? ⟨w.heap.size, 7, none⟩ = some (Value.slice Ahq nhq chq)) (go_keep)
    (first
     | (go_at_call 80; (with_reducible refine (HT1.out _ (H.out.below HB.out).drew).mono ?_); rintro e w3 ⟨s3, A3, n3, c3, t3, B3, m3, d3, rfl, hA3, hf3, hb3⟩; have HA3 := Lib.hid hA3; have HF3 := Lib.hid hf3; have HB3 := Lib.hid (HB.out.trans ((below_dl hb3).mono HB.out.size)); have e00c : w3.cell? ⟨w.heap.size, 0, none⟩ = some (Value.int .i64 sl) := ((below_dl hb3).cell (p := ⟨w.heap.size, 0, none⟩) (show w.heap.size < _ by omega)).trans e00; have e01c : w3.cell? ⟨w.heap.size, 1, none⟩ = some (Value.slice Al nl cl) := ((below_dl hb3).cell (p := ⟨w.heap.size, 1, none⟩) (show w.heap.size < _ by omega)).trans e01; have e02c : w3.cell? ⟨w.heap.size, 2, none⟩ = some (Value.int .i64 slq) := ((below_dl hb3).cell (p := ⟨w.heap.size, 2, none⟩) (show w.heap.size < _ by omega)).trans e02; have e03c : w3.cell? ⟨w.heap.size, 3, none⟩ = some (Value.slice Alq nlq clq) := ((below_dl hb3).cell (p := ⟨w.heap.size, 3, none⟩) (show w.heap.size < _ by omega)).trans e03; have e04c : w3.cell? ⟨w.heap.size, 4, none⟩ = some (Value.int .i64 sh) := ((below_dl hb3).cell (p := ⟨w.heap.size, 4, none⟩) (show w.heap.size < _ by omega)).trans e04; have e05c : w3.cell? ⟨w.heap.size, 5, none⟩ = some (Value.slice Ah nh ch) := ((below_dl hb3).cell (p := ⟨w.heap.size, 5, none⟩) (show w.heap.size < _ by omega)).trans e05; have e06c : w3.cell? ⟨w.heap.size, 6, none⟩ = some (Value.int .i64 shq) := ((below_dl hb3).cell (p := ⟨w.heap.size, 6, none⟩) (show w.heap.size < _ by omega)).trans e06; have e07c : w3.cell? ⟨w.heap.size, 7, none⟩ = some (Value.slice Ahq nhq chq) := ((below_dl hb3).cell (p := ⟨w.heap.size, 7, none⟩) (show w.heap.size < _ by omega)).trans e07; have e10c : w3.cell? ⟨w.heap.size + 1, 0, none⟩ = some (Value.int .i64 0) := ((below_dl hb3).cell (p := ⟨w.heap.size + 1, 0, none⟩) (show w.heap.size + 1 < _ by omega)).trans e10; have e10cf : w3.frozen? ⟨w.heap.size + 1, 0, none⟩ = false := ((below_dl hb3).frozen (p := ⟨w.heap.size + 1, 0, none⟩) (show w.heap.size + 1 < _ by omega)).trans e10f; have e11c : w3.cell? ⟨w.heap.size + 1, 1, none⟩ = some (Value.slice none 0 0) := ((below_dl hb3).cell (p := ⟨w.heap.size + 1, 1, none⟩) (show w.heap.size + 1 < _ by omega)).trans e11; have e11cf : w3.frozen? ⟨w.heap.size + 1, 1, none⟩ = false := ((below_dl hb3).frozen (p := ⟨w.heap.size + 1, 1, none⟩) (show w.heap.size + 1 < _ by omega)).trans e11f; have e12c : w3.cell? ⟨w.heap.size + 1, 2, none⟩ = some (Value.int .i64 0) := ((below_dl hb3).cell (p := ⟨w.heap.size + 1, 2, none⟩) (show w.heap.size + 1 < _ by omega)).trans e12; have e12cf : w3.frozen? ⟨w.heap.size + 1, 2, none⟩ = false := ((below_dl hb3).frozen (p := ⟨w.heap.size + 1, 2, none⟩) (show w.heap.size + 1 < _ by omega)).trans e12f; have e13c : w3.cell? ⟨w.heap.size + 1, 3, none⟩ = some (Value.slice none 0 0) := ((below_dl hb3).cell (p := ⟨w.heap.size + 1, 3, none⟩) (show w.heap.size + 1 < _ by omega)).trans e13; have e13cf : w3.frozen? ⟨w.heap.size + 1, 3, none⟩ = false := ((below_dl hb3).frozen (p := ⟨w.heap.size + 1, 3, none⟩) (show w.heap.size + 1 < _ by omega)).trans e13f; have e14c : w3.cell? ⟨w.heap.size + 1, 4, none⟩ = some (Value.int .i64 0) := ((below_dl hb3).cell (p := ⟨w.heap.size + 1, 4, none⟩) (show w.heap.size + 1 < _ by omega)).trans e14; have e14cf : w3.frozen? ⟨w.heap.size + 1, 4, none⟩ = false := ((below_dl hb3).frozen (p := ⟨w.heap.size + 1, 4, none⟩) (show w.heap.size + 1 < _ by omega)).trans e14f; have e15c : w3.cell? ⟨w.heap.size + 1, 5, none⟩ = some (Value.slice none 0 0) := ((below_dl hb3).cell (p := ⟨w.heap.size + 1, 5, none⟩) (show w.heap.size + 1 < _ by omega)).trans e15; have e15cf : w3.frozen? ⟨w.heap.size + 1, 5, none⟩ = false := ((below_dl hb3).frozen (p := ⟨w.heap.size + 1, 5, none⟩) (show w.heap.size + 1 < _ by omega)).trans e15f; have e16c : w3.cell? ⟨w.heap.size + 1, 6, none⟩ = some (Value.int .i64 0) := ((below_dl hb3).cell (p := ⟨w.heap.size + 1, 6, none⟩) (show w.heap.size + 1 < _ by omega)).trans e16; have e16cf : w3.frozen? ⟨w.heap.size + 1, 6, none⟩ = false := ((below_dl hb3).frozen (p := ⟨w.heap.size + 1, 6, none⟩) (show w.heap.size + 1 < _ by omega)).trans e16f; have e17c : w3.cell? ⟨w.heap.size + 1, 7, none⟩ = some (Value.slice none 0 0) := ((below_dl hb3).cell (p := ⟨w.heap.size + 1, 7, none⟩) (show w.heap.size + 1 < _ by omega)).trans e17; have e17cf : w3.frozen? ⟨w.heap.size + 1, 7, none⟩ = false := ((below_dl hb3).frozen (p := ⟨w.heap.size + 1, 7, none⟩) (show w.heap.size + 1 < _ by omega)).trans e17f; have hz3 : w.heap.size + 1 < w3.heap.size := Nat.lt_of_lt_of_le hz1 (below_dl hb3).size; have HSZ := Lib.hid (below_dl hb3).size; clear hb3 hf3 hA3)
     | (go_at_call 80; (with_reducible refine (HT2.out _ (H.out.below HB3.out)).mono ?_); rintro e w4 ⟨s4, A4, n4, c4, t4, B4, m4, d4, rfl, hA4, hf4, hb4⟩; have HA4 := Lib.hid hA4; have HF4 := Lib.hid hf4; have HA3b := Lib.hid (HA3.out.below hb4); have HB4 := Lib.hid (HB3.out.trans (hb4.mono HB3.out.size)); have e00cd : w4.cell? ⟨w.heap.size, 0, none⟩ = some (Value.int .i64 sl) := (hb4.cell (p := ⟨w.heap.size, 0, none⟩) (show w.heap.size < _ by omega)).trans e00c; have e01cd : w4.cell? ⟨w.heap.size, 1, none⟩ = some (Value.slice Al nl cl) := (hb4.cell (p := ⟨w.heap.size, 1, none⟩) (show w.heap.size < _ by omega)).trans e01c; have e02cd : w4.cell? ⟨w.heap.size, 2, none⟩ = some (Value.int .i64 slq) := (hb4.cell (p := ⟨w.heap.size, 2, none⟩) (show w.heap.size < _ by omega)).trans e02c; have e03cd : w4.cell? ⟨w.heap.size, 3, none⟩ = some (Value.slice Alq nlq clq) := (hb4.cell (p := ⟨w.heap.size, 3, none⟩) (show w.heap.size < _ by omega)).trans e03c; have e04cd : w4.cell? ⟨w.heap.size, 4, none⟩ = some (Value.int .i64 sh) := (hb4.cell (p := ⟨w.heap.size, 4, none⟩) (show w.heap.size < _ by omega)).trans e04c; have e05cd : w4.cell? ⟨w.heap.size, 5, none⟩ = some (Value.slice Ah nh ch) := (hb4.cell (p := ⟨w.heap.size, 5, none⟩) (show w.heap.size < _ by omega)).trans e05c; have e06cd : w4.cell? ⟨w.heap.size, 6, none⟩ = some (Value.int .i64 shq) := (hb4.cell (p := ⟨w.heap.size, 6, none⟩) (show w.heap.size < _ by omega)).trans e06c; have e07cd : w4.cell? ⟨w.heap.size, 7, none⟩ = some (Value.slice Ahq nhq chq) := (hb4.cell (p := ⟨w.heap.size, 7, none⟩) (show w.heap.size < _ by omega)).trans e07c; have e10cd : w4.cell? ⟨w.heap.size + 1, 0, none⟩ = some (Value.int .i64 0) := (hb4.cell (p := ⟨w.heap.size + 1, 0, none⟩) (show w.heap.size + 1 < _ by omega)).trans e10c; have e10cdf : w4.frozen? ⟨w.heap.size + 1, 0, none⟩ = false := (hb4.frozen (p := ⟨w.heap.size + 1, 0, none⟩) (show w.heap.size + 1 < _ by omega)).trans e10cf; have e11cd : w4.cell? ⟨w.heap.size + 1, 1, none⟩ = some (Value.slice none 0 0) := (hb4.cell (p := ⟨w.heap.size + 1, 1, none⟩) (show w.heap.size + 1 < _ by omega)).trans e11c; have e11cdf : w4.frozen? ⟨w.heap.size + 1, 1, none⟩ = false := (hb4.frozen (p := ⟨w.heap.size + 1, 1, none⟩) (show w.heap.size + 1 < _ by omega)).trans e11cf; have e12cd : w4.cell? ⟨w.heap.size + 1, 2, none⟩ = some (Value.int .i64 0) := (hb4.cell (p := ⟨w.heap.size + 1, 2, none⟩) (show w.heap.size + 1 < _ by omega)).trans e12c; have e12cdf : w4.frozen? ⟨w.heap.size + 1, 2, none⟩ = false := (hb4.frozen (p := ⟨w.heap.size + 1, 2, none⟩) (show w.heap.size + 1 < _ by omega)).trans e12cf; have e13cd : w4.cell? ⟨w.heap.size + 1, 3, none⟩ = some (Value.slice none 0 0) := (hb4.cell (p := ⟨w.heap.size + 1, 3, none⟩) (show w.heap.size + 1 < _ by omega)).trans e13c; have e13cdf : w4.frozen? ⟨w.heap.size + 1, 3, none⟩ = false := (hb4.frozen (p := ⟨w.heap.size + 1, 3, none⟩) (show w.heap.size + 1 < _ by omega)).trans e13cf; have e14cd : w4.cell? ⟨w.heap.size + 1, 4, none⟩ = some (Value.int .i64 0) := (hb4.cell (p := ⟨w.heap.size + 1, 4, none⟩) (show w.heap.size + 1 < _ by omega)).trans e14c; have e14cdf : w4.frozen? ⟨w.heap.size + 1, 4, none⟩ = false := (hb4.frozen (p := ⟨w.heap.size + 1, 4, none⟩) (show w.heap.size + 1 < _ by omega)).trans e14cf; have e15cd : w4.cell? ⟨w.heap.size + 1, 5, none⟩ = some (Value.slice none 0 0) := (hb4.cell (p := ⟨w.heap.size + 1, 5, none⟩) (show w.heap.size + 1 < _ by omega)).trans e15c; have e15cdf : w4.frozen? ⟨w.heap.size + 1, 5, none⟩ = false := (hb4.frozen (p := ⟨w.heap.size + 1, 5, none⟩) (show w.heap.size + 1 < _ by omega)).trans e15cf; have e16cd : w4.cell? ⟨w.heap.size + 1, 6, none⟩ = some (Value.int .i64 0) := (hb4.cell (p := ⟨w.heap.size + 1, 6, none⟩) (show w.heap.size + 1 < _ by omega)).trans e16c; have e16cdf : w4.frozen? ⟨w.heap.size + 1, 6, none⟩ = false := (hb4.frozen (p := ⟨w.heap.size + 1, 6, none⟩) (show w.heap.size + 1 < _ by omega)).trans e16cf; have e17cd : w4.cell? ⟨w.heap.size + 1, 7, none⟩ = some (Value.slice none 0 0) := (hb4.cell (p := ⟨w.heap.size + 1, 7, none⟩) (show w.heap.size + 1 < _ by omega)).trans e17c; have e17cdf : w4.frozen? ⟨w.heap.size + 1, 7, none⟩ = false := (hb4.frozen (p := ⟨w.heap.size + 1, 7, none⟩) (show w.heap.size + 1 < _ by omega)).trans e17cf; have hz4 : w.heap.size + 1 < w4.heap.size := Nat.lt_of_lt_of_le hz3 hb4.size; clear hb4 hf4 hA4))
  go_wp2
  rw [HN.out]
  have hs3 : w1.heap.size ≤ w3.heap.size := HSZ.out
  have fa3 : Fresh w1.heap.size A3 := HF3.out.1
  have fb3 : Fresh w1.heap.size B3 := HF3.out.2
  have fa4 : Fresh w1.heap.size A4 := HF4.out.1.low hs3
  have fb4 : Fresh w1.heap.size B4 := HF4.out.2.low hs3
  have hb9 := ((((((((((((((((HB4.out).setCell (p := ⟨w.heap.size + 1, 0, none⟩) (show w.heap.size ≤ w.heap.size + 1 by omega) (.int .i64 s3))).setCell (p := ⟨w.heap.size + 1, 1, none⟩) (show w.heap.size ≤ w.heap.size + 1 by omega) (.slice A3 n3 c3))).setCell (p := ⟨w.heap.size + 1, 2, none⟩) (show w.heap.size ≤ w.heap.size + 1 by omega) (.int .i64 t3))).setCell (p := ⟨w.heap.size + 1, 3, none⟩) (show w.heap.size ≤ w.heap.size + 1 by omega) (.slice B3 m3 d3))).setCell (p := ⟨w.heap.size + 1, 4, none⟩) (show w.heap.size ≤ w.heap.size + 1 by omega) (.int .i64 s4))).setCell (p := ⟨w.heap.size + 1, 5, none⟩) (show w.heap.size ≤ w.heap.size + 1 by omega) (.slice A4 n4 c4))).setCell (p := ⟨w.heap.size + 1, 6, none⟩) (show w.heap.size ≤ w.heap.size + 1 by omega) (.int .i64 t4))).setCell (p := ⟨w.heap.size + 1, 7, none⟩) (show w.heap.size ≤ w.heap.size + 1 by omega) (.slice B4 m4 d4))
  exact bodyPost_ret (v := .agg #[.int .i64 s3, .slice A3 n3 c3, .int .i64 t3, .slice B3 m3 d3, .int .i64 s4, .slice A4 n4 c4, .int .i64 t4, .slice B4 m4 d4]) (by simp [results, Tryz.results54, go_sem, e10cd, e11cd, e12cd, e13cd, e14cd, e15cd, e16cd, e17cd]) rfl ⟨s3, A3, n3, c3, t3, B3, m3, d3, s4, A4, n4, c4, t4, B4, m4, d4, rfl, ⟨⟨((((((((((((((((HA3b.out.1).set_far (i := 0) fa3 hz1 (.int .i64 s3))).set_far (i := 1) fa3 hz1 (.slice A3 n3 c3))).set_far (i := 2) fa3 hz1 (.int .i64 t3))).set_far (i := 3) fa3 hz1 (.slice B3 m3 d3))).set_far (i := 4) fa3 hz1 (.int .i64 s4))).set_far (i := 5) fa3 hz1 (.slice A4 n4 c4))).set_far (i := 6) fa3 hz1 (.int .i64 t4))).set_far (i := 7) fa3 hz1 (.slice B4 m4 d4)), ((((((((((((((((HA3b.out.2).set_far (i := 0) fb3 hz1 (.int .i64 s3))).set_far (i := 1) fb3 hz1 (.slice A3 n3 c3))).set_far (i := 2) fb3 hz1 (.int .i64 t3))).set_far (i := 3) fb3 hz1 (.slice B3 m3 d3))).set_far (i := 4) fb3 hz1 (.int .i64 s4))).set_far (i := 5) fb3 hz1 (.slice A4 n4 c4))).set_far (i := 6) fb3 hz1 (.int .i64 t4))).set_far (i := 7) fb3 hz1 (.slice B4 m4 d4))⟩, ⟨((((((((((((((((HA4.out.1).set_far (i := 0) fa4 hz1 (.int .i64 s3))).set_far (i := 1) fa4 hz1 (.slice A3 n3 c3))).set_far (i := 2) fa4 hz1 (.int .i64 t3))).set_far (i := 3) fa4 hz1 (.slice B3 m3 d3))).set_far (i := 4) fa4 hz1 (.int .i64 s4))).set_far (i := 5) fa4 hz1 (.slice A4 n4 c4))).set_far (i := 6) fa4 hz1 (.int .i64 t4))).set_far (i := 7) fa4 hz1 (.slice B4 m4 d4)), ((((((((((((((((HA4.out.2).set_far (i := 0) fb4 hz1 (.int .i64 s3))).set_far (i := 1) fb4 hz1 (.slice A3 n3 c3))).set_far (i := 2) fb4 hz1 (.int .i64 t3))).set_far (i := 3) fb4 hz1 (.slice B3 m3 d3))).set_far (i := 4) fb4 hz1 (.int .i64 s4))).set_far (i := 5) fb4 hz1 (.slice A4 n4 c4))).set_far (i := 6) fb4 hz1 (.int .i64 t4))).set_far (i := 7) fb4 hz1 (.slice B4 m4 d4))⟩⟩, ⟨fa3.low HB.out.size, fb3.low HB.out.size, fa4.low HB.out.size, fb4.low HB.out.size⟩, hb9⟩
end Go.Proofs.YtaojnjealccjiaaGreatDoor
