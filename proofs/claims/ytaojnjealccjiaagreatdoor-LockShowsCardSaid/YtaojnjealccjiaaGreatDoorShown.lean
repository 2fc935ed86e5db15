/- Figures in memory; the contract of restate.shown. -/
import Derived.Test.YtaojnjealccjiaaGreatDoorOdd
namespace Go.Proofs.YtaojnjealccjiaaGreatDoor
open Go Go.RowKit Bg Go.Proofs
set_option linter.unusedVariables false

/-- the cells of a figure -/
structure Raw where
  k : ByteArray
  nt : Int
  s1 : Int
  A1 : Option Addr
  n1 : Nat
  c1 : Nat
  s2 : Int
  A2 : Option Addr
  n2 : Nat
  c2 : Nat
  s3 : Int
  A3 : Option Addr
  n3 : Nat
  c3 : Nat
  s4 : Int
  A4 : Option Addr
  n4 : Nat
  c4 : Nat
def Raw.cells (r : Raw) : List Value := [Value.string r.k, Value.int .i64 r.nt, Value.int .i64 r.s1, Value.slice r.A1 r.n1 r.c1, Value.int .i64 r.s2, Value.slice r.A2 r.n2 r.c2, Value.int .i64 r.s3, Value.slice r.A3 r.n3 r.c3, Value.int .i64 r.s4, Value.slice r.A4 r.n4 r.c4]
/-- they read as x -/
def IsShown (M : Nat) (w : World) (r : Raw) (x : ShownV) : Prop := x.key = r.k ∧ x.note = r.nt ∧ IsSpan M w r.s1 r.A1 r.n1 r.s2 r.A2 r.n2 r.s3 r.A3 r.n3 r.s4 r.A4 r.n4 x.value
section
variable {M : Nat} {w w' : World} {r : Raw} {x : ShownV}
theorem IsShown.below (h : IsShown M w r x) (hb : Below w.heap.size w w') : IsShown M w' r x := ⟨h.1, h.2.1, h.2.2.below hb⟩
theorem IsShown.alloc (h : IsShown M w r x) (o : Obj) : IsShown M (w.alloc o) r x := ⟨h.1, h.2.1, h.2.2.alloc o⟩
theorem IsShown.drew (h : IsShown M w r x) : IsShown M w.drew r x := h
end

set_option maxRecDepth 100000 in
set_option maxHeartbeats 2000000 in
theorem res_shown {M : Nat} {r : Raw} {x : ShownV} (w : World) (h : IsShown M w r x) (hk : r.k.size ≤ 1000) (hM : M + M + (M + M) ≤ 400000) :
    Calls Tryz.prog 27 #[.agg #[Value.string r.k, Value.int .i64 r.nt, Value.int .i64 r.s1, Value.slice r.A1 r.n1 r.c1, Value.int .i64 r.s2, Value.slice r.A2 r.n2 r.c2, Value.int .i64 r.s3, Value.slice r.A3 r.n3 r.c3, Value.int .i64 r.s4, Value.slice r.A4 r.n4 r.c4]] w (SaysB (shownB oddK x) w) := by
  have H := Lib.hid h
  obtain ⟨hx1, hx2, _⟩ := h
  by_cases h1 : r.k.size < 1
  · have HN := Lib.hid (show shownB oddK x = false by simp [shownB, keyB, hx1]; intros; omega)
    have hf : decide (1 ≤ (r.k.size : Int)) = false := by simp; omega
    clear hx1 hx2
    go_enter Tryz.func27, Tryz.ntmps27
    go_wp2_with fail
    go_ret
    exact ⟨ret_bool HN.out.symm, (Below.refl _ _).alloc (Nat.le_refl _) _⟩
  by_cases h2 : 60 < r.k.size
  · have HN := Lib.hid (show shownB oddK x = false by simp [shownB, keyB, hx1]; intros; omega)
    clear hx1 hx2
    go_enter Tryz.func27, Tryz.ntmps27
    go_wp2_with fail
    go_ret
    exact ⟨ret_bool HN.out.symm, (Below.refl _ _).alloc (Nat.le_refl _) _⟩
  have h1' : 1 ≤ r.k.size := by omega
  have h2' : r.k.size ≤ 60 := by omega
  have ho := fun W => odd_key r.k W
  cases hod : oddK r.k with
  | true =>
    have HN := Lib.hid (show shownB oddK x = false by simp [shownB, keyB, hx1, hod])
    rw [hod] at ho
    have HO := Lib.hid ho
    clear hx1 hx2 ho hod
    go_enter Tryz.func27, Tryz.ntmps27
    go_wp2_with fail
    refine (HO.out _).mono ?_
    rintro e w1 ⟨rfl, hb1⟩
    have hbw : Below w.heap.size w w1 := ((Below.refl _ w).alloc (Nat.le_refl _) _).trans (hb1.mono (by simp))
    have e1 : w1.cell? ⟨w.heap.size, 1, none⟩ = some (Value.int .i64 r.nt) := (hb1.cell (p := ⟨w.heap.size, 1, none⟩) (by simp)).trans (by simp [go_sem])
    have e2 : w1.cell? ⟨w.heap.size, 2, none⟩ = some (Value.int .i64 r.s1) := (hb1.cell (p := ⟨w.heap.size, 2, none⟩) (by simp)).trans (by simp [go_sem])
    have e3 : w1.cell? ⟨w.heap.size, 3, none⟩ = some (Value.slice r.A1 r.n1 r.c1) := (hb1.cell (p := ⟨w.heap.size, 3, none⟩) (by simp)).trans (by simp [go_sem])
    have e4 : w1.cell? ⟨w.heap.size, 4, none⟩ = some (Value.int .i64 r.s2) := (hb1.cell (p := ⟨w.heap.size, 4, none⟩) (by simp)).trans (by simp [go_sem])
    have e5 : w1.cell? ⟨w.heap.size, 5, none⟩ = some (Value.slice r.A2 r.n2 r.c2) := (hb1.cell (p := ⟨w.heap.size, 5, none⟩) (by simp)).trans (by simp [go_sem])
    have e6 : w1.cell? ⟨w.heap.size, 6, none⟩ = some (Value.int .i64 r.s3) := (hb1.cell (p := ⟨w.heap.size, 6, none⟩) (by simp)).trans (by simp [go_sem])
    have e7 : w1.cell? ⟨w.heap.size, 7, none⟩ = some (Value.slice r.A3 r.n3 r.c3) := (hb1.cell (p := ⟨w.heap.size, 7, none⟩) (by simp)).trans (by simp [go_sem])
    have e8 : w1.cell? ⟨w.heap.size, 8, none⟩ = some (Value.int .i64 r.s4) := (hb1.cell (p := ⟨w.heap.size, 8, none⟩) (by simp)).trans (by simp [go_sem])
    have e9 : w1.cell? ⟨w.heap.size, 9, none⟩ = some (Value.slice r.A4 r.n4 r.c4) := (hb1.cell (p := ⟨w.heap.size, 9, none⟩) (by simp)).trans (by simp [go_sem])
    have HB := Lib.hid hbw
    clear hb1 hbw
    go_wp2_with fail
    go_ret
    exact ⟨ret_bool HN.out.symm, HB.out⟩
  | false =>
    rw [hod] at ho
    have HO := Lib.hid ho
    by_cases h3 : r.nt < 0
    · have HN := Lib.hid (show shownB oddK x = false by simp [shownB, hx2]; intros; omega)
      have hf : decide (0 ≤ r.nt) = false := by simpa using h3
      clear hx1 hx2 ho hod
      go_enter Tryz.func27, Tryz.ntmps27
      go_wp2_with fail
      refine (HO.out _).mono ?_
      rintro e w1 ⟨rfl, hb1⟩
      have hbw : Below w.heap.size w w1 := ((Below.refl _ w).alloc (Nat.le_refl _) _).trans (hb1.mono (by simp))
      have e1 : w1.cell? ⟨w.heap.size, 1, none⟩ = some (Value.int .i64 r.nt) := (hb1.cell (p := ⟨w.heap.size, 1, none⟩) (by simp)).trans (by simp [go_sem])
      have e2 : w1.cell? ⟨w.heap.size, 2, none⟩ = some (Value.int .i64 r.s1) := (hb1.cell (p := ⟨w.heap.size, 2, none⟩) (by simp)).trans (by simp [go_sem])
      have e3 : w1.cell? ⟨w.heap.size, 3, none⟩ = some (Value.slice r.A1 r.n1 r.c1) := (hb1.cell (p := ⟨w.heap.size, 3, none⟩) (by simp)).trans (by simp [go_sem])
      have e4 : w1.cell? ⟨w.heap.size, 4, none⟩ = some (Value.int .i64 r.s2) := (hb1.cell (p := ⟨w.heap.size, 4, none⟩) (by simp)).trans (by simp [go_sem])
      have e5 : w1.cell? ⟨w.heap.size, 5, none⟩ = some (Value.slice r.A2 r.n2 r.c2) := (hb1.cell (p := ⟨w.heap.size, 5, none⟩) (by simp)).trans (by simp [go_sem])
      have e6 : w1.cell? ⟨w.heap.size, 6, none⟩ = some (Value.int .i64 r.s3) := (hb1.cell (p := ⟨w.heap.size, 6, none⟩) (by simp)).trans (by simp [go_sem])
      have e7 : w1.cell? ⟨w.heap.size, 7, none⟩ = some (Value.slice r.A3 r.n3 r.c3) := (hb1.cell (p := ⟨w.heap.size, 7, none⟩) (by simp)).trans (by simp [go_sem])
      have e8 : w1.cell? ⟨w.heap.size, 8, none⟩ = some (Value.int .i64 r.s4) := (hb1.cell (p := ⟨w.heap.size, 8, none⟩) (by simp)).trans (by simp [go_sem])
      have e9 : w1.cell? ⟨w.heap.size, 9, none⟩ = some (Value.slice r.A4 r.n4 r.c4) := (hb1.cell (p := ⟨w.heap.size, 9, none⟩) (by simp)).trans (by simp [go_sem])
      have HB := Lib.hid hbw
      clear hb1 hbw
      go_wp2_with fail
      go_ret
      exact ⟨ret_bool HN.out.symm, HB.out⟩
    by_cases h4 : 1099511627776 < r.nt
    · have HN := Lib.hid (show shownB oddK x = false by simp [shownB, hx2]; intros; omega)
      have hf : decide (r.nt ≤ 1099511627776) = false := by simpa using h4
      clear hx1 hx2 ho hod
      go_enter Tryz.func27, Tryz.ntmps27
      go_wp2_with fail
      refine (HO.out _).mono ?_
      rintro e w1 ⟨rfl, hb1⟩
      have hbw : Below w.heap.size w w1 := ((Below.refl _ w).alloc (Nat.le_refl _) _).trans (hb1.mono (by simp))
      have e1 : w1.cell? ⟨w.heap.size, 1, none⟩ = some (Value.int .i64 r.nt) := (hb1.cell (p := ⟨w.heap.size, 1, none⟩) (by simp)).trans (by simp [go_sem])
      have e2 : w1.cell? ⟨w.heap.size, 2, none⟩ = some (Value.int .i64 r.s1) := (hb1.cell (p := ⟨w.heap.size, 2, none⟩) (by simp)).trans (by simp [go_sem])
      have e3 : w1.cell? ⟨w.heap.size, 3, none⟩ = some (Value.slice r.A1 r.n1 r.c1) := (hb1.cell (p := ⟨w.heap.size, 3, none⟩) (by simp)).trans (by simp [go_sem])
      have e4 : w1.cell? ⟨w.heap.size, 4, none⟩ = some (Value.int .i64 r.s2) := (hb1.cell (p := ⟨w.heap.size, 4, none⟩) (by simp)).trans (by simp [go_sem])
      have e5 : w1.cell? ⟨w.heap.size, 5, none⟩ = some (Value.slice r.A2 r.n2 r.c2) := (hb1.cell (p := ⟨w.heap.size, 5, none⟩) (by simp)).trans (by simp [go_sem])
      have e6 : w1.cell? ⟨w.heap.size, 6, none⟩ = some (Value.int .i64 r.s3) := (hb1.cell (p := ⟨w.heap.size, 6, none⟩) (by simp)).trans (by simp [go_sem])
      have e7 : w1.cell? ⟨w.heap.size, 7, none⟩ = some (Value.slice r.A3 r.n3 r.c3) := (hb1.cell (p := ⟨w.heap.size, 7, none⟩) (by simp)).trans (by simp [go_sem])
      have e8 : w1.cell? ⟨w.heap.size, 8, none⟩ = some (Value.int .i64 r.s4) := (hb1.cell (p := ⟨w.heap.size, 8, none⟩) (by simp)).trans (by simp [go_sem])
      have e9 : w1.cell? ⟨w.heap.size, 9, none⟩ = some (Value.slice r.A4 r.n4 r.c4) := (hb1.cell (p := ⟨w.heap.size, 9, none⟩) (by simp)).trans (by simp [go_sem])
      have HB := Lib.hid hbw
      clear hb1 hbw
      go_wp2_with fail
      go_ret
      exact ⟨ret_bool HN.out.symm, HB.out⟩
    · have HN := Lib.hid (show shownB oddK x = rightS x.value by
        simp [shownB, keyB, hx1, hx2, hod]
        intros
        omega)
      have hf : decide (0 ≤ r.nt) = true := by simpa using h3
      have hf2 : decide (r.nt ≤ 1099511627776) = true := by simpa using h4
      have HS := Lib.hid (fun W (k : IsShown M W r x) => span_right r.c1 r.c2 r.c3 r.c4 W k.2.2 hM)
      clear hx1 hx2 ho hod
      go_enter Tryz.func27, Tryz.ntmps27
      go_wp2_with fail
      refine (HO.out _).mono ?_
      rintro e w1 ⟨rfl, hb1⟩
      have hbw : Below w.heap.size w w1 := ((Below.refl _ w).alloc (Nat.le_refl _) _).trans (hb1.mono (by simp))
      have e1 : w1.cell? ⟨w.heap.size, 1, none⟩ = some (Value.int .i64 r.nt) := (hb1.cell (p := ⟨w.heap.size, 1, none⟩) (by simp)).trans (by simp [go_sem])
      have e2 : w1.cell? ⟨w.heap.size, 2, none⟩ = some (Value.int .i64 r.s1) := (hb1.cell (p := ⟨w.heap.size, 2, none⟩) (by simp)).trans (by simp [go_sem])
      have e3 : w1.cell? ⟨w.heap.size, 3, none⟩ = some (Value.slice r.A1 r.n1 r.c1) := (hb1.cell (p := ⟨w.heap.size, 3, none⟩) (by simp)).trans (by simp [go_sem])
      have e4 : w1.cell? ⟨w.heap.size, 4, none⟩ = some (Value.int .i64 r.s2) := (hb1.cell (p := ⟨w.heap.size, 4, none⟩) (by simp)).trans (by simp [go_sem])
      have e5 : w1.cell? ⟨w.heap.size, 5, none⟩ = some (Value.slice r.A2 r.n2 r.c2) := (hb1.cell (p := ⟨w.heap.size, 5, none⟩) (by simp)).trans (by simp [go_sem])
      have e6 : w1.cell? ⟨w.heap.size, 6, none⟩ = some (Value.int .i64 r.s3) := (hb1.cell (p := ⟨w.heap.size, 6, none⟩) (by simp)).trans (by simp [go_sem])
      have e7 : w1.cell? ⟨w.heap.size, 7, none⟩ = some (Value.slice r.A3 r.n3 r.c3) := (hb1.cell (p := ⟨w.heap.size, 7, none⟩) (by simp)).trans (by simp [go_sem])
      have e8 : w1.cell? ⟨w.heap.size, 8, none⟩ = some (Value.int .i64 r.s4) := (hb1.cell (p := ⟨w.heap.size, 8, none⟩) (by simp)).trans (by simp [go_sem])
      have e9 : w1.cell? ⟨w.heap.size, 9, none⟩ = some (Value.slice r.A4 r.n4 r.c4) := (hb1.cell (p := ⟨w.heap.size, 9, none⟩) (by simp)).trans (by simp [go_sem])
      have HB := Lib.hid hbw
      clear hb1 hbw
      go_wp2_with fail
      refine (HS.out _ (H.out.below HB.out)).mono ?_
      rintro e w2 ⟨rfl, hb2⟩
      have HB2 := Lib.hid (HB.out.trans (hb2.mono HB.out.size))
      clear hb2
      go_wp2_with fail
      go_ret
      exact ⟨ret_bool HN.out.symm, HB2.out⟩
end Go.Proofs.YtaojnjealccjiaaGreatDoor
