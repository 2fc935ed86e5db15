/- The contract of restate.own, of a right figure. -/
import Derived.Test.YtaojnjealccjiaaGreatDoorSameS
namespace Go.Proofs.YtaojnjealccjiaaGreatDoor
open Go Go.RowKit Bg Go.Proofs
set_option linter.unusedVariables false

def FreshR (B : Nat) (r : Raw) : Prop := Fresh B r.A1 ∧ Fresh B r.A2 ∧ Fresh B r.A3 ∧ Fresh B r.A4
def GivesR (M : Nat) (k : ByteArray) (x : ShownV) (w : World) (e : Ending) (w' : World) : Prop := ∃ r : Raw, e = .returned (.agg #[Value.string r.k, Value.int .i64 r.nt, Value.int .i64 r.s1, Value.slice r.A1 r.n1 r.c1, Value.int .i64 r.s2, Value.slice r.A2 r.n2 r.c2, Value.int .i64 r.s3, Value.slice r.A3 r.n3 r.c3, Value.int .i64 r.s4, Value.slice r.A4 r.n4 r.c4]) ∧ IsShown M w' r x ∧ r.k = k ∧ FreshR w.heap.size r ∧ Below w.heap.size w w'

set_option maxRecDepth 100000 in
set_option maxHeartbeats 4000000 in
theorem res_own {M : Nat} {r : Raw} {x : ShownV} (w : World) (h : IsShown M w r x) (hx : rightS x.value = true) (hM : M + M + (M + M) ≤ 400000) :
    Calls Tryz.prog 29 #[.agg #[Value.string r.k, Value.int .i64 r.nt, Value.int .i64 r.s1, Value.slice r.A1 r.n1 r.c1, Value.int .i64 r.s2, Value.slice r.A2 r.n2 r.c2, Value.int .i64 r.s3, Value.slice r.A3 r.n3 r.c3, Value.int .i64 r.s4, Value.slice r.A4 r.n4 r.c4]] w (GivesR M r.k x w) := by
  have H := Lib.hid h
  have H1 := Lib.hid (fun W (k : IsShown M W r x) => span_neg r.c1 r.c2 r.c3 r.c4 W k.2.2 hx hM)
  have HX := Lib.hid hx
  clear h hx
  go_enter Tryz.func29, Tryz.ntmps29
  go_wp2_with fail
  refine (H1.out _ ((H.out.alloc _).alloc _)).mono ?_
  rintro e w1 ⟨s1, A1, n1, c1, s2, A2, n2, c2, s3, A3, n3, c3, s4, A4, n4, c4, rfl, hS, hF, hb1⟩
  have hz1 : w.heap.size + 1 < w1.heap.size := by have := hb1.size; simp at this; omega
  have hbw : Below w.heap.size w w1 := (((Below.refl _ w).alloc (Nat.le_refl _) _).alloc (by simp <;> omega) _).trans (hb1.mono (by simp <;> omega))
  have x0 : w1.cell? ⟨w.heap.size, 0, none⟩ = some (Value.string r.k) := (hb1.cell (p := ⟨w.heap.size, 0, none⟩) (by simp <;> omega)).trans (by simp [go_sem])
  have x0f : w1.frozen? ⟨w.heap.size, 0, none⟩ = false := (hb1.frozen (p := ⟨w.heap.size, 0, none⟩) (by simp <;> omega)).trans (by simp [go_sem])
  have x1 : w1.cell? ⟨w.heap.size, 1, none⟩ = some (Value.int .i64 r.nt) := (hb1.cell (p := ⟨w.heap.size, 1, none⟩) (by simp <;> omega)).trans (by simp [go_sem])
  have x1f : w1.frozen? ⟨w.heap.size, 1, none⟩ = false := (hb1.frozen (p := ⟨w.heap.size, 1, none⟩) (by simp <;> omega)).trans (by simp [go_sem])
  have x2 : w1.cell? ⟨w.heap.size, 2, none⟩ = some (Value.int .i64 r.s1) := (hb1.cell (p := ⟨w.heap.size, 2, none⟩) (by simp <;> omega)).trans (by simp [go_sem])
  have x2f : w1.frozen? ⟨w.heap.size, 2, none⟩ = false := (hb1.frozen (p := ⟨w.heap.size, 2, none⟩) (by simp <;> omega)).trans (by simp [go_sem])
  have x3 : w1.cell? ⟨w.heap.size, 3, none⟩ = some (Value.slice r.A1 r.n1 r.c1) := (hb1.cell (p := ⟨w.heap.size, 3, none⟩) (by simp <;> omega)).trans (by simp [go_sem])
  have x3f : w1.frozen? ⟨w.heap.size, 3, none⟩ = false := (hb1.frozen (p := ⟨w.heap.size, 3, none⟩) (by simp <;> omega)).trans (by simp [go_sem])
  have x4 : w1.cell? ⟨w.heap.size, 4, none⟩ = some (Value.int .i64 r.s2) := (hb1.cell (p := ⟨w.heap.size, 4, none⟩) (by simp <;> omega)).trans (by simp [go_sem])
  have x4f : w1.frozen? ⟨w.heap.size, 4, none⟩ = false := (hb1.frozen (p := ⟨w.heap.size, 4, none⟩) (by simp <;> omega)).trans (by simp [go_sem])
  have x5 : w1.cell? ⟨w.heap.size, 5, none⟩ = some (Value.slice r.A2 r.n2 r.c2) := (hb1.cell (p := ⟨w.heap.size, 5, none⟩) (by simp <;> omega)).trans (by simp [go_sem])
  have x5f : w1.frozen? ⟨w.heap.size, 5, none⟩ = false := (hb1.frozen (p := ⟨w.heap.size, 5, none⟩) (by simp <;> omega)).trans (by simp [go_sem])
  have x6 : w1.cell? ⟨w.heap.size, 6, none⟩ = some (Value.int .i64 r.s3) := (hb1.cell (p := ⟨w.heap.size, 6, none⟩) (by simp <;> omega)).trans (by simp [go_sem])
  have x6f : w1.frozen? ⟨w.heap.size, 6, none⟩ = false := (hb1.frozen (p := ⟨w.heap.size, 6, none⟩) (by simp <;> omega)).trans (by simp [go_sem])
  have x7 : w1.cell? ⟨w.heap.size, 7, none⟩ = some (Value.slice r.A3 r.n3 r.c3) := (hb1.cell (p := ⟨w.heap.size, 7, none⟩) (by simp <;> omega)).trans (by simp [go_sem])
  have x7f : w1.frozen? ⟨w.heap.size, 7, none⟩ = false := (hb1.frozen (p := ⟨w.heap.size, 7, none⟩) (by simp <;> omega)).trans (by simp [go_sem])
  have x8 : w1.cell? ⟨w.heap.size, 8, none⟩ = some (Value.int .i64 r.s4) := (hb1.cell (p := ⟨w.heap.size, 8, none⟩) (by simp <;> omega)).trans (by simp [go_sem])
  have x8f : w1.frozen? ⟨w.heap.size, 8, none⟩ = false := (hb1.frozen (p := ⟨w.heap.size, 8, none⟩) (by simp <;> omega)).trans (by simp [go_sem])
  have x9 : w1.cell? ⟨w.heap.size, 9, none⟩ = some (Value.slice r.A4 r.n4 r.c4) := (hb1.cell (p := ⟨w.heap.size, 9, none⟩) (by simp <;> omega)).trans (by simp [go_sem])
  have x9f : w1.frozen? ⟨w.heap.size, 9, none⟩ = false := (hb1.frozen (p := ⟨w.heap.size, 9, none⟩) (by simp <;> omega)).trans (by simp [go_sem])
  have z0 : w1.cell? ⟨w.heap.size + 1, 0, none⟩ = some (Value.string ⟨#[]⟩) := (hb1.cell (p := ⟨w.heap.size + 1, 0, none⟩) (by simp <;> omega)).trans (by simp [go_sem])
  have z0f : w1.frozen? ⟨w.heap.size + 1, 0, none⟩ = false := (hb1.frozen (p := ⟨w.heap.size + 1, 0, none⟩) (by simp <;> omega)).trans (by simp [go_sem])
  have z1 : w1.cell? ⟨w.heap.size + 1, 1, none⟩ = some (Value.int .i64 0) := (hb1.cell (p := ⟨w.heap.size + 1, 1, none⟩) (by simp <;> omega)).trans (by simp [go_sem])
  have z1f : w1.frozen? ⟨w.heap.size + 1, 1, none⟩ = false := (hb1.frozen (p := ⟨w.heap.size + 1, 1, none⟩) (by simp <;> omega)).trans (by simp [go_sem])
  have z2 : w1.cell? ⟨w.heap.size + 1, 2, none⟩ = some (Value.int .i64 0) := (hb1.cell (p := ⟨w.heap.size + 1, 2, none⟩) (by simp <;> omega)).trans (by simp [go_sem])
  have z2f : w1.frozen? ⟨w.heap.size + 1, 2, none⟩ = false := (hb1.frozen (p := ⟨w.heap.size + 1, 2, none⟩) (by simp <;> omega)).trans (by simp [go_sem])
  have z3 : w1.cell? ⟨w.heap.size + 1, 3, none⟩ = some (Value.slice none 0 0) := (hb1.cell (p := ⟨w.heap.size + 1, 3, none⟩) (by simp <;> omega)).trans (by simp [go_sem])
  have z3f : w1.frozen? ⟨w.heap.size + 1, 3, none⟩ = false := (hb1.frozen (p := ⟨w.heap.size + 1, 3, none⟩) (by simp <;> omega)).trans (by simp [go_sem])
  have z4 : w1.cell? ⟨w.heap.size + 1, 4, none⟩ = some (Value.int .i64 0) := (hb1.cell (p := ⟨w.heap.size + 1, 4, none⟩) (by simp <;> omega)).trans (by simp [go_sem])
  have z4f : w1.frozen? ⟨w.heap.size + 1, 4, none⟩ = false := (hb1.frozen (p := ⟨w.heap.size + 1, 4, none⟩) (by simp <;> omega)).trans (by simp [go_sem])
  have z5 : w1.cell? ⟨w.heap.size + 1, 5, none⟩ = some (Value.slice none 0 0) := (hb1.cell (p := ⟨w.heap.size + 1, 5, none⟩) (by simp <;> omega)).trans (by simp [go_sem])
  have z5f : w1.frozen? ⟨w.heap.size + 1, 5, none⟩ = false := (hb1.frozen (p := ⟨w.heap.size + 1, 5, none⟩) (by simp <;> omega)).trans (by simp [go_sem])
  have z6 : w1.cell? ⟨w.heap.size + 1, 6, none⟩ = some (Value.int .i64 0) := (hb1.cell (p := ⟨w.heap.size + 1, 6, none⟩) (by simp <;> omega)).trans (by simp [go_sem])
  have z6f : w1.frozen? ⟨w.heap.size + 1, 6, none⟩ = false := (hb1.frozen (p := ⟨w.heap.size + 1, 6, none⟩) (by simp <;> omega)).trans (by simp [go_sem])
  have z7 : w1.cell? ⟨w.heap.size + 1, 7, none⟩ = some (Value.slice none 0 0) := (hb1.cell (p := ⟨w.heap.size + 1, 7, none⟩) (by simp <;> omega)).trans (by simp [go_sem])
  have z7f : w1.frozen? ⟨w.heap.size + 1, 7, none⟩ = false := (hb1.frozen (p := ⟨w.heap.size + 1, 7, none⟩) (by simp <;> omega)).trans (by simp [go_sem])
  have z8 : w1.cell? ⟨w.heap.size + 1, 8, none⟩ = some (Value.int .i64 0) := (hb1.cell (p := ⟨w.heap.size + 1, 8, none⟩) (by simp <;> omega)).trans (by simp [go_sem])
  have z8f : w1.frozen? ⟨w.heap.size + 1, 8, none⟩ = false := (hb1.frozen (p := ⟨w.heap.size + 1, 8, none⟩) (by simp <;> omega)).trans (by simp [go_sem])
  have z9 : w1.cell? ⟨w.heap.size + 1, 9, none⟩ = some (Value.slice none 0 0) := (hb1.cell (p := ⟨w.heap.size + 1, 9, none⟩) (by simp <;> omega)).trans (by simp [go_sem])
  have z9f : w1.frozen? ⟨w.heap.size + 1, 9, none⟩ = false := (hb1.frozen (p := ⟨w.heap.size + 1, 9, none⟩) (by simp <;> omega)).trans (by simp [go_sem])
  have HB := Lib.hid hbw
  have H2 := Lib.hid (span_neg c1 c2 c3 c4 w1 hS (negS_right HX.out).1 hM)
  clear hb1 hbw hF hS
  go_wp2_with fail
  refine H2.out.mono ?_
  rintro e w2 ⟨t1, B1, m1, d1, t2, B2, m2, d2, t3, B3, m3, d3, t4, B4, m4, d4, rfl, hS, hF, hb2⟩
  have x0b : w2.cell? ⟨w.heap.size, 0, none⟩ = some (Value.string r.k) := (hb2.cell (p := ⟨w.heap.size, 0, none⟩) (show w.heap.size < _ by omega)).trans x0
  have x0bf : w2.frozen? ⟨w.heap.size, 0, none⟩ = false := (hb2.frozen (p := ⟨w.heap.size, 0, none⟩) (show w.heap.size < _ by omega)).trans x0f
  have x1b : w2.cell? ⟨w.heap.size, 1, none⟩ = some (Value.int .i64 r.nt) := (hb2.cell (p := ⟨w.heap.size, 1, none⟩) (show w.heap.size < _ by omega)).trans x1
  have x1bf : w2.frozen? ⟨w.heap.size, 1, none⟩ = false := (hb2.frozen (p := ⟨w.heap.size, 1, none⟩) (show w.heap.size < _ by omega)).trans x1f
  have x2b : w2.cell? ⟨w.heap.size, 2, none⟩ = some (Value.int .i64 r.s1) := (hb2.cell (p := ⟨w.heap.size, 2, none⟩) (show w.heap.size < _ by omega)).trans x2
  have x2bf : w2.frozen? ⟨w.heap.size, 2, none⟩ = false := (hb2.frozen (p := ⟨w.heap.size, 2, none⟩) (show w.heap.size < _ by omega)).trans x2f
  have x3b : w2.cell? ⟨w.heap.size, 3, none⟩ = some (Value.slice r.A1 r.n1 r.c1) := (hb2.cell (p := ⟨w.heap.size, 3, none⟩) (show w.heap.size < _ by omega)).trans x3
  have x3bf : w2.frozen? ⟨w.heap.size, 3, none⟩ = false := (hb2.frozen (p := ⟨w.heap.size, 3, none⟩) (show w.heap.size < _ by omega)).trans x3f
  have x4b : w2.cell? ⟨w.heap.size, 4, none⟩ = some (Value.int .i64 r.s2) := (hb2.cell (p := ⟨w.heap.size, 4, none⟩) (show w.heap.size < _ by omega)).trans x4
  have x4bf : w2.frozen? ⟨w.heap.size, 4, none⟩ = false := (hb2.frozen (p := ⟨w.heap.size, 4, none⟩) (show w.heap.size < _ by omega)).trans x4f
  have x5b : w2.cell? ⟨w.heap.size, 5, none⟩ = some (Value.slice r.A2 r.n2 r.c2) := (hb2.cell (p := ⟨w.heap.size, 5, none⟩) (show w.heap.size < _ by omega)).trans x5
  have x5bf : w2.frozen? ⟨w.heap.size, 5, none⟩ = false := (hb2.frozen (p := ⟨w.heap.size, 5, none⟩) (show w.heap.size < _ by omega)).trans x5f
  have x6b : w2.cell? ⟨w.heap.size, 6, none⟩ = some (Value.int .i64 r.s3) := (hb2.cell (p := ⟨w.heap.size, 6, none⟩) (show w.heap.size < _ by omega)).trans x6
  have x6bf : w2.frozen? ⟨w.heap.size, 6, none⟩ = false := (hb2.frozen (p := ⟨w.heap.size, 6, none⟩) (show w.heap.size < _ by omega)).trans x6f
  have x7b : w2.cell? ⟨w.heap.size, 7, none⟩ = some (Value.slice r.A3 r.n3 r.c3) := (hb2.cell (p := ⟨w.heap.size, 7, none⟩) (show w.heap.size < _ by omega)).trans x7
  have x7bf : w2.frozen? ⟨w.heap.size, 7, none⟩ = false := (hb2.frozen (p := ⟨w.heap.size, 7, none⟩) (show w.heap.size < _ by omega)).trans x7f
  have x8b : w2.cell? ⟨w.heap.size, 8, none⟩ = some (Value.int .i64 r.s4) := (hb2.cell (p := ⟨w.heap.size, 8, none⟩) (show w.heap.size < _ by omega)).trans x8
  have x8bf : w2.frozen? ⟨w.heap.size, 8, none⟩ = false := (hb2.frozen (p := ⟨w.heap.size, 8, none⟩) (show w.heap.size < _ by omega)).trans x8f
  have x9b : w2.cell? ⟨w.heap.size, 9, none⟩ = some (Value.slice r.A4 r.n4 r.c4) := (hb2.cell (p := ⟨w.heap.size, 9, none⟩) (show w.heap.size < _ by omega)).trans x9
  have x9bf : w2.frozen? ⟨w.heap.size, 9, none⟩ = false := (hb2.frozen (p := ⟨w.heap.size, 9, none⟩) (show w.heap.size < _ by omega)).trans x9f
  have z0b : w2.cell? ⟨w.heap.size + 1, 0, none⟩ = some (Value.string ⟨#[]⟩) := (hb2.cell (p := ⟨w.heap.size + 1, 0, none⟩) (show w.heap.size + 1 < _ by omega)).trans z0
  have z0bf : w2.frozen? ⟨w.heap.size + 1, 0, none⟩ = false := (hb2.frozen (p := ⟨w.heap.size + 1, 0, none⟩) (show w.heap.size + 1 < _ by omega)).trans z0f
  have z1b : w2.cell? ⟨w.heap.size + 1, 1, none⟩ = some (Value.int .i64 0) := (hb2.cell (p := ⟨w.heap.size + 1, 1, none⟩) (show w.heap.size + 1 < _ by omega)).trans z1
  have z1bf : w2.frozen? ⟨w.heap.size + 1, 1, none⟩ = false := (hb2.frozen (p := ⟨w.heap.size + 1, 1, none⟩) (show w.heap.size + 1 < _ by omega)).trans z1f
  have z2b : w2.cell? ⟨w.heap.size + 1, 2, none⟩ = some (Value.int .i64 0) := (hb2.cell (p := ⟨w.heap.size + 1, 2, none⟩) (show w.heap.size + 1 < _ by omega)).trans z2
  have z2bf : w2.frozen? ⟨w.heap.size + 1, 2, none⟩ = false := (hb2.frozen (p := ⟨w.heap.size + 1, 2, none⟩) (show w.heap.size + 1 < _ by omega)).trans z2f
  have z3b : w2.cell? ⟨w.heap.size + 1, 3, none⟩ = some (Value.slice none 0 0) := (hb2.cell (p := ⟨w.heap.size + 1, 3, none⟩) (show w.heap.size + 1 < _ by omega)).trans z3
  have z3bf : w2.frozen? ⟨w.heap.size + 1, 3, none⟩ = false := (hb2.frozen (p := ⟨w.heap.size + 1, 3, none⟩) (show w.heap.size + 1 < _ by omega)).trans z3f
  have z4b : w2.cell? ⟨w.heap.size + 1, 4, none⟩ = some (Value.int .i64 0) := (hb2.cell (p := ⟨w.heap.size + 1, 4, none⟩) (show w.heap.size + 1 < _ by omega)).trans z4
  have z4bf : w2.frozen? ⟨w.heap.size + 1, 4, none⟩ = false := (hb2.frozen (p := ⟨w.heap.size + 1, 4, none⟩) (show w.heap.size + 1 < _ by omega)).trans z4f
  have z5b : w2.cell? ⟨w.heap.size + 1, 5, none⟩ = some (Value.slice none 0 0) := (hb2.cell (p := ⟨w.heap.size + 1, 5, none⟩) (show w.heap.size + 1 < _ by omega)).trans z5
  have z5bf : w2.frozen? ⟨w.heap.size + 1, 5, none⟩ = false := (hb2.frozen (p := ⟨w.heap.size + 1, 5, none⟩) (show w.heap.size + 1 < _ by omega)).trans z5f
  have z6b : w2.cell? ⟨w.heap.size + 1, 6, none⟩ = some (Value.int .i64 0) := (hb2.cell (p := ⟨w.heap.size + 1, 6, none⟩) (show w.heap.size + 1 < _ by omega)).trans z6
  have z6bf : w2.frozen? ⟨w.heap.size + 1, 6, none⟩ = false := (hb2.frozen (p := ⟨w.heap.size + 1, 6, none⟩) (show w.heap.size + 1 < _ by omega)).trans z6f
  have z7b : w2.cell? ⟨w.heap.size + 1, 7, none⟩ = some (Value.slice none 0 0) := (hb2.cell (p := ⟨w.heap.size + 1, 7, none⟩) (show w.heap.size + 1 < _ by omega)).trans z7
  have z7bf : w2.frozen? ⟨w.heap.size + 1, 7, none⟩ = false := (hb2.frozen (p := ⟨w.heap.size + 1, 7, none⟩) (show w.heap.size + 1 < _ by omega)).trans z7f
  have z8b : w2.cell? ⟨w.heap.size + 1, 8, none⟩ = some (Value.int .i64 0) := (hb2.cell (p := ⟨w.heap.size + 1, 8, none⟩) (show w.heap.size + 1 < _ by omega)).trans z8
  have z8bf : w2.frozen? ⟨w.heap.size + 1, 8, none⟩ = false := (hb2.frozen (p := ⟨w.heap.size + 1, 8, none⟩) (show w.heap.size + 1 < _ by omega)).trans z8f
  have z9b : w2.cell? ⟨w.heap.size + 1, 9, none⟩ = some (Value.slice none 0 0) := (hb2.cell (p := ⟨w.heap.size + 1, 9, none⟩) (show w.heap.size + 1 < _ by omega)).trans z9
  have z9bf : w2.frozen? ⟨w.heap.size + 1, 9, none⟩ = false := (hb2.frozen (p := ⟨w.heap.size + 1, 9, none⟩) (show w.heap.size + 1 < _ by omega)).trans z9f
  have hz2 : w.heap.size + 1 < w2.heap.size := Nat.lt_of_lt_of_le hz1 hb2.size
  have HB2 := Lib.hid (HB.out.trans (hb2.mono HB.out.size))
  have HS2 := Lib.hid hS
  have HF2 := Lib.hid hF
  clear hb2 hF hS x0 x0f x1 x1f x2 x2f x3 x3f x4 x4f x5 x5f x6 x6f x7 x7f x8 x8f x9 x9f z0 z0f z1 z1f z2 z2f z3 z3f z4 z4f z5 z5f z6 z6f z7 z7f z8 z8f z9 z9f
  go_wp2_with fail
  have hv : negS (negS x.value) = x.value := negS_negS HX.out
  have i0 := HS2.out
  rw [hv] at i0
  obtain ⟨⟨i1, i2⟩, ⟨i3, i4⟩⟩ := i0
  obtain ⟨f1, f2, f3, f4⟩ := HF2.out
  have hb9 := ((((((((((((((((((((((((((((((((((((HB2.out).setCell (p := ⟨w.heap.size, 2, none⟩) (show w.heap.size ≤ w.heap.size by omega) (.int .i64 t1))).setCell (p := ⟨w.heap.size, 3, none⟩) (show w.heap.size ≤ w.heap.size by omega) (.slice B1 m1 d1))).setCell (p := ⟨w.heap.size, 4, none⟩) (show w.heap.size ≤ w.heap.size by omega) (.int .i64 t2))).setCell (p := ⟨w.heap.size, 5, none⟩) (show w.heap.size ≤ w.heap.size by omega) (.slice B2 m2 d2))).setCell (p := ⟨w.heap.size, 6, none⟩) (show w.heap.size ≤ w.heap.size by omega) (.int .i64 t3))).setCell (p := ⟨w.heap.size, 7, none⟩) (show w.heap.size ≤ w.heap.size by omega) (.slice B3 m3 d3))).setCell (p := ⟨w.heap.size, 8, none⟩) (show w.heap.size ≤ w.heap.size by omega) (.int .i64 t4))).setCell (p := ⟨w.heap.size, 9, none⟩) (show w.heap.size ≤ w.heap.size by omega) (.slice B4 m4 d4))).setCell (p := ⟨w.heap.size + 1, 0, none⟩) (show w.heap.size ≤ w.heap.size + 1 by omega) (.string r.k))).setCell (p := ⟨w.heap.size + 1, 1, none⟩) (show w.heap.size ≤ w.heap.size + 1 by omega) (.int .i64 r.nt))).setCell (p := ⟨w.heap.size + 1, 2, none⟩) (show w.heap.size ≤ w.heap.size + 1 by omega) (.int .i64 t1))).setCell (p := ⟨w.heap.size + 1, 3, none⟩) (show w.heap.size ≤ w.heap.size + 1 by omega) (.slice B1 m1 d1))).setCell (p := ⟨w.heap.size + 1, 4, none⟩) (show w.heap.size ≤ w.heap.size + 1 by omega) (.int .i64 t2))).setCell (p := ⟨w.heap.size + 1, 5, none⟩) (show w.heap.size ≤ w.heap.size + 1 by omega) (.slice B2 m2 d2))).setCell (p := ⟨w.heap.size + 1, 6, none⟩) (show w.heap.size ≤ w.heap.size + 1 by omega) (.int .i64 t3))).setCell (p := ⟨w.heap.size + 1, 7, none⟩) (show w.heap.size ≤ w.heap.size + 1 by omega) (.slice B3 m3 d3))).setCell (p := ⟨w.heap.size + 1, 8, none⟩) (show w.heap.size ≤ w.heap.size + 1 by omega) (.int .i64 t4))).setCell (p := ⟨w.heap.size + 1, 9, none⟩) (show w.heap.size ≤ w.heap.size + 1 by omega) (.slice B4 m4 d4))
  refine bodyPost_ret (v := .agg #[.string r.k, .int .i64 r.nt, .int .i64 t1, .slice B1 m1 d1, .int .i64 t2, .slice B2 m2 d2, .int .i64 t3, .slice B3 m3 d3, .int .i64 t4, .slice B4 m4 d4]) (by simp [results, Tryz.results29, go_sem, x0b, x1b, x2b, x3b, x4b, x5b, x6b, x7b, x8b, x9b, z0b, z1b, z2b, z3b, z4b, z5b, z6b, z7b, z8b, z9b]) rfl ⟨⟨r.k, r.nt, t1, B1, m1, d1, t2, B2, m2, d2, t3, B3, m3, d3, t4, B4, m4, d4⟩, rfl, ⟨H.out.1, H.out.2.1, ⟨⟨((((((((((((((((((((((((((((((((((((i1).set_far (i := 2) f1 (show w.heap.size < _ by omega) (.int .i64 t1))).set_far (i := 3) f1 (show w.heap.size < _ by omega) (.slice B1 m1 d1))).set_far (i := 4) f1 (show w.heap.size < _ by omega) (.int .i64 t2))).set_far (i := 5) f1 (show w.heap.size < _ by omega) (.slice B2 m2 d2))).set_far (i := 6) f1 (show w.heap.size < _ by omega) (.int .i64 t3))).set_far (i := 7) f1 (show w.heap.size < _ by omega) (.slice B3 m3 d3))).set_far (i := 8) f1 (show w.heap.size < _ by omega) (.int .i64 t4))).set_far (i := 9) f1 (show w.heap.size < _ by omega) (.slice B4 m4 d4))).set_far (i := 0) f1 (show w.heap.size + 1 < _ by omega) (.string r.k))).set_far (i := 1) f1 (show w.heap.size + 1 < _ by omega) (.int .i64 r.nt))).set_far (i := 2) f1 (show w.heap.size + 1 < _ by omega) (.int .i64 t1))).set_far (i := 3) f1 (show w.heap.size + 1 < _ by omega) (.slice B1 m1 d1))).set_far (i := 4) f1 (show w.heap.size + 1 < _ by omega) (.int .i64 t2))).set_far (i := 5) f1 (show w.heap.size + 1 < _ by omega) (.slice B2 m2 d2))).set_far (i := 6) f1 (show w.heap.size + 1 < _ by omega) (.int .i64 t3))).set_far (i := 7) f1 (show w.heap.size + 1 < _ by omega) (.slice B3 m3 d3))).set_far (i := 8) f1 (show w.heap.size + 1 < _ by omega) (.int .i64 t4))).set_far (i := 9) f1 (show w.heap.size + 1 < _ by omega) (.slice B4 m4 d4)), ((((((((((((((((((((((((((((((((((((i2).set_far (i := 2) f2 (show w.heap.size < _ by omega) (.int .i64 t1))).set_far (i := 3) f2 (show w.heap.size < _ by omega) (.slice B1 m1 d1))).set_far (i := 4) f2 (show w.heap.size < _ by omega) (.int .i64 t2))).set_far (i := 5) f2 (show w.heap.size < _ by omega) (.slice B2 m2 d2))).set_far (i := 6) f2 (show w.heap.size < _ by omega) (.int .i64 t3))).set_far (i := 7) f2 (show w.heap.size < _ by omega) (.slice B3 m3 d3))).set_far (i := 8) f2 (show w.heap.size < _ by omega) (.int .i64 t4))).set_far (i := 9) f2 (show w.heap.size < _ by omega) (.slice B4 m4 d4))).set_far (i := 0) f2 (show w.heap.size + 1 < _ by omega) (.string r.k))).set_far (i := 1) f2 (show w.heap.size + 1 < _ by omega) (.int .i64 r.nt))).set_far (i := 2) f2 (show w.heap.size + 1 < _ by omega) (.int .i64 t1))).set_far (i := 3) f2 (show w.heap.size + 1 < _ by omega) (.slice B1 m1 d1))).set_far (i := 4) f2 (show w.heap.size + 1 < _ by omega) (.int .i64 t2))).set_far (i := 5) f2 (show w.heap.size + 1 < _ by omega) (.slice B2 m2 d2))).set_far (i := 6) f2 (show w.heap.size + 1 < _ by omega) (.int .i64 t3))).set_far (i := 7) f2 (show w.heap.size + 1 < _ by omega) (.slice B3 m3 d3))).set_far (i := 8) f2 (show w.heap.size + 1 < _ by omega) (.int .i64 t4))).set_far (i := 9) f2 (show w.heap.size + 1 < _ by omega) (.slice B4 m4 d4))⟩, ⟨((((((((((((((((((((((((((((((((((((i3).set_far (i := 2) f3 (show w.heap.size < _ by omega) (.int .i64 t1))).set_far (i := 3) f3 (show w.heap.size < _ by omega) (.slice B1 m1 d1))).set_far (i := 4) f3 (show w.heap.size < _ by omega) (.int .i64 t2))).set_far (i := 5) f3 (show w.heap.size < _ by omega) (.slice B2 m2 d2))).set_far (i := 6) f3 (show w.heap.size < _ by omega) (.int .i64 t3))).set_far (i := 7) f3 (show w.heap.size < _ by omega) (.slice B3 m3 d3))).set_far (i := 8) f3 (show w.heap.size < _ by omega) (.int .i64 t4))).set_far (i := 9) f3 (show w.heap.size < _ by omega) (.slice B4 m4 d4))).set_far (i := 0) f3 (show w.heap.size + 1 < _ by omega) (.string r.k))).set_far (i := 1) f3 (show w.heap.size + 1 < _ by omega) (.int .i64 r.nt))).set_far (i := 2) f3 (show w.heap.size + 1 < _ by omega) (.int .i64 t1))).set_far (i := 3) f3 (show w.heap.size + 1 < _ by omega) (.slice B1 m1 d1))).set_far (i := 4) f3 (show w.heap.size + 1 < _ by omega) (.int .i64 t2))).set_far (i := 5) f3 (show w.heap.size + 1 < _ by omega) (.slice B2 m2 d2))).set_far (i := 6) f3 (show w.heap.size + 1 < _ by omega) (.int .i64 t3))).set_far (i := 7) f3 (show w.heap.size + 1 < _ by omega) (.slice B3 m3 d3))).set_far (i := 8) f3 (show w.heap.size + 1 < _ by omega) (.int .i64 t4))).set_far (i := 9) f3 (show w.heap.size + 1 < _ by omega) (.slice B4 m4 d4)), ((((((((((((((((((((((((((((((((((((i4).set_far (i := 2) f4 (show w.heap.size < _ by omega) (.int .i64 t1))).set_far (i := 3) f4 (show w.heap.size < _ by omega) (.slice B1 m1 d1))).set_far (i := 4) f4 (show w.heap.size < _ by omega) (.int .i64 t2))).set_far (i := 5) f4 (show w.heap.size < _ by omega) (.slice B2 m2 d2))).set_far (i := 6) f4 (show w.heap.size < _ by omega) (.int .i64 t3))).set_far (i := 7) f4 (show w.heap.size < _ by omega) (.slice B3 m3 d3))).set_far (i := 8) f4 (show w.heap.size < _ by omega) (.int .i64 t4))).set_far (i := 9) f4 (show w.heap.size < _ by omega) (.slice B4 m4 d4))).set_far (i := 0) f4 (show w.heap.size + 1 < _ by omega) (.string r.k))).set_far (i := 1) f4 (show w.heap.size + 1 < _ by omega) (.int .i64 r.nt))).set_far (i := 2) f4 (show w.heap.size + 1 < _ by omega) (.int .i64 t1))).set_far (i := 3) f4 (show w.heap.size + 1 < _ by omega) (.slice B1 m1 d1))).set_far (i := 4) f4 (show w.heap.size + 1 < _ by omega) (.int .i64 t2))).set_far (i := 5) f4 (show w.heap.size + 1 < _ by omega) (.slice B2 m2 d2))).set_far (i := 6) f4 (show w.heap.size + 1 < _ by omega) (.int .i64 t3))).set_far (i := 7) f4 (show w.heap.size + 1 < _ by omega) (.slice B3 m3 d3))).set_far (i := 8) f4 (show w.heap.size + 1 < _ by omega) (.int .i64 t4))).set_far (i := 9) f4 (show w.heap.size + 1 < _ by omega) (.slice B4 m4 d4))⟩⟩⟩, rfl, ⟨f1.low HB.out.size, f2.low HB.out.size, f3.low HB.out.size, f4.low HB.out.size⟩, hb9⟩
end Go.Proofs.YtaojnjealccjiaaGreatDoor
