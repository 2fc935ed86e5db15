/- The closures of Locked, Hidden, May; then Locked, Hidden, May. -/
import Derived.Test.YtaojnjealccjiaaGreatDoorLocked
namespace Go.Proofs.YtaojnjealccjiaaGreatDoor
open Go Go.RowKit Kb Go.Lib
set_option linter.unusedVariables false

instance : Inhabited Akt := ⟨⟨0, 0, 0, ByteArray.empty⟩⟩

/-- what the acts of a list owe: sizes -/
def Small (acts : List Akt) : Prop := (∀ a ∈ acts, a.obj.size < 4294967281) ∧ acts.length ≤ maxLen

set_option maxHeartbeats 2000000 in
theorem locked_pred (acts : List Akt) (A : Option Addr) (c : Nat) (name : ByteArray) (day : Int) (w : World) (p0 p1 p2 : Nat)
    (h0 : w.cell? ⟨p0, 0, none⟩ = some (.string name)) (l0 : p0 < w.heap.size) (h1 : w.cell? ⟨p1, 0, none⟩ = some (.slice A acts.length c)) (l1 : p1 < w.heap.size) (h2 : w.cell? ⟨p2, 0, none⟩ = some (.int .i64 day)) (l2 : p2 < w.heap.size) (hsm : Small acts) (hl : Lst aktV 4 w A acts) :
    PredIn Tryz.prog 37 #[.pointer (some ⟨p0, 0, none⟩), .pointer (some ⟨p1, 0, none⟩), .pointer (some ⟨p2, 0, none⟩)] (fun x => .agg (aktV x).toArray) (fun x => decide (x.kind = 0) && aboveB x.o name.data.toList && rightB x && forceB acts x day) acts w := fun W x hx hb => by
  obtain ⟨k, p, d, o⟩ := x
  have hso := hsm.1 _ hx
  simp only at hso
  have g0 : W.cell? ⟨p0, 0, none⟩ = some (.string name) := (hb.cell (p := ⟨p0, 0, none⟩) l0).trans h0
  have m0 : p0 < W.heap.size := Nat.lt_of_lt_of_le l0 hb.size
  have n0 : p0 ≠ W.heap.size := by omega
  have g1 : W.cell? ⟨p1, 0, none⟩ = some (.slice A acts.length c) := (hb.cell (p := ⟨p1, 0, none⟩) l1).trans h1
  have m1 : p1 < W.heap.size := Nat.lt_of_lt_of_le l1 hb.size
  have n1 : p1 ≠ W.heap.size := by omega
  have g2 : W.cell? ⟨p2, 0, none⟩ = some (.int .i64 day) := (hb.cell (p := ⟨p2, 0, none⟩) l2).trans h2
  have m2 : p2 < W.heap.size := Nat.lt_of_lt_of_le l2 hb.size
  have n2 : p2 ≠ W.heap.size := by omega
  have hab := fun W => lock_above o name W hso
  have hri := fun W => lock_right k p d o W hso
  have hfo := fun W (h : Below w.heap.size w W) => lock_force acts A c ⟨k, p, d, o⟩ day W (hl.below h) hsm.1 hso hsm.2
  simp only at hfo
  show Calls Tryz.prog 37 (#[.agg #[.int .i64 k, .int .i64 p, .int .i64 d, .string o], .pointer (some ⟨p0, 0, none⟩), .pointer (some ⟨p1, 0, none⟩), .pointer (some ⟨p2, 0, none⟩)]) W fun e w' => e = .returned (.bool (decide (k = 0) && aboveB o.data.toList name.data.toList && rightB ⟨k, p, d, o⟩ && forceB acts ⟨k, p, d, o⟩ day)) ∧ Below w.heap.size w w'
  clear hx h0 l0 h1 l1 h2 l2
  generalize aboveB o.data.toList name.data.toList = ab at hab ⊢
  generalize rightB ⟨k, p, d, o⟩ = ri at hri ⊢
  generalize forceB acts ⟨k, p, d, o⟩ day = fo at hfo ⊢
  have HFo := Lib.hid hfo
  clear hfo
  have HAb := Lib.hid hab
  have HRi := Lib.hid hri
  clear hab hri
  have HBl := Lib.hid hb
  clear hb
  by_cases e0 : k = 0
  · have t0 : (k == 0) = true := by simp [e0]
    have E0 := Lib.hid e0
    rw [show decide (k = 0) = true by simp [e0]]
    clear e0
    cases ab with
    | true =>
      cases ri with
      | true =>
        go_enter Tryz.func37, Tryz.ntmps37
        go_wp2_with (first | (go_at_call 33; refine (HAb.out _).mono ?_; rintro e w' ⟨rfl, rfl⟩) | (go_at_call 23; refine (HRi.out _).mono ?_; rintro e w1 ⟨rfl, hb1⟩; obtain ⟨hc1, hf1⟩ := bcell hb1) | (go_at_call 38; refine (HFo.out _ (((HBl.out).alloc (HBl.out).size _).trans (hb1.mono (by have := (HBl.out).size; simp; omega)))).mono ?_; rintro e w2 ⟨rfl, hb2⟩))
        go_ret
        exact ⟨by simp [*], (((HBl.out).alloc (HBl.out).size _).trans (hb1.mono (by have := (HBl.out).size; simp; omega))).trans (hb2.mono (by have := (HBl.out).size; have := hb1.size; simp at this; omega))⟩
      | false =>
        go_enter Tryz.func37, Tryz.ntmps37
        go_wp2_with (first | (go_at_call 33; refine (HAb.out _).mono ?_; rintro e w' ⟨rfl, rfl⟩) | (go_at_call 23; refine (HRi.out _).mono ?_; rintro e w1 ⟨rfl, hb1⟩; obtain ⟨hc1, hf1⟩ := bcell hb1))
        go_ret
        exact ⟨by simp [*], ((HBl.out).alloc (HBl.out).size _).trans (hb1.mono (by have := (HBl.out).size; simp; omega))⟩
    | false =>
      go_enter Tryz.func37, Tryz.ntmps37
      go_wp2_with (go_at_call 33; refine (HAb.out _).mono ?_; rintro e w' ⟨rfl, rfl⟩)
      go_ret
      exact ⟨by simp [*], (HBl.out).alloc (HBl.out).size _⟩
  · have t0 : (k == 0) = false := by simp [e0]
    rw [show decide (k = 0) = false by simp [e0]]
    clear e0
    go_enter Tryz.func37, Tryz.ntmps37
    go_wp2_with fail
    go_ret
    exact ⟨by simp [*], (HBl.out).alloc (HBl.out).size _⟩

set_option maxHeartbeats 2000000 in
theorem hidden_pred (acts : List Akt) (name : ByteArray) (day : Int) (w : World) (p0 p1 : Nat)
    (h0 : w.cell? ⟨p0, 0, none⟩ = some (.int .i64 day)) (l0 : p0 < w.heap.size) (h1 : w.cell? ⟨p1, 0, none⟩ = some (.string name)) (l1 : p1 < w.heap.size) (hsm : Small acts) :
    PredIn Tryz.prog 32 #[.pointer (some ⟨p0, 0, none⟩), .pointer (some ⟨p1, 0, none⟩)] (fun x => .agg (aktV x).toArray) (fun x => decide (x.kind = 2) && decide (day < x.day) && aboveB x.o name.data.toList && rightB x) acts w := fun W x hx hb => by
  obtain ⟨k, p, d, o⟩ := x
  have hso := hsm.1 _ hx
  simp only at hso
  have g0 : W.cell? ⟨p0, 0, none⟩ = some (.int .i64 day) := (hb.cell (p := ⟨p0, 0, none⟩) l0).trans h0
  have m0 : p0 < W.heap.size := Nat.lt_of_lt_of_le l0 hb.size
  have n0 : p0 ≠ W.heap.size := by omega
  have g1 : W.cell? ⟨p1, 0, none⟩ = some (.string name) := (hb.cell (p := ⟨p1, 0, none⟩) l1).trans h1
  have m1 : p1 < W.heap.size := Nat.lt_of_lt_of_le l1 hb.size
  have n1 : p1 ≠ W.heap.size := by omega
  have hab := fun W => lock_above o name W hso
  have hri := fun W => lock_right k p d o W hso
  show Calls Tryz.prog 32 (#[.agg #[.int .i64 k, .int .i64 p, .int .i64 d, .string o], .pointer (some ⟨p0, 0, none⟩), .pointer (some ⟨p1, 0, none⟩)]) W fun e w' => e = .returned (.bool (decide (k = 2) && decide (day < d) && aboveB o.data.toList name.data.toList && rightB ⟨k, p, d, o⟩)) ∧ Below w.heap.size w w'
  clear hx h0 l0 h1 l1
  generalize aboveB o.data.toList name.data.toList = ab at hab ⊢
  generalize rightB ⟨k, p, d, o⟩ = ri at hri ⊢
  have HAb := Lib.hid hab
  have HRi := Lib.hid hri
  clear hab hri
  have HBl := Lib.hid hb
  clear hb
  by_cases e0 : k = 2
  · have t0 : (k == 2) = true := by simp [e0]
    have E0 := Lib.hid e0
    rw [show decide (k = 2) = true by simp [e0]]
    clear e0
    by_cases e1 : day < d
    · rw [show decide (day < d) = true by simp [e1]]
      cases ab with
      | true =>
        go_enter Tryz.func32, Tryz.ntmps32
        go_wp2_with (first | (go_at_call 33; refine (HAb.out _).mono ?_; rintro e w' ⟨rfl, rfl⟩) | (go_at_call 23; refine (HRi.out _).mono ?_; rintro e w1 ⟨rfl, hb1⟩; obtain ⟨hc1, hf1⟩ := bcell hb1))
        go_ret
        exact ⟨by simp [*], ((HBl.out).alloc (HBl.out).size _).trans (hb1.mono (by have := (HBl.out).size; simp; omega))⟩
      | false =>
        go_enter Tryz.func32, Tryz.ntmps32
        go_wp2_with (go_at_call 33; refine (HAb.out _).mono ?_; rintro e w' ⟨rfl, rfl⟩)
        go_ret
        exact ⟨by simp [*], (HBl.out).alloc (HBl.out).size _⟩
    · rw [show decide (day < d) = false by simp [e1]]
      go_enter Tryz.func32, Tryz.ntmps32
      go_wp2_with fail
      go_ret
      exact ⟨by simp [*], (HBl.out).alloc (HBl.out).size _⟩
  · have t0 : (k == 2) = false := by simp [e0]
    rw [show decide (k = 2) = false by simp [e0]]
    clear e0
    go_enter Tryz.func32, Tryz.ntmps32
    go_wp2_with fail
    go_ret
    exact ⟨by simp [*], (HBl.out).alloc (HBl.out).size _⟩

set_option maxHeartbeats 2000000 in
theorem may_pred (acts : List Akt) (name : ByteArray) (person day : Int) (w : World) (p0 p1 p2 : Nat)
    (h0 : w.cell? ⟨p0, 0, none⟩ = some (.int .i64 person)) (l0 : p0 < w.heap.size) (h1 : w.cell? ⟨p1, 0, none⟩ = some (.int .i64 day)) (l1 : p1 < w.heap.size) (h2 : w.cell? ⟨p2, 0, none⟩ = some (.string name)) (l2 : p2 < w.heap.size) (hsm : Small acts) :
    PredIn Tryz.prog 42 #[.pointer (some ⟨p0, 0, none⟩), .pointer (some ⟨p1, 0, none⟩), .pointer (some ⟨p2, 0, none⟩)] (fun x => .agg (aktV x).toArray) (fun x => decide (x.kind = 1) && decide (x.person = person) && decide (x.day = day) && aboveB x.o name.data.toList && rightB x) acts w := fun W x hx hb => by
  obtain ⟨k, p, d, o⟩ := x
  have hso := hsm.1 _ hx
  simp only at hso
  have g0 : W.cell? ⟨p0, 0, none⟩ = some (.int .i64 person) := (hb.cell (p := ⟨p0, 0, none⟩) l0).trans h0
  have m0 : p0 < W.heap.size := Nat.lt_of_lt_of_le l0 hb.size
  have n0 : p0 ≠ W.heap.size := by omega
  have g1 : W.cell? ⟨p1, 0, none⟩ = some (.int .i64 day) := (hb.cell (p := ⟨p1, 0, none⟩) l1).trans h1
  have m1 : p1 < W.heap.size := Nat.lt_of_lt_of_le l1 hb.size
  have n1 : p1 ≠ W.heap.size := by omega
  have g2 : W.cell? ⟨p2, 0, none⟩ = some (.string name) := (hb.cell (p := ⟨p2, 0, none⟩) l2).trans h2
  have m2 : p2 < W.heap.size := Nat.lt_of_lt_of_le l2 hb.size
  have n2 : p2 ≠ W.heap.size := by omega
  have hab := fun W => lock_above o name W hso
  have hri := fun W => lock_right k p d o W hso
  show Calls Tryz.prog 42 (#[.agg #[.int .i64 k, .int .i64 p, .int .i64 d, .string o], .pointer (some ⟨p0, 0, none⟩), .pointer (some ⟨p1, 0, none⟩), .pointer (some ⟨p2, 0, none⟩)]) W fun e w' => e = .returned (.bool (decide (k = 1) && decide (p = person) && decide (d = day) && aboveB o.data.toList name.data.toList && rightB ⟨k, p, d, o⟩)) ∧ Below w.heap.size w w'
  clear hx h0 l0 h1 l1 h2 l2
  generalize aboveB o.data.toList name.data.toList = ab at hab ⊢
  generalize rightB ⟨k, p, d, o⟩ = ri at hri ⊢
  have HAb := Lib.hid hab
  have HRi := Lib.hid hri
  clear hab hri
  have HBl := Lib.hid hb
  clear hb
  by_cases e0 : k = 1
  · have t0 : (k == 1) = true := by simp [e0]
    have E0 := Lib.hid e0
    rw [show decide (k = 1) = true by simp [e0]]
    clear e0
    by_cases e1 : p = person
    · have t1 : (p == person) = true := by simp [e1]
      have E1 := Lib.hid e1
      rw [show decide (p = person) = true by simp [e1]]
      clear e1
      by_cases e2 : d = day
      · have t2 : (d == day) = true := by simp [e2]
        have E2 := Lib.hid e2
        rw [show decide (d = day) = true by simp [e2]]
        clear e2
        cases ab with
        | true =>
          go_enter Tryz.func42, Tryz.ntmps42
          go_wp2_with (first | (go_at_call 33; refine (HAb.out _).mono ?_; rintro e w' ⟨rfl, rfl⟩) | (go_at_call 23; refine (HRi.out _).mono ?_; rintro e w1 ⟨rfl, hb1⟩; obtain ⟨hc1, hf1⟩ := bcell hb1))
          go_ret
          exact ⟨by simp [*], ((HBl.out).alloc (HBl.out).size _).trans (hb1.mono (by have := (HBl.out).size; simp; omega))⟩
        | false =>
          go_enter Tryz.func42, Tryz.ntmps42
          go_wp2_with (go_at_call 33; refine (HAb.out _).mono ?_; rintro e w' ⟨rfl, rfl⟩)
          go_ret
          exact ⟨by simp [*], (HBl.out).alloc (HBl.out).size _⟩
      · have t2 : (d == day) = false := by simp [e2]
        rw [show decide (d = day) = false by simp [e2]]
        clear e2
        go_enter Tryz.func42, Tryz.ntmps42
        go_wp2_with fail
        go_ret
        exact ⟨by simp [*], (HBl.out).alloc (HBl.out).size _⟩
    · have t1 : (p == person) = false := by simp [e1]
      rw [show decide (p = person) = false by simp [e1]]
      clear e1
      go_enter Tryz.func42, Tryz.ntmps42
      go_wp2_with fail
      go_ret
      exact ⟨by simp [*], (HBl.out).alloc (HBl.out).size _⟩
  · have t0 : (k == 1) = false := by simp [e0]
    rw [show decide (k = 1) = false by simp [e0]]
    clear e0
    go_enter Tryz.func42, Tryz.ntmps42
    go_wp2_with fail
    go_ret
    exact ⟨by simp [*], (HBl.out).alloc (HBl.out).size _⟩

end Go.Proofs.YtaojnjealccjiaaGreatDoor
