/- slices.ContainsFunc at no element; lock.Locked, Hidden, May. -/
import Derived.Test.YtaojnjealccjiaaGreatDoorLocked2
namespace Go.Proofs.YtaojnjealccjiaaGreatDoor
open Go Go.RowKit Kb Go.Lib
set_option linter.unusedVariables false

theorem index_none (A : Option Addr) (c : Nat) (fv : Value) (w : World) : Calls Tryz.prog 59 #[.slice A 0 c, fv] w fun e w' => e = .returned (.int .i64 (-1)) ∧ w = w' := by
  go_enter Tryz.func59, Tryz.ntmps59
  go_wp2_with fail
  refine wp_loop_rounds 1 ?_
  rw [rounds_succ]
  go_wp2_with fail
  go_ret
  exact ⟨rfl, rfl⟩

theorem contains_none (A : Option Addr) (c : Nat) (fv : Value) (w : World) : Calls Tryz.prog 31 #[.slice A 0 c, fv] w fun e w' => e = .returned (.bool false) ∧ w = w' := by
  go_enter Tryz.func31, Tryz.ntmps31
  go_wp2_with (go_at_call 59; refine (index_none _ _ _ _).mono ?_; rintro e w' ⟨rfl, rfl⟩)
  go_ret
  exact ⟨rfl, rfl⟩

/-- slices.ContainsFunc over acts -/
theorem contains_acts (p : Akt → Bool) (g : Nat) (lb : Array Value) (eg : ∀ args w, (callFunc g args).run Tryz.prog w = .ok (.enter g args) w) (A : Option Addr) (c : Nat) (acts : List Akt) (w : World)
    (hp : PredIn Tryz.prog g lb (fun x => .agg (aktV x).toArray) p acts w) (hbig : acts.length ≤ maxLen) (hl : Lst aktV 4 w A acts) :
    Calls Tryz.prog 31 #[.slice A acts.length c, .func (.func g) #[] lb] w fun e w' => e = .returned (.bool (acts.any p)) ∧ Below w.heap.size w w' := by
  cases acts with
  | nil => exact (contains_none A c _ w).mono fun e w' ⟨he, hw⟩ => ⟨he, hw ▸ Below.refl _ _⟩
  | cons a l => exact contains_in Tryz.laysCont 4 Tryz.isAgg47 Tryz.sizeOf47 aktV (fun _ => rfl) p g lb eg A c (a :: l) w hp (by unfold maxLen at hbig; omega) hl (by simp)

theorem three_cells {w W : World} {x y z : Value} {t1 t2 t3 : TypeId} (h : Below (w.heap.size + 3) (((w.alloc (.cells #[x] t1)).alloc (.cells #[y] t2)).alloc (.cells #[z] t3)) W) :
    W.cell? ⟨w.heap.size, 0, none⟩ = some x ∧ W.cell? ⟨w.heap.size + 1, 0, none⟩ = some y ∧ W.cell? ⟨w.heap.size + 2, 0, none⟩ = some z ∧ w.heap.size + 3 ≤ W.heap.size := by
  have hs := h.size
  simp only [World.size_alloc] at hs
  refine ⟨(h.cell (p := ⟨w.heap.size, 0, none⟩) (by show w.heap.size < _; omega)).trans ?_, (h.cell (p := ⟨w.heap.size + 1, 0, none⟩) (by show w.heap.size + 1 < _; omega)).trans ?_, (h.cell (p := ⟨w.heap.size + 2, 0, none⟩) (by show w.heap.size + 2 < _; omega)).trans ?_, by omega⟩
  · rw [World.cell?_alloc_lt _ _ _ (by simp only [World.size_alloc]; omega), World.cell?_alloc_lt _ _ _ (by simp only [World.size_alloc]; omega), World.cell?_alloc_new]; rfl
  · rw [World.cell?_alloc_lt _ _ _ (by simp only [World.size_alloc]; omega), show w.heap.size + 1 = (w.alloc (.cells #[x] t1)).heap.size by simp only [World.size_alloc], World.cell?_alloc_new]; rfl
  · rw [show w.heap.size + 2 = ((w.alloc (.cells #[x] t1)).alloc (.cells #[y] t2)).heap.size by simp only [World.size_alloc], World.cell?_alloc_new]; rfl

set_option maxHeartbeats 1000000 in
theorem lock_locked (acts : List Akt) (A : Option Addr) (c : Nat) (name : ByteArray) (day : Int) (w : World) (hl : Lst aktV 4 w A acts) (hsm : Small acts) (hn : name.size < 4294967281) :
    Calls Tryz.prog 15 #[.slice A acts.length c, .string name, .int .i64 day] w fun e w' => e = .returned (.bool (lockedB acts name.data.toList day)) ∧ Below w.heap.size w w' := by
  have hob := fun W => lock_object name W hn
  have eg : ∀ args w, (callFunc 37 args).run Tryz.prog w = .ok (.enter 37 args) w := enters_of Tryz.func37 (by kernel_rfl) rfl
  have hcon := fun (W : World) (h : Below (w.heap.size + 3) (((w.alloc (.cells #[.slice A acts.length c] 23)).alloc (.cells #[.string name] 9)).alloc (.cells #[.int .i64 day] 3)) W) =>
    have h3 := three_cells h
    contains_acts _ 37 _ eg A c acts W (locked_pred acts A c name day W (w.heap.size + 1) w.heap.size (w.heap.size + 2) h3.2.1 (by have := h3.2.2.2; omega) h3.1 (by have := h3.2.2.2; omega) h3.2.2.1 (by have := h3.2.2.2; omega) hsm
      ((((hl.alloc _).alloc _).alloc _).below (h.mono (by simp)))) hsm.2 ((((hl.alloc _).alloc _).alloc _).below (h.mono (by simp)))
  have e1 : lockedB acts name.data.toList day = (objectB name.data.toList && acts.any fun a => decide (a.kind = 0) && aboveB a.o name.data.toList && rightB a && forceB acts a day) := rfl
  rw [e1]
  clear e1
  generalize (acts.any fun a => decide (a.kind = 0) && aboveB a.o name.data.toList && rightB a && forceB acts a day) = r at hcon ⊢
  generalize objectB name.data.toList = ob at hob ⊢
  have HC := Lib.hid hcon
  have HO := Lib.hid hob
  clear hcon hob
  cases ob with
  | false =>
    go_enter Tryz.func15, Tryz.ntmps15
    go_wp2_with (go_at_call 30; refine (HO.out _).mono ?_; rintro e w1 ⟨rfl, hb1⟩; obtain ⟨hc1, hf1⟩ := bcell hb1)
    go_ret
    exact ⟨rfl, (((((Below.refl _ w).alloc (Nat.le_refl _) _).alloc (by simp) _).alloc (by simp; omega) _).trans (hb1.mono (by simp; omega)))⟩
  | true =>
    go_enter Tryz.func15, Tryz.ntmps15
    go_wp2_with (first | (go_at_call 30; refine (HO.out _).mono ?_; rintro e w1 ⟨rfl, hb1⟩; obtain ⟨hc1, hf1⟩ := bcell hb1) | (go_at_call 31; refine (HC.out _ (hb1.mono (by simp))).mono ?_; rintro e w2 ⟨rfl, hb2⟩))
    go_ret
    exact ⟨rfl, ((((((Below.refl _ w).alloc (Nat.le_refl _) _).alloc (by simp) _).alloc (by simp; omega) _).trans (hb1.mono (by simp; omega)))).trans (hb2.mono (by have := hb1.size; simp at this; omega))⟩

set_option maxHeartbeats 1000000 in
theorem lock_hidden (acts : List Akt) (A : Option Addr) (c : Nat) (name : ByteArray) (day : Int) (w : World) (hl : Lst aktV 4 w A acts) (hsm : Small acts) (hn : name.size < 4294967281) :
    Calls Tryz.prog 11 #[.slice A acts.length c, .string name, .int .i64 day] w fun e w' => e = .returned (.bool (hiddenB acts name.data.toList day)) ∧ Below w.heap.size w w' := by
  have hob := fun W => lock_object name W hn
  have eg : ∀ args w, (callFunc 32 args).run Tryz.prog w = .ok (.enter 32 args) w := enters_of Tryz.func32 (by kernel_rfl) rfl
  have hcon := fun (W : World) (h : Below (w.heap.size + 2) ((w.alloc (.cells #[.string name] 9)).alloc (.cells #[.int .i64 day] 3)) W) =>
    contains_acts _ 32 _ eg A c acts W (hidden_pred acts name day W (w.heap.size + 1) w.heap.size
      ((h.cell (p := ⟨w.heap.size + 1, 0, none⟩) (by show w.heap.size + 1 < w.heap.size + _; omega)).trans (by simp)) (by have := h.size; simp at this; omega)
      ((h.cell (p := ⟨w.heap.size, 0, none⟩) (by show w.heap.size < w.heap.size + _; omega)).trans (by simp)) (by have := h.size; simp at this; omega) hsm) hsm.2 (((hl.alloc _).alloc _).below (h.mono (by simp)))
  have e1 : hiddenB acts name.data.toList day = (objectB name.data.toList && acts.any fun a => decide (a.kind = 2) && decide (day < a.day) && aboveB a.o name.data.toList && rightB a) := rfl
  rw [e1]
  clear e1
  generalize (acts.any fun a => decide (a.kind = 2) && decide (day < a.day) && aboveB a.o name.data.toList && rightB a) = r at hcon ⊢
  generalize objectB name.data.toList = ob at hob ⊢
  have HC := Lib.hid hcon
  have HO := Lib.hid hob
  clear hcon hob
  cases ob with
  | false =>
    go_enter Tryz.func11, Tryz.ntmps11
    go_wp2_with (go_at_call 30; refine (HO.out _).mono ?_; rintro e w1 ⟨rfl, hb1⟩; obtain ⟨hc1, hf1⟩ := bcell hb1)
    go_ret
    exact ⟨rfl, ((((Below.refl _ w).alloc (Nat.le_refl _) _).alloc (by simp) _).trans (hb1.mono (by simp; omega)))⟩
  | true =>
    go_enter Tryz.func11, Tryz.ntmps11
    go_wp2_with (first | (go_at_call 30; refine (HO.out _).mono ?_; rintro e w1 ⟨rfl, hb1⟩; obtain ⟨hc1, hf1⟩ := bcell hb1) | (go_at_call 31; refine (HC.out _ (hb1.mono (by simp))).mono ?_; rintro e w2 ⟨rfl, hb2⟩))
    go_ret
    exact ⟨rfl, (((((Below.refl _ w).alloc (Nat.le_refl _) _).alloc (by simp) _).trans (hb1.mono (by simp; omega)))).trans (hb2.mono (by have := hb1.size; simp at this; omega))⟩

set_option maxHeartbeats 2000000 in
theorem lock_may (acts : List Akt) (A : Option Addr) (c : Nat) (name : ByteArray) (person day : Int) (w : World) (hl : Lst aktV 4 w A acts) (hsm : Small acts) (hn : name.size < 4294967281) :
    Calls Tryz.prog 22 #[.slice A acts.length c, .string name, .int .i64 person, .int .i64 day] w fun e w' => e = .returned (.int .i64 (mayI 1 27 19 acts name.data.toList person day)) ∧ Below w.heap.size w w' := by
  have hob := fun W => lock_object name W hn
  have hlo := fun (W : World) (h : Below w.heap.size w W) => lock_locked acts A c name day W (hl.below h) hsm hn
  have eg : ∀ args w, (callFunc 42 args).run Tryz.prog w = .ok (.enter 42 args) w := enters_of Tryz.func42 (by kernel_rfl) rfl
  have hcon := fun (W : World) (h : Below (w.heap.size + 3) (((w.alloc (.cells #[.string name] 9)).alloc (.cells #[.int .i64 person] 3)).alloc (.cells #[.int .i64 day] 3)) W) =>
    have h3 := three_cells h
    contains_acts _ 42 _ eg A c acts W (may_pred acts name person day W (w.heap.size + 1) (w.heap.size + 2) w.heap.size h3.2.1 (by have := h3.2.2.2; omega) h3.2.2.1 (by have := h3.2.2.2; omega) h3.1 (by have := h3.2.2.2; omega) hsm) hsm.2 ((((hl.alloc _).alloc _).alloc _).below (h.mono (by simp)))
  have e2 : (acts.any fun a => decide (a.kind = 1) && decide (a.person = person) && decide (a.day = day) && aboveB a.o name.data.toList && rightB a) = ownB acts name.data.toList person day := rfl
  rw [e2] at hcon
  clear e2
  unfold mayI
  generalize ownB acts name.data.toList person day = r at hcon ⊢
  generalize lockedB acts name.data.toList day = lk at hlo ⊢
  generalize objectB name.data.toList = ob at hob ⊢
  have HC := Lib.hid hcon
  have HO := Lib.hid hob
  have HL := Lib.hid hlo
  clear hcon hob hlo
  have hb0 : Below w.heap.size w (((w.alloc (.cells #[.string name] 9)).alloc (.cells #[.int .i64 person] 3)).alloc (.cells #[.int .i64 day] 3)) := (((Below.refl _ w).alloc (Nat.le_refl _) _).alloc (by simp) _).alloc (by simp; omega) _
  have HB0 := Lib.hid hb0
  clear hb0
  cases ob with
  | false =>
    rw [if_pos (by simp)]
    go_enter Tryz.func22, Tryz.ntmps22
    go_wp2_with (go_at_call 30; refine (HO.out _).mono ?_; rintro e w1 ⟨rfl, hb1⟩; obtain ⟨hc1, hf1⟩ := bcell hb1)
    go_ret
    exact ⟨rfl, (HB0.out).trans (hb1.mono (by simp; omega))⟩
  | true =>
    by_cases h1 : person < 0
    · rw [if_pos (by simp [h1])]
      go_enter Tryz.func22, Tryz.ntmps22
      go_wp2_with (go_at_call 30; refine (HO.out _).mono ?_; rintro e w1 ⟨rfl, hb1⟩; obtain ⟨hc1, hf1⟩ := bcell hb1)
      go_ret
      exact ⟨rfl, (HB0.out).trans (hb1.mono (by simp; omega))⟩
    · by_cases h2 : 1000 ≤ person
      · rw [if_pos (by simp [h2])]
        go_enter Tryz.func22, Tryz.ntmps22
        go_wp2_with (go_at_call 30; refine (HO.out _).mono ?_; rintro e w1 ⟨rfl, hb1⟩; obtain ⟨hc1, hf1⟩ := bcell hb1)
        go_ret
        exact ⟨rfl, (HB0.out).trans (hb1.mono (by simp; omega))⟩
      · by_cases h3 : day < 0
        · rw [if_pos (by simp [h3])]
          go_enter Tryz.func22, Tryz.ntmps22
          go_wp2_with (go_at_call 30; refine (HO.out _).mono ?_; rintro e w1 ⟨rfl, hb1⟩; obtain ⟨hc1, hf1⟩ := bcell hb1)
          go_ret
          exact ⟨rfl, (HB0.out).trans (hb1.mono (by simp; omega))⟩
        · by_cases h4 : 100000 < day
          · rw [if_pos (by simp [h4])]
            go_enter Tryz.func22, Tryz.ntmps22
            go_wp2_with (go_at_call 30; refine (HO.out _).mono ?_; rintro e w1 ⟨rfl, hb1⟩; obtain ⟨hc1, hf1⟩ := bcell hb1)
            go_ret
            exact ⟨rfl, (HB0.out).trans (hb1.mono (by simp; omega))⟩
          · have q1 : decide (person < 0) = false := by simp; omega
            have q2 : decide (1000 ≤ person) = false := by simp; omega
            have q3 : decide (day < 0) = false := by simp; omega
            have q4 : decide (100000 < day) = false := by simp; omega
            rw [q1, q2, q3, q4, if_neg (by simp)]
            clear q1 q2 q3 q4
            cases lk with
            | true =>
              rw [if_pos rfl]
              go_enter Tryz.func22, Tryz.ntmps22
              go_wp2_with (first | (go_at_call 30; refine (HO.out _).mono ?_; rintro e w1 ⟨rfl, hb1⟩; obtain ⟨hc1, hf1⟩ := bcell hb1) | (go_at_call 15; refine (HL.out _ ((HB0.out).trans (hb1.mono (by simp; omega)))).mono ?_; rintro e w2 ⟨rfl, hb2⟩; obtain ⟨hc2, hf2⟩ := bcell hb2))
              go_ret
              exact ⟨rfl, ((HB0.out).trans (hb1.mono (by simp; omega))).trans (hb2.mono (by have := hb1.size; simp at this; omega))⟩
            | false =>
              rw [if_neg (by simp)]
              cases r with
              | false =>
                rw [if_neg (by simp)]
                go_enter Tryz.func22, Tryz.ntmps22
                go_wp2_with (first | (go_at_call 30; refine (HO.out _).mono ?_; rintro e w1 ⟨rfl, hb1⟩; obtain ⟨hc1, hf1⟩ := bcell hb1) | (go_at_call 15; refine (HL.out _ ((HB0.out).trans (hb1.mono (by simp; omega)))).mono ?_; rintro e w2 ⟨rfl, hb2⟩; obtain ⟨hc2, hf2⟩ := bcell hb2) | (go_at_call 31; refine (HC.out _ ((hb1.mono (by simp)).trans (hb2.mono (by have := hb1.size; simp at this; omega)))).mono ?_; rintro e w3 ⟨rfl, hb3⟩))
                go_ret
                exact ⟨rfl, (((HB0.out).trans (hb1.mono (by simp; omega))).trans (hb2.mono (by have := hb1.size; simp at this; omega))).trans (hb3.mono (by have := hb1.size; have := hb2.size; simp at *; omega))⟩
              | true =>
                rw [if_pos rfl]
                go_enter Tryz.func22, Tryz.ntmps22
                go_wp2_with (first | (go_at_call 30; refine (HO.out _).mono ?_; rintro e w1 ⟨rfl, hb1⟩; obtain ⟨hc1, hf1⟩ := bcell hb1) | (go_at_call 15; refine (HL.out _ ((HB0.out).trans (hb1.mono (by simp; omega)))).mono ?_; rintro e w2 ⟨rfl, hb2⟩; obtain ⟨hc2, hf2⟩ := bcell hb2) | (go_at_call 31; refine (HC.out _ ((hb1.mono (by simp)).trans (hb2.mono (by have := hb1.size; simp at this; omega)))).mono ?_; rintro e w3 ⟨rfl, hb3⟩))
                go_ret
                exact ⟨rfl, (((HB0.out).trans (hb1.mono (by simp; omega))).trans (hb2.mono (by have := hb1.size; simp at this; omega))).trans (hb3.mono (by have := hb1.size; have := hb2.size; simp at *; omega))⟩

end Go.Proofs.YtaojnjealccjiaaGreatDoor
