/- kitbagref48.Few. -/
import Derived.Test.YtaojnjealccjiaaGreatDoorSmall
namespace Go.Proofs.YtaojnjealccjiaaGreatDoor
open Go Go.RowKit Kb Go.Lib
set_option linter.unusedVariables false

def fewB (acts : List Akt) : Bool := decide (acts.length ≤ 40) && acts.all fun a => decide (a.obj.size ≤ 100)

theorem fewB_iff {acts : List Akt} : fewB acts = true ↔ acts.length ≤ 40 ∧ ∀ a ∈ acts, a.obj.size ≤ 100 := by
  unfold fewB; simp
theorem few_small {acts : List Akt} (h : fewB acts = true) : Small acts ∧ acts.length ≤ 40 := by
  rw [fewB_iff] at h
  exact ⟨⟨fun a ha => by have := h.2 a ha; omega, by unfold maxLen; omega⟩, h.1⟩

set_option maxHeartbeats 1000000 in
theorem ref_few (acts : List Akt) (A : Option Addr) (c : Nat) (w : World) (hl : Lst aktV 4 w A acts) (hbig : acts.length ≤ maxLen) :
    Calls Tryz.prog 7 #[.slice A acts.length c] w fun e w' => e = .returned (.bool (fewB acts)) ∧ w = w' := by
  unfold maxLen at hbig
  have e1 : ∀ k, k = 41 ∨ k = acts.length → (∀ j (h : j < acts.length), j < k → acts[j].obj.size ≤ 100) → k ≤ acts.length → fewB acts = decide (acts.length ≤ 40) := fun k hk ha hkl => by
    unfold fewB
    by_cases h : acts.length ≤ 40
    · have : (acts.all fun a => decide (a.obj.size ≤ 100)) = true := List.all_eq_true.2 fun a hm => by
        obtain ⟨j, hj, e⟩ := List.getElem_of_mem hm
        rw [decide_eq_true_eq, ← e]
        exact ha j hj (by omega)
      rw [this, Bool.and_true]
    · simp [h]
  have e2 : ∀ j (h : j < acts.length), 100 < acts[j].obj.size → fewB acts = false := fun j h hb => by
    cases hf : fewB acts with
    | false => rfl
    | true => exact absurd ((fewB_iff.1 hf).2 acts[j] (List.getElem_mem h)) (by omega)
  generalize fewB acts = r at e1 e2 ⊢
  generalize hn : acts.length = n at hbig ⊢
  have HN := Lib.hid hn
  have E1 := Lib.hid e1
  have E2 := Lib.hid e2
  have HL := Lib.hid hl
  clear hn e1 e2 hl
  go_enter Tryz.func7, Tryz.ntmps7
  go_wp2_with fail
  go_loop [3] (fun i => ∃ k : Nat, k ≤ n ∧ k ≤ 41 ∧ i = .int .i64 k ∧ Hid (∀ j (h : j < acts.length), j < k → acts[j].obj.size ≤ 100)) (fun i => n - (intOf i).toNat)
  case atStart => exact ⟨0, Nat.zero_le _, Nat.zero_le _, rfl, fun j _ h => absurd h (Nat.not_lt_zero _)⟩
  case round =>
    obtain ⟨k, hk, hk41, rfl, HA⟩ := hrel
    by_cases hlt : k < n
    · by_cases h40 : k ≤ 40
      · have hkx : k < acts.length := by rw [HN.out]; exact hlt
        obtain ⟨b, off, rfl, hbl, c0, c1, c2, c3⟩ := at4_of HL.out hkx
        generalize hx : acts[k] = x at c0 c1 c2 c3
        have HX := Lib.hid hx
        clear hx
        by_cases h100 : 100 < x.obj.size
        · go_wp2_with fail
          go_ret
          refine ⟨?_, rfl⟩
          rw [E2.out k hkx (by rw [HX.out]; exact h100)]
          rfl
        · go_wp2_with fail
          go_round
          case rel =>
            refine ⟨k + 1, by omega, by omega, by go_num, fun j hj hjk => ?_⟩
            by_cases e : j = k
            · subst e; rw [HX.out]; omega
            · exact HA.out j hj (by omega)
          case measure => simp [intOf]; omega
      · have hn40 : ¬ n ≤ 40 := by omega
        go_wp2_with fail
        go_ret
        refine ⟨?_, rfl⟩
        rw [E1.out k (.inl (by omega)) HA.out (by rw [HN.out]; omega), HN.out]
        simp [hn40]; omega
    · by_cases h40 : n ≤ 40
      · have H40 := Lib.hid h40
        go_wp2_with fail
        go_ret
        refine ⟨?_, rfl⟩
        rw [E1.out k (.inr (by rw [HN.out]; omega)) HA.out (by rw [HN.out]; omega), HN.out, decide_eq_true H40.out]
        exact congrArg (fun b => Ending.returned (Value.bool b)) (decide_eq_true (by have := H40.out; omega))
      · have H40 := Lib.hid h40
        go_wp2_with fail
        go_ret
        refine ⟨?_, rfl⟩
        rw [E1.out k (.inr (by rw [HN.out]; omega)) HA.out (by rw [HN.out]; omega), HN.out, decide_eq_false H40.out]
        exact congrArg (fun b => Ending.returned (Value.bool b)) (decide_eq_false (by have := H40.out; omega))
end Go.Proofs.YtaojnjealccjiaaGreatDoor
