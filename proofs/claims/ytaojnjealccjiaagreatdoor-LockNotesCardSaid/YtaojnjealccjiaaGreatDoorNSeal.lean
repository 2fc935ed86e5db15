/- The contracts of seal.below, known, Right. -/
import Derived.Test.YtaojnjealccjiaaGreatDoorNRep
namespace Go.Proofs.YtaojnjealccjiaaGreatDoor
open Go Go.RowKit Nt Go.Proofs
set_option linter.unusedVariables false
set_option linter.unusedSimpArgs false

theorem seal_below (i n : Int) (w : World) : Calls Tryz.prog 90 #[.int .i64 i, .int .i64 n] w fun e w' => e = .returned (.bool (decide (0 ≤ i) && decide (i < n))) ∧ w = w' := by
  by_cases h1 : 0 ≤ i <;> by_cases h2 : i < n <;>
  · go_enter Tryz.func90, Tryz.ntmps90
    go_wp2
    go_ret
    exact ⟨retN_bool (by simp [h1, h2]), rfl⟩
theorem seal_known (h n : Int) (w : World) : Calls Tryz.prog 89 #[.int .i64 h, .int .i64 n] w fun e w' => e = .returned (.bool (knownB h n)) ∧ w = w' := by
  have a := fun W => seal_below h 400 W
  have b := fun W => seal_below n 400 W
  unfold knownB
  cases ha : (decide (0 ≤ h) && decide (h < 400)) <;> cases hb : (decide (0 ≤ n) && decide (n < 400)) <;>
  · rw [ha] at a
    rw [hb] at b
    have HA := Lib.hid a
    have HB := Lib.hid b
    clear a b ha hb
    go_enter Tryz.func89, Tryz.ntmps89
    go_wp2_with (go_at_call 90; first | ((with_reducible refine (HA.out _).mono ?_); rintro e w' ⟨rfl, rfl⟩) | ((with_reducible refine (HB.out _).mono ?_); rintro e w' ⟨rfl, rfl⟩))
    go_ret
    exact ⟨rfl, rfl⟩
end Go.Proofs.YtaojnjealccjiaaGreatDoor
