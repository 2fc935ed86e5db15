/- lock.above, lock.Right; lists of structs in memory; slices.ContainsFunc over them; lock.force, Locked, Hidden, May. -/
import Derived.Test.YtaojnjealccjiaaGreatDoorObj

namespace Go.Proofs.YtaojnjealccjiaaGreatDoor
open Go Go.RowKit Kb Go.Lib
set_option linter.unusedVariables false

theorem lock_above (a b : ByteArray) (w : World) (ha : a.size < 4294967281) : Calls Tryz.prog 33 #[.string a, .string b] w fun e w' => e = .returned (.bool (aboveB a.data.toList b.data.toList)) ∧ w = w' := by
  have hp := fun w => Any.strings_HasPrefix Tryz.lays99 b (a ++ ⟨#[47]⟩) w
  change ∀ w, Calls Tryz.prog 60 _ _ _ at hp
  have e1 : (a ++ ⟨#[47]⟩ : ByteArray).data.toList = a.data.toList ++ [47] := by simp
  unfold aboveB
  rw [e1] at hp
  unfold Lib.hasPrefix at hp
  generalize (a.data.toList ++ [47]).isPrefixOf b.data.toList = p at hp ⊢
  have HP := Lib.hid hp
  clear hp e1
  rw [← Lib.toList_data, ← Lib.toList_data]
  cases hq : (a.toList == b.toList) with
  | true =>
    go_enter Tryz.func33, Tryz.ntmps33
    go_wp2
    go_ret
    exact ⟨rfl, rfl⟩
  | false =>
    go_enter Tryz.func33, Tryz.ntmps33
    go_wp2_with (go_at_call 60; refine (HP.out _).mono ?_; rintro e w' ⟨rfl, rfl⟩)
    go_ret
    exact ⟨by simp, rfl⟩


/-- an act as a value -/
def aktV (a : Akt) : List Value := [.int .i64 a.kind, .int .i64 a.person, .int .i64 a.day, .string a.obj]

set_option maxHeartbeats 1000000 in
theorem lock_right (k p d : Int) (o : ByteArray) (w : World) (ho : o.size < 4294967281) :
    Calls Tryz.prog 23 #[.agg #[.int .i64 k, .int .i64 p, .int .i64 d, .string o]] w fun e w' => e = .returned (.bool (rightB ⟨k, p, d, o⟩)) ∧ Below w.heap.size w w' := by
  have hob := fun w => lock_object o w ho
  have er : rightB ⟨k, p, d, o⟩ = (decide (0 ≤ k) && decide (k < 3) && decide (0 ≤ p) && decide (p < 1000) && decide (0 ≤ d) && decide (d ≤ 100000) && objectB o.data.toList) := rfl
  rw [er]
  clear er
  generalize objectB o.data.toList = ob at hob ⊢
  have HO := Lib.hid hob
  clear hob
  by_cases h1 : 0 ≤ k
  · by_cases h2 : k < 3
    · by_cases h3 : 0 ≤ p
      · by_cases h4 : p < 1000
        · by_cases h5 : 0 ≤ d
          · by_cases h6 : d ≤ 100000
            · go_enter Tryz.func23, Tryz.ntmps23
              go_wp2_with (go_at_call 30; refine (HO.out _).mono ?_; rintro e w' ⟨rfl, hb⟩)
              go_ret
              exact ⟨by simp [h1, h2, h3, h4, h5, h6], ((Below.refl _ w).alloc (Nat.le_refl _) _).trans (hb.mono (by simp))⟩
            · go_enter Tryz.func23, Tryz.ntmps23
              go_wp2_with fail
              go_ret
              exact ⟨by simp; intros; exfalso; omega, (Below.refl _ w).alloc (Nat.le_refl _) _⟩
          · go_enter Tryz.func23, Tryz.ntmps23
            go_wp2_with fail
            go_ret
            exact ⟨by simp; intros; exfalso; omega, (Below.refl _ w).alloc (Nat.le_refl _) _⟩
        · go_enter Tryz.func23, Tryz.ntmps23
          go_wp2_with fail
          go_ret
          exact ⟨by simp; intros; exfalso; omega, (Below.refl _ w).alloc (Nat.le_refl _) _⟩
      · go_enter Tryz.func23, Tryz.ntmps23
        go_wp2_with fail
        go_ret
        exact ⟨by simp; intros; exfalso; omega, (Below.refl _ w).alloc (Nat.le_refl _) _⟩
    · go_enter Tryz.func23, Tryz.ntmps23
      go_wp2_with fail
      go_ret
      exact ⟨by simp; intros; exfalso; omega, (Below.refl _ w).alloc (Nat.le_refl _) _⟩
  · go_enter Tryz.func23, Tryz.ntmps23
    go_wp2_with fail
    go_ret
    exact ⟨by simp; intros; exfalso; omega, (Below.refl _ w).alloc (Nat.le_refl _) _⟩

end Go.Proofs.YtaojnjealccjiaaGreatDoor
