/- restate.shown's test of a key: strings.ContainsFunc. -/
import Derived.Test.YtaojnjealccjiaaGreatDoorShelfB
import Derived.Test.YtaojnjealccjiaaGreatDoorSpan
namespace Go.Proofs.YtaojnjealccjiaaGreatDoor
open Go Go.RowKit Bg Go.Proofs Go.Shelf
set_option linter.unusedVariables false

/-- a rune that a key may not have -/
def oddN (x : Nat) : Bool := decide (x < 33) || decide (126 < x)
/-- a key that has such a rune -/
def oddK (s : ByteArray) : Bool := decide (0 ≤ Lib.idxFunc oddN true s)

theorem odd_pred (x : Nat) (hx : x ≤ 1114111) (w : World) : Calls Tryz.prog 50 #[.int .i32 (x : Int)] w fun e w' => e = .returned (.bool (oddN x)) ∧ Below w.heap.size w w' := by
  by_cases h1 : x < 33
  · have HN := Lib.hid (show oddN x = true by simp [oddN, h1])
    go_enter Tryz.func50, Tryz.ntmps50
    go_wp2
    go_ret
    exact ⟨ret_bool HN.out.symm, Below.refl _ _⟩
  · go_enter Tryz.func50, Tryz.ntmps50
    go_wp2
    go_ret
    refine ⟨ret_bool ?_, Below.refl _ _⟩
    unfold oddN
    congr 1 <;> (rw [decide_eq_decide]; omega)
theorem odd_enters : ∀ args w, (callFunc 50 args).run Tryz.prog w = .ok (.enter 50 args) w := enters_of Tryz.func50 (by kernel_rfl) rfl
theorem odd_key (s : ByteArray) (w : World) : Calls Tryz.prog 51 #[.string s, .func (.func 50) #[] #[]] w (SaysB (oddK s) w) := by
  refine (Any.strings_ContainsFunc_grows Tryz.laysGw17 50 #[] odd_enters oddN s w ?_).mono ?_
  · intro W x hx hb
    have := odd_pred x hx W
    exact this
  · rintro e w' ⟨h1, h2⟩
    exact ⟨h1, h2⟩
end Go.Proofs.YtaojnjealccjiaaGreatDoor
