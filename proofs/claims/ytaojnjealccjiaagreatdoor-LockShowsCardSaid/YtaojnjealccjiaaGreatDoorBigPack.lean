/- The guess of a digit of a quotient: what the inner loop of long division needs. Plain Lean. -/
import Derived.Test.YtaojnjealccjiaaGreatDoorBig
namespace Bg
set_option linter.unusedVariables false
/-- what the guess of a digit needs to know -/
structure Pack (X V top t0 v1 v0 : Nat) : Prop where
  start : X / V ≤ top / v1
  more : ∀ g rs, g * v1 + rs = top → rs * 1048576 + t0 < g * v0 → X / V < g
  stop : ∀ g rs, g * v1 + rs = top → g < 1048576 → (1048576 ≤ rs ∨ g * v0 ≤ rs * 1048576 + t0) → (g - 1) * V ≤ X
  small : X / V < 1048576
  pos : 0 < V
theorem Win.pack {u v : List Nat} {j n t2 t1 t0 v1 v0 top : Nat} (h : Win u v j n) (h2 : u.getD (j + v.length) 0 = t2) (h1 : u.getD (j + v.length - 1) 0 = t1) (h0 : u.getD (j + v.length - 2) 0 = t0) (g1 : v.getD (v.length - 1) 0 = v1) (g0 : v.getD (v.length - 2) 0 = v0)
    (ht : top = t2 * 1048576 + t1) : Pack (val (u.drop j)) (val v) top t0 v1 v0 := by
  have hn := h.hn
  subst h2 h1 h0 g1 g0 ht
  have e2 : j + v.length = j + n + 2 := by omega
  have e1 : j + v.length - 1 = j + n + 1 := by omega
  have e0 : j + v.length - 2 = j + n := by omega
  have k1 : v.length - 1 = n + 1 := by omega
  have k0 : v.length - 2 = n := by omega
  rw [e2, k1, k0, show j + n + 2 - 1 = j + n + 1 by omega, show j + n + 2 - 2 = j + n by omega]
  exact ⟨h.start, fun g rs a b => h.more a b, fun g rs a b c => h.stop a b c, h.quot, h.pos⟩
theorem Pack.dec {X V top t0 v1 v0 g rs : Nat} (h : Pack X V top t0 v1 v0) (hg : g * v1 + rs = top) (hq : X / V ≤ g) (hx : 1048576 ≤ g ∨ rs * 1048576 + t0 < g * v0) : 0 < g ∧ (g - 1) * v1 + (rs + v1) = top ∧ X / V ≤ g - 1 ∧ rs + v1 ≤ top := by
  have hsm := h.small
  have hmo := h.more g rs hg
  clear h
  generalize X / V = q at *
  have hlt : q < g := by
    rcases hx with h1 | h1
    · omega
    · exact hmo h1
  have hpos : 0 < g := by omega
  have e : g * v1 = (g - 1) * v1 + v1 := by
    conv => lhs; rw [show g = (g - 1) + 1 by omega, Nat.add_mul, Nat.one_mul]
  refine ⟨hpos, by omega, by omega, by omega⟩
theorem Pack.first {X V top t0 v1 v0 : Nat} (h : Pack X V top t0 v1 v0) (hv : 0 < v1) : top / v1 * v1 + top % v1 = top ∧ X / V ≤ top / v1 ∧ top / v1 ≤ top ∧ top % v1 ≤ top := by
  refine ⟨?_, h.start, Nat.div_le_self _ _, Nat.mod_le _ _⟩
  have := Nat.div_add_mod top v1
  rw [Nat.mul_comm] at this
  exact this
end Bg
