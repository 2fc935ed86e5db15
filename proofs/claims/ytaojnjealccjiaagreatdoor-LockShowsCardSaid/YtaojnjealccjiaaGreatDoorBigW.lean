/- The contracts of big's functions on digits: trim, compare. -/
import Derived.Test.YtaojnjealccjiaaGreatDoorInts
namespace Go.Proofs.YtaojnjealccjiaaGreatDoor
open Go Go.RowKit Bg
set_option linter.unusedVariables false

theorem drop_zero {l : List Nat} {n : Nat} (h : ∀ d ∈ l.drop n, d = 0) (hn : 0 < n) (hl : n ≤ l.length) (h0 : l.getD (n - 1) 0 = 0) : ∀ d ∈ l.drop (n - 1), d = 0 := by
  intro d hd
  rw [List.drop_eq_getElem_cons (by omega)] at hd
  rcases List.mem_cons.1 hd with e | hd
  · rw [getD_lt (by omega)] at h0; omega
  · rw [show n - 1 + 1 = n by omega] at hd; exact h d hd

set_option maxHeartbeats 400000 in
theorem big_trim (xs : List Nat) (A : Option Addr) (c : Nat) (w : World) (hd : Dig xs) (ha : Arr w A (xs.map nv)) (hc : xs.length ≤ c) (hm : xs.length ≤ 1000000) :
    Calls Tryz.prog 160 #[.slice A xs.length c] w fun e w' => e = .returned (.slice A (dig (val xs)).length c) ∧ w = w' := by
  go_enter Tryz.func160, Tryz.ntmps160
  go_wp2
  go_loop [3] (fun t => ∃ n : Nat, n ≤ xs.length ∧ t = .int .i64 (n : Int) ∧ Hid (∀ d ∈ xs.drop n, d = 0)) (fun t => (intOf t).toNat)
  case atStart => exact ⟨xs.length, Nat.le_refl _, rfl, by intro d hd; simp at hd⟩
  case round =>
    obtain ⟨n, hn, rfl, HZ⟩ := hrel
    by_cases h0 : n = 0
    · subst h0
      have HR := Lib.hid (trim_eq hd hn HZ.out (fun h => absurd h (by omega)))
      go_wp2
      go_ret
      exact ⟨ret_slice (by rw [← HR.out]; simp), rfl⟩
    · obtain ⟨b, off, d, rfl, hlt, hcell, hdl, HD⟩ := ha.dg hd (k := n - 1) (by omega)
      have hi : ((n : Int) - 1).toNat = n - 1 := by omega
      cases hz : ((d : Int) == 0) with
      | true =>
        have HR : Hid (∀ d ∈ xs.drop (n - 1), d = 0) := by
          refine drop_zero HZ.out (by omega) hn ?_
          have := HD.out
          simp at hz
          omega
        go_wp2
        go_round
        case rel => exact ⟨n - 1, by omega, by go_num, HR⟩
        case measure => simp [intOf]; omega
      | false =>
        have hz' : d ≠ 0 := fun e => by subst e; simp at hz
        have HR := Lib.hid (trim_eq hd hn HZ.out (fun h => by rw [HD.out]; exact hz'))
        clear hz'
        go_wp2
        go_ret
        exact ⟨ret_slice (by rw [← HR.out, List.length_take]; omega), rfl⟩
end Go.Proofs.YtaojnjealccjiaaGreatDoor
