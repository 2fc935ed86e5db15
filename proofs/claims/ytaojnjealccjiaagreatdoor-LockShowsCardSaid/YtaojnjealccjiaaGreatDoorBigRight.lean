/- The contract of big.Right. -/
import Derived.Test.YtaojnjealccjiaaGreatDoorInts
namespace Go.Proofs.YtaojnjealccjiaaGreatDoor
open Go Go.RowKit Bg
set_option linter.unusedVariables false

/-- what is said of a call that answers a bool and leaves what lay as it was -/
def SaysB (b : Bool) (w : World) (e : Ending) (w' : World) : Prop := e = .returned (.bool b) ∧ Below w.heap.size w w'

/-- an integer as a value -/
def bigV (b : BigV) (A : Option Addr) (c : Nat) : Value := .agg #[.int .i64 b.sign, .slice A b.dg.length c]

theorem digR_snoc {l : List Int} {k : Nat} (h : ∀ i, i < k → 0 ≤ l.getD i 0 ∧ l.getD i 0 ≤ 1048575) (hx : 0 ≤ l.getD k 0 ∧ l.getD k 0 ≤ 1048575) : ∀ i, i < k + 1 → 0 ≤ l.getD i 0 ∧ l.getD i 0 ≤ 1048575 := by
  intro i hi
  rcases Nat.lt_or_ge i k with h1 | h1
  · exact h i h1
  · obtain rfl : i = k := by omega
    exact hx
theorem digR_all {l : List Int} (h : ∀ i, i < l.length → 0 ≤ l.getD i 0 ∧ l.getD i 0 ≤ 1048575) : digR l = true := by
  rw [digR_iff]
  intro d hd
  obtain ⟨i, hi, rfl⟩ := List.getElem_of_mem hd
  have := h i hi
  rwa [List.getD_eq_getElem?_getD, List.getElem?_eq_getElem hi, Option.getD_some] at this
theorem digR_not {l : List Int} {k : Nat} (hk : k < l.length) (h : ¬ (0 ≤ l.getD k 0 ∧ l.getD k 0 ≤ 1048575)) : digR l = false := by
  rw [Bool.eq_false_iff]
  intro hd
  rw [digR_iff] at hd
  refine h ?_
  rw [List.getD_eq_getElem?_getD, List.getElem?_eq_getElem hk, Option.getD_some]
  exact hd _ (List.getElem_mem hk)

set_option maxHeartbeats 1000000 in
theorem big_right (b : BigV) (A : Option Addr) (c : Nat) (w : World) (ha : Arr w A (b.dg.map iv)) (hl : b.dg.length ≤ 1000000) :
    Calls Tryz.prog 111 #[bigV b A c] w (SaysB (rightB b) w) := by
  obtain ⟨s, l⟩ := b
  simp only [bigV] at *
  go_enter Tryz.func111, Tryz.ntmps111
  go_wp2
  go_loop [12] (fun t => ∃ k : Nat, k ≤ l.length ∧ t = .int .i64 (k : Int) ∧ Hid (∀ i, i < k → 0 ≤ l.getD i 0 ∧ l.getD i 0 ≤ 1048575)) (fun t => l.length - (intOf t).toNat)
  case atStart => exact ⟨0, Nat.zero_le _, rfl, fun i hi => absurd hi (Nat.not_lt_zero _)⟩
  case round =>
    obtain ⟨k, hk, rfl, HD⟩ := hrel
    have hbl : Below w.heap.size w (w.alloc (.cells #[.int .i64 s, .slice A l.length c] 54)) := (Below.refl _ _).alloc (Nat.le_refl _) _
    by_cases hlt : k < l.length
    · obtain ⟨b1, off1, rfl, hlt1, hcell⟩ := ha.int hlt
      generalize hx : l.getD k 0 = x at hcell
      by_cases hx0 : x < 0
      · have HR := Lib.hid (show rightB ⟨s, l⟩ = false by
          simp only [rightB, digR_not hlt (by rw [hx]; omega), Bool.false_and])
        clear hx
        go_wp2
        go_ret
        exact ⟨ret_bool HR.out.symm, hbl⟩
      · by_cases hx1 : 1048575 < x
        · have HR := Lib.hid (show rightB ⟨s, l⟩ = false by
            simp only [rightB, digR_not hlt (by rw [hx]; omega), Bool.false_and])
          clear hx
          have hx2 : decide (x < 0) = false := by simpa using hx0
          go_wp2
          go_ret
          exact ⟨ret_bool HR.out.symm, hbl⟩
        · have HN := Lib.hid (digR_snoc HD.out (by rw [hx]; omega))
          clear hx
          have hx2 : decide (x < 0) = false := by simpa using hx0
          have hx3 : decide (1048575 < x) = false := by simpa using hx1
          go_wp2
          go_round
          case rel => exact ⟨k + 1, by omega, by go_num, HN⟩
          case measure => simp [intOf]; omega
    · obtain rfl : k = l.length := by omega
      have HA := Lib.hid (digR_all HD.out)
      by_cases h0 : l = []
      · subst h0
        have HR := Lib.hid (show rightB ⟨s, []⟩ = (s == 0) by simp [rightB, digR])
        have hz : (((([] : List Int).length : Nat) : Int) == 0) = true := by simp
        go_wp2
        go_ret
        exact ⟨ret_bool HR.out.symm, hbl⟩
      · have hp : 0 < l.length := List.length_pos_iff.2 h0
        obtain ⟨b1, off1, rfl, hlt1, hcell⟩ := ha.int (k := l.length - 1) (by omega)
        generalize hx : l.getD (l.length - 1) 0 = x at hcell
        have HR := Lib.hid (show rightB ⟨s, l⟩ = ((s == 1 || s == -1) && x != 0) by
          have e1 : l.isEmpty = false := by simpa using h0
          have e2 : l.getLastD 0 = x := by
            rw [← hx, List.getLastD_eq_getLast?, List.getLast?_eq_some_getLast h0, List.getLast_eq_getElem, List.getD_eq_getElem?_getD, List.getElem?_eq_getElem (by omega)]
          simp only [rightB, HA.out, e1, e2, Bool.false_and, Bool.false_or, Bool.true_and, Bool.not_false])
        have hz : ((l.length : Int) == 0) = false := by simp; exact h0
        have hi : ((l.length : Int) - 1).toNat = l.length - 1 := by omega
        clear hx
        cases h1 : (s == 1) with
        | true =>
          go_wp2
          go_ret
          exact ⟨ret_bool (by rw [HR.out, h1]; simp), hbl⟩
        | false =>
          cases h2 : (s == -1) with
          | true =>
            go_wp2
            go_ret
            exact ⟨ret_bool (by rw [HR.out, h1, h2]; simp), hbl⟩
          | false =>
            go_wp2
            go_ret
            exact ⟨ret_bool (by rw [HR.out, h1, h2]; simp), hbl⟩
end Go.Proofs.YtaojnjealccjiaaGreatDoor
