/- The contracts of cmp.Compare at int, and of big.compare. -/
import Derived.Test.YtaojnjealccjiaaGreatDoorInts
namespace Go.Proofs.YtaojnjealccjiaaGreatDoor
open Go Go.RowKit Bg
set_option linter.unusedVariables false

theorem cmp_int (x y : Int) (w : World) : Calls Tryz.prog 74 #[.int .i64 x, .int .i64 y] w fun e w' => e = .returned (.int .i64 (sgn x y)) ∧ w = w' := by
  unfold sgn
  rcases Int.lt_trichotomy x y with h | h | h
  · have h2 : ¬ y < x := by omega
    rw [if_pos h]
    go_enter Tryz.func74, Tryz.ntmps74
    go_wp2
    go_ret
    exact ⟨rfl, rfl⟩
  · subst h
    rw [if_neg (by omega), if_pos rfl]
    have h2 : ¬ x < x := by omega
    go_enter Tryz.func74, Tryz.ntmps74
    go_wp2
    go_ret
    exact ⟨rfl, rfl⟩
  · have h2 : ¬ x < y := by omega
    rw [if_neg h2, if_neg (by omega)]
    go_enter Tryz.func74, Tryz.ntmps74
    go_wp2
    go_ret
    exact ⟨rfl, rfl⟩

set_option maxHeartbeats 1000000 in
theorem big_compare (a b : List Nat) (A A' : Option Addr) (c c' : Nat) (w : World) (hca : Canon a) (hcb : Canon b) (ha : Arr w A (a.map nv)) (hb : Arr w A' (b.map nv)) (hl : a.length ≤ 1000000) (hl' : b.length ≤ 1000000) :
    Calls Tryz.prog 141 #[.slice A a.length c, .slice A' b.length c'] w fun e w' => e = .returned (.int .i64 (cmpN (val a) (val b))) ∧ ∃ n, w' = w.drewN n := by
  by_cases hlen : a.length = b.length
  · have hbn : ((a.length : Int) != (b.length : Int)) = false := by simp; omega
    have HL := Lib.hid hlen
    have hle : a.length ≤ b.length := by omega
    have hge : b.length ≤ a.length := by omega
    clear hlen
    go_enter Tryz.func141, Tryz.ntmps141
    go_wp2
    go_loopw [5] (fun u wr => ∃ k n : Nat, k ≤ a.length ∧ u = .int .i64 ((k : Int) - 1) ∧ wr = w.drewN n ∧ Hid (a.drop k = b.drop k)) (fun u _ => (intOf u + 1).toNat)
    case atStart => exact ⟨a.length, 0, Nat.le_refl _, rfl, rfl, by show a.drop a.length = b.drop a.length; rw [List.drop_of_length_le (Nat.le_refl _), List.drop_of_length_le (by omega)]⟩
    case round =>
      obtain ⟨k, n, hk, rfl, rfl, HD⟩ := hrel
      by_cases h0 : k = 0
      · subst h0
        have HE := Lib.hid (show cmpN (val a) (val b) = 0 from cmpN_eq (by have := HD.out; simp at this; rw [this]))
        have hneg : decide ((0 : Int) ≤ ((0 : Nat) : Int) - 1) = false := by decide
        go_wp2
        go_ret
        exact ⟨ret_int HE.out.symm, n, rfl⟩
      · obtain ⟨i, rfl⟩ : ∃ i, k = i + 1 := ⟨k - 1, by omega⟩
        obtain ⟨b1, off1, x, rfl, hlt1, hcell1, hxl, HX⟩ := ha.dg hca.1 (k := i) (by omega)
        obtain ⟨b2, off2, y, rfl, hlt2, hcell2, hyl, HY⟩ := hb.dg hcb.1 (k := i) (by omega)
        have e5 : (((i + 1 : Nat) : Int) - 1) = (i : Int) := by omega
        rw [e5]
        clear e5
        have hi1 : (i : Int) < (a.length : Int) := by omega
        have hi2 : (i : Int) < (b.length : Int) := by omega
        have hi0 : 0 ≤ (i : Int) := by omega
        by_cases hxy : x = y
        · subst hxy
          have HN := Lib.hid (show a.drop i = b.drop i by
            have e1 := HX.out
            have e2 := HY.out
            have e3 := HD.out
            have e4 := HL.out
            rw [List.drop_eq_getElem_cons (show i < a.length by omega), List.drop_eq_getElem_cons (show i < b.length by omega), e3, ← getD_lt (l := a) (by omega), ← getD_lt (l := b) (by omega), e1, e2])
          have hne : ((x : Int) != (x : Int)) = false := by simp
          go_wp2
          go_quiet (fail)
          go_wp2
          go_roundw
          case rel => exact ⟨i, n + nq, by omega, rfl, rfl, HN⟩
          case measure => simp [intOf]
        · have hne : ((x : Int) != (y : Int)) = true := by simp; omega
          have hcmp := fun w => cmp_int (x : Int) (y : Int) w
          have HE := Lib.hid (show sgn (x : Int) (y : Int) = cmpN (val a) (val b) by
            have e1 := HX.out
            have e2 := HY.out
            have e3 := HD.out
            have e4 := HL.out
            unfold sgn
            rcases Nat.lt_or_ge x y with h | h
            · rw [if_pos (by omega), cmpN_lt (top_lt hca.1 e4 i (by omega) e3 (by omega))]
            · rw [if_neg (by omega), if_neg (by omega), cmpN_gt (top_lt hcb.1 e4.symm i (by omega) e3.symm (by omega))])
          have HC := Lib.hid hcmp
          clear hcmp
          go_wp2
          go_quiet (fail)
          go_wp2
          go_quiet ((go_at_call 74; exact quiet_add_left (HC.out _)))
          go_wp2
          go_ret
          exact ⟨ret_int HE.out, _, by rw [World.drewN_drewN, World.drewN_drewN]⟩
  · have hbn : ((a.length : Int) != (b.length : Int)) = true := by simp; omega
    have HE := Lib.hid (show sgn (a.length : Int) (b.length : Int) = cmpN (val a) (val b) by
      unfold sgn
      rcases Nat.lt_or_ge a.length b.length with h | h
      · rw [if_pos (by omega), cmpN_lt (len_lt hca.1 hcb h)]
      · rw [if_neg (by omega), if_neg (by omega), cmpN_gt (len_lt hcb.1 hca (by omega))])
    clear hlen
    have HC := Lib.hid (fun w => cmp_int (a.length : Int) (b.length : Int) w)
    go_enter Tryz.func141, Tryz.ntmps141
    go_wp2_with (go_at_call 74; refine (HC.out _).mono ?_; rintro e w' ⟨rfl, rfl⟩)
    go_ret
    exact ⟨ret_int HE.out, 0, rfl⟩
end Go.Proofs.YtaojnjealccjiaaGreatDoor
