/- The contract of big.Int, of a positive right integer; frac.one. -/
import Derived.Test.YtaojnjealccjiaaGreatDoorBigGcd
import Derived.Deep.DeepCutAuto
namespace Go.Proofs.YtaojnjealccjiaaGreatDoor
open Go Go.RowKit Bg Go.Proofs
set_option linter.unusedVariables false

/-- what big.Int says of a positive integer v -/
def IntPost (v : Nat) (w : World) (e : Ending) (w' : World) : Prop := ∃ (z : Int) (ok : Bool), e = .returned (.tuple #[.int .i64 z, .bool ok]) ∧ (ok && z == 1) = (v == 1) ∧ Below w.heap.size w w'

theorem or_u64 (a b k : Nat) (ha : a < 2 ^ k) (hk : k ≤ 60) (hb : b * 2 ^ k < 18446744073709551616) : bits .or .u64 (a : Int) ((b * 2 ^ k : Nat) : Int) = ((a + b * 2 ^ k : Nat) : Int) := by
  have h1 : (BitVec.ofInt 64 (a : Int)).toNat = a := by
    rw [BitVec.ofInt_natCast, BitVec.toNat_ofNat]
    refine Nat.mod_eq_of_lt ?_
    have : 2 ^ k ≤ 2 ^ 60 := Nat.pow_le_pow_right (by omega) hk
    omega
  have h2 : (BitVec.ofInt 64 ((b * 2 ^ k : Nat) : Int)).toNat = b * 2 ^ k := by
    rw [BitVec.ofInt_natCast, BitVec.toNat_ofNat]
    exact Nat.mod_eq_of_lt hb
  show IntKind.u64.wrap ((BitVec.ofInt 64 (a : Int) ||| BitVec.ofInt 64 ((b * 2 ^ k : Nat) : Int)).toNat : Int) = _
  rw [BitVec.toNat_or, h1, h2, Nat.or_comm, ← Nat.shiftLeft_eq, ← Nat.shiftLeft_add_eq_or_of_lt ha, Nat.shiftLeft_eq]
  have h3 : a + b * 2 ^ k < 18446744073709551616 := by
    have h4 : b * 2 ^ k + 2 ^ k ≤ 18446744073709551616 := by
      have hd : 18446744073709551616 = 2 ^ (64 - k) * 2 ^ k := by rw [← Nat.pow_add, show 64 - k + k = 64 by omega]
      rw [hd] at hb ⊢
      have := Nat.lt_of_mul_lt_mul_right hb
      have h5 := Nat.mul_le_mul_right (2 ^ k) (show b + 1 ≤ 2 ^ (64 - k) from this)
      rw [Nat.add_mul, Nat.one_mul] at h5
      exact h5
    omega
  rw [Nat.add_comm]
  rw [IntKind.wrap_u64]
  omega

set_option maxRecDepth 100000 in
theorem lss_u64 (u : Nat) (W : World) : (binOp .lss 146 (.int .u64 (u : Int)) (.int .u64 9223372036854775808)).run Tryz.prog W = .ok (.bool (decide (u < 9223372036854775808))) W := by
  simp [go_sem]
  omega
set_option maxRecDepth 100000 in
theorem conv_u64 (u : Nat) (h : u < 9223372036854775808) (W : World) : (convert 146 3 (.int .u64 (u : Int))).run Tryz.prog W = .ok (.int .i64 (u : Int)) W := by
  simp [go_sem]
  exact wrap_id (by omega)

set_option maxRecDepth 100000 in
set_option maxHeartbeats 2000000 in
theorem big_int {M n : Nat} {A : Option Addr} {b : BigV} (c : Nat) (w : World) (h : IsBig M w 1 A n b) (hr : rightB b = true) (hM : M ≤ 1000000) :
    Calls Tryz.prog 140 #[.agg #[.int .i64 1, .slice A n c]] w (IntPost (bval b) w) := by
  have hri := fun W (h : IsBig M W 1 A n b) => right_of c h hM
  rw [hr] at hri
  have HR := Lib.hid hri
  have H := Lib.hid h
  have hle := h.le
  obtain ⟨p1, p2, p3, p4, p5, p6⟩ := isBig_nat h hr
  have hbv : bval b = val (natD b.dg) := rfl
  rw [hbv]
  generalize natD b.dg = xs at *
  clear hri h hr p4 p5 p6 hbv
  have HL := Lib.hid p1
  have HP := Lib.hid p3
  by_cases hn4 : 4 < n
  · have HV := Lib.hid (show (val xs == 1) = false by
      have := canon_lower p2 (fun e => by rw [e] at p1; simp at p1; omega)
      have h3 : 1048576 ^ 4 ≤ 1048576 ^ (xs.length - 1) := Nat.pow_le_pow_right (by omega) (by omega)
      rw [beq_eq_false_iff_ne]
      intro e
      rw [e] at this
      omega)
    clear p1 p2 p3
    go_enter Tryz.func140, Tryz.ntmps140
    go_wp2_with fail
    refine (HR.out _ (H.out.alloc _)).mono ?_
    rintro e w1 ⟨rfl, hb1⟩
    have hbw : Below w.heap.size w w1 := ((Below.refl _ w).alloc (Nat.le_refl _) _).trans (hb1.mono (by simp))
    obtain ⟨hc1, hf1⟩ := bcell hb1
    have hz1 : w.heap.size < w1.heap.size := by have := hb1.size; simp at this; omega
    have e1 : w1.cell? ⟨w.heap.size, 1, none⟩ = some (.slice A n c) := by rw [hc1 (w.heap.size) 1 (by simp)]; simp
    clear hb1 hc1 hf1
    go_wp2
    go_ret2
    exact ⟨0, false, rfl, by rw [HV.out]; rfl, hbw⟩
  · have hcan := p2
    have hd := p2.1
    clear p3
    go_enter Tryz.func140, Tryz.ntmps140
    go_wp2_with fail
    refine (HR.out _ (H.out.alloc _)).mono ?_
    rintro e w1 ⟨rfl, hb1⟩
    have hbw : Below w.heap.size w w1 := ((Below.refl _ w).alloc (Nat.le_refl _) _).trans (hb1.mono (by simp))
    obtain ⟨hc1, hf1⟩ := bcell hb1
    have hz1 : w.heap.size < w1.heap.size := by have := hb1.size; simp at this; omega
    have e0 : w1.cell? ⟨w.heap.size, 0, none⟩ = some (.int .i64 1) := by rw [hc1 (w.heap.size) 0 (by simp)]; simp
    have e1 : w1.cell? ⟨w.heap.size, 1, none⟩ = some (.slice A n c) := by rw [hc1 (w.heap.size) 1 (by simp)]; simp
    have HB := Lib.hid hbw
    have HP1 := Lib.hid (HP.out.below hbw)
    clear hb1 hc1 hf1 hbw p1 p2 hcan
    go_wp2_with fail
    go_loop [4, 19] (fun t r => ∃ i u : Nat, i ≤ n ∧ t = .int .u64 (u : Int) ∧ r = .int .i64 (i : Int) ∧ u < 1048576 ^ i ∧ (i = 4 → u < 10376293541461622784) ∧ Hid (val (xs.take i) = u)) (fun _ r => n - (intOf r).toNat)
    case atStart => exact ⟨0, 0, Nat.zero_le _, rfl, rfl, by simp, fun h => by omega, by show val (xs.take 0) = 0; simp [val]⟩
    case round =>
      obtain ⟨i, u, hi, rfl, rfl, hu, hu4, HU⟩ := hrel
      by_cases hlt : i < n
      · obtain ⟨b1, off1, d, rfl, hlt1, hcell, hdl, HD⟩ := HP1.out.dg hd (k := i) (by have := HL.out; omega)
        have hlx : n ≤ xs.length := by have := HL.out; omega
        clear hu4
        by_cases h38 : i = 3 ∧ 8 < d
        · obtain ⟨rfl, h8⟩ := h38
          have HV := Lib.hid (show (val xs == 1) = false by
            rw [beq_eq_false_iff_ne]
            intro e
            have h1 := val_split xs 3 (by omega)
            have h2 := val_drop xs 3 (by omega)
            rw [HD.out] at h2
            rw [h2] at h1
            omega)
          have hd8 : decide ((8 : Int) < (d : Int)) = true := by simp; omega
          go_wp2
          go_ret2
          exact ⟨0, false, rfl, by rw [HV.out]; rfl, HB.out⟩
        rcases (show i = 0 ∨ i = 1 ∨ i = 2 ∨ i = 3 by omega) with rfl | rfl | rfl | rfl
        · -- digit 0
          have HN := Lib.hid (show val (xs.take (0 + 1)) = u + d * 1 by rw [val_take_succ xs 0 (by omega), HD.out, HU.out])
          simp only [Nat.add_zero] at hcell
          have hi3 : (((0 : Nat) : Int) == 3) = false := by decide
          have hul : u + d * 1 < 1048576 := by simp at hu;  omega
          have hor : bits .or .u64 (u : Int) (d : Int) = ((u + d : Nat) : Int) := by have := or_u64 u d 0 (by simpa using hu) (by omega) (by omega); simpa using this
          go_wp2
          go_round
          case rel => exact ⟨0 + 1, u + d * 1, by omega, int_eq (by omega), rfl, by (have := hul; simp; omega), fun h => by (first | omega | exact hul), HN.out⟩
          case measure => simp [intOf]; omega
        · -- digit 1
          have HN := Lib.hid (show val (xs.take (1 + 1)) = u + d * 1048576 by rw [val_take_succ xs 1 (by omega), HD.out, HU.out])
          have hi3 : (((1 : Nat) : Int) == 3) = false := by decide
          have hul : u + d * 1048576 < 1099511627776 := by simp at hu;  omega
          have hor : bits .or .u64 (u : Int) ((d : Int) * 1048576) = ((u + d * 1048576 : Nat) : Int) := by have := or_u64 u d 20 (by simpa using hu) (by omega) (by omega); simpa using this
          go_wp2
          go_round
          case rel => exact ⟨1 + 1, u + d * 1048576, by omega, int_eq (by omega), rfl, by (have := hul; simp; omega), fun h => by (first | omega | exact hul), HN.out⟩
          case measure => simp [intOf]; omega
        · -- digit 2
          have HN := Lib.hid (show val (xs.take (2 + 1)) = u + d * 1099511627776 by rw [val_take_succ xs 2 (by omega), HD.out, HU.out])
          have hi3 : (((2 : Nat) : Int) == 3) = false := by decide
          have hul : u + d * 1099511627776 < 1152921504606846976 := by simp at hu;  omega
          have hor : bits .or .u64 (u : Int) ((d : Int) * 1099511627776) = ((u + d * 1099511627776 : Nat) : Int) := by have := or_u64 u d 40 (by simpa using hu) (by omega) (by omega); simpa using this
          go_wp2
          go_round
          case rel => exact ⟨2 + 1, u + d * 1099511627776, by omega, int_eq (by omega), rfl, by (have := hul; simp; omega), fun h => by (first | omega | exact hul), HN.out⟩
          case measure => simp [intOf]; omega
        · -- digit 3
          have HN := Lib.hid (show val (xs.take (3 + 1)) = u + d * 1152921504606846976 by rw [val_take_succ xs 3 (by omega), HD.out, HU.out])
          have hd8 : decide ((8 : Int) < (d : Int)) = false := by simp; omega
          have hul : u + d * 1152921504606846976 < 10376293541461622784 := by simp at hu;  omega
          have hor : bits .or .u64 (u : Int) ((d : Int) * 1152921504606846976) = ((u + d * 1152921504606846976 : Nat) : Int) := by have := or_u64 u d 60 (by simpa using hu) (by omega) (by omega); simpa using this
          go_wp2
          go_round
          case rel => exact ⟨3 + 1, u + d * 1152921504606846976, by omega, int_eq (by omega), rfl, by (have := hul; simp; omega), fun h => by (first | omega | exact hul), HN.out⟩
          case measure => simp [intOf]; omega
      · obtain rfl : i = n := by omega
        have hxu : xs.take i = xs := List.take_of_length_le (by have := HL.out; omega)
        have HV := Lib.hid (show val xs = u by have := HU.out; rwa [hxu] at this)
        clear hxu
        have hul : u < 18446744073709551616 := by
          rcases (show i = 0 ∨ i = 1 ∨ i = 2 ∨ i = 3 ∨ i = 4 by omega) with h | h | h | h | h
          · subst h; simp at hu; omega
          · subst h; simp at hu; omega
          · subst h; simp at hu; omega
          · subst h; simp at hu; omega
          · have := hu4 h; omega
        clear hu hu4
        by_cases h63 : u < 9223372036854775808
        · have HE := Lib.hid (show (true && ((u : Int) == 1)) = (val xs == 1) by
            rw [HV.out, Bool.true_and, Bool.eq_iff_iff]
            simp
            omega)
          have hls : decide ((u : Int) < 9223372036854775808) = true := by simp; omega
          have hcv := conv_u64 u h63
          have hcw : IntKind.i64.wrap (u : Int) = (u : Int) := wrap_id (by omega)
          clear h63 hul
          go_upto_region 13 with (fail)
          generalize (9223372036854775808 : Int) = K at hls ⊢
          go_wp2
          go_ret2
          exact ⟨u, true, rfl, HE.out, HB.out⟩
        · have HE := Lib.hid (show (val xs == 1) = false by
            rw [HV.out, beq_eq_false_iff_ne]
            omega)
          have hls : decide ((u : Int) < 9223372036854775808) = false := by simp; omega
          clear h63 hul
          go_upto_region 13 with (fail)
          generalize (9223372036854775808 : Int) = K at hls ⊢
          go_wp2
          go_ret2
          exact ⟨0, false, rfl, by rw [HE.out]; rfl, HB.out⟩
end Go.Proofs.YtaojnjealccjiaaGreatDoor
