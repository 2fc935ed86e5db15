/- The reference's small functions: letter, digit, Name, Object, in, Right, Before. -/
import Derived.Test.YtaojnjealccjiaaDoorTwo
namespace Go.Proofs.YtaojnjealccjiaaDoor
open Go Go.RowKit Kb Go.Lib
set_option linter.unusedVariables false

theorem r06_letter (c : UInt8) (w : World) : Calls Tryd.prog 77 #[.int .u8 (c.toNat : Int)] w fun e w' => e = .returned (.bool (letterB c)) ∧ w = w' := by
  have hb : (c.toNat : Int) < 256 := by have := c.toNat_lt; omega
  have e1 : letterB c = ((decide (97 ≤ (c.toNat : Int)) && decide ((c.toNat : Int) ≤ 122)) || (decide (65 ≤ (c.toNat : Int)) && decide ((c.toNat : Int) ≤ 90))) := by
    unfold letterB
    rw [Bool.eq_iff_iff]
    simp [UInt8.le_iff_toNat_le]
    omega
  rw [e1]
  clear e1
  generalize (c.toNat : Int) = x at hb ⊢
  by_cases h1 : 97 ≤ x <;> by_cases h2 : x ≤ 122 <;> by_cases h3 : 65 ≤ x <;> by_cases h4 : x ≤ 90 <;> first | omega | (go_enter Tryd.func77, Tryd.ntmps77; go_wp2; go_ret; exact ⟨by simp [h1, h2, h3, h4], rfl⟩)

theorem r06_digit (c : UInt8) (w : World) : Calls Tryd.prog 78 #[.int .u8 (c.toNat : Int)] w fun e w' => e = .returned (.bool (digitB c)) ∧ w = w' := by
  have hb : (c.toNat : Int) < 256 := by have := c.toNat_lt; omega
  have e1 : digitB c = (decide (48 ≤ (c.toNat : Int)) && decide ((c.toNat : Int) ≤ 57)) := by
    unfold digitB
    rw [Bool.eq_iff_iff]
    simp [UInt8.le_iff_toNat_le]
    omega
  rw [e1]
  clear e1
  generalize (c.toNat : Int) = x at hb ⊢
  by_cases h1 : 48 ≤ x <;> by_cases h2 : x ≤ 57 <;> first | omega | (go_enter Tryd.func78, Tryd.ntmps78; go_wp2; go_ret; exact ⟨by simp [h1, h2], rfl⟩)

theorem innerB_of_letter {c : UInt8} (h : letterB c = true) : innerB c = true := by unfold innerB; simp [h]
theorem nameB_iff (s : ByteArray) (h : 0 < s.size) : nameB s.data.toList = true ↔ letterB s[0] = true ∧ s.size ≤ 20 ∧ ∀ i (hi : i < s.size), 1 ≤ i → innerB s[i] = true := by
  rw [nameB_cons s h, Bool.and_eq_true, Bool.and_eq_true, decide_eq_true_eq, decide_eq_true_eq]
  have hl := size_list s
  have e : spanN innerB s.data.toList = s.size ↔ ∀ i (hi : i < s.size), innerB s[i] = true := by
    have e0 : (spanN innerB s.data.toList = s.size) = (spanN innerB s.data.toList = s.data.toList.length) := by rw [hl]
    rw [e0, spanN_all, List.all_eq_true]
    constructor
    · intro h i hi
      exact h _ (by have := List.getElem_mem (l := s.data.toList) (n := i) (by omega); exact this)
    · intro h x hx
      obtain ⟨i, hi, rfl⟩ := List.getElem_of_mem hx
      exact h i (by omega)
  rw [e, and_assoc]
  constructor
  · rintro ⟨a, b, c⟩; exact ⟨a, b, fun i hi _ => c i hi⟩
  · rintro ⟨a, b, c⟩
    refine ⟨a, b, fun i hi => ?_⟩
    by_cases h0 : i = 0
    · subst h0; exact innerB_of_letter a
    · exact c i hi (by omega)

set_option maxHeartbeats 2000000 in
theorem r06_name (s : ByteArray) (w : World) (hs : s.size ≤ maxLen) :
    Calls Tryd.prog 57 #[.string s] w fun e w' => e = .returned (.bool (nameB s.data.toList)) ∧ w = w' := by
  have hl := size_list s
  unfold maxLen at hs
  by_cases h0 : s.size < 1
  · have e0 : s.data.toList = [] := List.eq_nil_of_length_eq_zero (by omega)
    rw [e0]
    clear e0 hl
    go_enter Tryd.func57, Tryd.ntmps57
    go_wp2_with fail
    go_ret
    exact ⟨rfl, rfl⟩
  · have hp : 0 < s.size := by omega
    have hi := nameB_iff s hp
    generalize nameB s.data.toList = r at hi ⊢
    clear hl
    have hlt0 : (0 : Int) < (s.size : Int) := by omega
    by_cases h20 : 20 < s.size
    · have e0 : r = false := by
        cases r with
        | false => rfl
        | true => exact absurd (hi.1 rfl).2.1 (by omega)
      subst e0
      clear hi
      go_enter Tryd.func57, Tryd.ntmps57
      go_wp2_with fail
      go_ret
      exact ⟨rfl, rfl⟩
    · have hlet := fun w => r06_letter s[0] w
      cases hb : letterB s[0] with
      | false =>
        have e0 : r = false := by
          cases r with
          | false => rfl
          | true => have := (hi.1 rfl).1; rw [hb] at this; cases this
        subst e0
        rw [hb] at hlet
        have HL := Lib.hid hlet
        clear hi hb hlet
        go_enter Tryd.func57, Tryd.ntmps57
        go_wp2_with (go_at_call 77; refine (HL.out _).mono ?_; rintro e w' ⟨rfl, rfl⟩)
        go_ret
        exact ⟨rfl, rfl⟩
      | true =>
        rw [hb] at hlet
        have HL := Lib.hid hlet
        have HI := Lib.hid hi
        have HBt := Lib.hid hb
        clear hi hlet hb
        go_enter Tryd.func57, Tryd.ntmps57
        go_wp2_with fail
        refine (HL.out _).mono ?_
        rintro e w' ⟨rfl, rfl⟩
        clear HL
        go_wp2_with fail
        go_loop [3] (fun i => ∃ k : Nat, 1 ≤ k ∧ k ≤ s.size ∧ i = .int .i64 k ∧ Hid (∀ i (hi : i < s.size), 1 ≤ i → i < k → innerB s[i] = true)) (fun i => s.size - (intOf i).toNat)
        case atStart => exact ⟨1, Nat.le_refl _, by omega, rfl, fun i hi h1 h2 => by omega⟩
        case round =>
          obtain ⟨k, hk1, hk, rfl, HA⟩ := hrel
          by_cases hlt : k < s.size
          · have hle := fun w => r06_letter s[k] w
            have hdi := fun w => r06_digit s[k] w
            have hin : innerB s[k] = (letterB s[k] || digitB s[k] || ((s[k].toNat : Int) == 95)) := by
              unfold innerB
              congr 1
              rw [Bool.eq_iff_iff]; simp [← UInt8.toNat_inj]; omega
            generalize letterB s[k] = bl at hle hin
            generalize digitB s[k] = bd at hdi hin
            have HLe := Lib.hid hle
            have HDi := Lib.hid hdi
            have HIn := Lib.hid hin
            clear hle hdi hin
            cases bl <;> cases bd <;> cases h3 : ((s[k].toNat : Int) == 95) <;>
              (have h4 : ((s[k].toNat : Int) != 95) = !((s[k].toNat : Int) == 95) := rfl
               rw [h3] at h4
               have H3 := Lib.hid h3
               go_wp2_with (first | (go_at_call 77; refine (HLe.out _).mono ?_; rintro e w'' ⟨rfl, rfl⟩) | (go_at_call 78; refine (HDi.out _).mono ?_; rintro e w'' ⟨rfl, rfl⟩))
               first
               | (go_ret
                  refine ⟨?_, rfl⟩
                  have e0 : r = false := by
                    cases r with
                    | false => rfl
                    | true => have := (HI.out.1 rfl).2.2 k hlt hk1; rw [HIn.out, H3.out] at this; cases this
                  rw [e0]; rfl)
               | (go_round
                  case rel =>
                    refine ⟨k + 1, by omega, by omega, by go_num, fun i hi h1 h2 => ?_⟩
                    by_cases e : i = k
                    · subst e; rw [HIn.out, H3.out]; rfl
                    · exact HA.out i hi h1 (by omega)
                  case measure => simp [intOf]; omega))
          · have hkn : k = s.size := by omega
            go_wp2_with fail
            go_ret
            refine ⟨?_, rfl⟩
            have e0 : r = true := HI.out.2 ⟨HBt.out, by omega, fun i hi h1 => HA.out i hi h1 (by omega)⟩
            rw [e0]; rfl

end Go.Proofs.YtaojnjealccjiaaDoor
