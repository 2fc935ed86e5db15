/- The contracts of the lexer's small functions: letter, digit, inner, span at inner, Name; and the reference's letter, digit, Name. -/
import Derived.Test.YtaojnjealccjiaaGreatDoorProg
import Derived.Test.YtaojnjealccjiaaGreatDoorPlain
import Derived.WalkKit
import Derived.WalkLawsBesides
import Derived.Below
import Derived.Lib.Hide
import Derived.Lib.Strings
import Derived.LoopTactic
namespace Go.Proofs.YtaojnjealccjiaaGreatDoor
open Go Go.RowKit Kb
set_option linter.unusedVariables false

theorem lex_letter (c : UInt8) (w : World) : Calls Tryz.prog 83 #[.int .u8 (c.toNat : Int)] w fun e w' => e = .returned (.bool (letterB c)) ∧ w = w' := by
  have hb : (c.toNat : Int) < 256 := by have := c.toNat_lt; omega
  have e1 : letterB c = ((decide (97 ≤ (c.toNat : Int)) && decide ((c.toNat : Int) ≤ 122)) || (decide (65 ≤ (c.toNat : Int)) && decide ((c.toNat : Int) ≤ 90))) := by
    unfold letterB
    rw [Bool.eq_iff_iff]
    simp [UInt8.le_iff_toNat_le]
    omega
  rw [e1]
  clear e1
  generalize (c.toNat : Int) = x at hb ⊢
  by_cases h1 : 97 ≤ x <;> by_cases h2 : x ≤ 122 <;> by_cases h3 : 65 ≤ x <;> by_cases h4 : x ≤ 90 <;> first | omega | (go_enter Tryz.func83, Tryz.ntmps83; go_wp2; go_ret; exact ⟨by simp [h1, h2, h3, h4], rfl⟩)


theorem lex_digit (c : UInt8) (w : World) : Calls Tryz.prog 122 #[.int .u8 (c.toNat : Int)] w fun e w' => e = .returned (.bool (digitB c)) ∧ w = w' := by
  have hb : (c.toNat : Int) < 256 := by have := c.toNat_lt; omega
  have e1 : digitB c = (decide (48 ≤ (c.toNat : Int)) && decide ((c.toNat : Int) ≤ 57)) := by
    unfold digitB
    rw [Bool.eq_iff_iff]
    simp [UInt8.le_iff_toNat_le]
    omega
  rw [e1]
  clear e1
  generalize (c.toNat : Int) = x at hb ⊢
  by_cases h1 : 48 ≤ x <;> by_cases h2 : x ≤ 57 <;> first | omega | (go_enter Tryz.func122, Tryz.ntmps122; go_wp2; go_ret; exact ⟨by simp [h1, h2], rfl⟩)

theorem lex_inner (c : UInt8) (w : World) : Calls Tryz.prog 85 #[.int .u8 (c.toNat : Int)] w fun e w' => e = .returned (.bool (innerB c)) ∧ w = w' := by
  have hl := fun w => lex_letter c w
  have hd := fun w => lex_digit c w
  have e1 : (c == 95) = (((c.toNat : Int)) == 95) := by
    rw [Bool.eq_iff_iff]
    simp [← UInt8.toNat_inj]
    omega
  unfold innerB
  rw [e1]
  clear e1
  generalize letterB c = bl at hl ⊢
  generalize digitB c = bd at hd ⊢
  generalize (c.toNat : Int) = x at hl hd ⊢
  have Hl := Lib.hid hl
  have Hd := Lib.hid hd
  clear hl hd
  cases bl <;> cases bd <;> cases h3 : (x == 95) <;>
    (go_enter Tryz.func85, Tryz.ntmps85
     go_wp2_with (first | (go_at_call 83; refine (Hl.out _).mono ?_; rintro e w' ⟨rfl, rfl⟩) | (go_at_call 122; refine (Hd.out _).mono ?_; rintro e w' ⟨rfl, rfl⟩))
     go_ret
     exact ⟨by simp, rfl⟩)

theorem size_list (s : ByteArray) : s.data.toList.length = s.size := by rw [Array.length_toList]; rfl

/-- how many bytes at the beginning are of a kind -/
def spanN (p : UInt8 → Bool) : List UInt8 → Nat
  | [] => 0
  | c :: r => if p c then spanN p r + 1 else 0

theorem spanN_le (p : UInt8 → Bool) : ∀ l, spanN p l ≤ l.length
  | [] => Nat.le_refl _
  | c :: r => by
    have := spanN_le p r
    unfold spanN
    split <;> simp <;> omega
theorem spanN_all (p : UInt8 → Bool) : ∀ l, (spanN p l = l.length) ↔ l.all p = true
  | [] => by simp [spanN]
  | c :: r => by
    have := spanN_all p r
    have h2 := spanN_le p r
    unfold spanN
    by_cases h : p c = true
    · simp [h] at *; exact this
    · simp [h]
theorem spanN_stop (p : UInt8 → Bool) : ∀ (l : List UInt8) (k : Nat), (∀ i, i < k → ∀ c, l[i]? = some c → p c = true) → k ≤ l.length → (∀ c, l[k]? = some c → p c = false) → spanN p l = k
  | [], k, _, h2, _ => by simp at h2; simp [spanN, h2]
  | c :: r, 0, _, _, h3 => by have := h3 c rfl; simp [spanN, this]
  | c :: r, k + 1, h1, h2, h3 => by
    have hc := h1 0 (by omega) c rfl
    have := spanN_stop p r k (fun i hi c hc => h1 (i + 1) (by omega) c (by simpa using hc)) (by simpa using h2) (fun c hc => h3 c (by simpa using hc))
    simp [spanN, hc, this]

set_option maxHeartbeats 400000 in
theorem lex_span_inner (s : ByteArray) (w : World) (hs : s.size ≤ maxLen) :
    Calls Tryz.prog 84 #[.string s, .func (.func 85) #[] #[]] w fun e w' => e = .returned (.int .i64 (spanN innerB s.data.toList)) ∧ w = w' := by
  unfold maxLen at hs
  go_enter Tryz.func84, Tryz.ntmps84
  go_wp2
  go_loop [5] (fun i => ∃ k : Nat, k ≤ s.size ∧ i = .int .i64 k ∧ Hid (∀ i, i < k → ∀ c, s.data.toList[i]? = some c → innerB c = true)) (fun i => s.size - (intOf i).toNat)
  case atStart => exact ⟨0, Nat.zero_le _, rfl, fun i hi => absurd hi (Nat.not_lt_zero _)⟩
  case round =>
    obtain ⟨k, hk, rfl, HA⟩ := hrel
    by_cases hlt : k < s.size
    · have hsz : s.data.toList.length = s.size := size_list s
      have hget : s.data.toList[k]? = some s[k] := by rw [List.getElem?_eq_getElem (by omega)]; rfl
      have HG := Lib.hid hget
      have HS := Lib.hid hsz
      clear hget hsz
      have hin := fun w => lex_inner s[k] w
      cases hq : innerB s[k] with
      | true =>
        have HQ := Lib.hid hq
        rw [hq] at hin
        have HI := Lib.hid hin
        clear hq hin
        go_wp2_with (go_at_call 85; refine (HI.out _).mono ?_; rintro e w' ⟨rfl, rfl⟩)
        go_round
        case rel =>
          refine ⟨k + 1, by omega, by go_num, fun i hi c hc => ?_⟩
          by_cases e : i = k
          · subst e
            rw [HG.out] at hc
            cases hc
            exact HQ.out
          · exact HA.out i (by omega) c hc
        case measure => simp [intOf]; omega
      | false =>
        have HQ := Lib.hid hq
        rw [hq] at hin
        have HI := Lib.hid hin
        clear hq hin
        go_wp2_with (go_at_call 85; refine (HI.out _).mono ?_; rintro e w' ⟨rfl, rfl⟩)
        go_ret
        refine ⟨?_, rfl⟩
        rw [spanN_stop innerB s.data.toList k HA.out (by rw [HS.out]; omega) (fun c hc => by rw [HG.out] at hc; cases hc; exact HQ.out)]
        rfl
    · have hsz : s.data.toList.length = s.size := size_list s
      have HS := Lib.hid hsz
      clear hsz
      go_wp2
      go_ret
      refine ⟨?_, rfl⟩
      rw [spanN_stop innerB s.data.toList k HA.out (by rw [HS.out]; omega) (fun c hc => by rw [List.getElem?_eq_none (by rw [HS.out]; omega)] at hc; cases hc)]
      rfl


theorem nameB_cons (s : ByteArray) (h : 0 < s.size) : nameB s.data.toList = (letterB s[0] && decide (s.size ≤ 20) && decide (spanN innerB s.data.toList = s.size)) := by
  have hl := size_list s
  have e : s.data.toList = s[0] :: s.data.toList.tail := by
    have : s.data.toList[0]? = some s[0] := by rw [List.getElem?_eq_getElem (by omega)]; rfl
    cases hd : s.data.toList with
    | nil => rw [hd] at this; cases this
    | cons a b => rw [hd] at this; simp at this; simp [this]
  have e2 : decide (spanN innerB s.data.toList = s.size) = s.data.toList.all innerB := by
    rw [Bool.eq_iff_iff, ← spanN_all, decide_eq_true_eq, hl]
  rw [e2]
  generalize s[0] = c at e
  have hn : s.data.toList.tail.length + 1 = s.size := by rw [e] at hl; simpa using hl
  rw [e]
  unfold nameB
  simp only [hn]

set_option maxHeartbeats 400000 in
theorem lex_name (s : ByteArray) (w : World) (hs : s.size ≤ maxLen) :
    Calls Tryz.prog 58 #[.string s] w fun e w' => e = .returned (.bool (nameB s.data.toList)) ∧ w = w' := by
  have hl := size_list s
  by_cases h0 : s.size = 0
  · have e0 : s.data.toList = [] := List.eq_nil_of_length_eq_zero (by omega)
    have e1 : s = ⟨#[]⟩ := ByteArray.ext (by rw [← Array.toList_inj]; exact e0)
    subst e1
    clear e0 h0 hl hs
    go_enter Tryz.func58, Tryz.ntmps58
    go_wp2
    go_ret
    exact ⟨rfl, rfl⟩
  · have hp : 0 < s.size := by omega
    rw [nameB_cons s hp]
    have hne : s.toList.isEmpty = false := by
      rw [Bool.eq_false_iff]; intro h; rw [List.isEmpty_iff] at h
      have := congrArg List.length h
      rw [Lib.toList_data] at this; simp only [List.length_nil] at this; omega
    have hle := spanN_le innerB s.data.toList
    rw [hl] at hle
    have hlet := fun w => lex_letter s[0] w
    have hsp := fun w => lex_span_inner s w hs
    generalize letterB s[0] = b at hlet ⊢
    generalize spanN innerB s.data.toList = n at hsp hle ⊢
    have HL := Lib.hid hlet
    have HSp := Lib.hid hsp
    unfold maxLen at hs
    clear hlet hsp hl
    have hlt0 : (0 : Int) < (s.size : Int) := by omega
    cases b <;> by_cases h20 : s.size ≤ 20 <;> by_cases hn : n = s.size <;>
      (have hnb : ((n : Int) == (s.size : Int)) = decide (n = s.size) := by (rw [Bool.eq_iff_iff]; simp; omega)
       simp only [hn, decide_true, decide_false] at hnb
       have HN := Lib.hid hn
       clear hn
       go_enter Tryz.func58, Tryz.ntmps58
       go_wp2_with (first | (go_at_call 83; refine (HL.out _).mono ?_; rintro e w' ⟨rfl, rfl⟩) | (go_at_call 84; refine (HSp.out _).mono ?_; rintro e w' ⟨rfl, rfl⟩))
       go_ret
       exact ⟨by have := HN.out; simp [h20, this], rfl⟩)

end Go.Proofs.YtaojnjealccjiaaGreatDoor
