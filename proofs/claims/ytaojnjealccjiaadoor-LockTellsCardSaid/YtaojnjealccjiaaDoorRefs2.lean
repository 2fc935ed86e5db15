/- The reference's Object, in, Right, Before. -/
import Derived.Test.YtaojnjealccjiaaDoorRefs
namespace Go.Proofs.YtaojnjealccjiaaDoor
open Go Go.RowKit Kb Go.Lib
set_option linter.unusedVariables false

theorem pieces_none : ∀ {a : Bytes}, (∀ x ∈ a, x ≠ 47) → pieces a = [a]
  | [], _ => rfl
  | c :: r, h => by
    have hc : c ≠ 47 := h c (by simp)
    have := pieces_none (a := r) (fun x hx => h x (by simp [hx]))
    simp [pieces, hc, this]
theorem pieces_cut (p : Bytes) (f i : Nat) (hf : f ≤ i) (hi : i < p.length) (hn : ∀ j (h : j < p.length), f ≤ j → j < i → p[j] ≠ 47) (h : p[i] = 47) :
    pieces (p.drop f) = (p.drop f).take (i - f) :: pieces (p.drop (i + 1)) := by
  have e : p.drop f = (p.drop f).take (i - f) ++ 47 :: p.drop (i + 1) := by
    have h1 := (List.take_append_drop (i - f) (p.drop f)).symm
    rw [List.drop_drop, show f + (i - f) = i by omega, List.drop_eq_getElem_cons hi, h] at h1
    exact h1
  have hp : pieces ((p.drop f).take (i - f)) = [(p.drop f).take (i - f)] := pieces_none fun x hx => by
    obtain ⟨j, hj, rfl⟩ := List.getElem_of_mem hx
    have hj2 : j < i - f ∧ f + j < p.length := by simp at hj; omega
    simp only [List.getElem_take, List.getElem_drop]
    exact hn (f + j) hj2.2 (by omega) (by omega)
  conv => lhs; rw [e]
  rw [pieces_append, hp]; rfl
theorem pieces_end (p : Bytes) (f : Nat) (hn : ∀ j (h : j < p.length), f ≤ j → p[j] ≠ 47) : pieces (p.drop f) = [p.drop f] := pieces_none fun x hx => by
  obtain ⟨j, hj, rfl⟩ := List.getElem_of_mem hx
  have hj2 : f + j < p.length := by simp at hj; omega
  simp only [List.getElem_drop]
  exact hn (f + j) hj2 (by omega)

/-- what the scan knows at the byte k -/
def OInv (p : Bytes) (k f m : Nat) : Prop :=
  (k ≤ p.length → f ≤ k ∧ (∀ j (h : j < p.length), f ≤ j → j < k → p[j] ≠ 47) ∧ objectB p = (decide (m + (pieces (p.drop f)).length ≤ 4) && (pieces (p.drop f)).all nameB)) ∧ (p.length < k → objectB p = decide (m ≤ 4))

theorem OInv.start (p : Bytes) : OInv p 0 0 0 := ⟨fun _ => ⟨Nat.le_refl _, fun j _ _ h => absurd h (Nat.not_lt_zero _), by simp [objectB]⟩, fun h => absurd h (Nat.not_lt_zero _)⟩
theorem OInv.plain {p : Bytes} {k f m : Nat} (h : OInv p k f m) (hk : k < p.length) (hc : p[k] ≠ 47) : OInv p (k + 1) f m := by
  obtain ⟨h1, h2, h3⟩ := h.1 (by omega)
  refine ⟨fun _ => ⟨by omega, fun j hj hf hlt => ?_, h3⟩, fun h => by omega⟩
  by_cases e : j = k
  · subst e; exact hc
  · exact h2 j hj hf (by omega)
theorem OInv.cut {p : Bytes} {k f m : Nat} (h : OInv p k f m) (hk : k < p.length) (hc : p[k] = 47) :
    (nameB ((p.drop f).take (k - f)) = true → OInv p (k + 1) (k + 1) (m + 1)) ∧ (nameB ((p.drop f).take (k - f)) = false → objectB p = false) := by
  obtain ⟨h1, h2, h3⟩ := h.1 (by omega)
  rw [pieces_cut p f k h1 hk h2 hc] at h3
  constructor
  · intro hn
    refine ⟨fun _ => ⟨Nat.le_refl _, fun j _ h4 h5 => by omega, ?_⟩, fun h => by omega⟩
    rw [h3]
    simp only [List.length_cons, List.all_cons, hn, Bool.true_and]
    congr 2
    simp; omega
  · intro hn
    rw [h3]; simp [hn]
theorem OInv.last {p : Bytes} {f m : Nat} (h : OInv p p.length f m) :
    (nameB (p.drop f) = true → OInv p (p.length + 1) (p.length + 1) (m + 1)) ∧ (nameB (p.drop f) = false → objectB p = false) := by
  obtain ⟨h1, h2, h3⟩ := h.1 (Nat.le_refl _)
  rw [pieces_end p f (fun j hj hf => h2 j hj hf hj)] at h3
  constructor
  · intro hn
    refine ⟨fun h => by omega, fun _ => ?_⟩
    rw [h3]; simp [hn]
  · intro hn
    rw [h3]; simp [hn]

theorem extract_toList (s : ByteArray) (f k : Nat) (hfk : f ≤ k) (hk : k ≤ s.size) : (s.extract f k).data.toList = (s.data.toList.drop f).take (k - f) := by
  rw [Lib.extract_data]

set_option maxHeartbeats 2000000 in
theorem ref_object (s : ByteArray) (w : World) (hs : s.size < 4294967281) :
    Calls Tryd.prog 39 #[.string s] w fun e w' => e = .returned (.bool (objectB s.data.toList)) ∧ w = w' := by
  have hl := size_list s
  have HLn := Lib.hid hl
  have hi := OInv.start s.data.toList
  clear hl
  have hfin : ∀ m, OInv s.data.toList (s.size + 1) (s.size + 1) m → objectB s.data.toList = decide (m ≤ 4) := fun m h => h.2 (by rw [HLn.out]; omega)
  have HI := Lib.hid hi
  clear hi hfin
  go_enter Tryd.func39, Tryd.ntmps39
  go_wp2_with fail
  go_loop [3, 4, 5] (fun s3 s4 s5 => ∃ (k f m : Nat), k ≤ s.size + 1 ∧ f ≤ k ∧ m ≤ k ∧ s5 = .int .i64 k ∧ s4 = .int .i64 f ∧ s3 = .int .i64 m ∧ Hid (OInv s.data.toList k f m)) (fun _ _ s5 => s.size + 1 - (intOf s5).toNat)
  case atStart => exact ⟨0, 0, 0, Nat.zero_le _, Nat.le_refl _, Nat.le_refl _, rfl, rfl, rfl, HI.out⟩
  case round =>
    clear HI
    obtain ⟨k, f, m, hk, hf, hm, rfl, rfl, rfl, HV⟩ := hrel
    by_cases h1 : k < s.size
    · have hkl : k < s.data.toList.length := by rw [HLn.out]; exact h1
      have hg : s.data.toList[k] = s[k] := rfl
      have hne : ((k : Int) == (s.size : Int)) = false := by simp; omega
      have j1 : (f : Int) ≤ (k : Int) := by omega
      have j2 : (k : Int) ≤ (s.size : Int) := by omega
      have j3 : (k : Int) < (s.size : Int) := by omega
      cases hc : ((s[k].toNat : Int) == 47) with
      | false =>
        have hc2 : s.data.toList[k] ≠ 47 := fun h => by
          rw [hg] at h; rw [h] at hc; simp at hc
        have HV2 := Lib.hid (HV.out.plain hkl hc2)
        clear hc2 hg
        go_wp2_with fail
        go_round
        case rel => exact ⟨k + 1, f, m, by omega, by omega, by omega, by go_num, rfl, rfl, HV2.out⟩
        case measure => simp [intOf]; omega
      | true =>
        have hc2 : s.data.toList[k] = 47 := by
          rw [hg, ← UInt8.toNat_inj]; simp at hc; show s[k].toNat = 47; omega
        obtain ⟨ha, hb⟩ := HV.out.cut hkl hc2
        have hnm := fun W => r06_name (s.extract f k) W (by unfold maxLen; simp; omega)
        rw [extract_toList s f k hf (by omega)] at hnm
        clear hc2 hg
        cases hq : nameB ((s.data.toList.drop f).take (k - f)) with
        | false =>
          have hr := hb hq
          rw [hq] at hnm
          have HNm := Lib.hid hnm
          have HR := Lib.hid hr
          clear ha hb hnm hr hq
          go_wp2_with fail
          refine (HNm.out _).mono ?_
          rintro e w' ⟨rfl, rfl⟩
          go_wp2_with fail
          go_ret
          exact ⟨by rw [HR.out]; rfl, rfl⟩
        | true =>
          have hr := ha hq
          rw [hq] at hnm
          have HNm := Lib.hid hnm
          have HR := Lib.hid hr
          clear ha hb hnm hr hq
          go_wp2_with fail
          refine (HNm.out _).mono ?_
          rintro e w' ⟨rfl, rfl⟩
          go_wp2_with fail
          go_round
          case rel => exact ⟨k + 1, k + 1, m + 1, by omega, by omega, by omega, by go_num, by go_num, by go_num, HR.out⟩
          case measure => simp [intOf]; omega
    · by_cases h2 : k = s.size
      · have HV3 : Hid (OInv s.data.toList s.data.toList.length f m) := by have := HV.out; rw [h2, ← HLn.out] at this; exact this
        obtain ⟨ha, hb⟩ := HV3.out.last
        have hnm := fun W => r06_name (s.extract f k) W (by unfold maxLen; simp; omega)
        rw [extract_toList s f k hf (by omega), List.take_of_length_le (by rw [List.length_drop, HLn.out]; omega)] at hnm
        rw [HLn.out] at ha
        subst h2
        clear HV HV3
        have j1 : (f : Int) ≤ (s.size : Int) := by omega
        cases hq : nameB (s.data.toList.drop f) with
        | false =>
          have hr := hb hq
          rw [hq] at hnm
          have HNm := Lib.hid hnm
          have HR := Lib.hid hr
          clear ha hb hnm hr hq
          go_wp2_with fail
          refine (HNm.out _).mono ?_
          rintro e w' ⟨rfl, rfl⟩
          go_wp2_with fail
          go_ret
          exact ⟨by rw [HR.out]; rfl, rfl⟩
        | true =>
          have hr := ha hq
          rw [hq] at hnm
          have HNm := Lib.hid hnm
          have HR := Lib.hid hr
          clear ha hb hnm hr hq
          go_wp2_with fail
          refine (HNm.out _).mono ?_
          rintro e w' ⟨rfl, rfl⟩
          go_wp2_with fail
          go_round
          case rel => exact ⟨s.size + 1, s.size + 1, m + 1, by omega, by omega, by omega, by go_num, by go_num, by go_num, HR.out⟩
          case measure => simp [intOf]
      · have hr := HV.out.2 (by rw [HLn.out]; omega)
        have e1 : decide (m ≤ 4) = decide ((m : Int) ≤ 4) := by rw [Bool.eq_iff_iff]; simp; omega
        rw [e1] at hr
        have HR := Lib.hid hr
        clear hr e1
        have j1 : ¬ (k : Int) ≤ (s.size : Int) := by omega
        go_wp2_with fail
        go_ret
        exact ⟨by rw [HR.out]; rfl, rfl⟩

theorem ref_in (n h : Int) (w : World) : Calls Tryd.prog 42 #[.int .i64 n, .int .i64 h] w fun e w' => e = .returned (.bool (decide (0 ≤ n) && decide (n ≤ h))) ∧ w = w' := by
  by_cases h1 : 0 ≤ n
  · go_enter Tryd.func42, Tryd.ntmps42
    go_wp2_with fail
    go_ret
    exact ⟨by simp [h1], rfl⟩
  · have h2 : decide (0 ≤ n) = false := by simp; omega
    rw [h2]
    go_enter Tryd.func42, Tryd.ntmps42
    go_wp2_with fail
    go_ret
    exact ⟨rfl, rfl⟩

set_option maxHeartbeats 1000000 in
theorem ref_right (k p d : Int) (o : ByteArray) (w : World) (ho : o.size < 4294967281) :
    Calls Tryd.prog 19 #[.agg #[.int .i64 k, .int .i64 p, .int .i64 d, .string o]] w fun e w' => e = .returned (.bool (rightB ⟨k, p, d, o⟩)) ∧ Below w.heap.size w w' := by
  have hob := fun w => ref_object o w ho
  have hk := fun w => ref_in k 2 w
  have hp := fun w => ref_in p 999 w
  have hd := fun w => ref_in d 100000 w
  have er : rightB ⟨k, p, d, o⟩ = ((decide (0 ≤ k) && decide (k ≤ 2)) && (decide (0 ≤ p) && decide (p ≤ 999)) && (decide (0 ≤ d) && decide (d ≤ 100000)) && objectB o.data.toList) := by
    have e1 : decide (k < 3) = decide (k ≤ 2) := by congr 1; simp; omega
    have e2 : decide (p < 1000) = decide (p ≤ 999) := by congr 1; simp; omega
    have : rightB ⟨k, p, d, o⟩ = (decide (0 ≤ k) && decide (k < 3) && decide (0 ≤ p) && decide (p < 1000) && decide (0 ≤ d) && decide (d ≤ 100000) && objectB o.data.toList) := rfl
    rw [this, e1, e2]
    simp only [Bool.and_assoc]
  rw [er]
  clear er
  generalize objectB o.data.toList = ob at hob ⊢
  generalize (decide (0 ≤ k) && decide (k ≤ 2)) = bk at hk ⊢
  generalize (decide (0 ≤ p) && decide (p ≤ 999)) = bp at hp ⊢
  generalize (decide (0 ≤ d) && decide (d ≤ 100000)) = bd at hd ⊢
  have HO := Lib.hid hob
  have HK := Lib.hid hk
  have HP := Lib.hid hp
  have HD := Lib.hid hd
  clear hob hk hp hd
  cases bk with
  | false =>
    go_enter Tryd.func19, Tryd.ntmps19
    go_wp2_with fail
    refine (HK.out _).mono ?_
    rintro e w' ⟨rfl, rfl⟩
    go_wp2_with fail
    go_ret
    exact ⟨by simp, (Below.refl _ w).alloc (Nat.le_refl _) _⟩
  | true =>
    cases bp with
    | false =>
      go_enter Tryd.func19, Tryd.ntmps19
      go_wp2_with fail
      refine (HK.out _).mono ?_
      rintro e w' ⟨rfl, rfl⟩
      go_wp2_with fail
      refine (HP.out _).mono ?_
      rintro e w' ⟨rfl, rfl⟩
      go_wp2_with fail
      go_ret
      exact ⟨by simp, (Below.refl _ w).alloc (Nat.le_refl _) _⟩
    | true =>
      cases bd with
      | false =>
        go_enter Tryd.func19, Tryd.ntmps19
        go_wp2_with fail
        refine (HK.out _).mono ?_
        rintro e w' ⟨rfl, rfl⟩
        go_wp2_with fail
        refine (HP.out _).mono ?_
        rintro e w' ⟨rfl, rfl⟩
        go_wp2_with fail
        refine (HD.out _).mono ?_
        rintro e w' ⟨rfl, rfl⟩
        go_wp2_with fail
        go_ret
        exact ⟨by simp, (Below.refl _ w).alloc (Nat.le_refl _) _⟩
      | true =>
        go_enter Tryd.func19, Tryd.ntmps19
        go_wp2_with fail
        refine (HK.out _).mono ?_
        rintro e w' ⟨rfl, rfl⟩
        go_wp2_with fail
        refine (HP.out _).mono ?_
        rintro e w' ⟨rfl, rfl⟩
        go_wp2_with fail
        refine (HD.out _).mono ?_
        rintro e w' ⟨rfl, rfl⟩
        go_wp2_with fail
        refine (HO.out _).mono ?_
        rintro e w' ⟨rfl, rfl⟩
        go_wp2_with fail
        go_ret
        exact ⟨by simp, (Below.refl _ w).alloc (Nat.le_refl _) _⟩

theorem ltAct_iff (a b : Akt) : ltAct a b ↔ (if a.day ≠ b.day then a.day < b.day else if a.kind ≠ b.kind then a.kind < b.kind else if a.person ≠ b.person then a.person < b.person else a.o < b.o) := by
  unfold ltAct
  by_cases h1 : a.day = b.day
  · by_cases h2 : a.kind = b.kind
    · by_cases h3 : a.person = b.person
      · simp [h1, h2, h3]
      · simp [h1, h2, h3]
    · simp [h1, h2]
  · simp [h1]

set_option maxHeartbeats 1000000 in
theorem ref_before (a b : Akt) (w : World) : Calls Tryd.prog 51 #[.agg #[.int .i64 a.kind, .int .i64 a.person, .int .i64 a.day, .string a.obj], .agg #[.int .i64 b.kind, .int .i64 b.person, .int .i64 b.day, .string b.obj]] w fun e w' =>
    e = .returned (.bool (decide (ltAct a b))) ∧ Below w.heap.size w w' := by
  have hb2 : ∀ o1 o2, Below w.heap.size w ((w.alloc o1).alloc o2) := fun o1 o2 => ((Below.refl _ w).alloc (Nat.le_refl _) _).alloc (by simp) _
  have HB := Lib.hid hb2
  clear hb2
  have hlt := ltAct_iff a b
  have hbl : decide (a.o < b.o) = decide (a.obj.data.toList < b.obj.data.toList) := rfl
  obtain ⟨ak, ap, ad, ao⟩ := a
  obtain ⟨bk, bp, bd, bo⟩ := b
  simp only at hlt hbl
  cases h1 : (ad != bd) with
  | true =>
    have e : decide (ltAct ⟨ak, ap, ad, ao⟩ ⟨bk, bp, bd, bo⟩) = decide (ad < bd) := by
      rw [if_pos (by simpa using h1)] at hlt; simp [hlt]
    rw [e]
    clear e hlt hbl
    go_enter Tryd.func51, Tryd.ntmps51
    go_wp2_with fail
    go_ret
    exact ⟨rfl, HB.out _ _⟩
  | false =>
    rw [if_neg (by simpa using h1)] at hlt
    cases h2 : (ak != bk) with
    | true =>
      have e : decide (ltAct ⟨ak, ap, ad, ao⟩ ⟨bk, bp, bd, bo⟩) = decide (ak < bk) := by
        rw [if_pos (by simpa using h2)] at hlt; simp [hlt]
      rw [e]
      clear e hlt hbl
      go_enter Tryd.func51, Tryd.ntmps51
      go_wp2_with fail
      go_ret
      exact ⟨rfl, HB.out _ _⟩
    | false =>
      rw [if_neg (by simpa using h2)] at hlt
      cases h3 : (ap != bp) with
      | true =>
        have e : decide (ltAct ⟨ak, ap, ad, ao⟩ ⟨bk, bp, bd, bo⟩) = decide (ap < bp) := by
          rw [if_pos (by simpa using h3)] at hlt; simp [hlt]
        rw [e]
        clear e hlt hbl
        go_enter Tryd.func51, Tryd.ntmps51
        go_wp2_with fail
        go_ret
        exact ⟨rfl, HB.out _ _⟩
      | false =>
        rw [if_neg (by simpa using h3)] at hlt
        have e : decide (ltAct ⟨ak, ap, ad, ao⟩ ⟨bk, bp, bd, bo⟩) = Op.bytesLess ao.toList bo.toList := by rw [bytesLess_eq, Lib.toList_data, Lib.toList_data]; simp only [hlt]; rfl
        rw [e]
        clear e hlt hbl
        go_enter Tryd.func51, Tryd.ntmps51
        go_wp2_with fail
        go_ret
        exact ⟨rfl, HB.out _ _⟩

end Go.Proofs.YtaojnjealccjiaaDoor
