/- Plain mathematics for the layers seal and gossip: notes, their encoding and order, houses, the notes that count; no program in sight. -/
import Derived.Lib.ItoaNum
import Derived.Test.YtaojnjealccjiaaGreatDoorPlain
namespace Nt
open Go Go.Lib
set_option linter.unusedVariables false
set_option linter.unusedSimpArgs false

structure RefV where
  house : Int
  no : Int
deriving DecidableEq

structure NoteV where
  house : Int
  no : Int
  day : Int
  needs : List RefV
  text : ByteArray

theorem NoteV.ext' {a b : NoteV} (h1 : a.house = b.house) (h2 : a.no = b.no) (h3 : a.day = b.day) (h4 : a.needs = b.needs) (h5 : a.text = b.text) : a = b := by
  cases a; cases b; simp_all

/-! ### a right note -/
def knownB (h n : Int) : Bool := decide (0 ≤ h) && decide (h < 400) && (decide (0 ≤ n) && decide (n < 400))
def laterB (a b : RefV) : Bool := decide (a.house < b.house) || (decide (a.house = b.house) && decide (a.no < b.no))
def needB (h n : Int) (last r : RefV) : Bool := knownB r.house r.no && laterB last r && !(decide (r.house = h) && decide (n ≤ r.no))
/-- the last of the needs behind k of them -/
def lastOf (l : List RefV) (k : Nat) : RefV := (l.take k).getLastD ⟨-1, 0⟩
def needsB (h n : Int) (l : List RefV) : Bool := (List.range l.length).all fun i => needB h n (lastOf l i) (l.getD i ⟨0, 0⟩)
def headB (x : NoteV) : Bool := knownB x.house x.no && (decide (0 ≤ x.day) && decide (x.day < 100001)) && decide (x.text.size ≤ 8000) && decide (x.needs.length ≤ 40)
def rightN (x : NoteV) : Bool := headB x && needsB x.house x.no x.needs

theorem headB_iff {x : NoteV} : headB x = true ↔ (0 ≤ x.house ∧ x.house < 400) ∧ (0 ≤ x.no ∧ x.no < 400) ∧ (0 ≤ x.day ∧ x.day < 100001) ∧ x.text.size ≤ 8000 ∧ x.needs.length ≤ 40 := by
  simp [headB, knownB, and_assoc]
theorem rightN_head {x : NoteV} (h : rightN x = true) : headB x = true := by
  unfold rightN at h
  rw [Bool.and_eq_true] at h
  exact h.1

theorem lastOf_succ {l : List RefV} {k : Nat} {r : RefV} (h : l[k]? = some r) : lastOf l (k + 1) = r := by
  obtain ⟨hk, he⟩ := List.getElem?_eq_some_iff.1 h
  unfold lastOf
  rw [List.take_succ_eq_append_getElem hk, he]
  simp
theorem needs_no {h n : Int} {l : List RefV} {k : Nat} {r : RefV} (hk : l[k]? = some r) (hn : needB h n (lastOf l k) r = false) : needsB h n l = false := by
  obtain ⟨hk, he⟩ := List.getElem?_eq_some_iff.1 hk
  unfold needsB
  rw [List.all_eq_false]
  refine ⟨k, List.mem_range.2 hk, ?_⟩
  have : l.getD k ⟨0, 0⟩ = r := by simp [hk, he]
  rw [this, hn]
  simp
theorem needs_yes {h n : Int} {l : List RefV} (hp : ∀ i, i < l.length → ∀ r, l[i]? = some r → needB h n (lastOf l i) r = true) : needsB h n l = true := by
  unfold needsB
  rw [List.all_eq_true]
  intro i hi
  have hi := List.mem_range.1 hi
  have : l.getD i ⟨0, 0⟩ = l[i] := by simp [hi]
  rw [this]
  exact hp i hi _ (List.getElem?_eq_getElem hi)

/-! ### the encoding -/
def num (n : Int) : List UInt8 := itoa n ++ [59]
def nums (l : List Int) : List UInt8 := itoa l.length ++ [91] ++ l.flatMap num ++ [93]
def txt (s : ByteArray) : List UInt8 := itoa s.size ++ [58] ++ s.data.toList ++ [44]
def flat (l : List RefV) : List Int := l.flatMap fun r => [r.house, r.no]
def encode (x : NoteV) : List UInt8 := num x.house ++ num x.no ++ num x.day ++ nums (flat x.needs) ++ txt x.text

theorem dec_digit (u : Nat) : ∀ c ∈ decDigits u, 48 ≤ c.toNat ∧ c.toNat ≤ 57 := by
  induction u using Nat.strongRecOn with
  | _ u ih =>
    intro c hc
    by_cases h : u < 10
    · rw [decDigits, dif_pos h, List.mem_singleton] at hc
      subst hc
      have : (UInt8.ofNat (48 + u)).toNat = 48 + u := by simp; omega
      omega
    · rw [decDigits, dif_neg h, List.mem_append, List.mem_singleton] at hc
      rcases hc with hc | rfl
      · exact ih (u / 10) (by omega) c hc
      · have : (UInt8.ofNat (48 + u % 10)).toNat = 48 + u % 10 := by simp; omega
        omega
def val (l : List UInt8) : Nat := l.foldl (fun n c => n * 10 + (c.toNat - 48)) 0
theorem val_dec (u : Nat) : val (decDigits u) = u := by
  induction u using Nat.strongRecOn with
  | _ u ih =>
    by_cases h : u < 10
    · rw [decDigits, dif_pos h]
      have : (UInt8.ofNat (48 + u)).toNat = 48 + u := by simp; omega
      simp only [val, List.foldl_cons, List.foldl_nil, this]
      omega
    · rw [decDigits, dif_neg h]
      have h1 : (UInt8.ofNat (48 + u % 10)).toNat = 48 + u % 10 := by simp; omega
      have := ih (u / 10) (by omega)
      unfold val at *
      rw [List.foldl_append, this]
      simp only [List.foldl_cons, List.foldl_nil, h1]
      omega
theorem itoa_nn {n : Int} (h : 0 ≤ n) : itoa n = decDigits n.toNat := by unfold itoa; rw [if_neg (by omega)]
theorem itoa_inj {a b : Int} (ha : 0 ≤ a) (hb : 0 ≤ b) (h : itoa a = itoa b) : a = b := by
  rw [itoa_nn ha, itoa_nn hb] at h
  have := congrArg val h
  rw [val_dec, val_dec] at this
  omega
theorem itoa_no {a : Int} (ha : 0 ≤ a) {c : UInt8} (hc : 57 < c.toNat) : c ∉ itoa a := fun h => by
  rw [itoa_nn ha] at h
  have := dec_digit _ _ h
  omega
theorem cut_eq {c : UInt8} : ∀ {a b r s : List UInt8}, c ∉ a → c ∉ b → a ++ c :: r = b ++ c :: s → a = b ∧ r = s
  | [], [], _, _, _, _, h => by simpa using h
  | [], y :: b, _, _, _, hb, h => by
    simp only [List.nil_append, List.cons_append, List.cons.injEq] at h
    exact absurd (by rw [h.1]; simp) hb
  | x :: a, [], _, _, ha, _, h => by
    simp only [List.nil_append, List.cons_append, List.cons.injEq] at h
    exact absurd (by rw [h.1]; simp) ha
  | x :: a, y :: b, r, s, ha, hb, h => by
    simp only [List.cons_append, List.cons.injEq] at h
    have := cut_eq (fun hm => ha (List.mem_cons_of_mem _ hm)) (fun hm => hb (List.mem_cons_of_mem _ hm)) h.2
    exact ⟨by rw [h.1, this.1], this.2⟩
theorem itoa_cut {a b : Int} {c : UInt8} {r s : List UInt8} (ha : 0 ≤ a) (hb : 0 ≤ b) (hc : 57 < c.toNat) (h : itoa a ++ c :: r = itoa b ++ c :: s) : a = b ∧ r = s := by
  obtain ⟨h1, h2⟩ := cut_eq (itoa_no ha hc) (itoa_no hb hc) h
  exact ⟨itoa_inj ha hb h1, h2⟩
theorem num_cut {a b : Int} {r s : List UInt8} (ha : 0 ≤ a) (hb : 0 ≤ b) (h : num a ++ r = num b ++ s) : a = b ∧ r = s := by
  unfold num at h
  rw [List.append_assoc, List.append_assoc] at h
  exact itoa_cut ha hb (by decide) h
theorem nums_go : ∀ (a b : List Int) {r s : List UInt8}, a.length = b.length → (∀ x ∈ a, 0 ≤ x) → (∀ x ∈ b, 0 ≤ x) → a.flatMap num ++ r = b.flatMap num ++ s → a = b ∧ r = s
  | [], [], _, _, _, _, _, h => ⟨rfl, by simpa using h⟩
  | [], _ :: _, _, _, hl, _, _, _ => by simp at hl
  | _ :: _, [], _, _, hl, _, _, _ => by simp at hl
  | x :: a, y :: b, r, s, hl, ha, hb, h => by
    rw [List.flatMap_cons, List.flatMap_cons, List.append_assoc, List.append_assoc] at h
    obtain ⟨h1, h2⟩ := num_cut (ha x (by simp)) (hb y (by simp)) h
    obtain ⟨h3, h4⟩ := nums_go a b (by simpa using hl) (fun z hz => ha z (by simp [hz])) (fun z hz => hb z (by simp [hz])) h2
    exact ⟨by rw [h1, h3], h4⟩
theorem nums_cut {a b : List Int} {r s : List UInt8} (ha : ∀ x ∈ a, 0 ≤ x) (hb : ∀ x ∈ b, 0 ≤ x) (h : nums a ++ r = nums b ++ s) : a = b ∧ r = s := by
  unfold nums at h
  simp only [List.append_assoc, List.singleton_append] at h
  obtain ⟨h1, h2⟩ := itoa_cut (by omega) (by omega) (by decide) h
  obtain ⟨h3, h4⟩ := nums_go a b (by omega) ha hb h2
  exact ⟨h3, by simpa using h4⟩
theorem flat_inj : ∀ {a b : List RefV}, flat a = flat b → a = b
  | [], [], _ => rfl
  | [], _ :: _, h => by simp [flat] at h
  | _ :: _, [], h => by simp [flat] at h
  | x :: a, y :: b, h => by
    simp only [flat, List.flatMap_cons, List.cons_append, List.nil_append, List.cons.injEq] at h
    obtain ⟨h1, h2, h3⟩ := h
    have : a = b := flat_inj h3
    cases x; cases y
    simp_all
theorem needsB_mem {h n : Int} {l : List RefV} (hh : needsB h n l = true) : ∀ r ∈ l, 0 ≤ r.house ∧ r.house < 400 ∧ 0 ≤ r.no ∧ r.no < 400 := fun r hr => by
  obtain ⟨i, hi, e⟩ := List.getElem_of_mem hr
  have := List.all_eq_true.1 hh i (List.mem_range.2 hi)
  have e2 : l.getD i ⟨0, 0⟩ = r := by simp [hi, e]
  rw [e2] at this
  simp only [needB, knownB, Bool.and_eq_true, decide_eq_true_eq] at this
  omega
theorem flat_nn {x : NoteV} (h : rightN x = true) : ∀ n ∈ flat x.needs, 0 ≤ n ∧ n < 400 := fun n hn => by
  unfold rightN at h
  rw [Bool.and_eq_true] at h
  obtain ⟨r, hr, hm⟩ := List.mem_flatMap.1 hn
  have := needsB_mem h.2 r hr
  simp at hm
  rcases hm with rfl | rfl <;> omega
theorem flat_length (l : List RefV) : (flat l).length = l.length + l.length := by
  induction l with
  | nil => rfl
  | cons x l ih =>
    simp only [flat, List.flatMap_cons] at *
    simp [ih]; omega
theorem encode_inj {x y : NoteV} (hx : rightN x = true) (hy : rightN y = true) (h1 : x.house = y.house) (h2 : x.no = y.no) (h : encode x = encode y) : x = y := by
  have fx := headB_iff.1 (rightN_head hx)
  have fy := headB_iff.1 (rightN_head hy)
  unfold encode at h
  rw [h1, h2] at h
  simp only [List.append_assoc] at h
  have h := List.append_cancel_left h
  have h := List.append_cancel_left h
  obtain ⟨h3, h⟩ := num_cut (by omega) (by omega) h
  obtain ⟨h4, h⟩ := nums_cut (fun n hn => (flat_nn hx n hn).1) (fun n hn => (flat_nn hy n hn).1) h
  unfold txt at h
  simp only [List.append_assoc, List.singleton_append] at h
  obtain ⟨_, h⟩ := itoa_cut (by omega) (by omega) (by decide) h
  have h := List.append_cancel_right h
  exact NoteV.ext' h1 h2 h3 (flat_inj h4) (ByteArray.ext (Array.toList_inj.1 h))

/-! ### the order of notes -/
def ltN (a b : NoteV) : Prop := a.house < b.house ∨ a.house = b.house ∧ (a.no < b.no ∨ a.no = b.no ∧ encode a < encode b)
theorem ltN_irrefl (a : NoteV) : ¬ ltN a a := by
  unfold ltN
  have := List.lt_irrefl (encode a)
  intro h
  rcases h with h | ⟨_, h | ⟨_, h⟩⟩
  · omega
  · omega
  · exact this h
theorem ltN_trans {a b c : NoteV} (h1 : ltN a b) (h2 : ltN b c) : ltN a c := by
  unfold ltN at *
  rcases h1 with h1 | ⟨e1, h1⟩
  · rcases h2 with h2 | ⟨e2, _⟩ <;> exact .inl (by omega)
  · rcases h2 with h2 | ⟨e2, h2⟩
    · exact .inl (by omega)
    · refine .inr ⟨by omega, ?_⟩
      rcases h1 with h1 | ⟨f1, h1⟩
      · rcases h2 with h2 | ⟨f2, _⟩ <;> exact .inl (by omega)
      · rcases h2 with h2 | ⟨f2, h2⟩
        · exact .inl (by omega)
        · exact .inr ⟨by omega, List.lt_trans h1 h2⟩
theorem ltN_tri {a b : NoteV} (ha : rightN a = true) (hb : rightN b = true) (h1 : ¬ ltN a b) (h2 : ¬ ltN b a) : a = b := by
  unfold ltN at h1 h2
  have e1 : a.house = b.house := by
    have := fun h => h1 (.inl h)
    have := fun h => h2 (.inl h)
    omega
  have e2 : a.no = b.no := by
    have := fun h => h1 (.inr ⟨e1, .inl h⟩)
    have := fun h => h2 (.inr ⟨e1.symm, .inl h⟩)
    omega
  have k1 : ¬ encode a < encode b := fun h => h1 (.inr ⟨e1, .inr ⟨e2, h⟩⟩)
  have k2 : ¬ encode b < encode a := fun h => h2 (.inr ⟨e1.symm, .inr ⟨e2.symm, h⟩⟩)
  exact encode_inj ha hb e1 e2 (List.le_antisymm k2 k1)
def IsJoin (l j : List NoteV) : Prop := j.Pairwise ltN ∧ ∀ x, x ∈ j ↔ rightN x = true ∧ x ∈ l
theorem strict_unique : ∀ {j k : List NoteV}, j.Pairwise ltN → k.Pairwise ltN → (∀ x, x ∈ j ↔ x ∈ k) → j = k
  | [], [], _, _, _ => rfl
  | [], y :: k, _, _, h => absurd ((h y).2 (by simp)) (by simp)
  | x :: j, [], _, _, h => absurd ((h x).1 (by simp)) (by simp)
  | x :: j, y :: k, hj, hk, h => by
    rw [List.pairwise_cons] at hj hk
    have exy : x = y := by
      have hx := (h x).1 (by simp)
      have hy := (h y).2 (by simp)
      rcases List.mem_cons.1 hx with e | e
      · exact e
      · rcases List.mem_cons.1 hy with e' | e'
        · exact e'.symm
        · exact absurd (ltN_trans (hj.1 _ e') (hk.1 _ e)) (ltN_irrefl _)
    subst exy
    congr 1
    refine strict_unique hj.2 hk.2 fun z => ?_
    have hz := h z
    rw [List.mem_cons, List.mem_cons] at hz
    constructor
    · intro m
      rcases hz.1 (.inr m) with e | e
      · subst e; exact absurd (hj.1 _ m) (ltN_irrefl _)
      · exact e
    · intro m
      rcases hz.2 (.inr m) with e | e
      · subst e; exact absurd (hk.1 _ m) (ltN_irrefl _)
      · exact e
theorem IsJoin.unique {l m j k : List NoteV} (h1 : IsJoin l j) (h2 : IsJoin m k) (h : ∀ x, rightN x = true → (x ∈ l ↔ x ∈ m)) : j = k :=
  strict_unique h1.1 h2.1 fun x => by
    rw [h1.2 x, h2.2 x]
    constructor
    · rintro ⟨a, b⟩; exact ⟨a, (h x a).1 b⟩
    · rintro ⟨a, b⟩; exact ⟨a, (h x a).2 b⟩

/-! ### the past of a house -/
def pastL : Nat → Int → List NoteV → List NoteV
  | _, _, [] => []
  | i, d, x :: l => if x.no = i ∧ (∀ y, l.head? = some y → (i : Int) < y.no) ∧ d ≤ x.day then x :: pastL (i + 1) x.day l else []
def ownOf (ys : List NoteV) (h : Int) : List NoteV := ys.filter fun x => decide (x.house = h)
def past (own : List NoteV) : List NoteV := pastL 0 0 own
/-- two notes that stand side by side have one number -/
def Forked (own : List NoteV) : Prop := ∃ (i : Nat) (x y : NoteV), own[i]? = some x ∧ own[i + 1]? = some y ∧ x.no = y.no
/-- the first n notes are numbered, alone, and their days ascend -/
def Good (own : List NoteV) (n : Nat) : Prop := n ≤ own.length ∧ (∀ i x, i < n → own[i]? = some x → x.no = (i : Int) ∧ ∀ y, own[i + 1]? = some y → (i : Int) < y.no) ∧ ∀ i x y, i + 1 < n → own[i]? = some x → own[i + 1]? = some y → x.day ≤ y.day
theorem pastL_prefix : ∀ (l : List NoteV) (i : Nat) (d : Int), pastL i d l <+: l
  | [], _, _ => List.prefix_refl _
  | x :: l, i, d => by
    unfold pastL
    split
    · exact List.cons_prefix_cons.2 ⟨rfl, pastL_prefix l _ _⟩
    · exact List.nil_prefix
/-- it is the longest good beginning -/
theorem pastL_len : ∀ (l : List NoteV) (i : Nat) (d : Int) (n : Nat), n ≤ l.length →
    (((∀ k x, k < n → l[k]? = some x → x.no = ((i + k : Nat) : Int) ∧ ∀ y, l[k + 1]? = some y → ((i + k : Nat) : Int) < y.no) ∧ (∀ x, 0 < n → l[0]? = some x → d ≤ x.day) ∧ ∀ k x y, k + 1 < n → l[k]? = some x → l[k + 1]? = some y → x.day ≤ y.day) ↔ n ≤ (pastL i d l).length)
  | [], i, d, n, hn => by
    simp at hn
    subst hn
    simp [pastL]
  | x :: l, i, d, 0, hn => by simp
  | x :: l, i, d, n + 1, hn => by
    have ih := pastL_len l (i + 1) x.day n (by simpa using hn)
    unfold pastL
    have h0 : l.head? = l[0]? := by cases l <;> rfl
    split
    · next hc =>
      obtain ⟨c1, c2, c3⟩ := hc
      rw [List.length_cons, Nat.add_le_add_iff_right, ← ih]
      constructor
      · rintro ⟨g1, g2, g3⟩
        refine ⟨fun k y hk hy => ?_, fun y hn0 hy => g3 0 x y (by omega) rfl (by simpa using hy), fun k a b hk ha hb => g3 (k + 1) a b (by omega) (by simpa using ha) (by simpa using hb)⟩
        have := g1 (k + 1) y (by omega) (by simpa using hy)
        rw [show i + 1 + k = i + (k + 1) by omega]
        exact ⟨this.1, fun z hz => this.2 z (by simpa using hz)⟩
      · rintro ⟨g1, g2, g3⟩
        refine ⟨fun k y hk hy => ?_, fun y _ hy => ?_, fun k a b hk ha hb => ?_⟩
        · match k, hy with
          | 0, hy =>
            simp at hy
            subst hy
            exact ⟨by simpa using c1, fun z hz => by simpa using c2 z (by rw [h0]; simpa using hz)⟩
          | k + 1, hy =>
            have := g1 k y (by omega) (by simpa using hy)
            rw [show i + 1 + k = i + (k + 1) by omega] at this
            exact ⟨this.1, fun z hz => this.2 z (by simpa using hz)⟩
        · simp at hy
          subst hy
          exact c3
        · match k, ha with
          | 0, ha =>
            simp at ha
            subst ha
            exact g2 b (by omega) (by simpa using hb)
          | k + 1, ha => exact g3 k a b (by omega) (by simpa using ha) (by simpa using hb)
    · next hc =>
      constructor
      · rintro ⟨g1, g2, g3⟩
        exfalso
        apply hc
        have := g1 0 x (by omega) rfl
        exact ⟨by simpa using this.1, fun y hy => by simpa using this.2 y (by rw [h0] at hy; simpa using hy), g2 x (by omega) rfl⟩
      · intro h
        simp at h
theorem past_good {own : List NoteV} (hr : ∀ x ∈ own, 0 ≤ x.day) (n : Nat) (hn : n ≤ own.length) : Good own n ↔ n ≤ (past own).length := by
  unfold past
  rw [← pastL_len own 0 0 n hn]
  unfold Good
  simp only [Nat.zero_add]
  constructor
  · rintro ⟨_, g1, g2⟩
    exact ⟨g1, fun x _ hx => hr x (List.mem_of_getElem? hx), g2⟩
  · rintro ⟨g1, _, g2⟩
    exact ⟨hn, g1, g2⟩
theorem past_take (own : List NoteV) : own.take (past own).length = past own := (List.prefix_iff_eq_take.1 (pastL_prefix own 0 0)).symm
/-- what the code finds is the past -/
theorem past_eq {own : List NoteV} (hr : ∀ x ∈ own, 0 ≤ x.day) {n : Nat} (hg : Good own n) (hm : n = own.length ∨ ¬ Good own (n + 1)) : own.take n = past own := by
  have h1 := (past_good hr n hg.1).1 hg
  have h3 : (past own).length ≤ own.length := (pastL_prefix own 0 0).length_le
  have h2 : (past own).length ≤ n := by
    rcases hm with h | h
    · omega
    · rcases Nat.lt_or_ge n (past own).length with hlt | hge
      · exact absurd ((past_good hr (n + 1) (by omega)).2 (by omega)) h
      · exact hge
  rw [show n = (past own).length by omega, past_take]

/-! ### houses -/
structure HouseS where
  number : Int
  past : List NoteV
  forked : Bool
/-- what a joined list says of houses -/
def IsHouses (ys : List NoteV) (hs : List HouseS) : Prop :=
  hs.Pairwise (fun a b => a.number < b.number) ∧ (∀ h ∈ hs, h.past = past (ownOf ys h.number) ∧ (h.forked = true ↔ Forked (ownOf ys h.number))) ∧ ∀ n, (∃ h ∈ hs, h.number = n) ↔ ∃ y ∈ ys, y.house = n
theorem ownOf_mem {ys : List NoteV} {h : Int} {x : NoteV} : x ∈ ownOf ys h ↔ x ∈ ys ∧ x.house = h := by simp [ownOf]
theorem ownOf_sorted {ys : List NoteV} (h : ys.Pairwise ltN) (n : Int) : (ownOf ys n).Pairwise ltN := h.filter _
/-- numbers ascend where the house is not forked -/
theorem nos_le {own : List NoteV} {n : Int} (hs : own.Pairwise ltN) (hh : ∀ x ∈ own, x.house = n) : own.Pairwise fun a b => a.no ≤ b.no :=
  hs.imp_of_mem fun {a b} ha hb hab => by
    have := hh a ha
    have := hh b hb
    unfold ltN at hab
    omega
theorem nos_lt {own : List NoteV} {n : Int} (hs : own.Pairwise ltN) (hh : ∀ x ∈ own, x.house = n) (hf : ¬ Forked own) : own.Pairwise fun a b => a.no < b.no := by
  have hle := nos_le hs hh
  rw [List.pairwise_iff_getElem] at *
  intro i j hi hj hij
  have h1 : own[i].no < own[i + 1].no := by
    have := hle i (i + 1) hi (by omega) (by omega)
    rcases Int.lt_or_eq_of_le this with h | h
    · exact h
    · exact absurd ⟨i, own[i], own[i + 1], List.getElem?_eq_getElem hi, List.getElem?_eq_getElem (by omega), h⟩ hf
  rcases Nat.lt_or_ge (i + 1) j with h | h
  · have := hle (i + 1) j (by omega) hj h
    omega
  · have e : j = i + 1 := by omega
    subst e
    exact h1
theorem forked_not {own : List NoteV} (h : own.Pairwise fun a b => a.no < b.no) : ¬ Forked own := by
  rintro ⟨i, x, y, hx, hy, e⟩
  obtain ⟨hi, rfl⟩ := List.getElem?_eq_some_iff.1 hx
  obtain ⟨hj, rfl⟩ := List.getElem?_eq_some_iff.1 hy
  have := List.pairwise_iff_getElem.1 h i (i + 1) hi hj (by omega)
  omega
theorem past_sub : ∀ (a b : List NoteV) (i : Nat) (d : Int), b.Pairwise (fun x y => x.no < y.no) → a.Pairwise (fun x y => x.no < y.no) → (∀ x ∈ a, x ∈ b) → (∀ x ∈ b, (i : Int) ≤ x.no) → pastL i d a <+: pastL i d b
  | [], _, _, _, _, _, _, _ => by simp [pastL]
  | x :: a, [], _, _, _, _, hs, _ => absurd (hs x (by simp)) (by simp)
  | x :: a, y :: b, i, d, hb, ha, hs, hi => by
    rw [List.pairwise_cons] at ha hb
    unfold pastL
    split
    · next hc =>
      have exy : x = y := by
        rcases List.mem_cons.1 (hs x (by simp)) with e | e
        · exact e
        · have := hb.1 x e
          have := hi y (by simp)
          omega
      subst exy
      have hc2 : ∀ z, b.head? = some z → (i : Int) < z.no := fun z hz => by
        have := hb.1 z (List.mem_of_mem_head? hz)
        omega
      rw [if_pos ⟨hc.1, hc2, hc.2.2⟩]
      refine List.cons_prefix_cons.2 ⟨rfl, past_sub a b (i + 1) x.day hb.2 ha.2 (fun z hz => ?_) fun z hz => ?_⟩
      · rcases List.mem_cons.1 (hs z (by simp [hz])) with e | e
        · have := ha.1 z hz
          rw [e] at this
          omega
        · exact e
      · have := hb.1 z hz
        omega
    · exact List.nil_prefix

/-! ### the notes that count -/
/-- index and house with a number -/
def HouseAt (hs : List HouseS) (i : Nat) (h : HouseS) : Prop := hs[i]? = some h
def Met (hs : List HouseS) (tk : List Nat) (r : RefV) : Prop :=
  ∃ (i : Nat) (h : HouseS) (t : Nat), hs[i]? = some h ∧ tk[i]? = some t ∧ h.number = r.house ∧ (r.no < (t : Int) ∨ (h.forked = true ∧ (h.past.length : Int) ≤ r.no))
def Ready (hs : List HouseS) (tk : List Nat) (x : NoteV) : Prop := ∀ r ∈ x.needs, Met hs tk r
inductive Runs (hs : List HouseS) : List Nat → List NoteV → Prop
  | start : Runs hs (List.replicate hs.length 0) []
  | step {tk : List Nat} {out : List NoteV} {i t : Nat} {h : HouseS} {x : NoteV} : Runs hs tk out → hs[i]? = some h → tk[i]? = some t → h.past[t]? = some x → Ready hs tk x → Runs hs (tk.set i (t + 1)) (out ++ [x])
def Final (hs : List HouseS) (tk : List Nat) : Prop := ∀ (i : Nat) (h : HouseS) (t : Nat) (x : NoteV), hs[i]? = some h → tk[i]? = some t → h.past[t]? = some x → ¬ Ready hs tk x
/-- the notes that count -/
def Counts (hs : List HouseS) (out : List NoteV) : Prop := ∃ tk, Runs hs tk out ∧ Final hs tk
theorem Runs.len {hs : List HouseS} {tk : List Nat} {out : List NoteV} (h : Runs hs tk out) : tk.length = hs.length := by
  induction h with
  | start => simp
  | step _ _ _ _ _ ih => simpa using ih
theorem Runs.mem {hs : List HouseS} {tk : List Nat} {out : List NoteV} (h : Runs hs tk out) (x : NoteV) : x ∈ out ↔ ∃ (i : Nat) (h : HouseS) (t j : Nat), hs[i]? = some h ∧ tk[i]? = some t ∧ j < t ∧ h.past[j]? = some x := by
  induction h with
  | start =>
    simp only [List.not_mem_nil, false_iff]
    rintro ⟨i, h, t, j, h1, h2, h3, h4⟩
    rw [List.getElem?_replicate] at h2
    split at h2
    · cases h2; omega
    · cases h2
  | @step tk out i t h y hr h1 h2 h3 h4 ih =>
    rw [List.mem_append, List.mem_singleton, ih]
    have hi : i < tk.length := (List.getElem?_eq_some_iff.1 h2).1
    constructor
    · rintro (⟨i', h', t', j, g1, g2, g3, g4⟩ | rfl)
      · by_cases e : i = i'
        · subst e
          rw [h2] at g2
          cases g2
          exact ⟨i, h', t + 1, j, g1, List.getElem?_set_self hi, by omega, g4⟩
        · exact ⟨i', h', t', j, g1, by rw [List.getElem?_set_ne e]; exact g2, g3, g4⟩
      · exact ⟨i, h, t + 1, t, h1, List.getElem?_set_self hi, by omega, h3⟩
    · rintro ⟨i', h', t', j, g1, g2, g3, g4⟩
      by_cases e : i = i'
      · subst e
        rw [List.getElem?_set_self hi] at g2
        cases g2
        rw [h1] at g1
        cases g1
        by_cases ej : j = t
        · subst ej
          rw [h3] at g4
          cases g4
          exact .inr rfl
        · exact .inl ⟨i, h, t, j, h1, h2, by omega, g4⟩
      · rw [List.getElem?_set_ne e] at g2
        exact .inl ⟨i', h', t', j, g1, g2, g3, g4⟩
/-- one list of houses says no more than another one -/
def Within (a b : List HouseS) : Prop := ∀ (i : Nat) (h : HouseS), a[i]? = some h → ∃ (j : Nat) (k : HouseS), b[j]? = some k ∧ k.number = h.number ∧ h.past <+: k.past ∧ (h.forked = true → k.forked = true ∧ k.past = h.past)
theorem prefix_get {α : Type} {a b : List α} (h : a <+: b) {i : Nat} {x : α} (hx : a[i]? = some x) : b[i]? = some x := by
  obtain ⟨t, rfl⟩ := h
  have := (List.getElem?_eq_some_iff.1 hx).1
  rw [List.getElem?_append_left this]
  exact hx
theorem num_unique {b : List HouseS} (hb : b.Pairwise fun x y => x.number < y.number) {i j : Nat} {x y : HouseS} (hx : b[i]? = some x) (hy : b[j]? = some y) (e : x.number = y.number) : i = j := by
  obtain ⟨hi, rfl⟩ := List.getElem?_eq_some_iff.1 hx
  obtain ⟨hj, rfl⟩ := List.getElem?_eq_some_iff.1 hy
  rw [List.pairwise_iff_getElem] at hb
  rcases Nat.lt_trichotomy i j with h | h | h
  · have := hb i j hi hj h; omega
  · exact h
  · have := hb j i hj hi h; omega
theorem runs_within {a b : List HouseS} (hw : Within a b) (hb : b.Pairwise fun x y => x.number < y.number) {tb : List Nat} {ob : List NoteV} (rb : Runs b tb ob) (fb : Final b tb) {ta : List Nat} {oa : List NoteV} (ra : Runs a ta oa) :
    ∀ (i : Nat) (h : HouseS) (t : Nat), a[i]? = some h → ta[i]? = some t → ∃ (j : Nat) (k : HouseS) (u : Nat), b[j]? = some k ∧ tb[j]? = some u ∧ k.number = h.number ∧ h.past <+: k.past ∧ (h.forked = true → k.forked = true ∧ k.past = h.past) ∧ t ≤ u := by
  induction ra with
  | start =>
    intro i h t h1 h2
    obtain ⟨j, k, hk, e1, e2, e3⟩ := hw i h h1
    have hj : j < tb.length := by rw [rb.len]; exact (List.getElem?_eq_some_iff.1 hk).1
    rw [List.getElem?_replicate] at h2
    split at h2
    · cases h2
      exact ⟨j, k, tb[j], hk, List.getElem?_eq_getElem hj, e1, e2, e3, Nat.zero_le _⟩
    · cases h2
  | @step ta oa i t h x ra h1 h2 h3 h4 ih =>
    intro i' h' t' g1 g2
    have hi : i < ta.length := (List.getElem?_eq_some_iff.1 h2).1
    by_cases e : i = i'
    · subst e
      rw [List.getElem?_set_self hi] at g2
      cases g2
      rw [h1] at g1
      cases g1
      obtain ⟨j, k, u, k1, k2, k3, k4, k5, k6⟩ := ih i h t h1 h2
      refine ⟨j, k, u, k1, k2, k3, k4, k5, ?_⟩
      rcases Nat.lt_or_ge t u with hlt | hge
      · exact hlt
      · exfalso
        have eu : u = t := by omega
        subst eu
        refine fb j k u x k1 k2 (prefix_get k4 h3) fun r hr => ?_
        obtain ⟨i2, m, t2, m1, m2, m3, m4⟩ := h4 r hr
        obtain ⟨j2, k2', u2, q1, q2, q3, q4, q5, q6⟩ := ih i2 m t2 m1 m2
        refine ⟨j2, k2', u2, q1, q2, q3.trans m3, ?_⟩
        rcases m4 with m4 | ⟨m4, m5⟩
        · exact .inl (by omega)
        · obtain ⟨f1, f2⟩ := q5 m4
          exact .inr ⟨f1, by rw [f2]; exact m5⟩
    · rw [List.getElem?_set_ne e] at g2
      exact ih i' h' t' g1 g2
theorem counts_within {a b : List HouseS} (hw : Within a b) (hb : b.Pairwise fun x y => x.number < y.number) {oa ob : List NoteV} (ca : Counts a oa) (cb : Counts b ob) : ∀ x ∈ oa, x ∈ ob := by
  obtain ⟨ta, ra, _⟩ := ca
  obtain ⟨tb, rb, fb⟩ := cb
  intro x hx
  obtain ⟨i, h, t, j, h1, h2, h3, h4⟩ := (ra.mem x).1 hx
  obtain ⟨i2, k, u, k1, k2, _, k4, _, k6⟩ := runs_within hw hb rb fb ra i h t h1 h2
  exact (rb.mem x).2 ⟨i2, k, u, j, k1, k2, by omega, prefix_get k4 h4⟩
theorem Within.refl (a : List HouseS) : Within a a := fun i h hi => ⟨i, h, hi, rfl, List.prefix_refl _, fun e => ⟨e, rfl⟩⟩
/-- the houses of one joined list are within those of a greater one, if the greater one adds nothing to a house that it convicts -/
theorem houses_within {ya yb : List NoteV} {ha hb : List HouseS} (sa : ya.Pairwise ltN) (sb : yb.Pairwise ltN) (ra : IsHouses ya ha) (rb : IsHouses yb hb) (hr : ∀ x ∈ yb, 0 ≤ x.no) (hs : ∀ x ∈ ya, x ∈ yb)
    (hf : ∀ h ∈ hb, h.forked = true → ∀ x ∈ yb, x.house = h.number → x ∈ ya) : Within ha hb := by
  intro i h hi
  have hm : h ∈ ha := List.mem_of_getElem? hi
  obtain ⟨y, hy1, hy2⟩ := (ra.2.2 h.number).1 ⟨h, hm, rfl⟩
  obtain ⟨k, hk, e⟩ := (rb.2.2 h.number).2 ⟨y, hs y hy1, hy2⟩
  obtain ⟨j, hj, ek⟩ := List.getElem_of_mem hk
  refine ⟨j, k, by rw [List.getElem?_eq_getElem hj, ek], e, ?_⟩
  obtain ⟨p1, f1⟩ := ra.2.1 h hm
  obtain ⟨p2, f2⟩ := rb.2.1 k hk
  rw [e] at p2 f2
  have oa := ownOf_sorted sa h.number
  have ob := ownOf_sorted sb h.number
  have hha : ∀ x ∈ ownOf ya h.number, x.house = h.number := fun x hx => (ownOf_mem.1 hx).2
  have hhb : ∀ x ∈ ownOf yb h.number, x.house = h.number := fun x hx => (ownOf_mem.1 hx).2
  have hsub : ∀ x ∈ ownOf ya h.number, x ∈ ownOf yb h.number := fun x hx => ownOf_mem.2 ⟨hs x (ownOf_mem.1 hx).1, (ownOf_mem.1 hx).2⟩
  by_cases hk2 : k.forked = true
  · have eo : ownOf ya h.number = ownOf yb h.number := strict_unique oa ob fun x => ⟨hsub x, fun hx => ownOf_mem.2 ⟨hf k hk hk2 x (ownOf_mem.1 hx).1 ((ownOf_mem.1 hx).2.trans e.symm), (ownOf_mem.1 hx).2⟩⟩
    rw [p1, p2, eo]
    exact ⟨List.prefix_refl _, fun _ => ⟨hk2, rfl⟩⟩
  · have nf : ¬ Forked (ownOf yb h.number) := fun q => hk2 (f2.2 q)
    have lb := nos_lt ob hhb nf
    have la : (ownOf ya h.number).Pairwise fun a b => a.no < b.no := by
      refine nos_lt oa hha fun q => nf ?_
      obtain ⟨i, x, y, hx, hy, exy⟩ := q
      exfalso
      have hxm := hsub x (List.mem_of_getElem? hx)
      have hym := hsub y (List.mem_of_getElem? hy)
      obtain ⟨i1, g1, e1⟩ := List.getElem_of_mem hxm
      obtain ⟨i2, g2, e2⟩ := List.getElem_of_mem hym
      rw [List.pairwise_iff_getElem] at lb
      rcases Nat.lt_trichotomy i1 i2 with q | q | q
      · have := lb i1 i2 g1 g2 q; rw [e1, e2] at this; omega
      · subst q
        have exy2 : x = y := e1.symm.trans e2
        subst exy2
        obtain ⟨u1, v1⟩ := List.getElem?_eq_some_iff.1 hx
        obtain ⟨u2, v2⟩ := List.getElem?_eq_some_iff.1 hy
        have := List.pairwise_iff_getElem.1 oa i (i + 1) u1 u2 (by omega)
        rw [v1, v2] at this
        exact ltN_irrefl _ this
      · have := lb i2 i1 g2 g1 q; rw [e1, e2] at this; omega
    refine ⟨?_, fun hfk => ?_⟩
    · rw [p1, p2]
      exact past_sub _ _ 0 0 lb la hsub fun x hx => by simpa using hr x (ownOf_mem.1 hx).1
    · exact absurd (f1.1 hfk) (forked_not la)

/-! ### what notes tell -/
def told1 (acts : List Kb.Akt) (x : NoteV) : Option Kb.Akt := match x.text.data.toList with
  | [c] => if 97 ≤ c.toNat then acts[c.toNat - 97]? else none
  | _ => none
def told (acts : List Kb.Akt) (l : List NoteV) : List Kb.Akt := l.filterMap (told1 acts)
theorem told_mem {acts : List Kb.Akt} {l m : List NoteV} (h : ∀ x ∈ l, x ∈ m) : ∀ a ∈ told acts l, a ∈ told acts m := fun a ha => by
  obtain ⟨x, hx, e⟩ := List.mem_filterMap.1 ha
  exact List.mem_filterMap.2 ⟨x, h x hx, e⟩
/-- acts that release nothing leave the locks -/
theorem locked_more {x y : List Kb.Akt} {name : Kb.Bytes} {day : Int} (h1 : ∀ a ∈ x, a ∈ y) (h2 : ∀ a ∈ y, a.kind = 1 → a ∈ x) (hl : Kb.lockedB x name day = true) : Kb.lockedB y name day = true := by
  rw [Kb.lockedB_iff] at *
  obtain ⟨ho, a, ha, hk, hab, hr, hd, ht⟩ := hl
  refine ⟨ho, a, h1 a ha, hk, hab, hr, hd, ?_⟩
  cases e : Kb.twoB y a day with
  | false => rfl
  | true =>
    rw [Kb.twoB_sub (fun b fb hb => h2 b hb (Kb.freesB_iff.1 fb).1) e] at ht
    exact ht
/-- the law's last part -/
theorem locked_notes {acts : List Kb.Akt} {mine more : List NoteV} {name : Kb.Bytes} {day : Int} (h1 : ∀ x ∈ mine, x ∈ more) (h2 : ∀ x ∈ more, x ∉ mine → ∀ a ∈ told acts [x], a.kind ≠ 1) (hl : Kb.lockedB (told acts mine) name day = true) : Kb.lockedB (told acts more) name day = true := by
  refine locked_more (told_mem h1) (fun a ha hk => ?_) hl
  obtain ⟨x, hx, e⟩ := List.mem_filterMap.1 ha
  by_cases hm : x ∈ mine
  · exact List.mem_filterMap.2 ⟨x, hm, e⟩
  · exact absurd hk (h2 x hx hm a (List.mem_filterMap.2 ⟨x, by simp, e⟩))
/-- and its first part -/
theorem locked_same {acts : List Kb.Akt} {ys : List NoteV} {hs : List HouseS} (hh : hs.Pairwise fun a b => a.number < b.number) {o1 o2 : List NoteV} (c1 : Counts hs o1) (c2 : Counts hs o2) (name : Kb.Bytes) (day : Int) :
    Kb.lockedB (told acts o1) name day = Kb.lockedB (told acts o2) name day :=
  Kb.lockedB_congr (fun a _ => ⟨told_mem (counts_within (Within.refl hs) hh c1 c2) a, told_mem (counts_within (Within.refl hs) hh c2 c1) a⟩) name day
end Nt
