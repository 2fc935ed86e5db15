/- Figures that were shown (layer 43): when a list is right, and that leaving out all figures of some keys leaves it right. Plain Lean. -/
import Derived.Test.YtaojnjealccjiaaGreatDoorBig
namespace Bg
set_option linter.unusedVariables false
set_option linter.unusedSimpArgs false

structure BigV where
  sign : Int
  dg : List Int
structure FracV where
  p : BigV
  q : BigV
structure SpanV where
  lo : FracV
  hi : FracV
structure ShownV where
  key : ByteArray
  note : Int
  value : SpanV

def natD (l : List Int) : List Nat := l.map Int.toNat
def digR (l : List Int) : Bool := l.all fun d => decide (0 ≤ d) && decide (d ≤ 1048575)
def rightB (b : BigV) : Bool := digR b.dg && ((b.dg.isEmpty && b.sign == 0) || (!b.dg.isEmpty && (b.sign == 1 || b.sign == -1) && b.dg.getLastD 0 != 0))
def bval (b : BigV) : Nat := val (natD b.dg)
/-- the integer with a sign and a size -/
def ofZ (s : Int) (n : Nat) : BigV := ⟨if n = 0 then 0 else s, (dig n).map Int.ofNat⟩
def zeroB : BigV := ⟨0, []⟩
def zeroF : FracV := ⟨zeroB, zeroB⟩
def zeroS : SpanV := ⟨zeroF, zeroF⟩

theorem natD_map (l : List Nat) : natD (l.map Int.ofNat) = l := by
  unfold natD
  rw [List.map_map]
  conv => rhs; rw [← List.map_id l]
  congr 1
theorem digR_iff (l : List Int) : digR l = true ↔ ∀ d ∈ l, 0 ≤ d ∧ d ≤ 1048575 := by simp [digR]
theorem natD_back {l : List Int} (h : digR l = true) : (natD l).map Int.ofNat = l := by
  rw [digR_iff] at h
  unfold natD
  rw [List.map_map]
  conv => rhs; rw [← List.map_id l]
  refine List.map_congr_left fun d hd => ?_
  have := h d hd
  simp
  omega
theorem natD_dig {l : List Int} (h : digR l = true) : Dig (natD l) := by
  rw [digR_iff] at h
  intro d hd
  unfold natD at hd
  obtain ⟨x, hx, rfl⟩ := List.mem_map.1 hd
  have := h x hx
  omega
theorem rightB_dig {b : BigV} (h : rightB b = true) : digR b.dg = true := by simp [rightB] at h; exact h.1
theorem rightB_sign {b : BigV} (h : rightB b = true) : b.sign = -1 ∨ b.sign = 0 ∨ b.sign = 1 := by
  unfold rightB at h
  by_cases e : b.dg.isEmpty = true
  · simp [e] at h; omega
  · simp [e] at h; omega
theorem rightB_canon {b : BigV} (h : rightB b = true) : Canon (natD b.dg) := by
  have hd := rightB_dig h
  refine ⟨natD_dig hd, fun hne => ?_⟩
  have hne' : b.dg ≠ [] := fun e => hne (by rw [e]; rfl)
  unfold rightB at h
  have he : b.dg.isEmpty = false := by simpa using hne'
  rw [he] at h
  simp only [Bool.and_eq_true, Bool.false_and, Bool.false_or, Bool.not_false, Bool.true_and, bne_iff_ne] at h
  have hl := h.2.2
  rw [List.getLastD_eq_getLast?, List.getLast?_eq_some_getLast hne'] at hl
  simp only [Option.getD_some] at hl
  have e1 : (natD b.dg).getLast hne = (b.dg.getLast hne').toNat := List.getLast_map ..
  rw [e1]
  have := (digR_iff _).1 hd _ (List.getLast_mem hne')
  omega
theorem rightB_zero {b : BigV} (h : rightB b = true) : bval b = 0 ↔ b.sign = 0 := by
  have hc := canon_eq (rightB_canon h)
  have hb := natD_back (rightB_dig h)
  unfold rightB at h
  by_cases e : b.dg.isEmpty = true
  · have e' : b.dg = [] := by simpa using e
    simp [e'] at h
    simp [bval, e', natD, val, h]
  · have e' : b.dg ≠ [] := by simpa using e
    simp [e'] at h
    constructor
    · intro h0
      unfold bval at h0
      rw [h0, dig_zero] at hc
      rw [hc] at hb
      exact absurd hb.symm (by simpa using e')
    · intro h0; omega
/-- a right integer is the one with its sign and its size -/
theorem rightB_eq {b : BigV} (h : rightB b = true) : b = ofZ b.sign (bval b) := by
  have hc := canon_eq (rightB_canon h)
  have hb := natD_back (rightB_dig h)
  have hz := rightB_zero h
  obtain ⟨s, l⟩ := b
  unfold ofZ
  congr 1
  · by_cases e : bval ⟨s, l⟩ = 0
    · rw [if_pos e]; exact hz.1 e
    · rw [if_neg e]
  · show l = (dig (val (natD l))).map Int.ofNat
    rw [← hc]
    exact hb.symm
theorem bval_ofZ (s : Int) (n : Nat) : bval (ofZ s n) = n := by simp [bval, ofZ, natD_map, val_dig]
theorem rightB_ofZ {s : Int} {n : Nat} (h : s = 1 ∨ s = -1) : rightB (ofZ s n) = true := by
  have hd : digR ((dig n).map Int.ofNat) = true := by
    rw [digR_iff]
    intro d hd
    obtain ⟨x, hx, rfl⟩ := List.mem_map.1 hd
    have := Dig_dig n x hx
    simp
    omega
  unfold rightB
  simp only [ofZ, hd, Bool.true_and]
  by_cases e : n = 0
  · subst e; simp [dig_zero]
  · have hne : dig n ≠ [] := fun k => e ((dig_nil_iff n).1 k)
    have hm : (dig n).map Int.ofNat ≠ [] := by simpa using hne
    have hl := (canon_dig n).2 hne
    have he : ((dig n).map Int.ofNat).isEmpty = false := by simpa using hne
    simp only [he, Bool.false_and, Bool.false_or, Bool.not_false, Bool.true_and, if_neg e, Bool.and_eq_true, bne_iff_ne]
    refine ⟨by rcases h with h | h <;> simp [h], ?_⟩
    rw [List.getLastD_eq_getLast?, List.getLast?_eq_some_getLast hm, List.getLast_map]
    simp
    exact hl
theorem ofZ_zero (s : Int) : ofZ s 0 = zeroB := by simp [ofZ, zeroB, dig_zero]
theorem rightB_zeroB : rightB zeroB = true := rfl
theorem rightB_ofZ' {s : Int} {n : Nat} (h : s = 1 ∨ s = -1 ∨ n = 0) : rightB (ofZ s n) = true := by
  rcases h with h | h | h
  · exact rightB_ofZ (.inl h)
  · exact rightB_ofZ (.inr h)
  · subst h; rw [ofZ_zero]; rfl

def negB (b : BigV) : BigV := if rightB b then ofZ (-b.sign) (bval b) else zeroB
def mulB (a b : BigV) : BigV := if rightB a && rightB b then ofZ (a.sign * b.sign) (bval a * bval b) else zeroB
def sgn (x y : Int) : Int := if x < y then -1 else if x = y then 0 else 1
def cmpB (a b : BigV) : Int := if rightB a && rightB b then (if a.sign = b.sign then a.sign * cmpN (bval a) (bval b) else sgn a.sign b.sign) else 0
def sameB (a b : BigV) : Bool := a.sign == b.sign && a.dg == b.dg
def rightF (f : FracV) : Bool := rightB f.p && rightB f.q && f.q.sign == 1 && Nat.gcd (bval f.p) (bval f.q) == 1
def sameF (a b : FracV) : Bool := sameB a.p b.p && sameB a.q b.q
def negF (f : FracV) : FracV := if rightF f then ⟨negB f.p, negB (negB f.q)⟩ else zeroF
def cmpF (a b : FracV) : Int := if rightF a && rightF b then cmpB (mulB a.p b.q) (mulB b.p a.q) else 0
def rightS (s : SpanV) : Bool := rightF s.lo && rightF s.hi && decide (cmpF s.lo s.hi ≤ 0)
def sameS (a b : SpanV) : Bool := sameF a.lo b.lo && sameF a.hi b.hi
def negS (s : SpanV) : SpanV := if rightS s then ⟨negF s.hi, negF s.lo⟩ else zeroS

theorem negB_of {b : BigV} (h : rightB b = true) : negB b = ofZ (-b.sign) (bval b) := by unfold negB; rw [if_pos h]
theorem rightB_negB {b : BigV} (h : rightB b = true) : rightB (negB b) = true ∧ bval (negB b) = bval b ∧ (negB b).sign = -b.sign := by
  have hs := rightB_sign h
  have hz := rightB_zero h
  unfold negB
  rw [if_pos h]
  refine ⟨rightB_ofZ' (by omega), bval_ofZ _ _, ?_⟩
  unfold ofZ
  by_cases e : bval b = 0
  · simp only [if_pos e]
    have := hz.1 e
    omega
  · simp only [if_neg e]
theorem negB_negB {b : BigV} (h : rightB b = true) : negB (negB b) = b := by
  obtain ⟨h1, h2, h3⟩ := rightB_negB h
  rw [negB_of h1, h2, h3, Int.neg_neg]
  exact (rightB_eq h).symm
theorem rightF_parts {f : FracV} (h : rightF f = true) : rightB f.p = true ∧ rightB f.q = true ∧ f.q.sign = 1 ∧ Nat.gcd (bval f.p) (bval f.q) = 1 := by
  simp [rightF] at h
  exact ⟨h.1.1.1, h.1.1.2, h.1.2, h.2⟩
theorem negF_right {f : FracV} (h : rightF f = true) : rightF (negF f) = true ∧ (negF f).p = negB f.p ∧ (negF f).q = f.q := by
  obtain ⟨h1, h2, h3, h4⟩ := rightF_parts h
  have e : negF f = ⟨negB f.p, f.q⟩ := by unfold negF; rw [if_pos h, negB_negB h2]
  rw [e]
  refine ⟨?_, rfl, rfl⟩
  obtain ⟨g1, g2, g3⟩ := rightB_negB h1
  simp [rightF, g1, g2, h2, h3, h4]
theorem negF_negF {f : FracV} (h : rightF f = true) : negF (negF f) = f := by
  obtain ⟨h1, h2, h3, h4⟩ := rightF_parts h
  obtain ⟨g1, g2, g3⟩ := negF_right h
  obtain ⟨k1, k2, k3⟩ := negF_right g1
  obtain ⟨p, q⟩ := f
  have e1 : (negF (negF ⟨p, q⟩)).p = p := by rw [k2, g2]; exact negB_negB h1
  have e2 : (negF (negF ⟨p, q⟩)).q = q := by rw [k3, g3]
  generalize negF (negF ⟨p, q⟩) = x at e1 e2
  obtain ⟨a, b⟩ := x
  simp at e1 e2
  rw [e1, e2]
theorem sign_mul {s t : Int} {x y : Nat} (hs : s = -1 ∨ s = 0 ∨ s = 1) (ht : t = -1 ∨ t = 0 ∨ t = 1) (hx : x = 0 ↔ s = 0) (hy : y = 0 ↔ t = 0) : s * t = 1 ∨ s * t = -1 ∨ x * y = 0 := by
  rcases hs with h | h | h
  · rcases ht with k | k | k
    · simp [h, k]
    · right; right; rw [hy.2 k, Nat.mul_zero]
    · simp [h, k]
  · right; right; rw [hx.2 h, Nat.zero_mul]
  · rcases ht with k | k | k
    · simp [h, k]
    · right; right; rw [hy.2 k, Nat.mul_zero]
    · simp [h, k]
theorem mulB_neg {a b : BigV} (ha : rightB a = true) (hb : rightB b = true) : mulB (negB a) b = negB (mulB a b) := by
  obtain ⟨g1, g2, g3⟩ := rightB_negB ha
  have hs := rightB_sign ha
  have hs2 := rightB_sign hb
  have hz := rightB_zero ha
  have hz2 := rightB_zero hb
  have hr : rightB (ofZ (a.sign * b.sign) (bval a * bval b)) = true := by
    exact rightB_ofZ' (sign_mul hs hs2 hz hz2)
  have e1 : mulB a b = ofZ (a.sign * b.sign) (bval a * bval b) := by unfold mulB; simp [ha, hb]
  have e2 : mulB (negB a) b = ofZ (-a.sign * b.sign) (bval a * bval b) := by unfold mulB; simp [g1, hb, g2, g3]
  rw [e1, e2]
  unfold negB
  rw [if_pos hr, bval_ofZ]
  unfold ofZ
  by_cases e : bval a * bval b = 0
  · simp [e]
  · simp only [if_neg e, Int.neg_mul]
theorem rightB_mulB {a b : BigV} (ha : rightB a = true) (hb : rightB b = true) : rightB (mulB a b) = true := by
  have hs := rightB_sign ha
  have hs2 := rightB_sign hb
  have hz := rightB_zero ha
  have hz2 := rightB_zero hb
  unfold mulB
  simp only [ha, hb, Bool.and_self, if_true]
  exact rightB_ofZ' (sign_mul hs hs2 hz hz2)
theorem cmpB_neg {a b : BigV} (ha : rightB a = true) (hb : rightB b = true) : cmpB (negB a) (negB b) = cmpB b a := by
  obtain ⟨g1, g2, g3⟩ := rightB_negB ha
  obtain ⟨k1, k2, k3⟩ := rightB_negB hb
  unfold cmpB
  simp only [g1, k1, ha, hb, g2, k2, g3, k3, Bool.and_self, if_true]
  by_cases e : a.sign = b.sign
  · rw [if_pos (by omega), if_pos e.symm, e]
    rcases Nat.lt_trichotomy (bval a) (bval b) with h | h | h
    · rw [cmpN_lt h, cmpN_gt h]; omega
    · rw [cmpN_eq h, cmpN_eq h.symm]; omega
    · rw [cmpN_gt h, cmpN_lt h]; omega
  · rw [if_neg (by omega), if_neg (by omega)]
    unfold sgn
    by_cases h : b.sign < a.sign
    · rw [if_pos (by omega), if_pos h]
    · rw [if_neg (by omega), if_neg (by omega), if_neg h, if_neg (by omega)]
theorem negS_right {s : SpanV} (h : rightS s = true) : rightS (negS s) = true ∧ negS s = ⟨negF s.hi, negF s.lo⟩ := by
  have e : negS s = ⟨negF s.hi, negF s.lo⟩ := by unfold negS; rw [if_pos h]
  refine ⟨?_, e⟩
  rw [e]
  unfold rightS at h ⊢
  simp only [Bool.and_eq_true, decide_eq_true_eq] at h ⊢
  obtain ⟨⟨h1, h2⟩, h3⟩ := h
  obtain ⟨a1, a2, a3⟩ := negF_right h1
  obtain ⟨b1, b2, b3⟩ := negF_right h2
  obtain ⟨p1, p2, p3, p4⟩ := rightF_parts h1
  obtain ⟨q1, q2, q3, q4⟩ := rightF_parts h2
  refine ⟨⟨b1, a1⟩, ?_⟩
  unfold cmpF at h3 ⊢
  simp only [h1, h2, a1, b1, Bool.and_self, if_true] at h3 ⊢
  rw [a2, a3, b2, b3, mulB_neg q1 p2, mulB_neg p1 q2, cmpB_neg (rightB_mulB q1 p2) (rightB_mulB p1 q2)]
  exact h3
theorem negS_negS {s : SpanV} (h : rightS s = true) : negS (negS s) = s := by
  obtain ⟨h1, h2⟩ := negS_right h
  obtain ⟨k1, k2⟩ := negS_right h1
  rw [k2, h2]
  unfold rightS at h
  simp only [Bool.and_eq_true] at h
  simp only [negF_negF h.1.1, negF_negF h.1.2]

/-! lists of figures -/
section
variable (odd : ByteArray → Bool)
def keyB (s : ByteArray) : Bool := decide (1 ≤ s.size) && decide (s.size ≤ 60) && !odd s
def shownB (x : ShownV) : Bool := keyB odd x.key && decide (0 ≤ x.note) && decide (x.note ≤ 1099511627776) && rightS x.value
def noteOf (pre : List ShownV) : Int := match pre.getLast? with | none => 0 | some y => y.note
def lastOf (pre : List ShownV) (key : ByteArray) : Option ShownV := pre.reverse.find? fun y => decide (y.key = key)
def stepOk (pre : List ShownV) (x : ShownV) : Bool :=
  shownB odd x && decide (noteOf pre ≤ x.note) && (match lastOf pre x.key with | none => true | some y => !(y.note == x.note || sameS y.value x.value))
def rightFrom : List ShownV → List ShownV → Bool
  | _, [] => true
  | pre, x :: r => stepOk odd pre x && rightFrom (pre ++ [x]) r
def rightL (l : List ShownV) : Bool := decide (l.length ≤ 2000) && rightFrom odd [] l

theorem noteOf_snoc (pre : List ShownV) (x : ShownV) : noteOf (pre ++ [x]) = x.note := by simp [noteOf]
theorem lastOf_snoc (pre : List ShownV) (x : ShownV) (key : ByteArray) : lastOf (pre ++ [x]) key = if x.key = key then some x else lastOf pre key := by
  unfold lastOf
  rw [List.reverse_append, List.reverse_singleton, List.singleton_append, List.find?_cons]
  by_cases h : x.key = key <;> simp [h]
theorem rightFrom_filter (q : ByteArray → Bool) : ∀ (l pre : List ShownV), 0 ≤ noteOf pre → (∀ y ∈ pre, y.note ≤ noteOf pre) → rightFrom odd pre l = true → rightFrom odd (pre.filter fun x => q x.key) (l.filter fun x => q x.key) = true
  | [], _, _, _, _ => by simp [rightFrom]
  | x :: r, pre, h0, hm, h => by
    unfold rightFrom at h
    rw [Bool.and_eq_true] at h
    obtain ⟨h1, h2⟩ := h
    have hx : noteOf pre ≤ x.note := by simp [stepOk] at h1; exact h1.1.2
    have hx0 : 0 ≤ noteOf (pre ++ [x]) := by rw [noteOf_snoc]; omega
    have hmx : ∀ y ∈ pre ++ [x], y.note ≤ noteOf (pre ++ [x]) := by
      intro y hy
      rw [noteOf_snoc]
      rcases List.mem_append.1 hy with hy | hy
      · have := hm y hy; omega
      · rw [List.mem_singleton.1 hy]; omega
    have ih := rightFrom_filter q r (pre ++ [x]) hx0 hmx h2
    rw [List.filter_append] at ih
    cases hq : q x.key with
    | false =>
      simp only [List.filter_cons, hq, Bool.false_eq_true, if_false, List.filter_nil, List.append_nil] at ih ⊢
      exact ih
    | true =>
      simp only [List.filter_cons, hq, if_true, List.filter_nil] at ih ⊢
      unfold rightFrom
      rw [Bool.and_eq_true]
      refine ⟨?_, ih⟩
      unfold stepOk at h1 ⊢
      have hl : lastOf (pre.filter fun x => q x.key) x.key = lastOf pre x.key := by
        unfold lastOf
        rw [← List.filter_reverse, List.find?_filter]
        congr 1
        funext y
        by_cases e : y.key = x.key
        · simp [e, hq]
        · simp [e]
      rw [hl]
      simp only [Bool.and_eq_true, decide_eq_true_eq] at h1 ⊢
      refine ⟨⟨h1.1.1, ?_⟩, h1.2⟩
      unfold noteOf
      cases hg : (pre.filter fun x => q x.key).getLast? with
      | none => simp; omega
      | some y =>
        have hy : y ∈ pre.filter fun x => q x.key := List.mem_of_getLast? hg
        have := hm y (List.mem_filter.1 hy).1
        simp
        omega
theorem rightL_filter (q : ByteArray → Bool) {l : List ShownV} (h : rightL odd l = true) : rightL odd (l.filter fun x => q x.key) = true := by
  unfold rightL at h ⊢
  simp only [Bool.and_eq_true, decide_eq_true_eq] at h ⊢
  exact ⟨Nat.le_trans (List.length_filter_le _ _) h.1, rightFrom_filter odd q l [] (by simp [noteOf]) (by simp) h.2⟩
theorem rightFrom_mem : ∀ (l pre : List ShownV), rightFrom odd pre l = true → ∀ x ∈ l, shownB odd x = true
  | [], _, _, x, h => by cases h
  | y :: r, pre, h, x, hx => by
    unfold rightFrom at h
    rw [Bool.and_eq_true] at h
    rcases List.mem_cons.1 hx with rfl | hx
    · have := h.1; simp [stepOk] at this; exact this.1.1
    · exact rightFrom_mem r _ h.2 x hx
theorem rightL_mem {l : List ShownV} (h : rightL odd l = true) (x : ShownV) (hx : x ∈ l) : shownB odd x = true := by
  unfold rightL at h
  rw [Bool.and_eq_true] at h
  exact rightFrom_mem odd l [] h.2 x hx
theorem shownB_value {x : ShownV} (h : shownB odd x = true) : rightS x.value = true := by simp [shownB] at h; exact h.2
/-- one step more of the check -/
theorem rightFrom_split : ∀ (l pre : List ShownV) (k : Nat), (∀ i, i < k → ∀ x, l[i]? = some x → stepOk odd (pre ++ l.take i) x = true) → rightFrom odd pre l = rightFrom odd (pre ++ l.take k) (l.drop k)
  | [], pre, k, _ => by simp
  | x :: r, pre, 0, _ => by simp
  | x :: r, pre, k + 1, h => by
    have h0 : stepOk odd pre x = true := by have := h 0 (by omega) x rfl; simpa using this
    rw [rightFrom, h0, Bool.true_and]
    rw [rightFrom_split r (pre ++ [x]) k fun i hi y hy => by
      have := h (i + 1) (by omega) y (by simpa using hy)
      simpa using this]
    simp
/-- All -/
def allL (l : List ShownV) (key : ByteArray) : List ShownV := if rightL odd l then l.filter fun x => decide (x.key = key) else []
end
end Bg
