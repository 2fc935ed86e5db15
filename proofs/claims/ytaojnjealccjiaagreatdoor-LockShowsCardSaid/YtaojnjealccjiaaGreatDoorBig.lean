/- Integers of any size as lists of digits of 20 bits: values, canonical lists, what the loops of add, mul, short, div and settle keep. Plain Lean. -/
namespace Bg
set_option linter.unusedVariables false
set_option linter.unusedSimpArgs false

def val : List Nat → Nat
  | [] => 0
  | d :: r => d + 1048576 * val r

def Dig (l : List Nat) : Prop := ∀ d ∈ l, d < 1048576

theorem Dig.nil : Dig [] := by intro d h; cases h
theorem Dig.cons {d : Nat} {l : List Nat} (h : d < 1048576) (hl : Dig l) : Dig (d :: l) := by
  intro x hx
  rcases List.mem_cons.1 hx with rfl | hx
  · exact h
  · exact hl x hx
theorem Dig.tail {d : Nat} {l : List Nat} (h : Dig (d :: l)) : Dig l := fun x hx => h x (List.mem_cons_of_mem _ hx)
theorem Dig.head {d : Nat} {l : List Nat} (h : Dig (d :: l)) : d < 1048576 := h d (List.mem_cons_self ..)
theorem Dig.at_ {l : List Nat} (h : Dig l) {i : Nat} (hi : i < l.length) : l[i] < 1048576 := h _ (List.getElem_mem hi)
theorem Dig.set_ {l : List Nat} (h : Dig l) (i : Nat) {d : Nat} (hd : d < 1048576) : Dig (l.set i d) := by
  intro x hx
  rcases List.mem_or_eq_of_mem_set hx with hx | rfl
  · exact h x hx
  · exact hd
theorem Dig.take_ {l : List Nat} (h : Dig l) (n : Nat) : Dig (l.take n) := fun x hx => h x (List.mem_of_mem_take hx)
theorem Dig.drop_ {l : List Nat} (h : Dig l) (n : Nat) : Dig (l.drop n) := fun x hx => h x (List.mem_of_mem_drop hx)
theorem Dig.app {a b : List Nat} (h : Dig a) (k : Dig b) : Dig (a ++ b) := by
  intro x hx
  rcases List.mem_append.1 hx with hx | hx
  · exact h x hx
  · exact k x hx
theorem Dig.zeros (n : Nat) : Dig (List.replicate n 0) := fun x hx => by
  rw [List.eq_of_mem_replicate hx]; omega

theorem pos_pow (n : Nat) : 0 < 1048576 ^ n := Nat.pow_pos (by omega)
theorem pow_succ' (n : Nat) : 1048576 ^ (n + 1) = 1048576 * 1048576 ^ n := by rw [Nat.pow_succ, Nat.mul_comm]

theorem val_app : ∀ a b : List Nat, val (a ++ b) = val a + 1048576 ^ a.length * val b
  | [], b => by simp [val]
  | d :: r, b => by
    have ih := val_app r b
    simp only [List.cons_append, val, ih, List.length_cons, pow_succ', Nat.mul_add, Nat.mul_assoc]
    omega
theorem val_zeros : ∀ n, val (List.replicate n 0) = 0
  | 0 => rfl
  | n + 1 => by simp [List.replicate_succ, val, val_zeros n]
theorem val_lt : ∀ {l : List Nat}, Dig l → val l < 1048576 ^ l.length
  | [], _ => by simp [val]
  | d :: r, h => by
    have ih := val_lt h.tail
    have hd := h.head
    simp only [val, List.length_cons, pow_succ']
    omega
theorem getD_lt {l : List Nat} {i : Nat} (h : i < l.length) : l.getD i 0 = l[i] := by simp [h]
theorem Dig.get {l : List Nat} (h : Dig l) (i : Nat) : l.getD i 0 < 1048576 := by
  rcases Nat.lt_or_ge i l.length with hi | hi
  · rw [getD_lt hi]; exact h.at_ hi
  · simp [hi]
theorem val_set : ∀ (l : List Nat) (i d : Nat) (hi : i < l.length), val (l.set i d) + l.getD i 0 * 1048576 ^ i = val l + d * 1048576 ^ i
  | [], _, _, h => absurd h (by simp)
  | x :: r, 0, d, _ => by simp [val]; omega
  | x :: r, i + 1, d, h => by
    have h' : i < r.length := by simpa using h
    have ih := val_set r i d h'
    simp only [List.set_cons_succ, val, List.getD_cons_succ, pow_succ']
    have e1 : r.getD i 0 * (1048576 * 1048576 ^ i) = 1048576 * (r.getD i 0 * 1048576 ^ i) := by rw [Nat.mul_left_comm]
    have e2 : d * (1048576 * 1048576 ^ i) = 1048576 * (d * 1048576 ^ i) := by rw [Nat.mul_left_comm]
    rw [e1, e2]
    omega
theorem val_take_succ (l : List Nat) (i : Nat) (h : i < l.length) : val (l.take (i + 1)) = val (l.take i) + l.getD i 0 * 1048576 ^ i := by
  rw [getD_lt h, List.take_succ_eq_append_getElem h, val_app, List.length_take, Nat.min_eq_left (Nat.le_of_lt h)]
  simp [val, Nat.mul_comm]
theorem val_drop (l : List Nat) (i : Nat) (h : i < l.length) : val (l.drop i) = l.getD i 0 + 1048576 * val (l.drop (i + 1)) := by
  rw [getD_lt h, List.drop_eq_getElem_cons h, val]
theorem val_split (l : List Nat) (i : Nat) (h : i ≤ l.length) : val l = val (l.take i) + 1048576 ^ i * val (l.drop i) := by
  have := val_app (l.take i) (l.drop i)
  rw [List.take_append_drop, List.length_take, Nat.min_eq_left h] at this
  exact this
theorem val_zero_of {l : List Nat} (h : ∀ d ∈ l, d = 0) : val l = 0 := by
  induction l with
  | nil => rfl
  | cons d r ih =>
    have h0 := h d (List.mem_cons_self ..)
    have h1 := ih fun x hx => h x (List.mem_cons_of_mem _ hx)
    simp [val, h0, h1]
theorem zero_of_val : ∀ {l : List Nat}, val l = 0 → ∀ d ∈ l, d = 0
  | [], _ => fun d h => by cases h
  | x :: r, h => fun d hd => by
    simp only [val] at h
    rcases List.mem_cons.1 hd with rfl | hd
    · omega
    · exact zero_of_val (by omega) d hd

/-- the digits of a number -/
def dig (n : Nat) : List Nat := if h : n = 0 then [] else n % 1048576 :: dig (n / 1048576)
termination_by n
decreasing_by omega

theorem dig_zero : dig 0 = [] := by rw [dig]; simp
theorem dig_pos {n : Nat} (h : n ≠ 0) : dig n = n % 1048576 :: dig (n / 1048576) := by rw [dig]; simp [h]
theorem val_dig (n : Nat) : val (dig n) = n := by
  induction n using Nat.strongRecOn with
  | _ n ih =>
    by_cases h : n = 0
    · subst h; rw [dig_zero]; rfl
    · rw [dig_pos h, val, ih _ (by omega)]; omega
theorem Dig_dig (n : Nat) : Dig (dig n) := by
  induction n using Nat.strongRecOn with
  | _ n ih =>
    by_cases h : n = 0
    · subst h; rw [dig_zero]; exact Dig.nil
    · rw [dig_pos h]; exact Dig.cons (by omega) (ih _ (by omega))
theorem dig_nil_iff (n : Nat) : dig n = [] ↔ n = 0 := by
  constructor
  · intro h
    have := val_dig n
    rw [h] at this
    simpa [val] using this.symm
  · rintro rfl; exact dig_zero

/-- a list of digits whose last one is not 0 -/
def Canon (l : List Nat) : Prop := Dig l ∧ ∀ h : l ≠ [], l.getLast h ≠ 0
theorem canon_dig (n : Nat) : Canon (dig n) := by
  refine ⟨Dig_dig n, ?_⟩
  induction n using Nat.strongRecOn with
  | _ n ih =>
    by_cases h : n = 0
    · subst h; intro h; exact absurd dig_zero h
    · intro hne
      by_cases h2 : n / 1048576 = 0
      · have e : dig n = [n % 1048576] := by rw [dig_pos h, h2, dig_zero]
        simp only [e, List.getLast_singleton]
        omega
      · have e := dig_pos h
        have h3 : dig (n / 1048576) ≠ [] := fun k => h2 ((dig_nil_iff _).1 k)
        have := ih (n / 1048576) (by omega) h3
        simp only [e]
        rw [List.getLast_cons h3]
        exact this
theorem canon_eq : ∀ {l : List Nat}, Canon l → l = dig (val l)
  | [], _ => by rw [val, dig_zero]
  | d :: r, ⟨h, hl⟩ => by
    have hd := h.head
    have hr : Canon r := ⟨h.tail, fun hne => by have := hl (by simp); rwa [List.getLast_cons hne] at this⟩
    have ih := canon_eq hr
    have hne : val (d :: r) ≠ 0 := by
      rw [val]
      intro hz
      have h1 : d = 0 := by omega
      have h2 : val r = 0 := by omega
      rw [h2, dig_zero] at ih
      subst ih
      have := hl (by simp)
      simp at this
      exact this h1
    rw [dig_pos hne, val]
    have e1 : (d + 1048576 * val r) % 1048576 = d := by omega
    have e2 : (d + 1048576 * val r) / 1048576 = val r := by omega
    rw [e1, e2, ← ih]
/-- what trim leaves -/
theorem trim_eq {l : List Nat} {n : Nat} (hd : Dig l) (hn : n ≤ l.length) (hz : ∀ d ∈ l.drop n, d = 0) (hl : 0 < n → l.getD (n - 1) 0 ≠ 0) : l.take n = dig (val l) := by
  have hv : val l = val (l.take n) := by rw [val_split l n hn, val_zero_of hz]; simp
  rw [hv]
  refine canon_eq ⟨hd.take_ n, fun hne => ?_⟩
  have h0 : 0 < n := by
    rcases Nat.eq_zero_or_pos n with rfl | h
    · simp at hne
    · exact h
  rw [List.getLast_eq_getElem]
  have := hl h0
  rw [getD_lt (by omega)] at this
  simp only [List.length_take, Nat.min_eq_left hn, List.getElem_take]
  exact this
/-- digits are the digits of their value, and zeros -/
theorem dig_zeros : ∀ {l : List Nat}, Dig l → ∃ k, l = dig (val l) ++ List.replicate k 0
  | [], _ => ⟨0, by simp [val, dig_zero]⟩
  | d :: r, h => by
    obtain ⟨k, hk⟩ := dig_zeros h.tail
    have hd := h.head
    by_cases hz : val (d :: r) = 0
    · rw [hz, dig_zero]
      refine ⟨(d :: r).length, ?_⟩
      rw [List.nil_append]
      exact List.eq_replicate_iff.2 ⟨rfl, zero_of_val hz⟩
    · refine ⟨k, ?_⟩
      rw [dig_pos hz]
      have e1 : val (d :: r) % 1048576 = d := by simp only [val]; omega
      have e2 : val (d :: r) / 1048576 = val r := by simp only [val]; omega
      rw [e1, e2, List.cons_append, ← hk]
theorem dig_len {l : List Nat} (h : Dig l) : (dig (val l)).length ≤ l.length := by
  obtain ⟨k, hk⟩ := dig_zeros h
  have := congrArg List.length hk
  simp at this
  omega
theorem dig_take {l : List Nat} (h : Dig l) : dig (val l) = l.take (dig (val l)).length := by
  obtain ⟨k, hk⟩ := dig_zeros h
  conv => rhs; rw [hk]
  simp [val_app, val_zeros, val_dig]
theorem canon_lower {l : List Nat} (h : Canon l) (hne : l ≠ []) : 1048576 ^ (l.length - 1) ≤ val l := by
  have hs := val_split l (l.length - 1) (by omega)
  have hpos : 0 < l.length := List.length_pos_iff.2 hne
  have hd := val_drop l (l.length - 1) (by omega)
  have hl := h.2 hne
  rw [List.getLast_eq_getElem, ← getD_lt] at hl
  have h1 : 1 ≤ val (l.drop (l.length - 1)) := by omega
  have := Nat.mul_le_mul_left (1048576 ^ (l.length - 1)) h1
  omega
theorem dig_len_of_lt {n k : Nat} (h : n < 1048576 ^ k) : (dig n).length ≤ k := by
  rcases Nat.lt_or_ge k (dig n).length with hlt | hge
  · have h1 := canon_lower (canon_dig n) (fun e => by rw [e] at hlt; simp at hlt)
    rw [val_dig] at h1
    have h3 : 1048576 ^ k ≤ 1048576 ^ ((dig n).length - 1) := Nat.pow_le_pow_right (by omega) (by omega)
    omega
  · exact hge
theorem dig_len_mono {m n : Nat} (h : m ≤ n) : (dig m).length ≤ (dig n).length := by
  refine dig_len_of_lt ?_
  have := val_lt (Dig_dig n)
  rw [val_dig] at this
  omega
theorem len_lt {a b : List Nat} (ha : Dig a) (hb : Canon b) (h : a.length < b.length) : val a < val b := by
  have h1 := val_lt ha
  have hne : b ≠ [] := fun e => by subst e; simp at h
  have h2 := canon_lower hb hne
  have h3 : 1048576 ^ a.length ≤ 1048576 ^ (b.length - 1) := Nat.pow_le_pow_right (by omega) (by omega)
  omega
theorem len_le_of {a b : List Nat} (ha : Canon a) (hb : Dig b) (h : val a ≤ val b) : a.length ≤ b.length := by
  rcases Nat.lt_or_ge b.length a.length with hlt | hge
  · have := len_lt hb ha hlt; omega
  · exact hge
/-- the first digit from the top that differs decides -/
theorem top_lt {a b : List Nat} (ha : Dig a) (hlen : a.length = b.length) (i : Nat) (hi : i < a.length) (hup : a.drop (i + 1) = b.drop (i + 1)) (hlt : a.getD i 0 < b.getD i 0) : val a < val b := by
  rw [val_split a i (by omega), val_split b i (by omega), val_drop a i hi, val_drop b i (by omega), hup]
  have h1 := val_lt (ha.take_ i)
  rw [List.length_take, Nat.min_eq_left (by omega)] at h1
  have h2 : 1048576 ^ i * (a.getD i 0 + 1048576 * val (b.drop (i + 1))) + 1048576 ^ i ≤ 1048576 ^ i * (b.getD i 0 + 1048576 * val (b.drop (i + 1))) := by
    have : 1048576 ^ i * (a.getD i 0 + 1048576 * val (b.drop (i + 1)) + 1) ≤ 1048576 ^ i * (b.getD i 0 + 1048576 * val (b.drop (i + 1))) := Nat.mul_le_mul_left _ (by omega)
    rw [Nat.mul_add, Nat.mul_one] at this
    exact this
  omega
theorem val_inj {a b : List Nat} (ha : Canon a) (hb : Canon b) (h : val a = val b) : a = b := by rw [canon_eq ha, canon_eq hb, h]

/-- -1, 0 or 1 -/
def cmpN (x y : Nat) : Int := if x < y then -1 else if x = y then 0 else 1
theorem cmpN_lt {x y : Nat} (h : x < y) : cmpN x y = -1 := if_pos h
theorem cmpN_eq {x y : Nat} (h : x = y) : cmpN x y = 0 := by unfold cmpN; rw [if_neg (by omega), if_pos h]
theorem cmpN_gt {x y : Nat} (h : y < x) : cmpN x y = 1 := by unfold cmpN; rw [if_neg (by omega), if_neg (by omega)]

/-- a list whose value is small has zeros on top -/
theorem get_le (l : List Nat) (i : Nat) : l.getD i 0 * 1048576 ^ i ≤ val l := by
  rcases Nat.lt_or_ge i l.length with hi | hi
  · have := val_set l i 0 hi
    omega
  · simp [hi]

/-! mul -/
theorem mul_inner (out : List Nat) (j x y c n D : Nat) (hj : j < out.length) (h : val out + c * 1048576 ^ j = D) (hn : n = out.getD j 0 + x * y + c) :
    val (out.set j (n % 1048576)) + (n / 1048576) * 1048576 ^ (j + 1) = D + x * (y * 1048576 ^ j) := by
  have hs := val_set out j (n % 1048576) hj
  have e : n % 1048576 * 1048576 ^ j + n / 1048576 * 1048576 ^ (j + 1) = n * 1048576 ^ j := by
    rw [pow_succ', ← Nat.mul_assoc, ← Nat.add_mul]
    congr 1
    omega
  have e2 : n * 1048576 ^ j = out.getD j 0 * 1048576 ^ j + x * (y * 1048576 ^ j) + c * 1048576 ^ j := by rw [hn, Nat.add_mul, Nat.add_mul, Nat.mul_assoc]
  omega
theorem mul_carry (o x y c : Nat) (ho : o < 1048576) (hx : x < 1048576) (hy : y < 1048576) (hc : c < 1048576) : o + x * y + c < 1099511627776 ∧ (o + x * y + c) / 1048576 < 1048576 := by
  have : x * y ≤ 1048575 * 1048575 := Nat.mul_le_mul (by omega) (by omega)
  omega
theorem mul_end (out : List Nat) (m c D : Nat) (hm : m < out.length) (h : val out + c * 1048576 ^ m = D) (hD : D < 1048576 ^ (m + 1)) :
    out.getD m 0 + c < 1048576 ∧ val (out.set m (out.getD m 0 + c)) = D := by
  have hg := get_le out m
  have hs := val_set out m (out.getD m 0 + c) hm
  rw [Nat.add_mul] at hs
  refine ⟨?_, by omega⟩
  have h1 : (out.getD m 0 + c) * 1048576 ^ m < 1048576 * 1048576 ^ m := by
    rw [Nat.add_mul, ← pow_succ']
    omega
  exact Nat.lt_of_mul_lt_mul_right h1
theorem mul_bound {a b : List Nat} {i : Nat} (ha : Dig a) (hb : Dig b) (hi : i ≤ a.length) : val (a.take i) * val b < 1048576 ^ (i + b.length) := by
  have h1 := val_lt (ha.take_ i)
  rw [List.length_take, Nat.min_eq_left hi] at h1
  have h2 := val_lt hb
  rw [Nat.pow_add]
  exact Nat.mul_lt_mul'' h1 h2
theorem mul_next (a b : List Nat) (i : Nat) (hi : i < a.length) : val (a.take (i + 1)) * val b = val (a.take i) * val b + a.getD i 0 * (1048576 ^ i * val b) := by
  rw [val_take_succ a i hi, Nat.add_mul, Nat.mul_assoc]
theorem mul_step (b : List Nat) (x i k : Nat) (hk : k < b.length) : x * (1048576 ^ i * val (b.take (k + 1))) = x * (1048576 ^ i * val (b.take k)) + x * (b.getD k 0 * 1048576 ^ (i + k)) := by
  rw [val_take_succ b k hk, Nat.mul_add, Nat.mul_add, Nat.pow_add]
  congr 2
  rw [Nat.mul_left_comm]

/-! short -/
theorem short_step (a out : List Nat) (i d r : Nat) (hi : i < a.length) (hl : out.length = a.length) (hr : r < d) (h : val (out.drop (i + 1)) * d + r = val (a.drop (i + 1))) :
    val ((out.set i ((r * 1048576 + a.getD i 0) / d)).drop i) * d + (r * 1048576 + a.getD i 0) % d = val (a.drop i) := by
  have e1 : val ((out.set i ((r * 1048576 + a.getD i 0) / d)).drop i) = (r * 1048576 + a.getD i 0) / d + 1048576 * val (out.drop (i + 1)) := by
    rw [val_drop _ i (by simp; omega)]
    congr 1
    · rw [getD_lt (by simp; omega)]; simp
    · rw [List.drop_set_of_lt (by omega)]
  rw [e1, val_drop a i hi, ← h, Nat.add_mul]
  have e2 := Nat.div_add_mod (r * 1048576 + a.getD i 0) d
  rw [Nat.mul_comm d] at e2
  rw [Nat.mul_add, Nat.mul_assoc]
  omega
theorem short_digit (r d x : Nat) (hr : r < d) (hd : d < 1048577) (hx : x < 1048576) : (r * 1048576 + x) / d < 1048576 ∧ r * 1048576 + x < 1099511627776 := by
  refine ⟨?_, by omega⟩
  rw [Nat.div_lt_iff_lt_mul (by omega)]
  have : (r + 1) * 1048576 ≤ d * 1048576 := Nat.mul_le_mul_right _ hr
  omega
theorem short_end (a q d r : Nat) (hr : r < d) (h : q * d + r = a) : q = a / d ∧ r = a % d := by
  subst h
  rw [Nat.mul_comm]
  constructor
  · rw [Nat.mul_add_div (by omega), Nat.div_eq_of_lt hr]; rfl
  · rw [Nat.mul_add_mod, Nat.mod_eq_of_lt hr]

/-! settle -/
/-- one step of the first loop: n = u[i] - borrow - guess * v[i], as an integer -/
theorem settle_step (u : List Nat) (i g y b : Nat) (D : Nat) (hi : i < u.length) (hu : Dig u) (hb : b < 1048576) (hg : g < 1048576) (hy : y < 1048576) (E : Nat)
    (h : val u + E = D + b * 1048576 ^ i) (n : Int) (hn : n = (u.getD i 0 : Int) - b - (g * y : Nat)) :
    0 ≤ n % 1048576 ∧ 0 ≤ -(n / 1048576) ∧ (-(n / 1048576)).toNat < 1048576 ∧ (n % 1048576).toNat < 1048576 ∧
      val (u.set i (n % 1048576).toNat) + (E + g * (y * 1048576 ^ i)) = D + (-(n / 1048576)).toNat * 1048576 ^ (i + 1) := by
  have hx := hu.get i
  have hgy : g * y ≤ 1048575 * 1048575 := Nat.mul_le_mul (by omega) (by omega)
  generalize hG : g * y = G at hgy hn
  refine ⟨by omega, by omega, by omega, by omega, ?_⟩
  have hs := val_set u i (n % 1048576).toNat hi
  have e : (n % 1048576).toNat + b + G = u.getD i 0 + (-(n / 1048576)).toNat * 1048576 := by omega
  have e2 : ((n % 1048576).toNat + b + G) * 1048576 ^ i = (u.getD i 0 + (-(n / 1048576)).toNat * 1048576) * 1048576 ^ i := by rw [e]
  rw [Nat.add_mul, Nat.add_mul, Nat.add_mul, Nat.mul_assoc, ← pow_succ'] at e2
  have e3 : g * (y * 1048576 ^ i) = G * 1048576 ^ i := by rw [← hG, Nat.mul_assoc]
  rw [e3]
  omega
theorem settle_add (u : List Nat) (i y c : Nat) (D : Nat) (hi : i < u.length) (hu : Dig u) (hc : c ≤ 1) (hy : y < 1048576) (h : val u + c * 1048576 ^ i = D) (n : Nat) (hn : n = c + u.getD i 0 + y) :
    n / 1048576 ≤ 1 ∧ val (u.set i (n % 1048576)) + (n / 1048576) * 1048576 ^ (i + 1) = D + y * 1048576 ^ i := by
  have hx := hu.get i
  refine ⟨by omega, ?_⟩
  have hs := val_set u i (n % 1048576) hi
  have e : n % 1048576 * 1048576 ^ i + n / 1048576 * 1048576 ^ (i + 1) = n * 1048576 ^ i := by
    rw [pow_succ', ← Nat.mul_assoc, ← Nat.add_mul]
    congr 1
    omega
  have e2 : n * 1048576 ^ i = c * 1048576 ^ i + u.getD i 0 * 1048576 ^ i + y * 1048576 ^ i := by rw [hn, Nat.add_mul, Nat.add_mul]
  omega
theorem settle_low {u v : List Nat} {g U b : Nat} (hu : Dig u) (h : val u + g * val v = U + b * 1048576 ^ u.length) (hb : b = 0) : g * val v ≤ U ∧ val u = U - g * val v := by
  subst hb
  omega
theorem settle_high {u u2 : List Nat} {g U V b c : Nat} (hu : Dig u) (hu2 : Dig u2) (hl : u2.length = u.length) (h : val u + g * V = U + b * 1048576 ^ u.length) (hb : b ≠ 0) (h2 : val u2 + c * 1048576 ^ u.length = val u + V)
    (hU : U < 1048576 ^ u.length) (hg : g = 0 ∨ (g - 1) * V ≤ U) : U < g * V ∧ 0 < g ∧ val u2 = U - (g - 1) * V := by
  have h1 := val_lt hu
  have h3 := val_lt hu2
  rw [hl] at h3
  have hb1 : 1048576 ^ u.length ≤ b * 1048576 ^ u.length := by
    have := Nat.mul_le_mul_right (1048576 ^ u.length) (show 1 ≤ b by omega)
    omega
  have hlt : U < g * V := by omega
  have hpos : 0 < g := by
    rcases Nat.eq_zero_or_pos g with rfl | h
    · simp at hlt
    · exact h
  refine ⟨hlt, hpos, ?_⟩
  have hg' : (g - 1) * V ≤ U := by rcases hg with h0 | h0; omega; exact h0
  have e : g * V = (g - 1) * V + V := by
    have : g = (g - 1) + 1 := by omega
    conv => lhs; rw [this, Nat.add_mul, Nat.one_mul]
  generalize (g - 1) * V = T at hg' e ⊢
  -- val u2 + c P = U + b P - T
  have e3 : val u2 + c * 1048576 ^ u.length + T = U + b * 1048576 ^ u.length := by omega
  generalize 1048576 ^ u.length = Q at *
  rcases Nat.lt_trichotomy b c with hbc | hbc | hbc
  · have := Nat.mul_le_mul_right Q (show b + 1 ≤ c from hbc)
    rw [Nat.add_mul] at this
    omega
  · subst hbc; omega
  · have := Nat.mul_le_mul_right Q (show c + 1 ≤ b from hbc)
    rw [Nat.add_mul] at this
    omega

/-! the guess of a digit of the quotient -/
theorem guess_start (top v1 v0 vl t0 xl B W X V : Nat) (h1 : 0 < v1) (hV : V = (v1 * B + v0) * W + vl) (hX : X = (top * B + t0) * W + xl) (ht : t0 * W + xl < B * W) : X / V ≤ top / v1 := by
  rw [Nat.le_div_iff_mul_le h1]
  rcases Nat.lt_or_ge top (X / V * v1) with hlt | hge
  · exfalso
    have h2 := Nat.div_mul_le_self X V
    generalize X / V = q at *
    have h3 := Nat.mul_le_mul_right (B * W) (show top + 1 ≤ q * v1 from hlt)
    subst hV hX
    have h4 : q * v1 * (B * W) ≤ q * ((v1 * B + v0) * W + vl) := by
      rw [Nat.mul_assoc]
      refine Nat.mul_le_mul_left q ?_
      rw [Nat.add_mul, ← Nat.mul_assoc]
      omega
    have h6 := Nat.le_trans h4 h2
    rw [Nat.add_mul, Nat.one_mul] at h3
    rw [Nat.add_mul, Nat.mul_assoc top] at h6
    generalize q * v1 * (B * W) = z at *
    generalize top * (B * W) = y at *
    generalize B * W = x at *
    omega
  · exact hge
theorem guess_more (g v1 v0 top rest t0 B W X vl xl V : Nat) (hV : V = (v1 * B + v0) * W + vl) (hX : X = (top * B + t0) * W + xl) (h3 : xl < W) (h : g * v1 + rest = top) (h2 : rest * B + t0 < g * v0) (hp : 0 < V) : X / V < g := by
  have h5 : top * B + t0 + 1 ≤ g * (v1 * B + v0) := by
    subst h
    simp only [Nat.mul_add, Nat.mul_comm, Nat.mul_left_comm] at *
    omega
  have h6 : X < g * V := by
    have := Nat.mul_le_mul_right W h5
    subst hV hX
    simp only [Nat.mul_add, Nat.mul_comm, Nat.mul_left_comm, Nat.mul_one] at *
    omega
  rw [Nat.div_lt_iff_lt_mul hp]
  exact h6
theorem guess_end (g v1 v0 top rest t0 B W X vl xl V : Nat) (hV : V = (v1 * B + v0) * W + vl) (hX : X = (top * B + t0) * W + xl) (hl : vl < W) (hv0 : v0 < B) (h1 : 0 < v1) (h : g * v1 + rest = top) (hg : g < B) (hx : B ≤ rest ∨ g * v0 ≤ rest * B + t0) :
    (g - 1) * V ≤ X := by
  rcases Nat.eq_zero_or_pos g with rfl | hpos
  · simp
  rcases hx with hx | hx
  · -- rest is great
    have h2 : g * V ≤ X := by
      have e1 : g * V ≤ g * v1 * (B * W) + g * (B * W) := by
        rw [Nat.mul_assoc, ← Nat.mul_add]
        refine Nat.mul_le_mul_left g ?_
        subst hV
        have : (v0 + 1) * W ≤ B * W := Nat.mul_le_mul_right W hv0
        rw [Nat.add_mul] at this
        rw [Nat.add_mul, Nat.mul_assoc]
        omega
      have e2 : g * v1 * (B * W) + g * (B * W) ≤ top * (B * W) := by
        rw [← Nat.add_mul]
        exact Nat.mul_le_mul_right _ (by omega)
      have e3 : top * (B * W) ≤ X := by
        rw [hX, Nat.add_mul, Nat.mul_assoc]
        omega
      omega
    exact Nat.le_trans (Nat.mul_le_mul_right V (by omega)) h2
  · have e1 : g * (v1 * B + v0) ≤ top * B + t0 := by
      subst h
      simp only [Nat.mul_add, Nat.mul_comm, Nat.mul_left_comm] at *
      omega
    have e2 := Nat.mul_le_mul_right W e1
    have e3 : g * vl ≤ V := by
      have e4 : g * vl ≤ B * W := Nat.mul_le_mul (by omega) (by omega)
      have e5 : 1 * (B * W) ≤ v1 * (B * W) := Nat.mul_le_mul_right _ h1
      subst hV
      rw [Nat.add_mul, Nat.mul_assoc]
      omega
    have e6 : g * V = g * (v1 * B + v0) * W + g * vl := by rw [hV, Nat.mul_add, Nat.mul_assoc]
    have e7 : (g - 1) * V + V = g * V := by
      conv => rhs; rw [show g = (g - 1) + 1 by omega, Nat.add_mul, Nat.one_mul]
    omega
/-- what settle leaves is the quotient -/
theorem settle_is (g X V : Nat) (hV : 0 < V) (hq : X / V ≤ g) (h : g = 0 ∨ (g - 1) * V ≤ X) : (if g * V ≤ X then g else g - 1) = X / V := by
  have h2 := Nat.div_mul_le_self X V
  have h3 : X < (X / V + 1) * V := by
    rw [Nat.add_mul, Nat.one_mul]
    have h4 := Nat.div_add_mod X V
    have h5 := Nat.mod_lt X hV
    rw [Nat.mul_comm] at h4
    generalize X / V * V = y at *
    generalize X % V = z at *
    omega
  split
  · next hle =>
    have : g < X / V + 1 := Nat.lt_of_mul_lt_mul_right (Nat.lt_of_le_of_lt hle h3)
    omega
  · next hle =>
    have hlt : X < g * V := by omega
    have h4 : X / V < g := by rw [Nat.div_lt_iff_lt_mul hV]; exact hlt
    have h5 : (g - 1) * V ≤ X := by
      rcases h with h | h
      · subst h; simp
      · exact h
    have : g - 1 < X / V + 1 := Nat.lt_of_mul_lt_mul_right (Nat.lt_of_le_of_lt h5 h3)
    omega

theorem top2 (v : List Nat) (n : Nat) (hn : v.length = n + 2) (hd : Dig v) : val v = (v.getD (n + 1) 0 * 1048576 + v.getD n 0) * 1048576 ^ n + val (v.take n) ∧ val (v.take n) < 1048576 ^ n := by
  have h1 := val_take_succ v n (by omega)
  have h2 := val_take_succ v (n + 1) (by omega)
  rw [List.take_of_length_le (by omega)] at h2
  have h3 := val_lt (hd.take_ n)
  rw [List.length_take, Nat.min_eq_left (by omega)] at h3
  refine ⟨?_, h3⟩
  rw [h2, h1, pow_succ', Nat.add_mul, Nat.mul_assoc]
  omega
theorem top3 (v : List Nat) (n : Nat) (hn : v.length = n + 3) (hd : Dig v) : val v = ((v.getD (n + 2) 0 * 1048576 + v.getD (n + 1) 0) * 1048576 + v.getD n 0) * 1048576 ^ n + val (v.take n) ∧ val (v.take n) < 1048576 ^ n := by
  have h1 := val_take_succ v n (by omega)
  have h2 := val_take_succ v (n + 1) (by omega)
  have h4 := val_take_succ v (n + 2) (by omega)
  rw [List.take_of_length_le (by omega)] at h4
  have h3 := val_lt (hd.take_ n)
  rw [List.length_take, Nat.min_eq_left (by omega)] at h3
  refine ⟨?_, h3⟩
  have p2 : 1048576 ^ (n + 2) = 1048576 * (1048576 * 1048576 ^ n) := by rw [pow_succ', pow_succ']
  rw [h4, h2, h1, p2, pow_succ', Nat.add_mul, Nat.add_mul, Nat.add_mul]
  simp only [Nat.mul_assoc]
  omega

/-- what stands of the digits u at the place j, when the digits above are less than those of v -/
structure Win (u v : List Nat) (j n : Nat) : Prop where
  hu : Dig u
  hv : Dig v
  hn : v.length = n + 2
  hj : j + n + 3 ≤ u.length
  hv1 : 0 < v.getD (n + 1) 0
  hlt : val (u.drop (j + 1)) < val v

section
variable {u v : List Nat} {j n : Nat}
theorem Win.pos (h : Win u v j n) : 0 < val v := by have := h.hlt; omega
theorem Win.less (h : Win u v j n) : val (u.drop j) < 1048576 * val v := by
  have h1 := val_drop u j (by have := h.hj; omega)
  have h2 := h.hu.get j
  have h3 := h.hlt
  omega
theorem Win.quot (h : Win u v j n) : val (u.drop j) / val v < 1048576 := by
  rw [Nat.div_lt_iff_lt_mul h.pos]; exact h.less
theorem Win.high (h : Win u v j n) : ∀ d ∈ u.drop (j + n + 3), d = 0 := by
  have h1 := h.less
  have h2 := val_lt h.hv
  rw [h.hn] at h2
  have hs := val_split (u.drop j) (n + 3) (by have := h.hj; simp; omega)
  rw [List.drop_drop, show j + (n + 3) = j + n + 3 by omega] at hs
  have h3 : 1048576 * val v < 1048576 ^ (n + 3) := by rw [pow_succ' (n + 2)]; omega
  have h4 : val (u.drop (j + n + 3)) = 0 := by
    rcases Nat.eq_zero_or_pos (val (u.drop (j + n + 3))) with h | h
    · exact h
    · have := Nat.mul_le_mul_left (1048576 ^ (n + 3)) h
      omega
  exact zero_of_val h4
theorem Win.val_ (h : Win u v j n) : val ((u.drop j).take (n + 3)) = val (u.drop j) := by
  have hs := val_split (u.drop j) (n + 3) (by have := h.hj; simp; omega)
  rw [List.drop_drop, show j + (n + 3) = j + n + 3 by omega, val_zero_of h.high] at hs
  omega
theorem Win.form (h : Win u v j n) : ∃ xl vl, val v = (v.getD (n + 1) 0 * 1048576 + v.getD n 0) * 1048576 ^ n + vl ∧ vl < 1048576 ^ n ∧
    val (u.drop j) = ((u.getD (j + n + 2) 0 * 1048576 + u.getD (j + n + 1) 0) * 1048576 + u.getD (j + n) 0) * 1048576 ^ n + xl ∧ xl < 1048576 ^ n := by
  have h2 := top2 v n h.hn h.hv
  have hl : ((u.drop j).take (n + 3)).length = n + 3 := by have := h.hj; simp; omega
  have h3 := top3 _ n hl ((h.hu.drop_ j).take_ _)
  rw [h.val_] at h3
  refine ⟨_, _, h2.1, h2.2, ?_, h3.2⟩
  have g : ∀ k, k < n + 3 → ((u.drop j).take (n + 3)).getD k 0 = u.getD (j + k) 0 := by
    intro k hk
    rw [List.getD_eq_getElem?_getD, List.getElem?_take_of_lt hk, List.getElem?_drop, ← List.getD_eq_getElem?_getD]
  rw [g _ (by omega), g _ (by omega), g _ (by omega), ← Nat.add_assoc, ← Nat.add_assoc] at h3
  exact h3.1
theorem Win.start (h : Win u v j n) : val (u.drop j) / val v ≤ (u.getD (j + n + 2) 0 * 1048576 + u.getD (j + n + 1) 0) / v.getD (n + 1) 0 := by
  obtain ⟨xl, vl, hV, hvl, hX, hxl⟩ := h.form
  refine guess_start _ _ _ vl _ xl 1048576 (1048576 ^ n) _ _ h.hv1 hV hX ?_
  have := h.hu.get (j + n)
  have := Nat.mul_le_mul_right (1048576 ^ n) (show u.getD (j + n) 0 + 1 ≤ 1048576 from this)
  rw [Nat.add_mul] at this
  omega
theorem Win.more (h : Win u v j n) {g rest : Nat} (hg : g * v.getD (n + 1) 0 + rest = u.getD (j + n + 2) 0 * 1048576 + u.getD (j + n + 1) 0) (hm : rest * 1048576 + u.getD (j + n) 0 < g * v.getD n 0) :
    val (u.drop j) / val v < g := by
  obtain ⟨xl, vl, hV, hvl, hX, hxl⟩ := h.form
  exact guess_more g _ _ _ rest _ 1048576 (1048576 ^ n) _ vl xl _ hV hX hxl hg hm h.pos
theorem Win.stop (h : Win u v j n) {g rest : Nat} (hg : g * v.getD (n + 1) 0 + rest = u.getD (j + n + 2) 0 * 1048576 + u.getD (j + n + 1) 0) (hl : g < 1048576) (hx : 1048576 ≤ rest ∨ g * v.getD n 0 ≤ rest * 1048576 + u.getD (j + n) 0) :
    (g - 1) * val v ≤ val (u.drop j) := by
  obtain ⟨xl, vl, hV, hvl, hX, hxl⟩ := h.form
  exact guess_end g _ _ _ rest _ 1048576 (1048576 ^ n) _ vl xl _ hV hX hvl (h.hv.get n) h.hv1 hg hl hx
/-- the digits with another window -/
def swap (u : List Nat) (j k : Nat) (win : List Nat) : List Nat := u.take j ++ (win ++ u.drop (j + k))
theorem swap_len {win : List Nat} {k : Nat} (hk : win.length = k) (hj : j + k ≤ u.length) : (swap u j k win).length = u.length := by
  unfold swap
  simp [hk]
  omega
theorem swap_dig {win : List Nat} {k : Nat} (hu : Dig u) (hw : Dig win) : Dig (swap u j k win) := (hu.take_ j).app (hw.app (hu.drop_ _))
theorem Win.next (h : Win u v j n) {win q : List Nat} (hw : win.length = n + 3) (hval : val win = val (u.drop j) - val (u.drop j) / val v * val v) (hq : j < q.length) :
    val ((swap u j (n + 3) win).drop j) < val v ∧
      val (swap u j (n + 3) win) + val v * (1048576 ^ j * val ((q.set j (val (u.drop j) / val v)).drop j)) = val u + val v * (1048576 ^ (j + 1) * val (q.drop (j + 1))) := by
  have hj := h.hj
  have hlj : (u.take j).length = j := by simp; omega
  have hz : val (u.drop (j + (n + 3))) = 0 := val_zero_of h.high
  have e1 : (swap u j (n + 3) win).drop j = win ++ u.drop (j + (n + 3)) := by
    unfold swap
    rw [List.drop_append_of_le_length (by omega), List.drop_of_length_le (by omega), List.nil_append]
  have e2 : val ((swap u j (n + 3) win).drop j) = val win := by rw [e1, val_app, hz]; simp
  have hdm := Nat.div_add_mod (val (u.drop j)) (val v)
  have hml := Nat.mod_lt (val (u.drop j)) h.pos
  rw [Nat.mul_comm] at hdm
  have hs := val_split u j (by omega)
  have e3 : val (swap u j (n + 3) win) = val (u.take j) + 1048576 ^ j * val win := by
    unfold swap
    rw [val_app, hlj, val_app, hz]
    simp
  have e4 : val ((q.set j (val (u.drop j) / val v)).drop j) = val (u.drop j) / val v + 1048576 * val (q.drop (j + 1)) := by
    rw [val_drop _ j (by simpa using hq)]
    congr 1
    · rw [getD_lt (by simpa using hq)]; simp
    · rw [List.drop_set_of_lt (by omega)]
  generalize val (u.drop j) / val v = Q at *
  generalize val (u.drop j) % val v = R at *
  have e5 : val win = R := by omega
  refine ⟨by rw [e2]; omega, ?_⟩
  rw [e3, e4, hs, ← hdm, e5, pow_succ']
  generalize 1048576 ^ j = T
  generalize val (q.drop (j + 1)) = Z
  generalize val v = V
  simp only [Nat.mul_add, Nat.mul_comm, Nat.mul_left_comm]
  omega
end
theorem div_end (a b s u q : Nat) (hs : 0 < s) (h : u + b * s * q = a * s) (hu : u < b * s) : q = a / b ∧ u / s = a % b := by
  have hb : 0 < b := by
    rcases Nat.eq_zero_or_pos b with rfl | h
    · simp at hu
    · exact h
  have h1 : q = a * s / (b * s) ∧ u = a * s % (b * s) := short_end (a * s) q (b * s) u hu (by rw [Nat.mul_comm q]; omega)
  rw [Nat.mul_div_mul_right _ _ hs] at h1
  rw [Nat.mul_mod_mul_right] at h1
  exact ⟨h1.1, by rw [h1.2, Nat.mul_div_cancel _ hs]⟩
theorem gcd_step (x y : Nat) : Nat.gcd y (x % y) = Nat.gcd x y := by
  rw [Nat.gcd_comm x y, Nat.gcd_rec y x, Nat.gcd_comm]
end Bg
