/- Plain: putting an act into an ascending list; the reference's join. -/
import Derived.Test.YtaojnjealccjiaaDoorPlain
namespace Kb

/-- what is still to come of Put: done, the rest of the list, the act -/
def putGo : Bool → List Akt → Akt → List Akt
  | true, r, _ => r
  | false, [], a => [a]
  | false, x :: r, a => if ltAct x a then x :: putGo false r a else if x = a then x :: r else a :: x :: r

def putL (l : List Akt) (a : Akt) : List Akt := putGo (!rightB a) l a

theorem putGo_done (r : List Akt) (a : Akt) : putGo true r a = r := by cases r <;> rfl
theorem putGo_lt {x : Akt} {r : List Akt} {a : Akt} (h : ltAct x a) : putGo false (x :: r) a = x :: putGo false r a := by simp [putGo, h]
theorem putGo_eq {x : Akt} {r : List Akt} {a : Akt} (h : ¬ ltAct x a) (e : x = a) : putGo false (x :: r) a = x :: r := by rw [putGo, if_neg h, if_pos e]
theorem putGo_ne {x : Akt} {r : List Akt} {a : Akt} (h : ¬ ltAct x a) (e : x ≠ a) : putGo false (x :: r) a = a :: x :: r := by rw [putGo, if_neg h, if_neg e]

theorem putGo_mem {a : Akt} : ∀ (l : List Akt) (x : Akt), x ∈ putGo false l a ↔ x ∈ l ∨ x = a
  | [], x => by simp [putGo]
  | y :: r, x => by
    by_cases h : ltAct y a
    · rw [putGo_lt h, List.mem_cons, putGo_mem r x, List.mem_cons, or_assoc]
    · by_cases e : y = a
      · rw [putGo_eq h e, List.mem_cons]
        subst e
        constructor
        · exact .inl
        · rintro (m | m)
          · exact m
          · exact .inl m
      · rw [putGo_ne h e, List.mem_cons, Or.comm]

theorem putGo_sorted {a : Akt} : ∀ (l : List Akt), l.Pairwise ltAct → (putGo false l a).Pairwise ltAct
  | [], _ => by simp [putGo]
  | y :: r, hp => by
    rw [List.pairwise_cons] at hp
    by_cases h : ltAct y a
    · rw [putGo_lt h, List.pairwise_cons]
      refine ⟨fun z hz => ?_, putGo_sorted r hp.2⟩
      rcases (putGo_mem r z).1 hz with m | rfl
      · exact hp.1 z m
      · exact h
    · by_cases e : y = a
      · rw [putGo_eq h e, List.pairwise_cons]; exact hp
      · rw [putGo_ne h e, List.pairwise_cons, List.pairwise_cons]
        have hay : ltAct a y := Classical.byContradiction fun hn => e (ltAct_tri h hn)
        refine ⟨fun z hz => ?_, hp⟩
        rcases List.mem_cons.1 hz with rfl | m
        · exact hay
        · exact ltAct_trans hay (hp.1 z m)

theorem putL_mem (l : List Akt) (a x : Akt) : x ∈ putL l a ↔ x ∈ l ∨ (rightB a = true ∧ x = a) := by
  unfold putL
  cases h : rightB a with
  | false => rw [Bool.not_false, putGo_done]; simp
  | true => rw [Bool.not_true, putGo_mem]; simp
theorem putL_sorted {l : List Akt} (h : l.Pairwise ltAct) (a : Akt) : (putL l a).Pairwise ltAct := by
  unfold putL
  cases rightB a with
  | false => rw [Bool.not_false, putGo_done]; exact h
  | true => exact putGo_sorted l h

def putAll (l : List Akt) (xs : List Akt) : List Akt := xs.foldl putL l
theorem putAll_sorted : ∀ (xs : List Akt) {l : List Akt}, l.Pairwise ltAct → (putAll l xs).Pairwise ltAct
  | [], _, h => h
  | a :: r, _, h => putAll_sorted r (putL_sorted h a)
theorem putAll_mem : ∀ (xs l : List Akt) (x : Akt), x ∈ putAll l xs ↔ x ∈ l ∨ (rightB x = true ∧ x ∈ xs)
  | [], l, x => by simp [putAll]
  | a :: r, l, x => by
    have := putAll_mem r (putL l a) x
    unfold putAll at *
    rw [List.foldl_cons, this, putL_mem, List.mem_cons]
    constructor
    · rintro ((h | ⟨h, rfl⟩) | ⟨h, m⟩)
      · exact .inl h
      · exact .inr ⟨h, .inl rfl⟩
      · exact .inr ⟨h, .inr m⟩
    · rintro (h | ⟨h, rfl | m⟩)
      · exact .inl (.inl h)
      · exact .inl (.inr ⟨h, rfl⟩)
      · exact .inr ⟨h, m⟩
theorem putAll_take (l xs : List Akt) (k : Nat) (h : k < xs.length) : putAll l (xs.take (k + 1)) = putL (putAll l (xs.take k)) xs[k] := by
  unfold putAll; rw [List.take_succ_eq_append_getElem h, List.foldl_append]; rfl
theorem putAll_isJoin (a b : List Akt) : IsJoin a b (putAll (putAll [] a) b) :=
  ⟨putAll_sorted b (putAll_sorted a List.Pairwise.nil), fun x => by
    rw [putAll_mem, putAll_mem]
    constructor
    · rintro ((h | ⟨h, m⟩) | ⟨h, m⟩)
      · cases h
      · exact ⟨h, .inl m⟩
      · exact ⟨h, .inr m⟩
    · rintro ⟨h, m | m⟩
      · exact .inl (.inr ⟨h, m⟩)
      · exact .inr ⟨h, m⟩⟩
theorem putGo_len (a : Akt) : ∀ (l : List Akt), (putGo false l a).length ≤ l.length + 1
  | [] => by simp [putGo]
  | y :: r => by
    by_cases h : ltAct y a
    · rw [putGo_lt h]; have := putGo_len a r; simp; omega
    · by_cases e : y = a
      · rw [putGo_eq h e]; simp
      · rw [putGo_ne h e]; simp
theorem putL_len (l : List Akt) (a : Akt) : (putL l a).length ≤ l.length + 1 := by
  unfold putL
  cases rightB a with
  | false => rw [Bool.not_false, putGo_done]; omega
  | true => exact putGo_len a l
theorem putAll_len : ∀ (xs l : List Akt), (putAll l xs).length ≤ l.length + xs.length
  | [], l => by simp [putAll]
  | a :: r, l => by
    have h1 := putAll_len r (putL l a)
    have h2 := putL_len l a
    unfold putAll at *
    rw [List.foldl_cons]; simp; omega
end Kb
