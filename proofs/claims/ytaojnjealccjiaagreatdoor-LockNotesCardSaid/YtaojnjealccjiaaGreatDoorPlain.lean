/- Plain mathematics for the layer lock: names, objects, acts; no program in sight. -/
namespace Kb

abbrev Bytes := List UInt8

def letterB (c : UInt8) : Bool := (97 ≤ c && c ≤ 122) || (65 ≤ c && c ≤ 90)
def digitB (c : UInt8) : Bool := 48 ≤ c && c ≤ 57
def innerB (c : UInt8) : Bool := letterB c || digitB c || c == 95
/-- lexer.Name -/
def nameB (s : Bytes) : Bool := match s with
  | [] => false
  | c :: r => letterB c && decide (r.length + 1 ≤ 20) && (c :: r).all innerB

/-- the pieces between slashes -/
def pieces : Bytes → List Bytes
  | [] => [[]]
  | c :: r => if c = 47 then [] :: pieces r else match pieces r with
    | [] => [[c]]
    | h :: t => (c :: h) :: t

theorem pieces_ne : ∀ s : Bytes, pieces s ≠ []
  | [] => by simp [pieces]
  | c :: r => by
    unfold pieces
    by_cases h : c = 47
    · simp [h]
    · simp only [h, if_false]
      split <;> simp

theorem pieces_append (a b : Bytes) : pieces (a ++ 47 :: b) = pieces a ++ pieces b := by
  induction a with
  | nil => simp [pieces]
  | cons c r ih =>
    by_cases h : c = 47
    · simp [pieces, h, ih]
    · have hr := pieces_ne r
      simp only [List.cons_append, pieces, h, if_false, ih]
      cases hp : pieces r with
      | nil => exact absurd hp hr
      | cons x t => simp

def objectB (s : Bytes) : Bool := decide ((pieces s).length ≤ 4) && (pieces s).all nameB

/-- an object is another one, or stands above it -/
def aboveB (a b : Bytes) : Bool := a == b || (a ++ [47]).isPrefixOf b

structure Akt where
  kind : Int
  person : Int
  day : Int
  obj : ByteArray

theorem Akt.ext' {a b : Akt} (h1 : a.kind = b.kind) (h2 : a.person = b.person) (h3 : a.day = b.day) (h4 : a.obj = b.obj) : a = b := by
  cases a; cases b; simp_all

instance : DecidableEq Akt := fun a b =>
  if h : a.kind = b.kind ∧ a.person = b.person ∧ a.day = b.day ∧ a.obj = b.obj then isTrue (Akt.ext' h.1 h.2.1 h.2.2.1 h.2.2.2)
  else isFalse fun e => h (by subst e; exact ⟨rfl, rfl, rfl, rfl⟩)

def Akt.o (a : Akt) : Bytes := a.obj.data.toList

def rightB (a : Akt) : Bool := decide (0 ≤ a.kind) && decide (a.kind < 3) && decide (0 ≤ a.person) && decide (a.person < 1000) && decide (0 ≤ a.day) && decide (a.day ≤ 100000) && objectB a.o

def freesB (a l : Akt) (day : Int) : Bool := decide (a.kind = 1) && !decide (a.person = l.person) && decide (l.day < a.day) && decide (a.day ≤ day) && aboveB a.o l.o && rightB a

def twoB (acts : List Akt) (l : Akt) (day : Int) : Bool :=
  acts.any fun a => acts.any fun b => freesB a l day && freesB b l day && !decide (a.person = b.person)

def forceB (acts : List Akt) (l : Akt) (day : Int) : Bool := decide (l.day ≤ day) && !twoB acts l day

def lockedB (acts : List Akt) (name : Bytes) (day : Int) : Bool :=
  objectB name && acts.any fun a => decide (a.kind = 0) && aboveB a.o name && rightB a && forceB acts a day

def hiddenB (acts : List Akt) (name : Bytes) (day : Int) : Bool :=
  objectB name && acts.any fun a => decide (a.kind = 2) && decide (day < a.day) && aboveB a.o name && rightB a

def ownB (acts : List Akt) (name : Bytes) (person day : Int) : Bool :=
  acts.any fun a => decide (a.kind = 1) && decide (a.person = person) && decide (a.day = day) && aboveB a.o name && rightB a

def mayI (errArg errLock errOwner : Int) (acts : List Akt) (name : Bytes) (person day : Int) : Int :=
  if (!objectB name || decide (person < 0) || decide (1000 ≤ person) || decide (day < 0) || decide (100000 < day)) = true then errArg
  else if lockedB acts name day = true then errLock
  else if ownB acts name person day = true then errOwner
  else 0


/-! ### Facts -/
theorem aboveB_iff (a b : Bytes) : aboveB a b = true ↔ a = b ∨ ∃ t, b = a ++ 47 :: t := by
  unfold aboveB
  simp only [Bool.or_eq_true, beq_iff_eq, List.isPrefixOf_iff_prefix]
  constructor
  · rintro (h | ⟨t, h⟩)
    · exact .inl h
    · exact .inr ⟨t, by simpa using h.symm⟩
  · rintro (h | ⟨t, h⟩)
    · exact .inl h
    · exact .inr ⟨t, by simpa using h.symm⟩

theorem aboveB_trans {a b c : Bytes} (h1 : aboveB a b = true) (h2 : aboveB b c = true) : aboveB a c = true := by
  rw [aboveB_iff] at *
  rcases h1 with rfl | ⟨t, rfl⟩
  · exact h2
  · rcases h2 with rfl | ⟨u, rfl⟩
    · exact .inr ⟨t, rfl⟩
    · exact .inr ⟨t ++ 47 :: u, by simp⟩

theorem aboveB_below (a t : Bytes) : aboveB a (a ++ 47 :: t) = true := (aboveB_iff _ _).2 (.inr ⟨t, rfl⟩)

theorem objectB_below {a t : Bytes} (h : objectB (a ++ 47 :: t) = true) : objectB a = true := by
  unfold objectB at *
  rw [pieces_append] at h
  simp only [Bool.and_eq_true, decide_eq_true_eq, List.length_append, List.all_append] at *
  exact ⟨by omega, h.2.1⟩

theorem twoB_iff {acts : List Akt} {l : Akt} {day : Int} : twoB acts l day = true ↔ ∃ x ∈ acts, ∃ y ∈ acts, freesB x l day = true ∧ freesB y l day = true ∧ x.person ≠ y.person := by
  unfold twoB
  simp only [List.any_eq_true, Bool.and_eq_true, Bool.not_eq_true', decide_eq_false_iff_not, ne_eq, and_assoc]

theorem forceB_iff {acts : List Akt} {l : Akt} {day : Int} : forceB acts l day = true ↔ l.day ≤ day ∧ twoB acts l day = false := by
  unfold forceB; simp

theorem freesB_iff {a l : Akt} {day : Int} : freesB a l day = true ↔ a.kind = 1 ∧ a.person ≠ l.person ∧ l.day < a.day ∧ a.day ≤ day ∧ aboveB a.o l.o = true ∧ rightB a = true := by
  unfold freesB; simp [and_assoc]

def IsLock (acts : List Akt) (name : Bytes) (day : Int) (a : Akt) : Prop := a ∈ acts ∧ a.kind = 0 ∧ aboveB a.o name = true ∧ rightB a = true ∧ a.day ≤ day ∧ twoB acts a day = false

theorem lockedB_iff {acts : List Akt} {name : Bytes} {day : Int} : lockedB acts name day = true ↔ objectB name = true ∧ ∃ a, IsLock acts name day a := by
  unfold lockedB IsLock
  simp only [Bool.and_eq_true, List.any_eq_true, decide_eq_true_eq, forceB_iff, and_assoc]

theorem hiddenB_iff {acts : List Akt} {name : Bytes} {day : Int} : hiddenB acts name day = true ↔ objectB name = true ∧ ∃ a ∈ acts, a.kind = 2 ∧ day < a.day ∧ aboveB a.o name = true ∧ rightB a = true := by
  unfold hiddenB
  simp only [Bool.and_eq_true, List.any_eq_true, decide_eq_true_eq, and_assoc]

theorem ownB_iff {acts : List Akt} {name : Bytes} {person day : Int} : ownB acts name person day = true ↔ ∃ a ∈ acts, a.kind = 1 ∧ a.person = person ∧ a.day = day ∧ aboveB a.o name = true ∧ rightB a = true := by
  unfold ownB
  simp only [Bool.and_eq_true, List.any_eq_true, decide_eq_true_eq, and_assoc]

/-- two lists have the same right acts -/
def SameRight (x y : List Akt) : Prop := ∀ a, rightB a = true → (a ∈ x ↔ a ∈ y)

theorem SameRight.symm {x y : List Akt} (h : SameRight x y) : SameRight y x := fun a ha => (h a ha).symm

theorem twoB_sub {x y : List Akt} {l : Akt} {day : Int} (h : ∀ a, freesB a l day = true → a ∈ x → a ∈ y) (hx : twoB x l day = true) : twoB y l day = true := by
  rw [twoB_iff] at *
  obtain ⟨a, ha, b, hb, fa, fb, hne⟩ := hx
  exact ⟨a, h a fa ha, b, h b fb hb, fa, fb, hne⟩

theorem lockedB_le {x y : List Akt} (h : SameRight x y) {name : Bytes} {day : Int} (hx : lockedB x name day = true) : lockedB y name day = true := by
  rw [lockedB_iff] at *
  obtain ⟨ho, a, ha, hk, hab, hr, hd, ht⟩ := hx
  refine ⟨ho, a, (h a hr).1 ha, hk, hab, hr, hd, ?_⟩
  cases e : twoB y a day with
  | false => rfl
  | true =>
    rw [twoB_sub (fun b fb hb => (h b (freesB_iff.1 fb).2.2.2.2.2).2 hb) e] at ht
    exact ht

theorem bool_eq_of_iff {a b : Bool} (h : a = true ↔ b = true) : a = b := by cases a <;> cases b <;> simp_all

theorem lockedB_congr {x y : List Akt} (h : SameRight x y) (name : Bytes) (day : Int) : lockedB x name day = lockedB y name day :=
  bool_eq_of_iff ⟨lockedB_le h, lockedB_le h.symm⟩

theorem hiddenB_le {x y : List Akt} (h : ∀ a, rightB a = true → a ∈ x → a ∈ y) {name : Bytes} {day : Int} (hx : hiddenB x name day = true) : hiddenB y name day = true := by
  rw [hiddenB_iff] at *
  obtain ⟨ho, a, ha, hk, hd, hab, hr⟩ := hx
  exact ⟨ho, a, h a hr ha, hk, hd, hab, hr⟩
theorem hiddenB_congr {x y : List Akt} (h : SameRight x y) (name : Bytes) (day : Int) : hiddenB x name day = hiddenB y name day :=
  bool_eq_of_iff ⟨hiddenB_le fun a ha => (h a ha).1, hiddenB_le fun a ha => (h a ha).2⟩
theorem ownB_le {x y : List Akt} (h : ∀ a, rightB a = true → a ∈ x → a ∈ y) {name : Bytes} {person day : Int} (hx : ownB x name person day = true) : ownB y name person day = true := by
  rw [ownB_iff] at *
  obtain ⟨a, ha, hk, hp, hd, hab, hr⟩ := hx
  exact ⟨a, h a hr ha, hk, hp, hd, hab, hr⟩
theorem ownB_congr {x y : List Akt} (h : SameRight x y) (name : Bytes) (person day : Int) : ownB x name person day = ownB y name person day :=
  bool_eq_of_iff ⟨ownB_le fun a ha => (h a ha).1, ownB_le fun a ha => (h a ha).2⟩
theorem mayI_congr {x y : List Akt} (h : SameRight x y) (ea el eo : Int) (name : Bytes) (person day : Int) : mayI ea el eo x name person day = mayI ea el eo y name person day := by
  unfold mayI; rw [lockedB_congr h, ownB_congr h]

/-! ### The order of acts; joins -/
def ltAct (a b : Akt) : Prop := a.day < b.day ∨ a.day = b.day ∧ (a.kind < b.kind ∨ a.kind = b.kind ∧ (a.person < b.person ∨ a.person = b.person ∧ a.o < b.o))
instance (a b : Akt) : Decidable (ltAct a b) := by unfold ltAct; infer_instance

theorem o_inj {a b : Akt} (h : a.o = b.o) : a.obj = b.obj := ByteArray.ext (Array.toList_inj.1 h)

theorem ltAct_irrefl (a : Akt) : ¬ ltAct a a := by
  unfold ltAct
  rintro (h | ⟨_, h | ⟨_, h | ⟨_, h⟩⟩⟩)
  · omega
  · omega
  · omega
  · exact List.lt_irrefl _ h

theorem ltAct_trans {a b c : Akt} (h1 : ltAct a b) (h2 : ltAct b c) : ltAct a c := by
  unfold ltAct at *
  by_cases e1 : a.day < c.day
  · exact .inl e1
  · have d1 : a.day = b.day := by omega
    have d2 : b.day = c.day := by omega
    refine .inr ⟨by omega, ?_⟩
    by_cases e2 : a.kind < c.kind
    · exact .inl e2
    · refine .inr ⟨by omega, ?_⟩
      by_cases e3 : a.person < c.person
      · exact .inl e3
      · refine .inr ⟨by omega, ?_⟩
        rcases h1 with h | ⟨_, h | ⟨_, h | ⟨_, h⟩⟩⟩
        · omega
        · omega
        · omega
        · rcases h2 with g | ⟨_, g | ⟨_, g | ⟨_, g⟩⟩⟩
          · omega
          · omega
          · omega
          · exact List.lt_trans h g

theorem ltAct_tri {a b : Akt} (h1 : ¬ ltAct a b) (h2 : ¬ ltAct b a) : a = b := by
  unfold ltAct at *
  simp only [not_or, not_and] at *
  have d : a.day = b.day := by omega
  have k : a.kind = b.kind := by have := (h1.2 d).1; have := (h2.2 d.symm).1; omega
  have p : a.person = b.person := by have := ((h1.2 d).2 k).1; have := ((h2.2 d.symm).2 k.symm).1; omega
  have o1 := ((h1.2 d).2 k).2 p
  have o2 := ((h2.2 d.symm).2 k.symm).2 p.symm
  exact Akt.ext' k p d (o_inj (List.le_antisymm o2 o1))

def IsJoin (a b j : List Akt) : Prop := j.Pairwise ltAct ∧ ∀ x, x ∈ j ↔ rightB x = true ∧ (x ∈ a ∨ x ∈ b)

theorem strict_unique : ∀ {j k : List Akt}, j.Pairwise ltAct → k.Pairwise ltAct → (∀ x, x ∈ j ↔ x ∈ k) → j = k
  | [], [], _, _, _ => rfl
  | [], y :: k, _, _, h => absurd ((h y).2 (by simp)) (by simp)
  | x :: j, [], _, _, h => absurd ((h x).1 (by simp)) (by simp)
  | x :: j, y :: k, hj, hk, h => by
    rw [List.pairwise_cons] at hj hk
    have exy : x = y := by
      have hx := (h x).1 (by simp)
      have hy := (h y).2 (by simp)
      rcases List.mem_cons.1 hx with e | e
      · exact e
      · rcases List.mem_cons.1 hy with e' | e'
        · exact e'.symm
        · exact absurd (ltAct_trans (hj.1 _ e') (hk.1 _ e)) (ltAct_irrefl _)
    subst exy
    congr 1
    refine strict_unique hj.2 hk.2 fun z => ?_
    have hz := h z
    rw [List.mem_cons, List.mem_cons] at hz
    constructor
    · intro m
      rcases hz.1 (.inr m) with e | e
      · subst e; exact absurd (hj.1 _ m) (ltAct_irrefl _)
      · exact e
    · intro m
      rcases hz.2 (.inr m) with e | e
      · subst e; exact absurd (hk.1 _ m) (ltAct_irrefl _)
      · exact e

theorem IsJoin.unique {a b j k : List Akt} (h1 : IsJoin a b j) (h2 : IsJoin a b k) : j = k :=
  strict_unique h1.1 h2.1 fun x => (h1.2 x).trans (h2.2 x).symm
theorem IsJoin.comm {a b j : List Akt} (h : IsJoin a b j) : IsJoin b a j := ⟨h.1, fun x => by rw [h.2 x, Or.comm]⟩
theorem IsJoin.assoc {a b c ab abc bc : List Akt} (h1 : IsJoin a b ab) (h2 : IsJoin ab c abc) (h3 : IsJoin b c bc) : IsJoin a bc abc :=
  ⟨h2.1, fun x => by
    rw [h2.2 x, h1.2 x, h3.2 x]
    constructor
    · rintro ⟨r, (⟨_, m | m⟩ | m)⟩
      · exact ⟨r, .inl m⟩
      · exact ⟨r, .inr ⟨r, .inl m⟩⟩
      · exact ⟨r, .inr ⟨r, .inr m⟩⟩
    · rintro ⟨r, (m | ⟨_, m | m⟩)⟩
      · exact ⟨r, .inl ⟨r, .inl m⟩⟩
      · exact ⟨r, .inl ⟨r, .inr m⟩⟩
      · exact ⟨r, .inr m⟩⟩
theorem IsJoin.again {a b ab : List Akt} (h : IsJoin a b ab) : IsJoin ab b ab :=
  ⟨h.1, fun x => by
    rw [h.2 x]
    constructor
    · rintro ⟨r, m⟩; exact ⟨r, .inl ⟨r, m⟩⟩
    · rintro ⟨r, (⟨_, m⟩ | m)⟩
      · exact ⟨r, m⟩
      · exact ⟨r, .inr m⟩⟩
theorem IsJoin.nil {a b ab : List Akt} (h : IsJoin a b ab) : IsJoin ab [] ab :=
  ⟨h.1, fun x => by
    rw [h.2 x]
    constructor
    · rintro ⟨r, m⟩; exact ⟨r, .inl ⟨r, m⟩⟩
    · rintro ⟨r, (⟨_, m⟩ | m)⟩
      · exact ⟨r, m⟩
      · cases m⟩
theorem IsJoin.same {a own : List Akt} (h : IsJoin a [] own) : SameRight own a := fun x hx => by
  rw [h.2 x]
  constructor
  · rintro ⟨_, m | m⟩
    · exact m
    · cases m
  · intro m; exact ⟨hx, .inl m⟩

/-! ### The laws -/
theorem hidden_join {a b ab : List Akt} (h : IsJoin a b ab) (name : Bytes) (day : Int) : hiddenB ab name day = (hiddenB a name day || hiddenB b name day) := by
  refine bool_eq_of_iff ?_
  rw [Bool.or_eq_true, hiddenB_iff, hiddenB_iff, hiddenB_iff]
  constructor
  · rintro ⟨ho, x, hx, r⟩
    rcases ((h.2 x).1 hx).2 with m | m
    · exact .inl ⟨ho, x, m, r⟩
    · exact .inr ⟨ho, x, m, r⟩
  · rintro (⟨ho, x, m, r⟩ | ⟨ho, x, m, r⟩)
    · exact ⟨ho, x, (h.2 x).2 ⟨r.2.2.2, .inl m⟩, r⟩
    · exact ⟨ho, x, (h.2 x).2 ⟨r.2.2.2, .inr m⟩, r⟩

theorem locked_join {a b ab : List Akt} (h : IsJoin a b ab) (name : Bytes) (day : Int) (hf : ∀ x ∈ b, x.kind ≠ 1) (hl : lockedB a name day = true) : lockedB ab name day = true := by
  rw [lockedB_iff] at *
  obtain ⟨ho, l, hm, hk, hab, hr, hd, ht⟩ := hl
  refine ⟨ho, l, (h.2 l).2 ⟨hr, .inl hm⟩, hk, hab, hr, hd, ?_⟩
  cases e : twoB ab l day with
  | false => rfl
  | true =>
    rw [twoB_sub (y := a) (fun x fx hx => ?_) e] at ht
    · exact ht
    · rcases ((h.2 x).1 hx).2 with m | m
      · exact m
      · exact absurd (freesB_iff.1 fx).1 (hf x m)

theorem locked_ever {acts : List Akt} {name : Bytes} {day : Int} (h : lockedB acts name day = true) : ∃ x ∈ acts, x.kind = 0 ∧ x.day ≤ day ∧ aboveB x.o name = true := by
  rw [lockedB_iff] at h
  obtain ⟨_, l, hm, hk, hab, _, hd, _⟩ := h
  exact ⟨l, hm, hk, hd, hab⟩

theorem locked_below {acts : List Akt} {a t : Bytes} {day : Int} (ho : objectB (a ++ 47 :: t) = true) (h : lockedB acts a day = true) : lockedB acts (a ++ 47 :: t) day = true := by
  rw [lockedB_iff] at *
  obtain ⟨_, l, hm, hk, hab, r⟩ := h
  exact ⟨ho, l, hm, hk, aboveB_trans hab (aboveB_below a t), r⟩
theorem hidden_below {acts : List Akt} {a t : Bytes} {day : Int} (ho : objectB (a ++ 47 :: t) = true) (h : hiddenB acts a day = true) : hiddenB acts (a ++ 47 :: t) day = true := by
  rw [hiddenB_iff] at *
  obtain ⟨_, l, hm, hk, hd, hab, r⟩ := h
  exact ⟨ho, l, hm, hk, hd, aboveB_trans hab (aboveB_below a t), r⟩
theorem hidden_earlier {acts : List Akt} {name : Bytes} {day e : Int} (he : e ≤ day) (h : hiddenB acts name day = true) : hiddenB acts name e = true := by
  rw [hiddenB_iff] at *
  obtain ⟨ho, l, hm, hk, hd, r⟩ := h
  exact ⟨ho, l, hm, hk, by omega, r⟩

theorem four_bare {acts : List Akt} {name : Bytes} {day : Int} :
    lockedB (acts.filter fun a => !decide (a.kind = 1)) name day = ((acts.any fun a => decide (a.kind = 0) && rightB a && aboveB a.o name && decide (a.day ≤ day)) && objectB name) := by
  refine bool_eq_of_iff ?_
  rw [lockedB_iff, Bool.and_eq_true, List.any_eq_true]
  simp only [Bool.and_eq_true, decide_eq_true_eq]
  constructor
  · rintro ⟨ho, l, hm, hk, hab, hr, hd, _⟩
    exact ⟨⟨l, (List.mem_filter.1 hm).1, ⟨⟨hk, hr⟩, hab⟩, hd⟩, ho⟩
  · rintro ⟨⟨l, hm, ⟨⟨hk, hr⟩, hab⟩, hd⟩, ho⟩
    refine ⟨ho, l, List.mem_filter.2 ⟨hm, by simp [hk]⟩, hk, hab, hr, hd, ?_⟩
    cases e : twoB (acts.filter fun a => !decide (a.kind = 1)) l day with
    | false => rfl
    | true =>
      obtain ⟨x, hx, _, _, fx, _⟩ := twoB_iff.1 e
      have := (freesB_iff.1 fx).1
      simp [this] at hx

theorem frees_later {a l : Akt} {day later : Int} (h : day ≤ later) (hf : freesB a l day = true) : freesB a l later = true := by
  rw [freesB_iff] at *
  exact ⟨hf.1, hf.2.1, hf.2.2.1, by omega, hf.2.2.2.2⟩
theorem two_later {acts : List Akt} {l : Akt} {day later : Int} (h : day ≤ later) (ht : twoB acts l day = true) : twoB acts l later = true := by
  rw [twoB_iff] at *
  obtain ⟨x, hx, y, hy, fx, fy, hne⟩ := ht
  exact ⟨x, hx, y, hy, frees_later h fx, frees_later h fy, hne⟩

theorem four_no {acts : List Akt} {name : Bytes} {day later : Int} (hle : day ≤ later) (hl : lockedB acts name day = false) (ho : objectB name = true)
    {a : Akt} (hm : a ∈ acts) (hk : a.kind = 0) (hr : rightB a = true) (hab : aboveB a.o name = true) (hd : a.day ≤ day) : twoB acts a later = true := by
  refine two_later hle ?_
  cases e : twoB acts a day with
  | true => rfl
  | false =>
    rw [lockedB_iff.2 ⟨ho, a, hm, hk, hab, hr, hd, e⟩] at hl
    cases hl

theorem four_yes {acts : List Akt} {name : Bytes} {day later : Int} (hle : day ≤ later) (hl : lockedB acts name day = true)
    (hf : ∀ a ∈ acts, a.kind = 0 → rightB a = true → aboveB a.o name = true → twoB acts a later = false) : lockedB acts name later = true := by
  rw [lockedB_iff] at *
  obtain ⟨ho, l, hm, hk, hab, hr, hd, _⟩ := hl
  exact ⟨ho, l, hm, hk, hab, hr, by omega, hf l hm hk hr hab⟩

theorem more_locked {acts : List Akt} {x : Akt} {name : Bytes} {day : Int} (h1 : lockedB acts name day = true) (h2 : lockedB (acts ++ [x]) name day = false) :
    x.kind = 1 ∧ rightB x = true ∧ x.day ≤ day ∧ aboveB x.o name = true := by
  rw [lockedB_iff] at h1
  obtain ⟨ho, l, hm, hk, hab, hr, hd, ht⟩ := h1
  have ht2 : twoB (acts ++ [x]) l day = true := by
    cases e : twoB (acts ++ [x]) l day with
    | true => rfl
    | false =>
      rw [lockedB_iff.2 ⟨ho, l, List.mem_append_left _ hm, hk, hab, hr, hd, e⟩] at h2
      cases h2
  have hfx : freesB x l day = true := by
    cases e : freesB x l day with
    | true => rfl
    | false =>
      rw [twoB_sub (y := acts) (fun b fb hb => ?_) ht2] at ht
      · cases ht
      · rcases List.mem_append.1 hb with m | m
        · exact m
        · rw [List.mem_singleton] at m; subst m; rw [e] at fb; cases fb
  obtain ⟨k, _, _, d, ab, r⟩ := freesB_iff.1 hfx
  exact ⟨k, r, d, aboveB_trans ab hab⟩

theorem more_may {acts : List Akt} {x : Akt} {ea el eo : Int} {name : Bytes} {person day : Int} (h1 : ea ≠ 0) (h2 : el ≠ 0) (h3 : eo ≠ 0) (hk : x.kind ≠ 1)
    (hb : mayI ea el eo acts name person day ≠ 0) : mayI ea el eo (acts ++ [x]) name person day ≠ 0 := by
  unfold mayI at *
  by_cases c1 : (!objectB name || decide (person < 0) || decide (1000 ≤ person) || decide (day < 0) || decide (100000 < day)) = true
  · rw [if_pos c1]; exact h1
  · rw [if_neg c1] at hb ⊢
    by_cases c2 : lockedB (acts ++ [x]) name day = true
    · rw [if_pos c2]; exact h2
    · rw [if_neg c2]
      by_cases c3 : ownB (acts ++ [x]) name person day = true
      · rw [if_pos c3]; exact h3
      · rw [if_neg c3]
        exfalso
        by_cases d2 : lockedB acts name day = true
        · exact hk (more_locked d2 (by simpa using c2)).1
        · rw [if_neg d2] at hb
          by_cases d3 : ownB acts name person day = true
          · exact c3 (ownB_le (fun a _ m => List.mem_append_left _ m) d3)
          · rw [if_neg d3] at hb; exact hb rfl

/-- the list turned, with one act once more -/
theorem turned_same (a : List Akt) (k : Nat) (hk : k < a.length) : SameRight (a.reverse ++ [a[k]]) a := fun x _ => by
  rw [List.mem_append, List.mem_reverse, List.mem_singleton]
  constructor
  · rintro (m | rfl)
    · exact m
    · exact List.getElem_mem hk
  · exact .inl

end Kb
