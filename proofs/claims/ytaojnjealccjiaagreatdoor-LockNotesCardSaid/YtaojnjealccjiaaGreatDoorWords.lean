/- A slice of structs (or of anything) that reads as a list; slices.ContainsFunc and IndexFunc over one, the predicate told of its members alone. -/
import Derived.Below
import Derived.Deep.Draws
import Derived.Shelf.SlicesQ.IndexFunc
namespace Go.Proofs
open Go.Shelf Go.RowKit Go.Lib
variable {α : Type}

/-- the slice with address A and as many elements as xs has holds xs, k cells an element -/
def Lst (enc : α → List Value) (k : Nat) (w : World) (A : Option Addr) (xs : List α) : Prop :=
  xs ≠ [] → ∃ b off, A = some ⟨b, off, none⟩ ∧ b < w.heap.size ∧ ∀ j x, xs[j]? = some x → ∀ i v, (enc x)[i]? = some v → w.cell? ⟨b, off + j * k + i, none⟩ = some v

section
variable {enc : α → List Value} {k : Nat} {w w' : World} {A : Option Addr} {xs : List α}
theorem Lst.nil : Lst enc k w A [] := fun h => absurd rfl h
theorem Lst.below (h : Lst enc k w A xs) (hb : Below w.heap.size w w') : Lst enc k w' A xs := fun hn => by
  obtain ⟨b, off, e, hlt, hc⟩ := h hn
  exact ⟨b, off, e, Nat.lt_of_lt_of_le hlt hb.size, fun j x hx i v hv => (hb.cell (p := ⟨b, off + j * k + i, none⟩) hlt).trans (hc j x hx i v hv)⟩
theorem Lst.alloc (h : Lst enc k w A xs) (o : Obj) : Lst enc k (w.alloc o) A xs := h.below ((Below.refl _ _).alloc (Nat.le_refl _) _)
theorem Lst.drew (h : Lst enc k w A xs) : Lst enc k w.drew A xs := h
theorem Lst.drewN (h : Lst enc k w A xs) (n : Nat) : Lst enc k (w.drewN n) A xs := h
end

/-- what a predicate over a row's members owes -/
def PredIn (P : Program) (g : Nat) (lb : Array Value) (enc : α → Value) (p : α → Bool) (xs : List α) (w : World) : Prop :=
  ∀ (W : World) (x : α), x ∈ xs → Below w.heap.size w W → Calls P g (#[enc x] ++ lb) W fun e w' => e = .returned (.bool (p x)) ∧ Below w.heap.size w w'

open Classical in
/-- a member, or the head -/
noncomputable def clip (xs : List α) (d x : α) : α := if x ∈ xs then x else d
theorem clip_mem {xs : List α} {d : α} (hd : d ∈ xs) (x : α) : clip xs d x ∈ xs := by
  unfold clip; split
  · assumption
  · exact hd
theorem clip_of {xs : List α} {d x : α} (hx : x ∈ xs) : clip xs d x = x := by unfold clip; rw [if_pos hx]

theorem any_clip {xs : List α} {d : α} (p : α → Bool) : (xs.any fun x => p (clip xs d x)) = xs.any p := by
  rw [Bool.eq_iff_iff, List.any_eq_true, List.any_eq_true]
  constructor
  · rintro ⟨x, hx, h⟩; exact ⟨x, hx, by rw [clip_of hx] at h; exact h⟩
  · rintro ⟨x, hx, h⟩; exact ⟨x, hx, by rw [clip_of hx]; exact h⟩

theorem idxByFrom_clip {xs : List α} {d : α} (p : α → Bool) (y : α) : ∀ (l : List α) (n : Nat), (∀ x ∈ l, x ∈ xs) → Lib.idxByFrom (fun _ x => p (clip xs d x)) y l n = Lib.idxByFrom (fun _ x => p x) y l n
  | [], _, _ => rfl
  | a :: l, n, h => by
    have ih := idxByFrom_clip (d := d) p y l (n + 1) (fun x hx => h x (List.mem_cons_of_mem _ hx))
    have ha : clip xs d a = a := clip_of (h a (by simp))
    simp only [Lib.idxByFrom, ih, ha]
theorem idxBy_clip {xs : List α} {d : α} (p : α → Bool) (y : α) (l : List α) (h : ∀ x ∈ l, x ∈ xs) : Lib.idxBy (fun _ x => p (clip xs d x)) l y = Lib.idxBy (fun _ x => p x) l y :=
  idxByFrom_clip p y l 0 h

variable {P : Program} {ρ : Ren} [Inhabited α]

theorem contains_in (L : SlLaysH0.n8 P ρ) (k : Nat) (aE : ∀ w, (isAgg (ρ.t 23)).run P w = .ok true w) (zE : ∀ w, (Go.sizeOf (ρ.t 23)).run P w = .ok k w) (enc : α → List Value) (hk : ∀ x, (enc x).length = k)
    (p : α → Bool) (g : Nat) (lb : Array Value) (eg : ∀ args w, (callFunc g args).run P w = .ok (.enter g args) w) (A : Option Addr) (c : Nat) (xs : List α) (w : World)
    (hp : PredIn P g lb (fun x => .agg (enc x).toArray) p xs w) (hbig : xs.length ≤ 9223372036854775807) (hl : Lst enc k w A xs) (hne : xs ≠ []) :
    Calls P (ρ.f 8) #[.slice A xs.length c, .func (.func g) #[] lb] w fun e w' => e = .returned (.bool (xs.any p)) ∧ Below w.heap.size w w' := by
  obtain ⟨b, off, rfl, hlt, hc⟩ := hl hne
  obtain ⟨d, l, rfl⟩ : ∃ d l, xs = d :: l := by cases xs with
    | nil => exact absurd rfl hne
    | cons d l => exact ⟨d, l, rfl⟩
  have hd : d ∈ d :: l := by simp
  have h := AnyQ.slices_ContainsFunc L k aE zE (fun x => enc (clip (d :: l) d x)) (fun x => hk _) (fun x => p (clip (d :: l) d x)) g lb eg b off (d :: l).length c (d :: l) w
    (fun W x hb => hp W (clip (d :: l) d x) (clip_mem hd x) hb) (Nat.le_refl _) hbig hlt
    (fun j hj i v hv => by
      rw [getElem!_pos (d :: l) j hj, clip_of (List.getElem_mem hj)] at hv
      exact hc j _ (List.getElem?_eq_getElem hj) i v hv)
  rw [List.take_length, any_clip] at h
  exact h

theorem index_in (L : SlLaysH0.n6 P ρ) (k : Nat) (aE : ∀ w, (isAgg (ρ.t 23)).run P w = .ok true w) (zE : ∀ w, (Go.sizeOf (ρ.t 23)).run P w = .ok k w) (enc : α → List Value) (hk : ∀ x, (enc x).length = k)
    (p : α → Bool) (g : Nat) (lb : Array Value) (eg : ∀ args w, (callFunc g args).run P w = .ok (.enter g args) w) (A : Option Addr) (c : Nat) (xs : List α) (w : World)
    (hp : PredIn P g lb (fun x => .agg (enc x).toArray) p xs w) (hbig : xs.length ≤ 9223372036854775807) (hl : Lst enc k w A xs) (hne : xs ≠ []) :
    Calls P (ρ.f 6) #[.slice A xs.length c, .func (.func g) #[] lb] w fun e w' => e = .returned (.int .i64 (Lib.idxBy (fun _ y => p y) xs default)) ∧ Below w.heap.size w w' := by
  obtain ⟨b, off, rfl, hlt, hc⟩ := hl hne
  obtain ⟨d, l, rfl⟩ : ∃ d l, xs = d :: l := by cases xs with
    | nil => exact absurd rfl hne
    | cons d l => exact ⟨d, l, rfl⟩
  have hd : d ∈ d :: l := by simp
  have h := AnyQ.slices_IndexFunc L k aE zE (fun x => enc (clip (d :: l) d x)) (fun x => hk _) (fun x => p (clip (d :: l) d x)) g lb eg b off (d :: l).length c (d :: l) w
    (fun W x hb => hp W (clip (d :: l) d x) (clip_mem hd x) hb) (Nat.le_refl _) hbig hlt
    (fun j hj i v hv => by
      rw [getElem!_pos (d :: l) j hj, clip_of (List.getElem_mem hj)] at hv
      exact hc j _ (List.getElem?_eq_getElem hj) i v hv)
  rw [List.take_length, idxBy_clip p default (d :: l) (fun x hx => hx)] at h
  exact h
end Go.Proofs
