/- Data with depth: what lies in cells, and what hangs below it, in blocks of a set; slices of such data, rows of the call's own. -/
import Derived.Test.YtaojnjealccjiaaGreatDoorAppend
namespace Go.Proofs.YtaojnjealccjiaaGreatDoor
open Go Go.RowKit Go.Proofs
set_option linter.unusedVariables false
set_option linter.unusedSimpArgs false

/-- the blocks of S stand -/
def Keeps (S : Nat → Prop) (w w' : World) : Prop := w.heap.size ≤ w'.heap.size ∧ ∀ b, b < w.heap.size → S b → w'.heap[b]? = w.heap[b]?
theorem Keeps.refl (S : Nat → Prop) (w : World) : Keeps S w w := ⟨Nat.le_refl _, fun _ _ _ => rfl⟩
theorem Keeps.trans {S : Nat → Prop} {a b c : World} (h : Keeps S a b) (k : Keeps S b c) : Keeps S a c :=
  ⟨Nat.le_trans h.1 k.1, fun i hi hs => (k.2 i (Nat.lt_of_lt_of_le hi h.1) hs).trans (h.2 i hi hs)⟩
theorem Keeps.of_below {S : Nat → Prop} {w w' : World} (h : Below w.heap.size w w') : Keeps S w w' := ⟨h.size, fun b hb _ => h.block b hb⟩
theorem Keeps.of_base {S : Nat → Prop} {B : Nat} {w w' : World} (h : Below B w w') (hs : ∀ b, S b → b < B) : Keeps S w w' := ⟨h.size, fun b _ hb => h.block b (hs b hb)⟩
theorem Keeps.of_grown {S : Nat → Prop} {w w' : World} {row : Option Nat} (h : w.grownBy w' row) (hs : ∀ b, S b → some b ≠ row) : Keeps S w w' := ⟨h.size, fun b hb k => h.block b hb (hs b k)⟩

structure Dat (α : Type) where
  cells : α → List Value
  k : Nat
  len : ∀ x, (cells x).length = k
  one : ∀ x, ∀ v ∈ cells x, v.oneCell' = true
  ok : World → (Nat → Prop) → α → Prop
  keep : ∀ {w w' : World} {S : Nat → Prop} {x : α}, ok w S x → Keeps S w w' → ok w' S x
  mono : ∀ {w : World} {S S' : Nat → Prop} {x : α}, ok w S x → (∀ b, b < w.heap.size → S b → S' b) → ok w S' x

section
variable {α : Type} {D : Dat α} {w w' : World} {S S' : Nat → Prop} {A : Option Addr} {xs : List α}
/-- the slice at A reads as xs, in blocks of S -/
def Sl (D : Dat α) (w : World) (S : Nat → Prop) (A : Option Addr) (xs : List α) : Prop :=
  (xs ≠ [] → ∃ b off, A = some ⟨b, off, none⟩ ∧ S b ∧ b < w.heap.size ∧ ∀ j x, xs[j]? = some x → ∀ i v, (D.cells x)[i]? = some v → w.cell? ⟨b, off + j * D.k + i, none⟩ = some v) ∧ ∀ x ∈ xs, D.ok w S x
theorem Sl.nil : Sl D w S A [] := ⟨fun h => absurd rfl h, fun x hx => by simp at hx⟩
theorem Sl.keep (h : Sl D w S A xs) (hk : Keeps S w w') : Sl D w' S A xs :=
  ⟨fun hn => by
    obtain ⟨b, off, e, hs, hlt, hc⟩ := h.1 hn
    exact ⟨b, off, e, hs, Nat.lt_of_lt_of_le hlt hk.1, fun j x hx i v hv => (World.cell?_of_block (a := ⟨b, off + j * D.k + i, none⟩) (hk.2 b hlt hs)).trans (hc j x hx i v hv)⟩, fun x hx => D.keep (h.2 x hx) hk⟩
theorem Sl.below (h : Sl D w S A xs) (hb : Below w.heap.size w w') : Sl D w' S A xs := h.keep (Keeps.of_below hb)
theorem Sl.mono (h : Sl D w S A xs) (hs : ∀ b, b < w.heap.size → S b → S' b) : Sl D w S' A xs :=
  ⟨fun hn => by
    obtain ⟨b, off, e, h1, hlt, hc⟩ := h.1 hn
    exact ⟨b, off, e, hs b hlt h1, hlt, hc⟩, fun x hx => D.mono (h.2 x hx) hs⟩
theorem Sl.all (h : Sl D w S A xs) : Sl D w (fun _ => True) A xs := h.mono fun _ _ _ => trivial
theorem Sl.lst (h : Sl D w S A xs) : Lst D.cells D.k w A xs := fun hn => by
  obtain ⟨b, off, e, _, hlt, hc⟩ := h.1 hn
  exact ⟨b, off, e, hlt, hc⟩
/-- the element with a number -/
theorem Sl.get (h : Sl D w S A xs) {j : Nat} (hj : j < xs.length) : ∃ b off, A = some ⟨b, off, none⟩ ∧ S b ∧ b < w.heap.size ∧ D.ok w S xs[j] ∧ ∀ i v, (D.cells xs[j])[i]? = some v → w.cell? ⟨b, off + j * D.k + i, none⟩ = some v := by
  obtain ⟨b, off, e, hs, hlt, hc⟩ := h.1 (fun e => by subst e; simp at hj)
  exact ⟨b, off, e, hs, hlt, h.2 _ (List.getElem_mem hj), fun i v hv => hc j _ (List.getElem?_eq_getElem hj) i v hv⟩
theorem Sl.take (h : Sl D w S A xs) (n : Nat) : Sl D w S A (xs.take n) := by
  refine ⟨fun hn => ?_, fun x hx => h.2 x (List.mem_of_mem_take hx)⟩
  obtain ⟨b, off, e, hs, hlt, hc⟩ := h.1 (fun e => by subst e; simp at hn)
  refine ⟨b, off, e, hs, hlt, fun j x hx i v hv => hc j x ?_ i v hv⟩
  rw [List.getElem?_take] at hx
  split at hx
  · exact hx
  · cases hx
theorem Sl.drop {b off : Nat} (h : Sl D w S (some ⟨b, off, none⟩) xs) (n : Nat) : Sl D w S (some ⟨b, off + n * D.k, none⟩) (xs.drop n) :=
  ⟨fun hn => by
    obtain ⟨b', off', e, hs, hlt, hc⟩ := h.1 (fun e => by subst e; simp at hn)
    injection e with e
    injection e with e1 e2
    subst e1 e2
    refine ⟨b, _, rfl, hs, hlt, fun j x hx i v hv => ?_⟩
    have := hc (n + j) x (by rw [← hx, List.getElem?_drop]) i v hv
    rw [show off + n * D.k + j * D.k + i = off + (n + j) * D.k + i by rw [Nat.add_mul]; omega]
    exact this, fun x hx => h.2 x (List.mem_of_mem_drop hx)⟩
theorem Sl.drop_nil {A' : Option Addr} (h : Sl D w S A xs) {n : Nat} (hn : xs.length ≤ n) : Sl D w S A' (xs.drop n) := by
  rw [List.drop_of_length_le hn]; exact Sl.nil
theorem Sl.reads (h : Sl D w S A xs) : Reads w w.heap.size D.k A xs.length (xs.flatMap D.cells) := lst_reads D.len h.lst
theorem flat_one : ∀ u ∈ xs.flatMap D.cells, u.oneCell' = true := fun u hu => by
  obtain ⟨x, _, hx⟩ := List.mem_flatMap.1 hu
  exact D.one x u hx
theorem flat_length : (xs.flatMap D.cells).length = xs.length * D.k := flat_len D.len xs
end

section
variable {α : Type} {D : Dat α} {w w' W : World} {S S' : Nat → Prop} {v v' : Value} {xs ys : List α} {B T : Nat}
theorem owns_below {e size n : Nat} {us : List Value} (h : w.ownsRow B e size v n us) (hb : Below w.heap.size w w') : w'.ownsRow B e size v n us := by
  refine ⟨h.1, ?_⟩
  rcases h.2 with h1 | ⟨g, cap, cur, rfl, hB, hg, rest⟩
  · exact .inl h1
  · refine .inr ⟨g, cap, cur, rfl, hB, ?_, rest⟩
    rw [hb.block g (Array.getElem?_eq_some_iff.1 hg).1]; exact hg
theorem owns_lt {e size n : Nat} {us : List Value} (h : w.ownsRow B e size v n us) (g : Nat) (hg : v.ownBlock = some g) : B ≤ g ∧ g < w.heap.size := by
  rcases h.2 with ⟨rfl, _⟩ | ⟨g', cap, cur, rfl, hb, hh, _⟩
  · simp [Value.ownBlock] at hg
  · have : g' = g := by simpa [Value.ownBlock] using hg
    subst this
    exact ⟨hb, (Array.getElem?_eq_some_iff.1 hh).1⟩
theorem owns_slice {e size n : Nat} {us : List Value} (h : w.ownsRow B e size v n us) : ∃ A c, v = .slice A n c ∧ n ≤ c ∧ c ≤ maxLen := by
  rcases h.2 with ⟨h, hn⟩ | ⟨g, cap, cur, h, _, _, h1, h2, _⟩
  · exact ⟨none, 0, by rw [h, hn], by omega, Nat.zero_le _⟩
  · exact ⟨_, _, h, h1, h2⟩
/-- the row v of the call's own (from block B on) holds xs; what hangs below lies in blocks of S, outside the row -/
def OwnS (D : Dat α) (T B : Nat) (w : World) (S : Nat → Prop) (v : Value) (xs : List α) : Prop :=
  w.ownsRow B T D.k v xs.length (xs.flatMap D.cells) ∧ ∀ x ∈ xs, D.ok w (fun b => S b ∧ some b ≠ v.ownBlock) x
theorem OwnS.nil_ : OwnS D T B w S (.slice none 0 0) [] := ⟨⟨by simp, .inl ⟨rfl, rfl⟩⟩, fun x hx => by simp at hx⟩
theorem OwnS.empty (hB : B ≤ w.heap.size) (t : Nat) (ht : t = T) : OwnS D T B (w.alloc (.cells #[] t)) S (.slice (some ⟨w.heap.size, 0, none⟩) 0 0) [] := by
  subst ht
  exact ⟨⟨by simp, .inr ⟨w.heap.size, 0, #[], rfl, hB, heap_alloc_new w _, Nat.le_refl _, Nat.zero_le _, by simp, by simp⟩⟩, fun x hx => by simp at hx⟩
theorem OwnS.below (h : OwnS D T B w S v xs) (hb : Below w.heap.size w w') : OwnS D T B w' S v xs := ⟨owns_below h.1 hb, fun x hx => D.keep (h.2 x hx) (Keeps.of_below hb)⟩
theorem OwnS.mono (h : OwnS D T B w S v xs) (hs : ∀ b, b < w.heap.size → S b → S' b) : OwnS D T B w S' v xs := ⟨h.1, fun x hx => D.mono (h.2 x hx) fun b hb q => ⟨hs b hb q.1, q.2⟩⟩
theorem OwnS.slice (h : OwnS D T B w S v xs) : ∃ A c, v = .slice A xs.length c ∧ xs.length ≤ c ∧ c ≤ maxLen := owns_slice h.1
theorem OwnS.sl {A : Option Addr} {n c : Nat} (h : OwnS D T B w S (.slice A n c) xs) (hs : ∀ b, b < w.heap.size → B ≤ b → S b) : Sl D w S A xs := by
  obtain ⟨A', c', e, _⟩ := h.slice
  injection e with e1 e2 e3
  subst e1 e2
  refine ⟨fun hn => ?_, fun x hx => D.mono (h.2 x hx) fun b _ q => q.1⟩
  obtain ⟨b, off, e, hlt, hc⟩ := lst_of_owns D.len h.1 hn
  have := owns_lt h.1 b (by rw [e]; rfl)
  exact ⟨b, off, e, hs b this.2 this.1, hlt, hc⟩
/-- one element, or more, behind it -/
theorem OwnS.more {news : List α} {nv : List Value} {n : Nat} (h2 : ∀ x ∈ xs, D.ok W (fun b => S b ∧ some b ≠ v.ownBlock) x) (hn : ∀ x ∈ news, D.ok W (fun b => S b ∧ some b ≠ v.ownBlock) x) (hnv : nv = news.flatMap D.cells) (hnn : n = news.length)
    (ho : w'.ownsRow B T D.k v' (xs.length + n) (xs.flatMap D.cells ++ nv)) (hg : W.grownBy w' v.ownBlock) (hat : v'.ownBlock = v.ownBlock ∨ v'.ownBlock = some W.heap.size) : OwnS D T B w' S v' (xs ++ news) := by
  subst hnv hnn
  refine ⟨by simpa using ho, fun x hx => ?_⟩
  have hx' : D.ok W (fun b => S b ∧ some b ≠ v.ownBlock) x := by
    rcases List.mem_append.1 hx with h | h
    · exact h2 x h
    · exact hn x h
  have h1 : D.ok W (fun b => (S b ∧ some b ≠ v.ownBlock) ∧ some b ≠ v'.ownBlock) x := D.mono hx' fun b hb q => ⟨q, by
    rcases hat with e | e
    · rw [e]; exact q.2
    · rw [e]; intro e2; injection e2 with e2; omega⟩
  exact D.mono (D.keep h1 (Keeps.of_grown hg fun b q => q.1.2)) fun b _ q => ⟨q.1.1, q.2⟩
end
end Go.Proofs.YtaojnjealccjiaaGreatDoor
