/- Rows of data with depth in a block of the call's own; slices.SortFunc by gossip.item.compare. -/
import Derived.Test.YtaojnjealccjiaaGreatDoorNCmp
import Derived.Test.YtaojnjealccjiaaGreatDoorShelfM
import Derived.Lib.OwnBridge
import Derived.Shelf.SlSortCmp.NoneTotal
namespace Go.Proofs.YtaojnjealccjiaaGreatDoor
open Go Go.RowKit Nt Go.Proofs Go.Lib Go.Sort
set_option linter.unusedVariables false
set_option linter.unusedSimpArgs false

section
variable {α : Type} {D : Dat α} {w w' : World} {g : Nat} {xs : List α}
/-- the row from the head of block g on holds xs, and may be written -/
def RowD (D : Dat α) (w : World) (g : Nat) (xs : List α) : Prop :=
  ∀ j x, xs[j]? = some x → ∀ i v, (D.cells x)[i]? = some v → w.cell? ⟨g, j * D.k + i, none⟩ = some v ∧ w.frozen? ⟨g, j * D.k + i, none⟩ = false
theorem RowD.below {B : Nat} (h : RowD D w g xs) (hb : Below B w w') (hg : g < B) : RowD D w' g xs := fun j x hx i v hv =>
  ⟨(hb.cell (p := ⟨g, j * D.k + i, none⟩) hg).trans (h j x hx i v hv).1, (hb.frozen (p := ⟨g, j * D.k + i, none⟩) hg).trans (h j x hx i v hv).2⟩
theorem RowD.take (h : RowD D w g xs) (m : Nat) : RowD D w g (xs.take m) := fun j x hx => by
  rw [List.getElem?_take] at hx
  split at hx
  · exact h j x hx
  · cases hx
theorem RowD.of_owns {B T c : Nat} {A : Option Addr} (h : w.ownsRow B T D.k (.slice A xs.length c) xs.length (xs.flatMap D.cells)) (hg : A = some ⟨g, 0, none⟩) : RowD D w g xs := fun j x hx i v hv => by
  subst hg
  have := h.cells (g := g) rfl (j * D.k + i) v (flat_at D.len xs j i x v hx hv)
  rw [Addr.add_lit] at this
  rw [Nat.zero_add] at this
  exact ⟨this, h.frozenAt _⟩
theorem keeps_sort {β : Type} [Inhabited β] (enc : β → List Value) (k : Nat) (w : World) (blk off m : Nat) (dk : Array β) (os : Array Obj) : Keeps (fun b => b ≠ blk) w (sortWorldK enc k w blk off m dk os) := by
  refine ⟨size_sortWorldK_c _ _ _ _ _ _ _ _, fun b hb hne => ?_⟩
  unfold sortWorldK putRowK putRow mapBlock grow Sort.ahead
  simp only
  rw [Array.getElem?_append_left (by simpa using hb), Array.getElem?_modify, if_neg (fun e => hne e.symm)]
end

section
variable {α : Type} [Inhabited α] {β : Type}
theorem holds_of_rowD (D : Dat β) (f : α → β) {w : World} {g : Nat} {d : Array α} (h : RowD D w g (d.toList.map f)) (hk : 0 < D.k) : HoldsK (fun x => D.cells (f x)) D.k w g 0 d := fun t ht => by
  have ht' : t < d.size * D.k := by rw [size_flatK] at ht; exact ht
  have hj : t / D.k < d.size := (Nat.div_lt_iff_lt_mul hk).2 ht'
  have hm : t % D.k < D.k := Nat.mod_lt _ hk
  rw [get_flatK _ _ _ _ ht', Nat.zero_add, getElem!_pos d _ hj]
  have hc : t % D.k < (D.cells (f d[t / D.k])).length := by rw [D.len]; exact hm
  have := h (t / D.k) (f d[t / D.k]) (by simp [hj]) (t % D.k) _ (List.getElem?_eq_getElem hc)
  rw [Nat.div_add_mod' t D.k] at this
  rw [getElem!_pos (D.cells (f d[t / D.k])) (t % D.k) hc]
  exact this
theorem rowD_of_holds (D : Dat β) (f : α → β) {w : World} {g : Nat} {d : Array α} (h : HoldsK (fun x => D.cells (f x)) D.k w g 0 d) : RowD D w g (d.toList.map f) := fun j x hx i v hv => by
  obtain ⟨hj, e⟩ := List.getElem?_eq_some_iff.1 hx
  have hj' : j < d.size := by simpa using hj
  obtain ⟨hi, ev⟩ := List.getElem?_eq_some_iff.1 hv
  have hik : i < D.k := by rw [D.len] at hi; exact hi
  have := h.cell hj' hik
  have ex : f d[j] = x := by simpa using e
  rw [getElem!_pos d j hj', ex, getElem!_pos _ i hi, ev, Nat.zero_add] at this
  exact this
end

theorem grow_of_below {w w' : World} (h : Below w.heap.size w w') (hd : w.drawn ≤ w'.drawn) : ∃ q os', w' = grow (w.drewN q) os' := by
  refine ⟨w'.drawn - w.drawn, w'.heap.extract w.heap.size w'.heap.size, ?_⟩
  obtain ⟨heap, tape, drawn, os, output⟩ := w'
  obtain ⟨h1, h2, h3, h4, h5⟩ := h
  simp only at h1 h2 h3 h4 h5 hd
  subst h1 h2 h3
  unfold grow World.drewN
  have e1 : heap = w.heap ++ heap.extract w.heap.size heap.size := by
    apply Array.ext_getElem?
    intro i
    rw [Array.getElem?_append]
    by_cases hi : i < w.heap.size
    · rw [if_pos hi]; exact h5 i hi
    · rw [if_neg hi, Array.getElem?_extract]
      by_cases hlt : i < heap.size
      · rw [if_pos (by simp; omega)]
        congr 1
        omega
      · rw [Array.getElem?_eq_none (by omega), if_neg (by simp; omega)]
  have e2 : drawn = w.drawn + (drawn - w.drawn) := by omega
  show (⟨heap, w.tape, drawn, w.os, w.output⟩ : World) = ⟨w.heap ++ heap.extract w.heap.size heap.size, w.tape, w.drawn + (drawn - w.drawn), w.os, w.output⟩
  rw [← e1, ← e2]
/-- what the sort leaves -/
def Sorted1 (g : Nat) (rs rs' : List NoteR) (w' : World) : Prop :=
  rs'.Perm rs ∧ (rs'.map NoteR.v).Pairwise (fun a b => ¬ ltN b a) ∧ RowD noteD w' g rs' ∧ (∀ r ∈ rs', Sl refD w' (fun b => b ≠ g) r.A r.v.needs) ∧ g < w'.heap.size
def SortPost (B g : Nat) (rs : List NoteR) (w : World) (e : Ending) (w' : World) : Prop := e = .returned (.tuple #[]) ∧ ∃ rs', Sorted1 g rs rs' w' ∧ Below B w w' ∧ Keeps (fun b => b ≠ g) w w'
theorem below_keeps_grow {B : Nat} {a w : World} (h : Below B a w) (hB : B ≤ w.heap.size) (os : Array Obj) : Below B a (grow w os) :=
  ⟨h.os, h.tape, h.output, Nat.le_trans h.size (by simp [grow]), fun i hi => by
    rw [← h.block i hi]
    simp only [grow]
    rw [Array.getElem?_append_left (by omega)]⟩

set_option maxHeartbeats 1000000 in
theorem sort_items (B g cap : Nat) (rs : List NoteR) (w : World) (hgB : B ≤ g) (hgw : g < w.heap.size) (hrow : RowD noteD w g rs) (hok : ∀ r ∈ rs, rightN r.v = true ∧ Sl refD w (fun b => b ≠ g) r.A r.v.needs) (ht : Tab B w) (hbig : rs.length ≤ 1000000) (hne : rs ≠ []) :
    Calls Tryz.prog 91 #[.slice (some ⟨g, 0, none⟩) rs.length cap, .func (.func 66) #[] #[]] w (SortPost B g rs w) := by
  obtain ⟨r0, l0, rfl⟩ : ∃ r l, rs = r :: l := by
    cases rs with
    | nil => exact absurd rfl hne
    | cons r l => exact ⟨r, l, rfl⟩
  generalize hrs : r0 :: l0 = rs at *
  haveI : Inhabited {r : NoteR // r ∈ rs} := ⟨⟨r0, by rw [← hrs]; simp⟩⟩
  have eg : ∀ args w, (callFunc 66 args).run Tryz.prog w = .ok (.enter 66 args) w := enters_of Tryz.func66 (by kernel_rfl) rfl
  have hmap : (rs.attach.toArray.toList.map fun x : {r : NoteR // r ∈ rs} => x.1) = rs := by simp
  have hH : HoldsK (fun x : {r : NoteR // r ∈ rs} => noteD.cells x.1) 5 w g 0 rs.attach.toArray := holds_of_rowD noteD (fun x : {r : NoteR // r ∈ rs} => x.1) (by rw [hmap]; exact hrow) (by decide)
  have h := AnyQ.slices_SortFunc Tryz.laysSortN 5 Tryz.isAgg95 Tryz.sizeOf95 (fun x : {r : NoteR // r ∈ rs} => noteD.cells x.1) (fun _ => rfl) (fun x v hv => noteD.one x.1 v hv) (fun x y => cmpN x.1.v y.1.v) (ltN_swo' fun x : {r : NoteR // r ∈ rs} => x.1.v) 66 #[] g 0 cap rs.attach.toArray w eg
    (fun m os dk _ x y => by
      have hk := keeps_sort (fun x : {r : NoteR // r ∈ rs} => noteD.cells x.1) 5 w g 0 m dk os
      have hbl : Below B w (sortWorldK (fun x : {r : NoteR // r ∈ rs} => noteD.cells x.1) 5 w g 0 m dk os) := by
        unfold sortWorldK
        exact below_keeps_grow (Lib.below_putRow (Below.refl B w) hgB) (by rw [size_putRow]; show B ≤ w.heap.size; omega) os
      have hc := item_compare x.1.v y.1.v x.1.A y.1.A x.1.c y.1.c (fun b => b ≠ g) (B := B) _ (ht.on hbl) (Nat.le_trans (by omega) hk.1) ((hok x.1 x.2).2.keep hk) ((hok y.1 y.2).2.keep hk) (hok x.1 x.2).1 (hok y.1 y.2).1
      exact (calls_drawn hc (fun w' hh => by cases hh.1)).mono fun e w' ⟨⟨he, hb⟩, hd⟩ => ⟨he, grow_of_below hb hd⟩) hH hgw (by simp; omega)
  rw [List.size_toArray, List.length_attach] at h
  refine h.mono fun e w' ⟨he, d', n, os, hp, hs, hw⟩ => ⟨he, d'.toList.map (·.1), ⟨?_, ?_, ?_, ?_, ?_⟩, ?_, ?_⟩
  · have := hp.2.2
    have e1 : d'.extract 0 rs.length = d' := by rw [Array.extract_eq_self_of_le (by rw [hp.1]; simp)]
    have e2 : rs.attach.toArray.extract 0 rs.length = rs.attach.toArray := by rw [Array.extract_eq_self_of_le (by simp)]
    rw [e1, e2] at this
    have := List.Perm.map (fun x : {r : NoteR // r ∈ rs} => x.1) this
    rwa [hmap] at this
  · rw [List.pairwise_iff_getElem]
    intro i j hi hj hij
    simp only [List.length_map, Array.length_toList] at hi hj
    have := hs i j (Nat.zero_le _) hij (by have := hp.1; simp at this; omega)
    have h2 : ltOf cmpN (d'[j]'hj).1.v (d'[i]'hi).1.v = false := by rw [getElem!_pos d' j hj, getElem!_pos d' i hi] at this; exact this
    rw [cmpN_lt, decide_eq_false_iff_not] at h2
    simpa using h2
  · rw [hw]
    exact rowD_of_holds noteD (fun x : {r : NoteR // r ∈ rs} => x.1) (holdsK_sortWorldK_c _ _ _ _ _ _ _ _ _ hH hgw hp.1)
  · intro r hr
    obtain ⟨x, hx, rfl⟩ := List.mem_map.1 hr
    rw [hw]
    exact (hok x.1 x.2).2.keep (keeps_sort _ _ _ _ _ _ _ _)
  · rw [hw]
    exact Nat.lt_of_lt_of_le hgw (size_sortWorldK_c _ _ _ _ _ _ _ _)
  · rw [hw]
    unfold sortWorldK
    exact below_keeps_grow (Lib.below_putRow (Below.refl B w) hgB) (by rw [size_putRow]; show B ≤ w.heap.size; omega) os
  · rw [hw]
    exact keeps_sort _ _ _ _ _ _ _ _
end Go.Proofs.YtaojnjealccjiaaGreatDoor
