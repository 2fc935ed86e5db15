/- A row of acts in a block of the call's own: reading, storing, cutting, clearing. -/
import Derived.Test.YtaojnjealccjiaaGreatDoorLocked3
import Derived.Laws.OwnMore
import Derived.Laws.AppendOwn
import Derived.Lib.SliceRun
import Derived.Laws.IdiomCopy
namespace Go.Proofs.YtaojnjealccjiaaGreatDoor
open Go Go.RowKit Kb Go.Lib
set_option linter.unusedVariables false

def Free4 (w : World) (b o : Nat) : Prop := w.frozen? ⟨b, o, none⟩ = false ∧ w.frozen? ⟨b, o + 1, none⟩ = false ∧ w.frozen? ⟨b, o + 2, none⟩ = false ∧ w.frozen? ⟨b, o + 3, none⟩ = false
def Row (w : World) (g : Nat) (xs : List Akt) : Prop := ∀ j a, xs[j]? = some a → At4 w g (j * 4) a ∧ Free4 w g (j * 4)

theorem Row.below {B : Nat} {w w' : World} {g : Nat} {xs : List Akt} (h : Row w g xs) (hb : Below B w w') (hg : g < B) : Row w' g xs := fun j a ha =>
  ⟨(h j a ha).1.below hb hg, (hb.frozen (p := ⟨g, j * 4, none⟩) hg).trans (h j a ha).2.1, (hb.frozen (p := ⟨g, j * 4 + 1, none⟩) hg).trans (h j a ha).2.2.1, (hb.frozen (p := ⟨g, j * 4 + 2, none⟩) hg).trans (h j a ha).2.2.2.1, (hb.frozen (p := ⟨g, j * 4 + 3, none⟩) hg).trans (h j a ha).2.2.2.2⟩
theorem Row.take {w : World} {g : Nat} {xs : List Akt} (h : Row w g xs) (m : Nat) : Row w g (xs.take m) := fun j a ha => by
  rw [List.getElem?_take] at ha
  split at ha
  · exact h j a ha
  · cases ha
theorem Row.get {w : World} {g : Nat} {xs : List Akt} (h : Row w g xs) {j : Nat} (hj : j < xs.length) : At4 w g (j * 4) xs[j] ∧ Free4 w g (j * 4) := h j _ (List.getElem?_eq_getElem hj)

/-- four cells stored -/
def put4 (w : World) (g o : Nat) (a : Akt) : World :=
  (((w.setCell ⟨g, o, none⟩ (.int .i64 a.kind)).setCell ⟨g, o + 1, none⟩ (.int .i64 a.person)).setCell ⟨g, o + 2, none⟩ (.int .i64 a.day)).setCell ⟨g, o + 3, none⟩ (.string a.obj)

theorem cell_put4_other {w : World} {g o : Nat} {a : Akt} {p : Addr} (h : p.block = g → p.off < o ∨ o + 4 ≤ p.off) : (put4 w g o a).cell? p = w.cell? p := by
  unfold put4
  have e : ∀ i, i < 4 → (⟨g, o + i, none⟩ : Addr) ≠ p := fun i hi e => by subst e; rcases h rfl with h | h <;> (simp at h; omega)
  rw [World.cell?_setCell_other _ _ _ _ (e 3 (by omega)), World.cell?_setCell_other _ _ _ _ (e 2 (by omega)), World.cell?_setCell_other _ _ _ _ (e 1 (by omega))]
  exact World.cell?_setCell_other _ _ _ _ (e 0 (by omega))
theorem frozen_put4 {w : World} {g o : Nat} {a : Akt} (p : Addr) : (put4 w g o a).frozen? p = w.frozen? p := by
  unfold put4; simp [World.frozen?_setCell]
theorem at4_put4 {w : World} {g o : Nat} {a old : Akt} (h : At4 w g o old) : At4 (put4 w g o a) g o a := by
  obtain ⟨h0, h1, h2, h3⟩ := h
  have ne : ∀ i k : Nat, i ≠ k → (⟨g, o + i, none⟩ : Addr) ≠ ⟨g, o + k, none⟩ := fun i k hik e => by injection e with _ e; omega
  unfold put4 At4
  refine ⟨?_, ?_, ?_, ?_⟩
  · exact (World.cell?_setCell_other _ _ _ _ (ne 3 0 (by omega))).trans ((World.cell?_setCell_other _ _ _ _ (ne 2 0 (by omega))).trans ((World.cell?_setCell_other _ _ _ _ (ne 1 0 (by omega))).trans (World.cell?_setCell_same _ _ _ h0)))
  · rw [World.cell?_setCell_other _ _ _ _ (ne 3 1 (by omega)), World.cell?_setCell_other _ _ _ _ (ne 2 1 (by omega))]
    exact World.cell?_setCell_same _ _ _ ((World.cell?_setCell_other _ _ _ _ (ne 0 1 (by omega))).trans h1)
  · rw [World.cell?_setCell_other _ _ _ _ (ne 3 2 (by omega))]
    exact World.cell?_setCell_same _ _ _ ((World.cell?_setCell_other _ _ _ _ (ne 1 2 (by omega))).trans ((World.cell?_setCell_other _ _ _ _ (ne 0 2 (by omega))).trans h2))
  · exact World.cell?_setCell_same _ _ _ ((World.cell?_setCell_other _ _ _ _ (ne 2 3 (by omega))).trans ((World.cell?_setCell_other _ _ _ _ (ne 1 3 (by omega))).trans ((World.cell?_setCell_other _ _ _ _ (ne 0 3 (by omega))).trans h3)))
theorem below_put4 {B : Nat} {a w : World} {g o : Nat} {x : Akt} (h : Below B a w) (hg : B ≤ g) : Below B a (put4 w g o x) :=
  (((h.setCell (p := ⟨g, o, none⟩) hg _).setCell (p := ⟨g, o + 1, none⟩) hg _).setCell (p := ⟨g, o + 2, none⟩) hg _).setCell (p := ⟨g, o + 3, none⟩) hg _

theorem Row.store {w : World} {g : Nat} {xs : List Akt} (h : Row w g xs) {i : Nat} (hi : i < xs.length) (u : Akt) : Row (put4 w g (i * 4) u) g (xs.set i u) := fun j a ha => by
  have hj : j < xs.length := by
    have := (List.getElem?_eq_some_iff.1 ha).1
    simpa using this
  have hfr : Free4 (put4 w g (i * 4) u) g (j * 4) := by
    obtain ⟨_, f0, f1, f2, f3⟩ := h.get hj
    exact ⟨(frozen_put4 _).trans f0, (frozen_put4 _).trans f1, (frozen_put4 _).trans f2, (frozen_put4 _).trans f3⟩
  refine ⟨?_, hfr⟩
  by_cases e : i = j
  · subst e
    rw [List.getElem?_set_self hi] at ha
    cases ha
    exact at4_put4 (h.get hi).1
  · rw [List.getElem?_set_ne e] at ha
    obtain ⟨c0, c1, c2, c3⟩ := (h j a ha).1
    have far : ∀ k, k < 4 → (put4 w g (i * 4) u).cell? ⟨g, j * 4 + k, none⟩ = w.cell? ⟨g, j * 4 + k, none⟩ := fun k hk => cell_put4_other (fun _ => by simp; omega)
    exact ⟨(far 0 (by omega)).trans c0, (far 1 (by omega)).trans c1, (far 2 (by omega)).trans c2, (far 3 (by omega)).trans c3⟩

/-- the slice (A, xs.length, cap) is a row of the call's own: block B or later -/
def OwnR (B : Nat) (w : World) (A : Option Addr) (cap : Nat) (xs : List Akt) : Prop :=
  xs.length ≤ cap ∧ cap ≤ maxLen ∧ (xs ≠ [] → ∃ g, A = some ⟨g, 0, none⟩ ∧ B ≤ g ∧ g < w.heap.size ∧ Row w g xs)

theorem OwnR.below {B : Nat} {w w' : World} {A : Option Addr} {cap : Nat} {xs : List Akt} (h : OwnR B w A cap xs) (hb : Below w.heap.size w w') : OwnR B w' A cap xs :=
  ⟨h.1, h.2.1, fun hn => by
    obtain ⟨g, e, h1, h2, h3⟩ := h.2.2 hn
    exact ⟨g, e, h1, Nat.lt_of_lt_of_le h2 hb.size, h3.below hb h2⟩⟩
theorem OwnR.lst {B : Nat} {w : World} {A : Option Addr} {cap : Nat} {xs : List Akt} (h : OwnR B w A cap xs) : Lst aktV 4 w A xs := fun hn => by
  obtain ⟨g, e, h1, h2, h3⟩ := h.2.2 hn
  refine ⟨g, 0, e, h2, fun j x hx i v hv => ?_⟩
  obtain ⟨c0, c1, c2, c3⟩ := (h3 j x hx).1
  rw [Nat.zero_add]
  match i, hv with
  | 0, hv => cases hv; exact c0
  | 1, hv => cases hv; exact c1
  | 2, hv => cases hv; exact c2
  | 3, hv => cases hv; exact c3
  | i + 4, hv => simp [aktV] at hv

theorem below_sets {B : Nat} {a : World} {g : Nat} (hg : B ≤ g) : ∀ (vs : List Value) (o : Nat) {w : World}, Below B a w → Below B a (w.setCells g o vs)
  | [], _, _, h => h
  | v :: r, o, w, h => below_sets hg r (o + 1) (h.setCell (p := ⟨g, o, none⟩) hg v)

theorem Row.cleared {w : World} {g : Nat} {xs : List Akt} (h : Row w g xs) (vs : List Value) (i : Nat) (hi : xs.length ≤ i) : Row (w.setCells g (i * 4) vs) g xs := fun j a ha => by
  have hj : j < xs.length := (List.getElem?_eq_some_iff.1 ha).1
  obtain ⟨⟨c0, c1, c2, c3⟩, f0, f1, f2, f3⟩ := h j a ha
  have far : ∀ k, k < 4 → (w.setCells g (i * 4) vs).cell? ⟨g, j * 4 + k, none⟩ = w.cell? ⟨g, j * 4 + k, none⟩ := fun k hk => World.cell?_setCells_out g vs _ w _ (fun _ _ => .inl (by show j * 4 + k < i * 4; omega))
  exact ⟨⟨(far 0 (by omega)).trans c0, (far 1 (by omega)).trans c1, (far 2 (by omega)).trans c2, (far 3 (by omega)).trans c3⟩, (World.frozen?_setCells g vs _ w _).trans f0, (World.frozen?_setCells g vs _ w _).trans f1, (World.frozen?_setCells g vs _ w _).trans f2, (World.frozen?_setCells g vs _ w _).trans f3⟩

theorem Row.some_ {w : World} {g : Nat} {xs : List Akt} (h : Row w g xs) {j : Nat} (hj : j < xs.length * 4) : (w.cell? ⟨g, j, none⟩).isSome = true ∧ w.frozen? ⟨g, j, none⟩ = false := by
  obtain ⟨⟨c0, c1, c2, c3⟩, f0, f1, f2, f3⟩ := h.get (j := j / 4) (by omega)
  have h4 : j = j / 4 * 4 ∨ j = j / 4 * 4 + 1 ∨ j = j / 4 * 4 + 2 ∨ j = j / 4 * 4 + 3 := by omega
  generalize j / 4 * 4 = o at *
  rcases h4 with rfl | rfl | rfl | rfl
  · exact ⟨by rw [c0]; rfl, f0⟩
  · exact ⟨by rw [c1]; rfl, f1⟩
  · exact ⟨by rw [c2]; rfl, f2⟩
  · exact ⟨by rw [c3]; rfl, f3⟩

/-- 'clear(s)' at acts: what lies below its first cell stands -/
theorem run_clear_acts (w : World) (g i n c : Nat) (hn : 0 < n) (hr : ∀ j, j < n * 4 → (w.cell? ⟨g, i * 4 + j, none⟩).isSome = true ∧ w.frozen? ⟨g, i * 4 + j, none⟩ = false) :
    ∃ vs : List Value, ∀ ty, (Builtin.clear_ #[23] ty #[.slice (some ⟨g, i * 4, none⟩) n c]).run Tryz.prog w = .ok (.tuple #[]) (w.setCells g (i * 4) vs) := by
  have hv : ∀ w, (zeroValue 47).run Tryz.prog w = .ok (.agg #[.int .i64 0, .int .i64 0, .int .i64 0, .string ⟨#[]⟩]) w := fun _ => by kernel_rfl
  have hz : (Value.agg #[.int .i64 0, .int .i64 0, .int .i64 0, .string ⟨#[]⟩]).cells = #[.int .i64 0, .int .i64 0, .int .i64 0, .string ⟨#[]⟩] := rfl
  refine ⟨(Builtin.zeroCells #[.int .i64 0, .int .i64 0, .int .i64 0, .string ⟨#[]⟩] n).toList, fun ty => ?_⟩
  have hlen : (Builtin.zeroCells #[.int .i64 0, .int .i64 0, .int .i64 0, .string ⟨#[]⟩] n).toList.length = n * 4 := by simp [Builtin.zeroCells]
  have hst := run_storeCells_cells (P := Tryz.prog) g (i * 4) (Builtin.zeroCells #[.int .i64 0, .int .i64 0, .int .i64 0, .string ⟨#[]⟩] n).toList 0 w
    (fun j hj => (hr j (by rw [hlen] at hj; omega)).1) (fun j hj => (hr j (by rw [hlen] at hj; omega)).2) (by
      intro v hv'
      obtain ⟨k, hk, e⟩ := List.getElem_of_mem hv'
      simp only [Builtin.zeroCells, Array.toList_map, List.getElem_map, Array.getElem_toList, Array.getElem_range] at e
      have h4 : k % 4 = 0 ∨ k % 4 = 1 ∨ k % 4 = 2 ∨ k % 4 = 3 := by omega
      rw [← e]
      rcases h4 with h | h | h | h <;> simp [h, Value.oneCell'])
  simp only [Nat.add_zero] at hst
  obtain ⟨m, rfl⟩ : ∃ m, n = m + 1 := ⟨n - 1, by omega⟩
  simp only [Builtin.clear_]
  simp [run_underlying Tryz.underlying23, hv, hz, hst]

end Go.Proofs.YtaojnjealccjiaaGreatDoor
