/- Opening an argument that is a list of acts, or of notes; the table that the row lays. -/
import Derived.Test.YtaojnjealccjiaaGreatDoorNLaw
import Derived.Test.YtaojnjealccjiaaGreatDoorRows
import Derived.Deep.Slices
import Derived.Deep.Fields
import Derived.Deep.Strs
import Derived.Lib.LaidTab
import Derived.ChangeSame
import Derived.ProofKit
import Derived.OpenShut
import Derived.ShutString
import Derived.ChangeOld
import Derived.Lay
import Derived.SevenTiedAt
namespace Go.Proofs.YtaojnjealccjiaaGreatDoor
open Go.ChangeShapes Go.WideShapes Go.Deep Go.RowKit Go.ChangeAt
section
variable {H : Type} {enc : TypeId × Value → H} {P : Program} {w : World} {base : Nat} {spare : Nat → Bool} {held : Bool}
theorem open_slice_fields {t e : TypeId} {fs : Array Field} {fuel : Nat} {cs : List Value} {x : DataW H × List MemPlace} (ht : P.underlying t = some (.slice e)) (he : P.underlying e = some (.struct fs))
    (hone : oneCellFields P fs = true) (hC : P.cellsOf e = fs.size) (h : DataW.trod enc P w base spare held fuel t cs = some x) :
    (cs = [.slice none 0 0] ∧ x = (.nil, [])) ∨
    ∃ (a : Addr) (len cap m : Nat), cs = [.slice (some a) len cap] ∧ len ≤ cap ∧ cap ≤ maxLen ∧ m = (if spare a.block then cap else len) ∧
      ∀ i, i < m → ∃ (ys : List (DataW H × List MemPlace)) (n : Nat),
        ∀ (j : Nat) (f : Field), fs[j]? = some f → ∃ (v : Value) (y : DataW H × List MemPlace), w.cell? (a.add (i * fs.size + j)) = some v ∧ ys[j]? = some y ∧ DataW.trod enc P w base spare held n f.type [v] = some y := by
  rcases open_slice ht h with h0 | ⟨a, len, cap, m, n, D, Pl, hcs, hb, hl, hm, hmm, hx, hi⟩
  · exact .inl h0
  · refine .inr ⟨a, len, cap, m, hcs, hl, hm, hmm, fun i him => ?_⟩
    obtain ⟨cs', hc, ht'⟩ := hi i him
    rw [hC] at hc
    obtain ⟨ys, n', hn', hy, hlen, hyl, hf⟩ := DataW.trod_struct he ht'
    obtain ⟨_, hcl, hat⟩ := World.cells?_some hc
    refine ⟨ys, n', fun j f hj => ?_⟩
    obtain ⟨ho, hk⟩ := hone_of hone j f hj
    have hjl : j < fs.size := (Array.getElem?_eq_some_iff.1 hj).1
    have hcell := hat j hjl
    have hv : cs'[j]? = some (cs'[j]'(by omega)) := List.getElem?_eq_getElem (by omega)
    have h1 := hf j f hj
    rw [ho, hk] at h1
    have hone' : (cs'.drop j).take 1 = [cs'[j]'(by omega)] := by
      rw [List.drop_eq_getElem_cons (by omega)]
      rfl
    rw [hone'] at h1
    have hys : ys[j]? = some (ys[j]'(by omega)) := List.getElem?_eq_getElem (by omega)
    refine ⟨_, _, ?_, hys, h1.trans hys⟩
    rw [← Go.Deep.add_add, hcell, hv]
end

theorem choose_list {α : Type} {Q : Nat → α → Prop} : ∀ (n : Nat), (∀ i, i < n → ∃ x, Q i x) → ∃ l : List α, l.length = n ∧ ∀ i (h : i < l.length), Q i l[i]
  | 0, _ => ⟨[], rfl, fun i h => absurd h (Nat.not_lt_zero _)⟩
  | n + 1, h => by
    obtain ⟨l, hl, hq⟩ := choose_list n (fun i hi => h i (by omega))
    obtain ⟨x, hx⟩ := h n (by omega)
    refine ⟨l ++ [x], by simp [hl], fun i hi => ?_⟩
    by_cases e : i < l.length
    · rw [List.getElem_append_left e]; exact hq i e
    · have : i = n := by simp at hi; omega
      subst this
      rw [List.getElem_append_right (by omega)]
      simpa [hl] using hx

theorem open_acts {H : Type} {enc : TypeId × Value → H} {W : World} {a : Option Addr} {len cap : Nat} {d : DataW H} {p : List MemPlace}
    (h : DataW.Trod enc Tryz.prog W 0 (fun _ => true) true 23 (.slice a len cap) d p) : ∃ acts : List Kb.Akt, acts.length = len ∧ Lst aktV 4 W a acts ∧ len ≤ maxLen := by
  obtain ⟨fuel, hf⟩ := h
  rcases open_slice_fields Tryz.underlying23 Tryz.underlying47 (by kernel_rfl) (by kernel_rfl) hf with ⟨hcs, _⟩ | ⟨x, l, c, m, hcs, hl, hm, hmm, hi⟩
  · simp [Value.cells] at hcs
    obtain ⟨rfl, rfl, rfl⟩ := hcs
    exact ⟨[], rfl, Lst.nil, Nat.zero_le _⟩
  · simp [Value.cells] at hcs
    obtain ⟨rfl, rfl, rfl⟩ := hcs
    have hm' : m = cap := by simpa using hmm
    have hQ : ∀ i, i < len → ∃ y : Kb.Akt, ∀ (t : Nat) (v : Value), (aktV y)[t]? = some v → W.cell? (x.add (i * 4 + t)) = some v := fun i hil => by
      obtain ⟨ys, n, hf⟩ := hi i (by omega)
      obtain ⟨v0, y0, c0, _, t0⟩ := hf 0 _ rfl
      obtain ⟨v1, y1, c1, _, t1⟩ := hf 1 _ rfl
      obtain ⟨v2, y2, c2, _, t2⟩ := hf 2 _ rfl
      obtain ⟨v3, y3, c3, _, t3⟩ := hf 3 _ rfl
      obtain ⟨k0, e0, _, _⟩ := DataW.trod_int Tryz.underlying3 t0
      obtain ⟨k1, e1, _, _⟩ := DataW.trod_int Tryz.underlying3 t1
      obtain ⟨k2, e2, _, _⟩ := DataW.trod_int Tryz.underlying3 t2
      obtain ⟨s3, e3, _, _⟩ := DataW.trod_string Tryz.underlying9 t3
      simp at e0 e1 e2 e3
      subst e0 e1 e2 e3
      refine ⟨⟨k0, k1, k2, s3⟩, fun t v hv => ?_⟩
      match t, hv with
      | 0, hv => cases hv; exact c0
      | 1, hv => cases hv; exact c1
      | 2, hv => cases hv; exact c2
      | 3, hv => cases hv; exact c3
      | t + 4, hv => simp [aktV] at hv
    obtain ⟨acts, hal, hq⟩ := choose_list len hQ
    refine ⟨acts, hal, fun hne => ?_, by omega⟩
    have h0 : 0 < acts.length := by cases acts with
      | nil => exact absurd rfl hne
      | cons y r => simp
    have hc0 := hq 0 h0 0 _ rfl
    obtain ⟨b, off, spot⟩ := x
    have hspot : spot = none := by simpa [Addr.add] using World.cell?_spot hc0
    subst hspot
    refine ⟨b, off, rfl, by simpa [Addr.add_lit] using block_lt_of_cell hc0, fun j y hj i v hv => ?_⟩
    have hjl : j < acts.length := (List.getElem?_eq_some_iff.1 hj).1
    have ey : acts[j] = y := (List.getElem?_eq_some_iff.1 hj).2
    have := hq j hjl i v (by rw [ey]; exact hv)
    rw [Addr.add_lit] at this
    rw [Nat.add_assoc]
    exact this

section
variable {H : Type} {enc : TypeId × Value → H} {W : World}
/-- from cells to a slice of data -/
theorem sl_of_cells {α : Type} {D : Dat α} {x : Addr} {xs : List α} (hk : 0 < D.k) (hok : ∀ y ∈ xs, D.ok W Any1 y) (hq : ∀ i (h : i < xs.length), ∀ (t : Nat) (v : Value), (D.cells xs[i])[t]? = some v → W.cell? (x.add (i * D.k + t)) = some v) : Sl D W Any1 (some x) xs := by
  refine ⟨fun hne => ?_, hok⟩
  have h0 : 0 < xs.length := by cases xs with
    | nil => exact absurd rfl hne
    | cons y r => simp
  have hc0 := hq 0 h0 0 ((D.cells xs[0])[0]'(by rw [D.len]; exact hk)) (List.getElem?_eq_getElem _)
  obtain ⟨b, off, spot⟩ := x
  have hspot : spot = none := by simpa [Addr.add] using World.cell?_spot hc0
  subst hspot
  refine ⟨b, off, rfl, trivial, by simpa [Addr.add_lit] using block_lt_of_cell hc0, fun j y hj i v hv => ?_⟩
  have hjl : j < xs.length := (List.getElem?_eq_some_iff.1 hj).1
  have ey : xs[j] = y := (List.getElem?_eq_some_iff.1 hj).2
  have := hq j hjl i v (by rw [ey]; exact hv)
  rw [Addr.add_lit] at this
  rw [Nat.add_assoc]
  exact this
theorem open_refs {fuel : Nat} {cs : List Value} {y : DataW H × List MemPlace} (h : DataW.trod enc Tryz.prog W 0 (fun _ => true) true fuel 40 cs = some y) :
    ∃ (A : Option Addr) (c : Nat) (xs : List Nt.RefV), cs = [.slice A xs.length c] ∧ Sl refD W Any1 A xs := by
  rcases open_slice_fields Tryz.underlying40 Tryz.underlying100 (by kernel_rfl) (by kernel_rfl) h with ⟨hcs, _⟩ | ⟨x, l, c, m, hcs, hl, hm, hmm, hi⟩
  · exact ⟨none, 0, [], hcs, Sl.nil⟩
  · have hm' : m = c := by simpa using hmm
    have hQ : ∀ i, i < l → ∃ z : Nt.RefV, ∀ (t : Nat) (v : Value), (refD.cells z)[t]? = some v → W.cell? (x.add (i * 2 + t)) = some v := fun i hil => by
      obtain ⟨ys, n, hf⟩ := hi i (by omega)
      obtain ⟨v0, y0, c0, _, t0⟩ := hf 0 _ rfl
      obtain ⟨v1, y1, c1, _, t1⟩ := hf 1 _ rfl
      obtain ⟨k0, e0, _, _⟩ := DataW.trod_int Tryz.underlying3 t0
      obtain ⟨k1, e1, _, _⟩ := DataW.trod_int Tryz.underlying3 t1
      simp at e0 e1
      subst e0 e1
      refine ⟨⟨k0, k1⟩, fun t v hv => ?_⟩
      match t, hv with
      | 0, hv => cases hv; exact c0
      | 1, hv => cases hv; exact c1
      | t + 2, hv => simp [refD] at hv
    obtain ⟨xs, hal, hq⟩ := choose_list l hQ
    subst hal
    exact ⟨some x, c, xs, hcs, sl_of_cells (D := refD) (by show 0 < 2; omega) (fun _ _ => trivial) hq⟩
theorem open_notes {a : Option Addr} {len cap : Nat} {d : DataW H} {p : List MemPlace}
    (h : DataW.Trod enc Tryz.prog W 0 (fun _ => true) true 33 (.slice a len cap) d p) : ∃ ns : List NoteR, ns.length = len ∧ Sl noteD W Any1 a ns ∧ len ≤ maxLen := by
  obtain ⟨fuel, hf⟩ := h
  rcases open_slice_fields Tryz.underlying33 Tryz.underlying42 (by kernel_rfl) (by kernel_rfl) hf with ⟨hcs, _⟩ | ⟨x, l, c, m, hcs, hl, hm, hmm, hi⟩
  · simp [Value.cells] at hcs
    obtain ⟨rfl, rfl, rfl⟩ := hcs
    exact ⟨[], rfl, Sl.nil, Nat.zero_le _⟩
  · simp [Value.cells] at hcs
    obtain ⟨rfl, rfl, rfl⟩ := hcs
    have hm' : m = cap := by simpa using hmm
    have hQ : ∀ i, i < len → ∃ z : NoteR, noteD.ok W Any1 z ∧ ∀ (t : Nat) (v : Value), (noteD.cells z)[t]? = some v → W.cell? (x.add (i * 5 + t)) = some v := fun i hil => by
      obtain ⟨ys, n, hf⟩ := hi i (by omega)
      obtain ⟨v0, y0, c0, _, t0⟩ := hf 0 _ rfl
      obtain ⟨v1, y1, c1, _, t1⟩ := hf 1 _ rfl
      obtain ⟨v2, y2, c2, _, t2⟩ := hf 2 _ rfl
      obtain ⟨v3, y3, c3, _, t3⟩ := hf 3 _ rfl
      obtain ⟨v4, y4, c4, _, t4⟩ := hf 4 _ rfl
      obtain ⟨k0, e0, _, _⟩ := DataW.trod_int Tryz.underlying3 t0
      obtain ⟨k1, e1, _, _⟩ := DataW.trod_int Tryz.underlying3 t1
      obtain ⟨k2, e2, _, _⟩ := DataW.trod_int Tryz.underlying3 t2
      obtain ⟨A3, cp3, xs3, e3, hs3⟩ := open_refs t3
      obtain ⟨s4, e4, _, _⟩ := DataW.trod_string Tryz.underlying9 t4
      simp at e0 e1 e2 e3 e4
      subst e0 e1 e2 e3 e4
      refine ⟨⟨⟨k0, k1, k2, xs3, s4⟩, A3, cp3⟩, hs3, fun t v hv => ?_⟩
      match t, hv with
      | 0, hv => cases hv; exact c0
      | 1, hv => cases hv; exact c1
      | 2, hv => cases hv; exact c2
      | 3, hv => cases hv; exact c3
      | 4, hv => cases hv; exact c4
      | t + 5, hv => simp [noteD, NoteR.cells] at hv
    obtain ⟨ns, hal, hq⟩ := choose_list len hQ
    refine ⟨ns, hal, sl_of_cells (D := noteD) (by show 0 < 5; omega) (fun y hy => ?_) (fun i hi => (hq i hi).2), by omega⟩
    obtain ⟨i, hi', e⟩ := List.getElem_of_mem hy
    rw [← e]
    exact (hq i hi').1
theorem tab_laid (h : laidMetH Tryz.prog Rows.lockNotesRow.laid W) : Tab W.heap.size W := by
  rw [MakeChecks.laidMetH_plain _ _ _ (by kernel_rfl)] at h
  obtain ⟨ps, ⟨_, _, _, _, _, q1, _, _, _, _, ⟨_, _, _, _, _, q2, _, _, _, _, ⟨g, t, cs, fuel, p, q, hg, ht, hvar, hd, _, _⟩, _⟩, _⟩, _⟩ := h
  have hg' : Tryz.prog.globalNamed tabName = some g := hg
  have hvar' : W.var? Tryz.prog tabName = some cs := hvar
  have e0 : (Tryz.prog.globalNamed tabName).bind (fun g => (Tryz.prog.globals[g]?).map (·.type)) = some 221 := by kernel_rfl
  rw [hg'] at e0
  obtain rfl : 221 = t := Option.some.inj (e0.symm.trans ht)
  refine Lib.tabBelow_of_tabIs ?_
  unfold Lib.TabIs
  rw [hvar', ← Lib.cells_of_tab (n := 20) (zs := Lib.pow10Tab) Tryz.underlying221 Tryz.underlying146 (by kernel_rfl) (by kernel_rfl) hd]
end

end Go.Proofs.YtaojnjealccjiaaGreatDoor
