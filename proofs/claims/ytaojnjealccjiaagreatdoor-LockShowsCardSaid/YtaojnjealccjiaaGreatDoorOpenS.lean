/- Opening an argument that is a list of acts, or of figures. -/
import Derived.Test.YtaojnjealccjiaaGreatDoorShows
import Derived.Test.YtaojnjealccjiaaGreatDoorRows
import Derived.Deep.Slices
import Derived.Deep.Fields
import Derived.Deep.Strs
import Derived.ChangeSame
import Derived.ProofKit
import Derived.OpenShut
import Derived.ShutString
import Derived.ChangeOld
import Derived.Lay
import Derived.SevenTiedAt
namespace Go.Proofs.YtaojnjealccjiaaGreatDoor
open Go.ChangeShapes Go.WideShapes Go.Deep Go.RowKit Go.ChangeAt
section
variable {H : Type} {enc : TypeId × Value → H} {P : Program} {w : World} {base : Nat} {spare : Nat → Bool} {held : Bool}
theorem open_slice_fields {t e : TypeId} {fs : Array Field} {fuel : Nat} {cs : List Value} {x : DataW H × List MemPlace} (ht : P.underlying t = some (.slice e)) (he : P.underlying e = some (.struct fs))
    (hone : oneCellFields P fs = true) (hC : P.cellsOf e = fs.size) (h : DataW.trod enc P w base spare held fuel t cs = some x) :
    (cs = [.slice none 0 0] ∧ x = (.nil, [])) ∨
    ∃ (a : Addr) (len cap m : Nat), cs = [.slice (some a) len cap] ∧ len ≤ cap ∧ cap ≤ maxLen ∧ m = (if spare a.block then cap else len) ∧
      ∀ i, i < m → ∃ (ys : List (DataW H × List MemPlace)) (n : Nat),
        ∀ (j : Nat) (f : Field), fs[j]? = some f → ∃ (v : Value) (y : DataW H × List MemPlace), w.cell? (a.add (i * fs.size + j)) = some v ∧ ys[j]? = some y ∧ DataW.trod enc P w base spare held n f.type [v] = some y := by
  rcases open_slice ht h with h0 | ⟨a, len, cap, m, n, D, Pl, hcs, hb, hl, hm, hmm, hx, hi⟩
  · exact .inl h0
  · refine .inr ⟨a, len, cap, m, hcs, hl, hm, hmm, fun i him => ?_⟩
    obtain ⟨cs', hc, ht'⟩ := hi i him
    rw [hC] at hc
    obtain ⟨ys, n', hn', hy, hlen, hyl, hf⟩ := DataW.trod_struct he ht'
    obtain ⟨_, hcl, hat⟩ := World.cells?_some hc
    refine ⟨ys, n', fun j f hj => ?_⟩
    obtain ⟨ho, hk⟩ := hone_of hone j f hj
    have hjl : j < fs.size := (Array.getElem?_eq_some_iff.1 hj).1
    have hcell := hat j hjl
    have hv : cs'[j]? = some (cs'[j]'(by omega)) := List.getElem?_eq_getElem (by omega)
    have h1 := hf j f hj
    rw [ho, hk] at h1
    have hone' : (cs'.drop j).take 1 = [cs'[j]'(by omega)] := by
      rw [List.drop_eq_getElem_cons (by omega)]
      rfl
    rw [hone'] at h1
    have hys : ys[j]? = some (ys[j]'(by omega)) := List.getElem?_eq_getElem (by omega)
    refine ⟨_, _, ?_, hys, h1.trans hys⟩
    rw [← Go.Deep.add_add, hcell, hv]
end

theorem choose_list {α : Type} {Q : Nat → α → Prop} : ∀ (n : Nat), (∀ i, i < n → ∃ x, Q i x) → ∃ l : List α, l.length = n ∧ ∀ i (h : i < l.length), Q i l[i]
  | 0, _ => ⟨[], rfl, fun i h => absurd h (Nat.not_lt_zero _)⟩
  | n + 1, h => by
    obtain ⟨l, hl, hq⟩ := choose_list n (fun i hi => h i (by omega))
    obtain ⟨x, hx⟩ := h n (by omega)
    refine ⟨l ++ [x], by simp [hl], fun i hi => ?_⟩
    by_cases e : i < l.length
    · rw [List.getElem_append_left e]; exact hq i e
    · have : i = n := by simp at hi; omega
      subst this
      rw [List.getElem_append_right (by omega)]
      simpa [hl] using hx

theorem open_acts {H : Type} {enc : TypeId × Value → H} {W : World} {a : Option Addr} {len cap : Nat} {d : DataW H} {p : List MemPlace}
    (h : DataW.Trod enc Tryz.prog W 0 (fun _ => true) true 23 (.slice a len cap) d p) : ∃ acts : List Kb.Akt, acts.length = len ∧ Lst aktV 4 W a acts ∧ len ≤ maxLen := by
  obtain ⟨fuel, hf⟩ := h
  rcases open_slice_fields Tryz.underlying23 Tryz.underlying47 (by kernel_rfl) (by kernel_rfl) hf with ⟨hcs, _⟩ | ⟨x, l, c, m, hcs, hl, hm, hmm, hi⟩
  · simp [Value.cells] at hcs
    obtain ⟨rfl, rfl, rfl⟩ := hcs
    exact ⟨[], rfl, Lst.nil, Nat.zero_le _⟩
  · simp [Value.cells] at hcs
    obtain ⟨rfl, rfl, rfl⟩ := hcs
    have hm' : m = cap := by simpa using hmm
    have hQ : ∀ i, i < len → ∃ y : Kb.Akt, ∀ (t : Nat) (v : Value), (aktV y)[t]? = some v → W.cell? (x.add (i * 4 + t)) = some v := fun i hil => by
      obtain ⟨ys, n, hf⟩ := hi i (by omega)
      obtain ⟨v0, y0, c0, _, t0⟩ := hf 0 _ rfl
      obtain ⟨v1, y1, c1, _, t1⟩ := hf 1 _ rfl
      obtain ⟨v2, y2, c2, _, t2⟩ := hf 2 _ rfl
      obtain ⟨v3, y3, c3, _, t3⟩ := hf 3 _ rfl
      obtain ⟨k0, e0, _, _⟩ := DataW.trod_int Tryz.underlying3 t0
      obtain ⟨k1, e1, _, _⟩ := DataW.trod_int Tryz.underlying3 t1
      obtain ⟨k2, e2, _, _⟩ := DataW.trod_int Tryz.underlying3 t2
      obtain ⟨s3, e3, _, _⟩ := DataW.trod_string Tryz.underlying9 t3
      simp at e0 e1 e2 e3
      subst e0 e1 e2 e3
      refine ⟨⟨k0, k1, k2, s3⟩, fun t v hv => ?_⟩
      match t, hv with
      | 0, hv => cases hv; exact c0
      | 1, hv => cases hv; exact c1
      | 2, hv => cases hv; exact c2
      | 3, hv => cases hv; exact c3
      | t + 4, hv => simp [aktV] at hv
    obtain ⟨acts, hal, hq⟩ := choose_list len hQ
    refine ⟨acts, hal, fun hne => ?_, by omega⟩
    have h0 : 0 < acts.length := by cases acts with
      | nil => exact absurd rfl hne
      | cons y r => simp
    have hc0 := hq 0 h0 0 _ rfl
    obtain ⟨b, off, spot⟩ := x
    have hspot : spot = none := by simpa [Addr.add] using World.cell?_spot hc0
    subst hspot
    refine ⟨b, off, rfl, by simpa [Addr.add_lit] using block_lt_of_cell hc0, fun j y hj i v hv => ?_⟩
    have hjl : j < acts.length := (List.getElem?_eq_some_iff.1 hj).1
    have ey : acts[j] = y := (List.getElem?_eq_some_iff.1 hj).2
    have := hq j hjl i v (by rw [ey]; exact hv)
    rw [Addr.add_lit] at this
    rw [Nat.add_assoc]
    exact this

section
variable {H : Type} {enc : TypeId × Value → H} {W : World}
theorem open_ints {fuel : Nat} {cs : List Value} {y : DataW H × List MemPlace} (h : DataW.trod enc Tryz.prog W 0 (fun _ => true) true fuel 38 cs = some y) :
    ∃ (A : Option Addr) (n c : Nat) (dg : List Int), cs = [.slice A n c] ∧ dg.length = n ∧ n ≤ maxLen ∧ Arr W A (dg.map iv) := by
  rcases open_slice Tryz.underlying38 h with ⟨h0, _⟩ | ⟨x, len, cap, m, n, D, Pl, hcs, hb, hl, hm, hmm, hx, hi⟩
  · exact ⟨none, 0, 0, [], h0, rfl, Nat.zero_le _, Arr.nil⟩
  · have hm' : m = cap := by simpa using hmm
    have e1 : Tryz.prog.cellsOf 3 = 1 := by kernel_rfl
    have hQ : ∀ i, i < len → ∃ z : Int, W.cell? (x.add i) = some (iv z) := fun i hil => by
      obtain ⟨cs', hc, ht⟩ := hi i (by omega)
      obtain ⟨z, ez, _, _⟩ := DataW.trod_int Tryz.underlying3 ht
      rw [e1] at hc
      obtain ⟨_, hcl, hat⟩ := World.cells?_some hc
      have h1 := hat 0 (by omega)
      rw [ez] at h1
      refine ⟨z, ?_⟩
      have h2 : (x.add (i * 1)).add 0 = x.add i := by simp [Addr.add]
      rw [h2] at h1
      exact h1
    obtain ⟨dg, hdl, hq⟩ := choose_list len hQ
    refine ⟨some x, len, cap, dg, hcs, hdl, by omega, fun hne => ?_⟩
    have h0 : 0 < dg.length := by cases dg with
      | nil => exact absurd rfl hne
      | cons y r => simp
    have hc0 := hq 0 h0
    obtain ⟨b, off, spot⟩ := x
    have hspot : spot = none := by simpa [Addr.add] using World.cell?_spot hc0
    subst hspot
    refine ⟨b, off, rfl, by simpa [Addr.add_lit] using block_lt_of_cell hc0, fun j v hv => ?_⟩
    rw [List.getElem?_map] at hv
    obtain ⟨z, hz, rfl⟩ := Option.map_eq_some_iff.1 hv
    have hjl : j < dg.length := (List.getElem?_eq_some_iff.1 hz).1
    have ez : dg[j] = z := (List.getElem?_eq_some_iff.1 hz).2
    have := hq j hjl
    rw [Addr.add_lit, ez] at this
    exact this
theorem open_big {fuel : Nat} {cs : List Value} {y : DataW H × List MemPlace} (h : DataW.trod enc Tryz.prog W 0 (fun _ => true) true fuel 54 cs = some y) :
    ∃ (s : Int) (A : Option Addr) (n c : Nat) (b : Bg.BigV), cs = [.int .i64 s, .slice A n c] ∧ IsBig maxLen W s A n b := by
  obtain ⟨y0, y1, n, _, hl, h0, h1⟩ := trod_struct2 Tryz.underlying54 h
  rw [show Tryz.prog.cellsOf 54 = 2 by kernel_rfl] at hl
  dsimp only at h0 h1
  rw [show Tryz.prog.cellsOf 3 = 1 by kernel_rfl] at h0
  rw [show Tryz.prog.cellsOf 38 = 1 by kernel_rfl] at h1
  obtain ⟨s, e0, _, _⟩ := DataW.trod_int Tryz.underlying3 h0
  obtain ⟨A, k, c, dg, e1, hd, hk, ha⟩ := open_ints h1
  match cs, hl with
  | [u0, u1], _ =>
    simp at e0 e1
    subst e0 e1
    exact ⟨s, A, k, c, ⟨s, dg⟩, rfl, rfl, hd, hk, ha⟩
theorem open_frac {fuel : Nat} {cs : List Value} {y : DataW H × List MemPlace} (h : DataW.trod enc Tryz.prog W 0 (fun _ => true) true fuel 56 cs = some y) :
    ∃ (s : Int) (A : Option Addr) (n c : Nat) (s' : Int) (A' : Option Addr) (n' c' : Nat) (f : Bg.FracV), cs = [.int .i64 s, .slice A n c, .int .i64 s', .slice A' n' c'] ∧ IsFrac maxLen W s A n s' A' n' f := by
  obtain ⟨y0, y1, n, _, hl, h0, h1⟩ := trod_struct2 Tryz.underlying56 h
  rw [show Tryz.prog.cellsOf 56 = 4 by kernel_rfl] at hl
  dsimp only at h0 h1
  rw [show Tryz.prog.cellsOf 54 = 2 by kernel_rfl] at h0 h1
  obtain ⟨s, A, k, c, b, e0, i0⟩ := open_big h0
  obtain ⟨s', A', k', c', b', e1, i1⟩ := open_big h1
  match cs, hl with
  | [u0, u1, u2, u3], _ =>
    simp at e0 e1
    obtain ⟨rfl, rfl⟩ := e0
    obtain ⟨rfl, rfl⟩ := e1
    exact ⟨s, A, k, c, s', A', k', c', ⟨b, b'⟩, rfl, i0, i1⟩
theorem open_span {fuel : Nat} {cs : List Value} {y : DataW H × List MemPlace} (h : DataW.trod enc Tryz.prog W 0 (fun _ => true) true fuel 58 cs = some y) :
    ∃ (s1 : Int) (A1 : Option Addr) (n1 c1 : Nat) (s2 : Int) (A2 : Option Addr) (n2 c2 : Nat) (s3 : Int) (A3 : Option Addr) (n3 c3 : Nat) (s4 : Int) (A4 : Option Addr) (n4 c4 : Nat) (x : Bg.SpanV),
      cs = [.int .i64 s1, .slice A1 n1 c1, .int .i64 s2, .slice A2 n2 c2, .int .i64 s3, .slice A3 n3 c3, .int .i64 s4, .slice A4 n4 c4] ∧ IsSpan maxLen W s1 A1 n1 s2 A2 n2 s3 A3 n3 s4 A4 n4 x := by
  obtain ⟨y0, y1, n, _, hl, h0, h1⟩ := trod_struct2 Tryz.underlying58 h
  rw [show Tryz.prog.cellsOf 58 = 8 by kernel_rfl] at hl
  dsimp only at h0 h1
  rw [show Tryz.prog.cellsOf 56 = 4 by kernel_rfl] at h0 h1
  obtain ⟨s1, A1, n1, c1, s2, A2, n2, c2, f, e0, i0⟩ := open_frac h0
  obtain ⟨s3, A3, n3, c3, s4, A4, n4, c4, f', e1, i1⟩ := open_frac h1
  match cs, hl with
  | [u0, u1, u2, u3, u4, u5, u6, u7], _ =>
    simp at e0 e1
    obtain ⟨rfl, rfl, rfl, rfl⟩ := e0
    obtain ⟨rfl, rfl, rfl, rfl⟩ := e1
    exact ⟨s1, A1, n1, c1, s2, A2, n2, c2, s3, A3, n3, c3, s4, A4, n4, c4, ⟨f, f'⟩, rfl, i0, i1⟩
theorem open_shown {fuel : Nat} {cs : List Value} {y : DataW H × List MemPlace} (h : DataW.trod enc Tryz.prog W 0 (fun _ => true) true fuel 60 cs = some y) :
    ∃ (r : Raw) (x : Bg.ShownV), cs = r.cells ∧ IsShown maxLen W r x ∧ r.k.size ≤ maxLen := by
  obtain ⟨y0, y1, y2, n, _, hl, h0, h1, h2⟩ := Go.Deep.trod_struct3 Tryz.underlying60 h
  rw [show Tryz.prog.cellsOf 60 = 10 by kernel_rfl] at hl
  dsimp only at h0 h1 h2
  rw [show Tryz.prog.cellsOf 9 = 1 by kernel_rfl] at h0
  rw [show Tryz.prog.cellsOf 3 = 1 by kernel_rfl] at h1
  rw [show Tryz.prog.cellsOf 58 = 8 by kernel_rfl] at h2
  obtain ⟨k, e0, _, hk⟩ := DataW.trod_string Tryz.underlying9 h0
  obtain ⟨nt, e1, _, _⟩ := DataW.trod_int Tryz.underlying3 h1
  obtain ⟨s1, A1, n1, c1, s2, A2, n2, c2, s3, A3, n3, c3, s4, A4, n4, c4, x, e2, i2⟩ := open_span h2
  match cs, hl with
  | [u0, u1, u2, u3, u4, u5, u6, u7, u8, u9], _ =>
    simp at e0 e1 e2
    subst e0 e1
    obtain ⟨rfl, rfl, rfl, rfl, rfl, rfl, rfl, rfl⟩ := e2
    exact ⟨⟨k, nt, s1, A1, n1, c1, s2, A2, n2, c2, s3, A3, n3, c3, s4, A4, n4, c4⟩, ⟨k, nt, x⟩, rfl, ⟨rfl, rfl, i2⟩, hk⟩
theorem open_figs {a : Option Addr} {len cap : Nat} {d : DataW H} {p : List MemPlace}
    (h : DataW.Trod enc Tryz.prog W 0 (fun _ => true) true 22 (.slice a len cap) d p) : ∃ (rs : List Raw) (l : List Bg.ShownV), l.length = len ∧ ShIn W a rs l ∧ len ≤ maxLen := by
  obtain ⟨fuel, hf⟩ := h
  rcases open_slice Tryz.underlying22 hf with ⟨hcs, _⟩ | ⟨x, len', cap', m, n, D, Pl, hcs, hb, hl, hm, hmm, hx, hi⟩
  · simp [Value.cells] at hcs
    obtain ⟨rfl, rfl, rfl⟩ := hcs
    exact ⟨[], [], rfl, ⟨Lst.nil, rfl, fun j r x hr => by simp at hr⟩, Nat.zero_le _⟩
  · simp [Value.cells] at hcs
    obtain ⟨rfl, rfl, rfl⟩ := hcs
    have hm' : m = cap := by simpa using hmm
    have hQ : ∀ i, i < len → ∃ y : Raw × Bg.ShownV, (∀ (t : Nat) (v : Value), y.1.cells[t]? = some v → W.cell? (x.add (i * 10 + t)) = some v) ∧ IsShown maxLen W y.1 y.2 ∧ y.1.k.size ≤ maxLen := fun i hil => by
      obtain ⟨cs', hc, ht⟩ := hi i (by omega)
      obtain ⟨r, y, e, hs, hk⟩ := open_shown ht
      rw [show Tryz.prog.cellsOf 60 = 10 by kernel_rfl] at hc
      obtain ⟨_, hcl, hat⟩ := World.cells?_some hc
      refine ⟨(r, y), fun t v hv => ?_, hs, hk⟩
      have ht10 : t < 10 := by
        have := (List.getElem?_eq_some_iff.1 hv).1
        rw [← e] at this
        omega
      rw [← Go.Deep.add_add, hat t ht10, e]
      exact hv
    obtain ⟨ys, hal, hq⟩ := choose_list len hQ
    refine ⟨ys.map (·.1), ys.map (·.2), by simpa using hal, ⟨fun hne => ?_, by simp, fun j r y hr hy => ?_⟩, by omega⟩
    · have h0 : 0 < ys.length := by cases ys with
        | nil => exact absurd rfl hne
        | cons y r => simp
      have hc0 := (hq 0 h0).1 0 _ rfl
      obtain ⟨b, off, spot⟩ := x
      have hspot : spot = none := by simpa [Addr.add] using World.cell?_spot hc0
      subst hspot
      refine ⟨b, off, rfl, by simpa [Addr.add_lit] using block_lt_of_cell hc0, fun j y hj i v hv => ?_⟩
      rw [List.getElem?_map] at hj
      obtain ⟨z, hz, rfl⟩ := Option.map_eq_some_iff.1 hj
      have hjl : j < ys.length := (List.getElem?_eq_some_iff.1 hz).1
      have ey : ys[j] = z := (List.getElem?_eq_some_iff.1 hz).2
      have := (hq j hjl).1 i v (by rw [ey]; exact hv)
      rw [Addr.add_lit] at this
      rw [Nat.add_assoc]
      exact this
    · rw [List.getElem?_map] at hr hy
      obtain ⟨z, hz, rfl⟩ := Option.map_eq_some_iff.1 hr
      obtain ⟨z', hz', rfl⟩ := Option.map_eq_some_iff.1 hy
      rw [hz] at hz'
      obtain rfl := Option.some.inj hz'
      have hjl : j < ys.length := (List.getElem?_eq_some_iff.1 hz).1
      have ey : ys[j] = z := (List.getElem?_eq_some_iff.1 hz).2
      have := (hq j hjl).2
      rw [ey] at this
      exact this
theorem figs_names {a : Option Addr} {rs : List Raw} {l : List Bg.ShownV} (h : ShIn W a rs l) : ∀ r ∈ rs, r.k.size ≤ maxLen := fun r hr => by
  obtain ⟨j, hj, e⟩ := List.getElem_of_mem hr
  have hjl : j < l.length := by rw [← h.2.1]; exact hj
  exact (h.2.2 j r l[j] (by rw [List.getElem?_eq_getElem hj, e]) (List.getElem?_eq_getElem hjl)).2
end

end Go.Proofs.YtaojnjealccjiaaGreatDoor
