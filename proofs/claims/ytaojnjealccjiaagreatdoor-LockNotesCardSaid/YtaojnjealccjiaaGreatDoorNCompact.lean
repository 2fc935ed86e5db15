/- slices.CompactFunc over a row of items of the call's own. -/
import Derived.Test.YtaojnjealccjiaaGreatDoorNSort
import Derived.Deep.RegionHeld3
import Derived.Deep.DeepCutAuto
import Derived.Laws.IdiomCopy
import Derived.Lib.SliceRun
import Derived.IntWalk
namespace Go.Proofs.YtaojnjealccjiaaGreatDoor
open Go Go.RowKit Nt Go.Proofs Go.Lib
set_option linter.unusedVariables false
set_option linter.unusedSimpArgs false

section
variable {α β : Type}
/-- the element's key differs from that of the one before -/
def KeepAt (key : α → β) (xs : List α) (j : Nat) : Prop := j = 0 ∨ xs[j]?.map key ≠ xs[j - 1]?.map key
open Classical in
/-- what CompactFunc keeps of the first j -/
noncomputable def cptK (key : α → β) (xs : List α) : Nat → List α
  | 0 => []
  | j + 1 => cptK key xs j ++ (if KeepAt key xs j then xs[j]?.toList else [])
variable {key : α → β} {xs : List α}
theorem cptK_keep {j : Nat} (hj : j < xs.length) (h : KeepAt key xs j) : cptK key xs (j + 1) = cptK key xs j ++ [xs[j]] := by
  rw [cptK, if_pos h, List.getElem?_eq_getElem hj]; rfl
theorem cptK_skip {j : Nat} (h : ¬ KeepAt key xs j) : cptK key xs (j + 1) = cptK key xs j := by
  rw [cptK, if_neg h]; simp
theorem cptK_all : ∀ j, j ≤ xs.length → (∀ t, t < j → KeepAt key xs t) → cptK key xs j = xs.take j
  | 0, _, _ => by simp [cptK]
  | j + 1, h, hk => by
    rw [cptK_keep (by omega) (hk j (by omega)), cptK_all j (by omega) (fun t ht => hk t (by omega)), List.take_succ_eq_append_getElem (by omega)]
theorem cptK_sub : ∀ j, j ≤ xs.length → ∀ x ∈ cptK key xs j, x ∈ xs
  | 0, _, x, hx => by simp [cptK] at hx
  | j + 1, h, x, hx => by
    by_cases hk : KeepAt key xs j
    · rw [cptK_keep (by omega) hk, List.mem_append, List.mem_singleton] at hx
      rcases hx with hx | rfl
      · exact cptK_sub j (by omega) x hx
      · exact List.getElem_mem _
    · rw [cptK_skip hk] at hx
      exact cptK_sub j (by omega) x hx
theorem not_keep {j : Nat} (hj : j < xs.length) (hk : ¬ KeepAt key xs j) : ∃ h1 : j - 1 < xs.length, 1 ≤ j ∧ key xs[j] = key xs[j - 1] := by
  unfold KeepAt at hk
  simp only [not_or, ne_eq, Classical.not_not] at hk
  refine ⟨by omega, by omega, ?_⟩
  have := hk.2
  rw [List.getElem?_eq_getElem hj, List.getElem?_eq_getElem (by omega : j - 1 < xs.length)] at this
  simpa using this
theorem cptK_mem : ∀ j, j ≤ xs.length → ∀ z, z ∈ (cptK key xs j).map key ↔ z ∈ (xs.take j).map key
  | 0, _, z => by simp [cptK]
  | j + 1, h, z => by
    have ih := cptK_mem j (by omega) z
    rw [List.take_succ_eq_append_getElem (show j < xs.length by omega), List.map_append, List.mem_append, ← ih]
    by_cases hk : KeepAt key xs j
    · rw [cptK_keep (by omega) hk, List.map_append, List.mem_append]
    · rw [cptK_skip hk]
      constructor
      · exact .inl
      · rintro (m | m)
        · exact m
        · rw [ih]
          obtain ⟨h1, h2, e⟩ := not_keep (show j < xs.length by omega) hk
          simp only [List.map_cons, List.map_nil, List.mem_singleton] at m
          rw [m, e]
          refine List.mem_map_of_mem ?_
          rw [List.mem_iff_getElem]
          exact ⟨j - 1, by simp; omega, by rw [List.getElem_take]⟩
theorem cptK_strict {lt : β → β → Prop} (hs : (xs.map key).Pairwise (fun a b => ¬ lt b a)) (htri : ∀ a ∈ xs, ∀ b ∈ xs, ¬ lt (key a) (key b) → ¬ lt (key b) (key a) → key a = key b) : ∀ j, j ≤ xs.length → ((cptK key xs j).map key).Pairwise lt
  | 0, _ => by simp [cptK]
  | j + 1, h => by
    have ih := cptK_strict hs htri j (by omega)
    by_cases hk : KeepAt key xs j
    · rw [cptK_keep (by omega) hk, List.map_append, List.pairwise_append]
      refine ⟨ih, by simp, fun y hy z hz => ?_⟩
      simp only [List.map_cons, List.map_nil, List.mem_singleton] at hz
      subst hz
      rw [cptK_mem j (by omega), List.mem_map] at hy
      obtain ⟨a, ha, rfl⟩ := hy
      rw [List.mem_iff_getElem] at ha
      obtain ⟨t, ht, e⟩ := ha
      rw [List.getElem_take] at e
      have htj : t < j := by simp at ht; omega
      have hle : ∀ a b (ha : a < xs.length) (hb : b < xs.length), a < b → ¬ lt (key xs[b]) (key xs[a]) := fun a b ha hb hab => by
        have := List.pairwise_iff_getElem.1 hs a b (by simpa using ha) (by simpa using hb) hab
        simpa using this
      have h1 : ¬ lt (key xs[j]) (key xs[t]) := hle t j (by omega) (by omega) htj
      rw [← e]
      by_cases h2 : lt (key xs[t]) (key xs[j])
      · exact h2
      · exfalso
        have e3 : key xs[t] = key xs[j] := htri _ (List.getElem_mem _) _ (List.getElem_mem _) h2 h1
        rcases hk with rfl | hk
        · omega
        · apply hk
          rw [List.getElem?_eq_getElem (by omega : j < xs.length), List.getElem?_eq_getElem (by omega : j - 1 < xs.length)]
          simp only [Option.map_some, Option.some.injEq]
          by_cases h5 : t = j - 1
          · subst h5; exact e3.symm
          · have h6 : ¬ lt (key xs[j - 1]) (key xs[t]) := hle t (j - 1) (by omega) (by omega) (by omega)
            have h7 : ¬ lt (key xs[j]) (key xs[j - 1]) := hle (j - 1) j (by omega) (by omega) (by omega)
            rw [← e3] at h7
            rw [← e3]
            exact htri _ (List.getElem_mem _) _ (List.getElem_mem _) h7 h6
    · rw [cptK_skip hk]; exact ih
def CInvK (key : α → β) (xs dk : List α) (i j : Nat) : Prop :=
  dk.length = xs.length ∧ 1 ≤ j ∧ j ≤ xs.length ∧ i < j ∧ dk.take i = cptK key xs j ∧ ∀ t, j - 1 ≤ t → dk[t]? = xs[t]?
variable {dk : List α} {i j k t : Nat}
theorem CInvK.start (hk : k < xs.length) (h1 : ∀ t, t < k → KeepAt key xs t) (h2 : ¬ KeepAt key xs k) : CInvK key xs xs k (k + 1) :=
  ⟨rfl, by omega, hk, by omega, by rw [cptK_skip h2, cptK_all k (by omega) h1], fun _ _ => rfl⟩
theorem CInvK.keep (h : CInvK key xs dk i j) (hj : j < xs.length) (hk : KeepAt key xs j) : CInvK key xs (dk.set i xs[j]) (i + 1) (j + 1) := by
  obtain ⟨hl, h1, hjl, hij, ht, hh⟩ := h
  refine ⟨by simpa using hl, by omega, hj, by omega, ?_, fun t htt => ?_⟩
  · have hs : (dk.take i).set i xs[j] = dk.take i := List.set_eq_of_length_le (by simp; omega)
    rw [List.take_succ_eq_append_getElem (by simp; omega), cptK_keep hj hk, ← ht]
    simp [List.take_set, hs]
  · rw [List.getElem?_set_ne (by omega)]
    exact hh t (by omega)
theorem CInvK.skip (h : CInvK key xs dk i j) (hj : j < xs.length) (hk : ¬ KeepAt key xs j) : CInvK key xs dk i (j + 1) := by
  obtain ⟨hl, h1, hjl, hij, ht, hh⟩ := h
  exact ⟨hl, by omega, hj, by omega, by rw [cptK_skip hk, ht], fun t htt => hh t (by omega)⟩
theorem CInvK.done (h : CInvK key xs dk i xs.length) : dk.take i = cptK key xs xs.length ∧ (cptK key xs xs.length).length = i :=
  ⟨h.2.2.2.2.1, by rw [← h.2.2.2.2.1, List.length_take]; have := h.1; have := h.2.2.2.1; omega⟩
end

/-! ### rows of items -/
theorem RowD.note {w : World} {g : Nat} {rs : List NoteR} (h : RowD noteD w g rs) {j : Nat} {x : NoteR} (hx : rs[j]? = some x) :
    (w.cell? ⟨g, j * 5, none⟩ = some (.int .i64 x.v.house) ∧ w.cell? ⟨g, j * 5 + 1, none⟩ = some (.int .i64 x.v.no) ∧ w.cell? ⟨g, j * 5 + 2, none⟩ = some (.int .i64 x.v.day) ∧ w.cell? ⟨g, j * 5 + 3, none⟩ = some (.slice x.A x.v.needs.length x.c) ∧ w.cell? ⟨g, j * 5 + 4, none⟩ = some (.string x.v.text)) ∧ w.frozen? ⟨g, j * 5, none⟩ = false ∧ w.frozen? ⟨g, j * 5 + 1, none⟩ = false ∧ w.frozen? ⟨g, j * 5 + 2, none⟩ = false ∧ w.frozen? ⟨g, j * 5 + 3, none⟩ = false ∧ w.frozen? ⟨g, j * 5 + 4, none⟩ = false :=
  ⟨⟨(h j x hx 0 _ rfl).1, (h j x hx 1 _ rfl).1, (h j x hx 2 _ rfl).1, (h j x hx 3 _ rfl).1, (h j x hx 4 _ rfl).1⟩, (h j x hx 0 _ rfl).2, (h j x hx 1 _ rfl).2, (h j x hx 2 _ rfl).2, (h j x hx 3 _ rfl).2, (h j x hx 4 _ rfl).2⟩
theorem RowD.set {α : Type} {D : Dat α} {w : World} {g : Nat} {xs : List α} (h : RowD D w g xs) {i : Nat} (hi : i < xs.length) (u : α) : RowD D (w.setCells g (i * D.k) (D.cells u)) g (xs.set i u) := fun j x hx c v hv => by
  obtain ⟨hc, ev⟩ := List.getElem?_eq_some_iff.1 hv
  have hck : c < D.k := by rw [D.len] at hc; exact hc
  have hjl : j < xs.length := by have := (List.getElem?_eq_some_iff.1 hx).1; simpa using this
  have old := h j xs[j] (List.getElem?_eq_getElem hjl) c _ (List.getElem?_eq_getElem (by rw [D.len]; exact hck))
  refine ⟨?_, (World.frozen?_setCells g _ _ w _).trans old.2⟩
  by_cases e : i = j
  · subst e
    rw [List.getElem?_set_self hi] at hx
    cases hx
    rw [← ev]
    exact World.cell?_setCells_in g (D.cells u) (i * D.k) w (fun q hq => by
      have hqk : q < D.k := by rw [D.len] at hq; exact hq
      rw [(h i xs[i] (List.getElem?_eq_getElem hi) q _ (List.getElem?_eq_getElem (by rw [D.len]; exact hqk))).1]
      rfl) c hc
  · rw [List.getElem?_set_ne e] at hx
    rw [World.cell?_setCells_out g _ _ w _ (fun _ _ => by
      show j * D.k + c < i * D.k ∨ i * D.k + (D.cells u).length ≤ j * D.k + c
      rw [D.len]
      rcases Nat.lt_or_ge j i with q | q
      · left
        have := Nat.mul_le_mul_right D.k (show j + 1 ≤ i from q)
        rw [Nat.add_mul, Nat.one_mul] at this
        omega
      · right
        have := Nat.mul_le_mul_right D.k (show i + 1 ≤ j by omega)
        rw [Nat.add_mul, Nat.one_mul] at this
        omega)]
    exact (h j x hx c v hv).1
theorem RowD.cleared {α : Type} {D : Dat α} {w : World} {g : Nat} {xs : List α} (h : RowD D w g xs) (vs : List Value) (i : Nat) (hi : xs.length ≤ i) : RowD D (w.setCells g (i * D.k) vs) g xs := fun j x hx c v hv => by
  obtain ⟨hc, ev⟩ := List.getElem?_eq_some_iff.1 hv
  have hck : c < D.k := by rw [D.len] at hc; exact hc
  have hjl : j < xs.length := (List.getElem?_eq_some_iff.1 hx).1
  refine ⟨?_, (World.frozen?_setCells g _ _ w _).trans (h j x hx c v hv).2⟩
  rw [World.cell?_setCells_out g _ _ w _ (fun _ _ => by
    left
    show j * D.k + c < i * D.k
    have := Nat.mul_le_mul_right D.k (show j + 1 ≤ i by omega)
    rw [Nat.add_mul, Nat.one_mul] at this
    omega)]
  exact (h j x hx c v hv).1
theorem keeps_sets (g : Nat) : ∀ (vs : List Value) (o : Nat) (w : World), Keeps (fun b => b ≠ g) w (w.setCells g o vs)
  | [], _, w => Keeps.refl _ _
  | v :: r, o, w => Keeps.trans (b := w.setCell ⟨g, o, none⟩ v) ⟨by simp [World.setCell], fun b hb hne => by
      show (w.heap.modify g _)[b]? = _
      rw [Array.getElem?_modify, if_neg (fun e => hne e.symm)]⟩ (keeps_sets g r (o + 1) _)
theorem below_sets' {B : Nat} {a : World} {g : Nat} (hg : B ≤ g) : ∀ (vs : List Value) (o : Nat) {w : World}, Below B a w → Below B a (w.setCells g o vs)
  | [], _, _, h => h
  | v :: r, o, w, h => below_sets' hg r (o + 1) (h.setCell (p := ⟨g, o, none⟩) hg v)

/-- what the loops keep beside the row -/
structure CW (B g bx : Nat) (rs : List NoteR) (w0 wr : World) : Prop where
  deep : ∀ r ∈ rs, Sl refD wr (fun b => b ≠ g) r.A r.v.needs
  box : wr.cell? ⟨bx, 0, none⟩ = some (.func (.func 66) #[] #[])
  boxlt : bx < wr.heap.size
  boxne : bx ≠ g
  lt : g < wr.heap.size
  base : B ≤ wr.heap.size
  low : B ≤ g
  bel : Below B w0 wr
  tab : Tab B wr
theorem CW.keep {B g bx : Nat} {rs : List NoteR} {w0 wr w' : World} (h : CW B g bx rs w0 wr) (hk : Keeps (fun b => b ≠ g) wr w') (hb : Below B wr w') : CW B g bx rs w0 w' :=
  ⟨fun r hr => (h.deep r hr).keep hk, (World.cell?_of_block (a := ⟨bx, 0, none⟩) (hk.2 bx h.boxlt h.boxne)).trans h.box, Nat.lt_of_lt_of_le h.boxlt hk.1, h.boxne, Nat.lt_of_lt_of_le h.lt hk.1, Nat.le_trans h.base hk.1, h.low, h.bel.trans hb, h.tab.on hb⟩
theorem CW.below {B g bx : Nat} {rs : List NoteR} {w0 wr w' : World} (h : CW B g bx rs w0 wr) (hb : Below wr.heap.size wr w') : CW B g bx rs w0 w' := h.keep (Keeps.of_below hb) (hb.mono h.base)
theorem CW.sets {B g bx : Nat} {rs : List NoteR} {w0 wr : World} (h : CW B g bx rs w0 wr) (vs : List Value) (o : Nat) : CW B g bx rs w0 (wr.setCells g o vs) := h.keep (keeps_sets g vs o wr) (below_sets' h.low vs o (Below.refl B wr))

set_option maxHeartbeats 400000 in
theorem sorted_eq (x y : NoteR) (bx : Nat) (S : Nat → Prop) {B : Nat} (w : World) (hx : Sl refD w S x.A x.v.needs) (hy : Sl refD w S y.A y.v.needs) (hbx : w.cell? ⟨bx, 0, none⟩ = some (.func (.func 66) #[] #[])) (hlt : bx < w.heap.size) (ht : Tab B w) (hB : B ≤ w.heap.size) (rx : rightN x.v = true) (ry : rightN y.v = true) :
    Calls Tryz.prog 93 #[.agg #[.int .i64 x.v.house, .int .i64 x.v.no, .int .i64 x.v.day, .slice x.A x.v.needs.length x.c, .string x.v.text], .agg #[.int .i64 y.v.house, .int .i64 y.v.no, .int .i64 y.v.day, .slice y.A y.v.needs.length y.c, .string y.v.text], .pointer (some ⟨bx, 0, none⟩)] w (SaysN (cmpN x.v y.v == 0) w) := by
  have hb2 : Below w.heap.size w ((w.alloc (.cells #[.int .i64 x.v.house, .int .i64 x.v.no, .int .i64 x.v.day, .slice x.A x.v.needs.length x.c, .string x.v.text] 95)).alloc (.cells #[.int .i64 y.v.house, .int .i64 y.v.no, .int .i64 y.v.day, .slice y.A y.v.needs.length y.c, .string y.v.text] 95)) := ((Below.refl _ _).alloc (Nat.le_refl _) _).alloc (by simp) _
  have hc := Lib.hid (item_compare x.v y.v x.A y.A x.c y.c S (B := B) _ (ht.next hB hb2) (Nat.le_trans hB hb2.size) (hx.below hb2) (hy.below hb2) rx ry)
  have HB2 := Lib.hid hb2
  clear hx hy ht rx ry hb2
  go_enter Tryz.func93, Tryz.ntmps93
  go_wp2_with fail
  refine hc.out.mono ?_
  rintro e w1 ⟨rfl, hb1⟩
  have HB1 := Lib.hid (HB2.out.trans (hb1.mono HB2.out.size))
  clear hb1
  go_wp2_with fail
  go_ret
  exact ⟨rfl, HB1.out⟩

theorem CW.drew {B g bx : Nat} {rs : List NoteR} {w0 wr : World} (h : CW B g bx rs w0 wr) : CW B g bx rs w0 wr.drew := h.keep ⟨Nat.le_refl _, fun _ _ _ => rfl⟩ (Below.refl _ _).drew
theorem keep_iff {rs : List NoteR} {k : Nat} {x y : NoteR} (hk : 1 ≤ k) (hx : rs[k]? = some x) (hy : rs[k - 1]? = some y) : KeepAt NoteR.v rs k ↔ x.v ≠ y.v := by
  unfold KeepAt
  rw [hx, hy]
  simp only [Option.map_some, ne_eq, Option.some.injEq]
  constructor
  · rintro (h | h)
    · omega
    · exact h
  · exact .inr
theorem eq_closure {B g bx : Nat} {rs : List NoteR} {w0 : World} {x y : NoteR} (hx : x ∈ rs) (hy : y ∈ rs) (hr : ∀ r ∈ rs, rightN r.v = true) (W : World) (h : CW B g bx rs w0 W) :
    Calls Tryz.prog 93 #[.agg #[.int .i64 x.v.house, .int .i64 x.v.no, .int .i64 x.v.day, .slice x.A x.v.needs.length x.c, .string x.v.text], .agg #[.int .i64 y.v.house, .int .i64 y.v.no, .int .i64 y.v.day, .slice y.A y.v.needs.length y.c, .string y.v.text], .pointer (some ⟨bx, 0, none⟩)] W (SaysN (cmpN x.v y.v == 0) W) :=
  sorted_eq x y bx (fun b => b ≠ g) W (h.deep x hx) (h.deep y hy) h.box h.boxlt h.tab h.base (hr x hx) (hr y hy)
/-- 'clear(s)' at items -/
theorem run_clear_items (w : World) (g i n c : Nat) (hn : 0 < n) (hr : ∀ j, j < n * 5 → (w.cell? ⟨g, i * 5 + j, none⟩).isSome = true ∧ w.frozen? ⟨g, i * 5 + j, none⟩ = false) :
    ∃ vs : List Value, ∀ ty, (Builtin.clear_ #[71] ty #[.slice (some ⟨g, i * 5, none⟩) n c]).run Tryz.prog w = .ok (.tuple #[]) (w.setCells g (i * 5) vs) := by
  have hv : ∀ w, (zeroValue 95).run Tryz.prog w = .ok (.agg #[.int .i64 0, .int .i64 0, .int .i64 0, .slice none 0 0, .string ⟨#[]⟩]) w := fun _ => by kernel_rfl
  have hz : (Value.agg #[.int .i64 0, .int .i64 0, .int .i64 0, .slice none 0 0, .string ⟨#[]⟩]).cells = #[.int .i64 0, .int .i64 0, .int .i64 0, .slice none 0 0, .string ⟨#[]⟩] := rfl
  refine ⟨(Builtin.zeroCells #[.int .i64 0, .int .i64 0, .int .i64 0, .slice none 0 0, .string ⟨#[]⟩] n).toList, fun ty => ?_⟩
  have hlen : (Builtin.zeroCells #[.int .i64 0, .int .i64 0, .int .i64 0, .slice none 0 0, .string ⟨#[]⟩] n).toList.length = n * 5 := by simp [Builtin.zeroCells]
  have hst := run_storeCells_cells (P := Tryz.prog) g (i * 5) (Builtin.zeroCells #[.int .i64 0, .int .i64 0, .int .i64 0, .slice none 0 0, .string ⟨#[]⟩] n).toList 0 w
    (fun j hj => (hr j (by rw [hlen] at hj; omega)).1) (fun j hj => (hr j (by rw [hlen] at hj; omega)).2) (by
      intro v hv'
      obtain ⟨k, hk, e⟩ := List.getElem_of_mem hv'
      simp only [Builtin.zeroCells, Array.toList_map, List.getElem_map, Array.getElem_toList, Array.getElem_range] at e
      have h4 : k % 5 = 0 ∨ k % 5 = 1 ∨ k % 5 = 2 ∨ k % 5 = 3 ∨ k % 5 = 4 := by omega
      rw [← e]
      rcases h4 with h | h | h | h | h <;> simp [h, Value.oneCell'])
  simp only [Nat.add_zero] at hst
  obtain ⟨m, rfl⟩ : ∃ m, n = m + 1 := ⟨n - 1, by omega⟩
  simp only [Builtin.clear_]
  simp [run_underlying Tryz.underlying71, hv, hz, hst]
theorem RowD.some_ {w : World} {g : Nat} {rs : List NoteR} (h : RowD noteD w g rs) {j : Nat} (hj : j < rs.length * 5) : (w.cell? ⟨g, j, none⟩).isSome = true ∧ w.frozen? ⟨g, j, none⟩ = false := by
  have hq : j / 5 < rs.length := by omega
  obtain ⟨⟨c0, c1, c2, c3, c4⟩, f0, f1, f2, f3, f4⟩ := h.note (List.getElem?_eq_getElem hq)
  have h4 : j = j / 5 * 5 ∨ j = j / 5 * 5 + 1 ∨ j = j / 5 * 5 + 2 ∨ j = j / 5 * 5 + 3 ∨ j = j / 5 * 5 + 4 := by omega
  generalize j / 5 * 5 = o at *
  rcases h4 with rfl | rfl | rfl | rfl | rfl
  · exact ⟨by rw [c0]; rfl, f0⟩
  · exact ⟨by rw [c1]; rfl, f1⟩
  · exact ⟨by rw [c2]; rfl, f2⟩
  · exact ⟨by rw [c3]; rfl, f3⟩
  · exact ⟨by rw [c4]; rfl, f4⟩
def CompPost (B g bx cap : Nat) (rs : List NoteR) (w0 : World) (e : Ending) (w' : World) : Prop :=
  e = .returned (.slice (some ⟨g, 0, none⟩) (cptK NoteR.v rs rs.length).length cap) ∧ RowD noteD w' g (cptK NoteR.v rs rs.length) ∧ CW B g bx rs w0 w'
theorem compact_short (A : Option Addr) (n cap : Nat) (fv : Value) (w : World) (h : n < 2) : Calls Tryz.prog 92 #[.slice A n cap, fv] w fun e w' => e = .returned (.slice A n cap) ∧ w = w' := by
  go_enter Tryz.func92, Tryz.ntmps92
  go_wp2_with fail
  go_ret
  exact ⟨rfl, rfl⟩

set_option maxHeartbeats 8000000 in
set_option maxRecDepth 100000 in
theorem compact_items (B g bx cap : Nat) (rs : List NoteR) (w0 w : World) (hcap : rs.length ≤ cap) (hcm : cap ≤ maxLen) (hrow : RowD noteD w g rs) (hcw : CW B g bx rs w0 w) (hright : ∀ r ∈ rs, rightN r.v = true) (h2 : 2 ≤ rs.length) :
    Calls Tryz.prog 92 #[.slice (some ⟨g, 0, none⟩) rs.length cap, .func (.func 93) #[] #[.pointer (some ⟨bx, 0, none⟩)]] w (CompPost B g bx cap rs w0) := by
  unfold maxLen at hcm
  have HR := Lib.hid hrow
  have HC := Lib.hid hcw
  have HRT := Lib.hid hright
  have fin0 : (∀ t, t < rs.length → KeepAt NoteR.v rs t) → cptK NoteR.v rs rs.length = rs := fun h => by rw [cptK_all _ (Nat.le_refl _) h, List.take_length]
  have HF := Lib.hid fin0
  clear fin0 hrow hcw hright
  generalize hn : rs.length = n at *
  have HN := Lib.hid hn
  clear hn
  go_enter Tryz.func92, Tryz.ntmps92
  go_wp2_with fail
  go_loopw [5] (fun s5 wr => ∃ k : Nat, 1 ≤ k ∧ k ≤ n ∧ s5 = .int .i64 k ∧ Hid (∀ t, t < k → KeepAt NoteR.v rs t) ∧ Hid (RowD noteD wr g rs) ∧ Hid (CW B g bx rs w0 wr)) (fun s5 _ => n - (intOf s5).toNat)
  case atStart => exact ⟨1, Nat.le_refl _, by omega, rfl, fun t ht => .inl (by omega), HR.out, HC.out⟩
  case round =>
    clear HR HC
    obtain ⟨k, hk1, hkn, rfl, HK, HRw, HCW⟩ := hrel
    have hgr := HCW.out.lt
    by_cases hlt : k < n
    · have hkx : rs[k]? = some (rs[k]'(by rw [HN.out]; exact hlt)) := List.getElem?_eq_getElem _
      have hky : rs[k - 1]? = some (rs[k - 1]'(by have := HN.out; omega)) := List.getElem?_eq_getElem _
      generalize rs[k]'(by rw [HN.out]; exact hlt) = x at hkx
      generalize rs[k - 1]'(by have := HN.out; omega) = y at hky
      obtain ⟨⟨c0, c1, c2, c3, c4⟩, _⟩ := HRw.out.note hkx
      obtain ⟨⟨d0, d1, d2, d3, d4⟩, _⟩ := HRw.out.note hky
      have hmx := List.mem_of_getElem? hkx
      have hmy := List.mem_of_getElem? hky
      have hki := keep_iff hk1 hkx hky
      have hz := cmpN_zero (HRT.out x hmx) (HRT.out y hmy)
      have heq := fun W (q : CW B g bx rs w0 W) => eq_closure hmx hmy HRT.out W q
      have HX := Lib.hid hkx
      have HY := Lib.hid hky
      have i1 : (0 : Int) ≤ (k : Int) - 1 := by omega
      have i2 : (k : Int) - 1 < (n : Int) := by omega
      have i3 : ((k : Int) - 1).toNat = k - 1 := by omega
      have i4 : (k : Int) < (n : Int) := by omega
      have i5 : (1 : Int) ≤ (k : Int) := by omega
      have i6 : 0 < k := by omega
      have i7 : (k : Int) - 1 ≤ 9223372036854775807 := by omega
      have i8 : IntKind.i64.wrap ((k : Int) - 1) = (k : Int) - 1 := IntWalk.i64_in _ (by omega)
      clear hkx hky hmx hmy
      cases hq : (cmpN x.v y.v == 0) with
      | true =>
        have HC0 := Lib.hid (show CInvK NoteR.v rs rs k (k + 1) from CInvK.start (by rw [HN.out]; exact hlt) HK.out (fun q => hki.1 q (hz.1 (by simpa using hq))))
        rw [hq] at heq
        have HEQ := Lib.hid heq
        clear heq hq hki hz
        go_wp2_with fail
        go_region_held3 (fun w' => w'.cell? ⟨g, k * 5, none⟩ = some (.int .i64 x.v.house) ∧ w'.cell? ⟨g, k * 5 + 1, none⟩ = some (.int .i64 x.v.no) ∧ w'.cell? ⟨g, k * 5 + 2, none⟩ = some (.int .i64 x.v.day) ∧ w'.cell? ⟨g, k * 5 + 3, none⟩ = some (.slice x.A x.v.needs.length x.c) ∧ w'.cell? ⟨g, k * 5 + 4, none⟩ = some (.string x.v.text) ∧ w'.cell? ⟨g, (k - 1) * 5, none⟩ = some (.int .i64 y.v.house) ∧ w'.cell? ⟨g, (k - 1) * 5 + 1, none⟩ = some (.int .i64 y.v.no) ∧ w'.cell? ⟨g, (k - 1) * 5 + 2, none⟩ = some (.int .i64 y.v.day) ∧ w'.cell? ⟨g, (k - 1) * 5 + 3, none⟩ = some (.slice y.A y.v.needs.length y.c) ∧ w'.cell? ⟨g, (k - 1) * 5 + 4, none⟩ = some (.string y.v.text)) (go_keep)
          (first
           | (go_at_call 93; (with_reducible refine (HEQ.out _ HCW.out.drew).mono ?_); rintro e w1 ⟨rfl, hb1⟩; have HX1 := Lib.hid (below_dl hb1); have p0 : w1.cell? ⟨g, k * 5, none⟩ = some (.int .i64 x.v.house) := (HX1.out.cell (p := ⟨g, k * 5, none⟩) hgr).trans c0; have p1 : w1.cell? ⟨g, k * 5 + 1, none⟩ = some (.int .i64 x.v.no) := (HX1.out.cell (p := ⟨g, k * 5 + 1, none⟩) hgr).trans c1; have p2 : w1.cell? ⟨g, k * 5 + 2, none⟩ = some (.int .i64 x.v.day) := (HX1.out.cell (p := ⟨g, k * 5 + 2, none⟩) hgr).trans c2; have p3 : w1.cell? ⟨g, k * 5 + 3, none⟩ = some (.slice x.A x.v.needs.length x.c) := (HX1.out.cell (p := ⟨g, k * 5 + 3, none⟩) hgr).trans c3; have p4 : w1.cell? ⟨g, k * 5 + 4, none⟩ = some (.string x.v.text) := (HX1.out.cell (p := ⟨g, k * 5 + 4, none⟩) hgr).trans c4; have q0 : w1.cell? ⟨g, (k - 1) * 5, none⟩ = some (.int .i64 y.v.house) := (HX1.out.cell (p := ⟨g, (k - 1) * 5, none⟩) hgr).trans d0; have q1 : w1.cell? ⟨g, (k - 1) * 5 + 1, none⟩ = some (.int .i64 y.v.no) := (HX1.out.cell (p := ⟨g, (k - 1) * 5 + 1, none⟩) hgr).trans d1; have q2 : w1.cell? ⟨g, (k - 1) * 5 + 2, none⟩ = some (.int .i64 y.v.day) := (HX1.out.cell (p := ⟨g, (k - 1) * 5 + 2, none⟩) hgr).trans d2; have q3 : w1.cell? ⟨g, (k - 1) * 5 + 3, none⟩ = some (.slice y.A y.v.needs.length y.c) := (HX1.out.cell (p := ⟨g, (k - 1) * 5 + 3, none⟩) hgr).trans d3; have q4 : w1.cell? ⟨g, (k - 1) * 5 + 4, none⟩ = some (.string y.v.text) := (HX1.out.cell (p := ⟨g, (k - 1) * 5 + 4, none⟩) hgr).trans d4; have hg1 : g < w1.heap.size := Nat.lt_of_lt_of_le hgr HX1.out.size; clear hb1))
        have hkc : k < cap := by omega
        have HCW1 := Lib.hid (HCW.out.below HX1.out)
        have HR1 := Lib.hid (HRw.out.below HX1.out hgr)
        clear c0 c1 c2 c3 c4 d0 d1 d2 d3 d4 p0 p1 p2 p3 p4 q0 q1 q2 q3 q4 i1 i2 i3 i4 i5 i6 i7 i8 HEQ HX1
        go_wp2_with fail
        go_loopw [5, 7] (fun s5 s7 wr => ∃ (kk k2 : Nat) (dk : List NoteR), 1 ≤ k2 ∧ k + k2 ≤ n ∧ kk < k + k2 ∧ s5 = .int .i64 kk ∧ s7 = .int .i64 k2 ∧ Hid (CInvK NoteR.v rs dk kk (k + k2)) ∧ Hid (RowD noteD wr g dk) ∧ Hid (CW B g bx rs w0 wr)) (fun _ s7 _ => n - (intOf s7).toNat)
        case atStart => exact ⟨k, 1, rs, Nat.le_refl _, by omega, by omega, rfl, rfl, HC0.out, HR1.out, HCW1.out⟩
        case round =>
          clear HK HRw HCW HX HY HC0 hgr HCW1 HR1 hg1
          obtain ⟨kk, k2, dk, h1k, hkk2, hkk, rfl, rfl, HCI, HRw, HCW⟩ := hrel
          have hgr := HCW.out.lt
          have hdl := HCI.out.1
          by_cases hlt2 : k + k2 < n
          · have hjx : rs[k + k2]? = some (rs[k + k2]'(by rw [HN.out]; exact hlt2)) := List.getElem?_eq_getElem _
            have hjy : rs[k + k2 - 1]? = some (rs[k + k2 - 1]'(by have := HN.out; omega)) := List.getElem?_eq_getElem _
            generalize hxe : rs[k + k2]'(by rw [HN.out]; exact hlt2) = x at hjx
            generalize rs[k + k2 - 1]'(by have := HN.out; omega) = y at hjy
            have hdx : dk[k + k2]? = some x := (HCI.out.2.2.2.2.2 _ (by omega)).trans hjx
            have hdy : dk[k + k2 - 1]? = some y := (HCI.out.2.2.2.2.2 _ (by omega)).trans hjy
            have hdo : dk[kk]? = some (dk[kk]'(by rw [hdl, HN.out]; omega)) := List.getElem?_eq_getElem _
            obtain ⟨⟨c0, c1, c2, c3, c4⟩, _⟩ := HRw.out.note hdx
            obtain ⟨⟨d0, d1, d2, d3, d4⟩, _⟩ := HRw.out.note hdy
            obtain ⟨⟨o0, o1, o2, o3, o4⟩, f0, f1, f2, f3, f4⟩ := HRw.out.note hdo
            generalize dk[kk]'(by rw [hdl, HN.out]; omega) = old at o0 o1 o2 o3 o4
            rw [show (k + k2) * 5 = k * 5 + k2 * 5 by omega] at c0 c1 c2 c3 c4
            rw [show (k + k2 - 1) * 5 = k * 5 + (k2 - 1) * 5 by omega] at d0 d1 d2 d3 d4
            have hmx := List.mem_of_getElem? hjx
            have hmy := List.mem_of_getElem? hjy
            have hki := keep_iff (by omega : 1 ≤ k + k2) hjx hjy
            have hz := cmpN_zero (HRT.out x hmx) (HRT.out y hmy)
            have heq := fun W (q : CW B g bx rs w0 W) => eq_closure hmx hmy HRT.out W q
            have HXE := Lib.hid hxe
            have HDl := Lib.hid hdl
            have i1 : (0 : Int) ≤ (k2 : Int) - 1 := by omega
            have i2 : (k2 : Int) - 1 < ((n - k : Nat) : Int) := by omega
            have i3 : ((k2 : Int) - 1).toNat = k2 - 1 := by omega
            have i4 : (k2 : Int) < ((n - k : Nat) : Int) := by omega
            have i5 : (kk : Int) < (n : Int) := by omega
            have i6 : 0 < k2 := by omega
            have i7 : (1 : Int) ≤ (k2 : Int) := by omega
            have i8 : IntKind.i64.wrap ((k2 : Int) - 1) = (k2 : Int) - 1 := IntWalk.i64_in _ (by omega)
            clear hjx hjy hdx hdy hdo hmx hmy hxe hdl
            cases hq : (cmpN x.v y.v == 0) with
            | true =>
              have HSK := Lib.hid (HCI.out.skip (by rw [HN.out]; exact hlt2) (fun q => hki.1 q (hz.1 (by simpa using hq))))
              rw [hq] at heq
              have HEQ := Lib.hid heq
              clear heq hq hki hz
              go_wp2_with fail
              go_region_held3 (fun w' => w'.cell? ⟨g, k * 5 + k2 * 5, none⟩ = some (.int .i64 x.v.house) ∧ w'.cell? ⟨g, k * 5 + k2 * 5 + 1, none⟩ = some (.int .i64 x.v.no) ∧ w'.cell? ⟨g, k * 5 + k2 * 5 + 2, none⟩ = some (.int .i64 x.v.day) ∧ w'.cell? ⟨g, k * 5 + k2 * 5 + 3, none⟩ = some (.slice x.A x.v.needs.length x.c) ∧ w'.cell? ⟨g, k * 5 + k2 * 5 + 4, none⟩ = some (.string x.v.text) ∧ w'.cell? ⟨g, k * 5 + (k2 - 1) * 5, none⟩ = some (.int .i64 y.v.house) ∧ w'.cell? ⟨g, k * 5 + (k2 - 1) * 5 + 1, none⟩ = some (.int .i64 y.v.no) ∧ w'.cell? ⟨g, k * 5 + (k2 - 1) * 5 + 2, none⟩ = some (.int .i64 y.v.day) ∧ w'.cell? ⟨g, k * 5 + (k2 - 1) * 5 + 3, none⟩ = some (.slice y.A y.v.needs.length y.c) ∧ w'.cell? ⟨g, k * 5 + (k2 - 1) * 5 + 4, none⟩ = some (.string y.v.text)) (go_keep)
                (first
                 | (go_at_call 93; (with_reducible refine (HEQ.out _ HCW.out.drew).mono ?_); rintro e w1 ⟨rfl, hb1⟩; have HX1 := Lib.hid (below_dl hb1); have p0 : w1.cell? ⟨g, k * 5 + k2 * 5, none⟩ = some (.int .i64 x.v.house) := (HX1.out.cell (p := ⟨g, k * 5 + k2 * 5, none⟩) hgr).trans c0; have p1 : w1.cell? ⟨g, k * 5 + k2 * 5 + 1, none⟩ = some (.int .i64 x.v.no) := (HX1.out.cell (p := ⟨g, k * 5 + k2 * 5 + 1, none⟩) hgr).trans c1; have p2 : w1.cell? ⟨g, k * 5 + k2 * 5 + 2, none⟩ = some (.int .i64 x.v.day) := (HX1.out.cell (p := ⟨g, k * 5 + k2 * 5 + 2, none⟩) hgr).trans c2; have p3 : w1.cell? ⟨g, k * 5 + k2 * 5 + 3, none⟩ = some (.slice x.A x.v.needs.length x.c) := (HX1.out.cell (p := ⟨g, k * 5 + k2 * 5 + 3, none⟩) hgr).trans c3; have p4 : w1.cell? ⟨g, k * 5 + k2 * 5 + 4, none⟩ = some (.string x.v.text) := (HX1.out.cell (p := ⟨g, k * 5 + k2 * 5 + 4, none⟩) hgr).trans c4; have q0 : w1.cell? ⟨g, k * 5 + (k2 - 1) * 5, none⟩ = some (.int .i64 y.v.house) := (HX1.out.cell (p := ⟨g, k * 5 + (k2 - 1) * 5, none⟩) hgr).trans d0; have q1 : w1.cell? ⟨g, k * 5 + (k2 - 1) * 5 + 1, none⟩ = some (.int .i64 y.v.no) := (HX1.out.cell (p := ⟨g, k * 5 + (k2 - 1) * 5 + 1, none⟩) hgr).trans d1; have q2 : w1.cell? ⟨g, k * 5 + (k2 - 1) * 5 + 2, none⟩ = some (.int .i64 y.v.day) := (HX1.out.cell (p := ⟨g, k * 5 + (k2 - 1) * 5 + 2, none⟩) hgr).trans d2; have q3 : w1.cell? ⟨g, k * 5 + (k2 - 1) * 5 + 3, none⟩ = some (.slice y.A y.v.needs.length y.c) := (HX1.out.cell (p := ⟨g, k * 5 + (k2 - 1) * 5 + 3, none⟩) hgr).trans d3; have q4 : w1.cell? ⟨g, k * 5 + (k2 - 1) * 5 + 4, none⟩ = some (.string y.v.text) := (HX1.out.cell (p := ⟨g, k * 5 + (k2 - 1) * 5 + 4, none⟩) hgr).trans d4; have hg1 : g < w1.heap.size := Nat.lt_of_lt_of_le hgr HX1.out.size; clear hb1))
              have HCW1 := Lib.hid (HCW.out.below HX1.out)
              have HR1 := Lib.hid (HRw.out.below HX1.out hgr)
              go_wp2_with fail
              go_roundw
              case rel => exact ⟨kk, k2 + 1, dk, by omega, by omega, by omega, rfl, by go_num, HSK.out, HR1.out, HCW1.out⟩
              case measure => simp [intOf]; omega
            | false =>
              have HKP := Lib.hid (HCI.out.keep (by rw [HN.out]; exact hlt2) (hki.2 (fun q => by rw [hz.2 q] at hq; simp at hq)))
              rw [hq] at heq
              have HEQ := Lib.hid heq
              clear heq hq hki hz
              go_wp2_with fail
              go_region_held3 (fun w' => w'.cell? ⟨g, k * 5 + k2 * 5, none⟩ = some (.int .i64 x.v.house) ∧ w'.cell? ⟨g, k * 5 + k2 * 5 + 1, none⟩ = some (.int .i64 x.v.no) ∧ w'.cell? ⟨g, k * 5 + k2 * 5 + 2, none⟩ = some (.int .i64 x.v.day) ∧ w'.cell? ⟨g, k * 5 + k2 * 5 + 3, none⟩ = some (.slice x.A x.v.needs.length x.c) ∧ w'.cell? ⟨g, k * 5 + k2 * 5 + 4, none⟩ = some (.string x.v.text) ∧ w'.cell? ⟨g, k * 5 + (k2 - 1) * 5, none⟩ = some (.int .i64 y.v.house) ∧ w'.cell? ⟨g, k * 5 + (k2 - 1) * 5 + 1, none⟩ = some (.int .i64 y.v.no) ∧ w'.cell? ⟨g, k * 5 + (k2 - 1) * 5 + 2, none⟩ = some (.int .i64 y.v.day) ∧ w'.cell? ⟨g, k * 5 + (k2 - 1) * 5 + 3, none⟩ = some (.slice y.A y.v.needs.length y.c) ∧ w'.cell? ⟨g, k * 5 + (k2 - 1) * 5 + 4, none⟩ = some (.string y.v.text)) (go_keep)
                (first
                 | (go_at_call 93; (with_reducible refine (HEQ.out _ HCW.out.drew).mono ?_); rintro e w1 ⟨rfl, hb1⟩; have HX1 := Lib.hid (below_dl hb1); have p0 : w1.cell? ⟨g, k * 5 + k2 * 5, none⟩ = some (.int .i64 x.v.house) := (HX1.out.cell (p := ⟨g, k * 5 + k2 * 5, none⟩) hgr).trans c0; have p1 : w1.cell? ⟨g, k * 5 + k2 * 5 + 1, none⟩ = some (.int .i64 x.v.no) := (HX1.out.cell (p := ⟨g, k * 5 + k2 * 5 + 1, none⟩) hgr).trans c1; have p2 : w1.cell? ⟨g, k * 5 + k2 * 5 + 2, none⟩ = some (.int .i64 x.v.day) := (HX1.out.cell (p := ⟨g, k * 5 + k2 * 5 + 2, none⟩) hgr).trans c2; have p3 : w1.cell? ⟨g, k * 5 + k2 * 5 + 3, none⟩ = some (.slice x.A x.v.needs.length x.c) := (HX1.out.cell (p := ⟨g, k * 5 + k2 * 5 + 3, none⟩) hgr).trans c3; have p4 : w1.cell? ⟨g, k * 5 + k2 * 5 + 4, none⟩ = some (.string x.v.text) := (HX1.out.cell (p := ⟨g, k * 5 + k2 * 5 + 4, none⟩) hgr).trans c4; have q0 : w1.cell? ⟨g, k * 5 + (k2 - 1) * 5, none⟩ = some (.int .i64 y.v.house) := (HX1.out.cell (p := ⟨g, k * 5 + (k2 - 1) * 5, none⟩) hgr).trans d0; have q1 : w1.cell? ⟨g, k * 5 + (k2 - 1) * 5 + 1, none⟩ = some (.int .i64 y.v.no) := (HX1.out.cell (p := ⟨g, k * 5 + (k2 - 1) * 5 + 1, none⟩) hgr).trans d1; have q2 : w1.cell? ⟨g, k * 5 + (k2 - 1) * 5 + 2, none⟩ = some (.int .i64 y.v.day) := (HX1.out.cell (p := ⟨g, k * 5 + (k2 - 1) * 5 + 2, none⟩) hgr).trans d2; have q3 : w1.cell? ⟨g, k * 5 + (k2 - 1) * 5 + 3, none⟩ = some (.slice y.A y.v.needs.length y.c) := (HX1.out.cell (p := ⟨g, k * 5 + (k2 - 1) * 5 + 3, none⟩) hgr).trans d3; have q4 : w1.cell? ⟨g, k * 5 + (k2 - 1) * 5 + 4, none⟩ = some (.string y.v.text) := (HX1.out.cell (p := ⟨g, k * 5 + (k2 - 1) * 5 + 4, none⟩) hgr).trans d4; have hg1 : g < w1.heap.size := Nat.lt_of_lt_of_le hgr HX1.out.size; clear hb1))
              have r0 : w1.cell? ⟨g, kk * 5, none⟩ = some (.int .i64 old.v.house) := (HX1.out.cell (p := ⟨g, kk * 5, none⟩) hgr).trans o0
              have s0 : w1.frozen? ⟨g, kk * 5, none⟩ = false := (HX1.out.frozen (p := ⟨g, kk * 5, none⟩) hgr).trans f0
              have r1 : w1.cell? ⟨g, kk * 5 + 1, none⟩ = some (.int .i64 old.v.no) := (HX1.out.cell (p := ⟨g, kk * 5 + 1, none⟩) hgr).trans o1
              have s1 : w1.frozen? ⟨g, kk * 5 + 1, none⟩ = false := (HX1.out.frozen (p := ⟨g, kk * 5 + 1, none⟩) hgr).trans f1
              have r2 : w1.cell? ⟨g, kk * 5 + 2, none⟩ = some (.int .i64 old.v.day) := (HX1.out.cell (p := ⟨g, kk * 5 + 2, none⟩) hgr).trans o2
              have s2 : w1.frozen? ⟨g, kk * 5 + 2, none⟩ = false := (HX1.out.frozen (p := ⟨g, kk * 5 + 2, none⟩) hgr).trans f2
              have r3 : w1.cell? ⟨g, kk * 5 + 3, none⟩ = some (.slice old.A old.v.needs.length old.c) := (HX1.out.cell (p := ⟨g, kk * 5 + 3, none⟩) hgr).trans o3
              have s3 : w1.frozen? ⟨g, kk * 5 + 3, none⟩ = false := (HX1.out.frozen (p := ⟨g, kk * 5 + 3, none⟩) hgr).trans f3
              have r4 : w1.cell? ⟨g, kk * 5 + 4, none⟩ = some (.string old.v.text) := (HX1.out.cell (p := ⟨g, kk * 5 + 4, none⟩) hgr).trans o4
              have s4 : w1.frozen? ⟨g, kk * 5 + 4, none⟩ = false := (HX1.out.frozen (p := ⟨g, kk * 5 + 4, none⟩) hgr).trans f4
              have HCW1 := Lib.hid (HCW.out.below HX1.out)
              have HR1 := Lib.hid (HRw.out.below HX1.out hgr)
              clear c0 c1 c2 c3 c4 d0 d1 d2 d3 d4 o0 o1 o2 o3 o4 f0 f1 f2 f3 f4 HX1
              go_wp2_with fail
              go_roundw
              case rel =>
                have hKk := HKP.out
                rw [HXE.out] at hKk
                exact ⟨kk + 1, k2 + 1, dk.set kk x, by omega, by omega, by omega, by go_num, by go_num, hKk, RowD.set (D := noteD) (w := w1) HR1.out (by rw [HDl.out, HN.out]; omega) x, HCW1.out.sets (noteD.cells x) (kk * 5)⟩
              case measure => simp [intOf]; omega
          · have hend : k + k2 = n := by omega
            obtain ⟨vs, hclr⟩ := run_clear_items wr g kk (n - kk) (cap - kk) (by omega) (fun t ht => HRw.out.some_ (by rw [hdl, HN.out]; omega))
            have hkc2 : kk < cap := by omega
            have HE := Lib.hid hend
            have HDl := Lib.hid hdl
            clear hend hdl
            go_wp2_with fail
            go_ret
            have hK := HCI.out
            rw [HE.out, ← HN.out] at hK
            obtain ⟨e1, e2⟩ := hK.done
            refine ⟨by rw [e2]; rfl, ?_, HCW.out.sets vs (kk * 5)⟩
            rw [← e1]
            exact (HRw.out.take kk).cleared (D := noteD) vs kk (by simp; omega)
      | false =>
        have HKN := Lib.hid (show ∀ t, t < k + 1 → KeepAt NoteR.v rs t from fun t ht => by
          by_cases e : t = k
          · subst e; exact hki.2 (fun q => by rw [hz.2 q] at hq; simp at hq)
          · exact HK.out t (by omega))
        rw [hq] at heq
        have HEQ := Lib.hid heq
        clear heq hq hki hz
        go_wp2_with fail
        go_region_held3 (fun w' => w'.cell? ⟨g, k * 5, none⟩ = some (.int .i64 x.v.house) ∧ w'.cell? ⟨g, k * 5 + 1, none⟩ = some (.int .i64 x.v.no) ∧ w'.cell? ⟨g, k * 5 + 2, none⟩ = some (.int .i64 x.v.day) ∧ w'.cell? ⟨g, k * 5 + 3, none⟩ = some (.slice x.A x.v.needs.length x.c) ∧ w'.cell? ⟨g, k * 5 + 4, none⟩ = some (.string x.v.text) ∧ w'.cell? ⟨g, (k - 1) * 5, none⟩ = some (.int .i64 y.v.house) ∧ w'.cell? ⟨g, (k - 1) * 5 + 1, none⟩ = some (.int .i64 y.v.no) ∧ w'.cell? ⟨g, (k - 1) * 5 + 2, none⟩ = some (.int .i64 y.v.day) ∧ w'.cell? ⟨g, (k - 1) * 5 + 3, none⟩ = some (.slice y.A y.v.needs.length y.c) ∧ w'.cell? ⟨g, (k - 1) * 5 + 4, none⟩ = some (.string y.v.text)) (go_keep)
          (first
           | (go_at_call 93; (with_reducible refine (HEQ.out _ HCW.out.drew).mono ?_); rintro e w1 ⟨rfl, hb1⟩; have HX1 := Lib.hid (below_dl hb1); have p0 : w1.cell? ⟨g, k * 5, none⟩ = some (.int .i64 x.v.house) := (HX1.out.cell (p := ⟨g, k * 5, none⟩) hgr).trans c0; have p1 : w1.cell? ⟨g, k * 5 + 1, none⟩ = some (.int .i64 x.v.no) := (HX1.out.cell (p := ⟨g, k * 5 + 1, none⟩) hgr).trans c1; have p2 : w1.cell? ⟨g, k * 5 + 2, none⟩ = some (.int .i64 x.v.day) := (HX1.out.cell (p := ⟨g, k * 5 + 2, none⟩) hgr).trans c2; have p3 : w1.cell? ⟨g, k * 5 + 3, none⟩ = some (.slice x.A x.v.needs.length x.c) := (HX1.out.cell (p := ⟨g, k * 5 + 3, none⟩) hgr).trans c3; have p4 : w1.cell? ⟨g, k * 5 + 4, none⟩ = some (.string x.v.text) := (HX1.out.cell (p := ⟨g, k * 5 + 4, none⟩) hgr).trans c4; have q0 : w1.cell? ⟨g, (k - 1) * 5, none⟩ = some (.int .i64 y.v.house) := (HX1.out.cell (p := ⟨g, (k - 1) * 5, none⟩) hgr).trans d0; have q1 : w1.cell? ⟨g, (k - 1) * 5 + 1, none⟩ = some (.int .i64 y.v.no) := (HX1.out.cell (p := ⟨g, (k - 1) * 5 + 1, none⟩) hgr).trans d1; have q2 : w1.cell? ⟨g, (k - 1) * 5 + 2, none⟩ = some (.int .i64 y.v.day) := (HX1.out.cell (p := ⟨g, (k - 1) * 5 + 2, none⟩) hgr).trans d2; have q3 : w1.cell? ⟨g, (k - 1) * 5 + 3, none⟩ = some (.slice y.A y.v.needs.length y.c) := (HX1.out.cell (p := ⟨g, (k - 1) * 5 + 3, none⟩) hgr).trans d3; have q4 : w1.cell? ⟨g, (k - 1) * 5 + 4, none⟩ = some (.string y.v.text) := (HX1.out.cell (p := ⟨g, (k - 1) * 5 + 4, none⟩) hgr).trans d4; have hg1 : g < w1.heap.size := Nat.lt_of_lt_of_le hgr HX1.out.size; clear hb1))
        have HCW1 := Lib.hid (HCW.out.below HX1.out)
        have HR1 := Lib.hid (HRw.out.below HX1.out hgr)
        go_wp2_with fail
        go_roundw
        case rel => exact ⟨k + 1, by omega, by omega, by go_num, HKN.out, HR1.out, HCW1.out⟩
        case measure => simp [intOf]; omega
    · have hkn2 : k = n := by omega
      have HE := Lib.hid hkn2
      clear hkn2
      go_wp2_with fail
      go_ret
      have e := HF.out (fun t ht => HK.out t (by rw [HE.out]; exact ht))
      unfold CompPost
      rw [HN.out, e]
      exact ⟨by rw [HN.out]; rfl, HRw.out, HCW.out⟩
end Go.Proofs.YtaojnjealccjiaaGreatDoor
