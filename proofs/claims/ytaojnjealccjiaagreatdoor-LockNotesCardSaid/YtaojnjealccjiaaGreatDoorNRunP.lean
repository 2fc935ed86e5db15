/- The row of houses while notes are taken; plain facts for gossip.run. -/
import Derived.Test.YtaojnjealccjiaaGreatDoorNReady
namespace Go.Proofs.YtaojnjealccjiaaGreatDoor
open Go Go.RowKit Nt Go.Proofs Go.Lib
set_option linter.unusedVariables false
set_option linter.unusedSimpArgs false

theorem nodup_len : ∀ (ys l : List NoteV), ys.Pairwise ltN → (∀ y ∈ ys, y ∈ l) → ys.length ≤ l.length
  | [], _, _, _ => Nat.zero_le _
  | y :: t, l, hp, hs => by
    rw [List.pairwise_cons] at hp
    obtain ⟨a, b, rfl⟩ := List.append_of_mem (hs y (by simp))
    have := nodup_len t (a ++ b) hp.2 fun z hz => by
      have hzl := hs z (by simp [hz])
      have hne : z ≠ y := fun e => ltN_irrefl y (by have := hp.1 z hz; rw [e] at this; exact this)
      simp only [List.mem_append, List.mem_cons] at hzl ⊢
      rcases hzl with q | q | q
      · exact .inl q
      · exact absurd q hne
      · exact .inr q
    simp only [List.length_append, List.length_cons] at *
    omega
theorem join_len {l ys : List NoteV} (h : IsJoin l ys) : ys.length ≤ l.length := nodup_len ys l h.1 fun y hy => ((h.2 y).1 hy).2
theorem house_len {ys : List NoteV} {S0 : List HouseS} (h : IsHouses ys S0) {x : HouseS} (hx : x ∈ S0) : x.past.length ≤ ys.length := by
  rw [(h.2.1 x hx).1]
  exact Nat.le_trans (pastL_prefix (ownOf ys x.number) 0 0).length_le (List.length_filter_le _ _)
def left (hs : List HouseT) : Nat := (hs.map fun h => h.rs.length - h.taken).sum
def HouseT.up (h : HouseT) : HouseT := { h with taken := h.taken + 1 }
theorem left_set {hs : List HouseT} {i : Nat} {x : HouseT} (hx : hs[i]? = some x) (ht : x.taken < x.rs.length) : left (hs.set i x.up) + 1 = left hs := by
  induction hs generalizing i with
  | nil => simp at hx
  | cons y l ih =>
    cases i with
    | zero =>
      simp at hx
      subst hx
      simp [left, HouseT.up]
      omega
    | succ i =>
      have := ih (i := i) (by simpa using hx)
      simp [left] at this ⊢
      omega
theorem left_le {hs : List HouseT} {N : Nat} (h : ∀ x ∈ hs, x.rs.length ≤ N) : left hs ≤ hs.length * N := by
  induction hs with
  | nil => simp [left]
  | cons y l ih =>
    have h1 := ih fun x hx => h x (by simp [hx])
    have h2 := h y (by simp)
    simp only [left, List.map_cons, List.sum_cons, List.length_cons, Nat.succ_mul] at *
    omega

/-! ### the row -/
/-- the houses lie at g from o on; what hangs below them lies below B, outside g -/
def HsAt (g o B : Nat) (w : World) (A : Option Addr) (hs : List HouseT) : Prop :=
  (hs ≠ [] → A = some ⟨g, o, none⟩ ∧ g < B ∧ ∀ j x, hs[j]? = some x → ∀ i v, x.cells[i]? = some v → w.cell? ⟨g, o + j * 4 + i, none⟩ = some v ∧ w.frozen? ⟨g, o + j * 4 + i, none⟩ = false) ∧ (∀ h ∈ hs, Sl noteD w (fun b => b ≠ g ∧ b < B) h.A h.rs) ∧ B ≤ w.heap.size
section
variable {g o B : Nat} {w w' : World} {A : Option Addr} {hs : List HouseT}
theorem HsAt.below (h : HsAt g o B w A hs) (hb : Below B w w') : HsAt g o B w' A hs :=
  ⟨fun hn => by
    obtain ⟨h1, h2, h3⟩ := h.1 hn
    exact ⟨h1, h2, fun j x hx i v hv => ⟨(hb.cell (p := ⟨g, o + j * 4 + i, none⟩) h2).trans (h3 j x hx i v hv).1, (hb.frozen (p := ⟨g, o + j * 4 + i, none⟩) h2).trans (h3 j x hx i v hv).2⟩⟩, fun x hx => (h.2.1 x hx).keep (Keeps.of_base hb fun b q => q.2), Nat.le_trans h.2.2 hb.size⟩
theorem HsAt.sl (h : HsAt g o B w A hs) : Sl houseD w Any1 A hs :=
  ⟨fun hn => by
    obtain ⟨h1, h2, h3⟩ := h.1 hn
    exact ⟨g, o, h1, trivial, Nat.lt_of_lt_of_le h2 h.2.2, fun j x hx i v hv => (h3 j x hx i v hv).1⟩, fun x hx => (h.2.1 x hx).all⟩
theorem HsAt.set (h : HsAt g o B w A hs) {i : Nat} {x : HouseT} (hx : hs[i]? = some x) : HsAt g o B (w.setCell ⟨g, o + i * 4 + 3, none⟩ (.int .i64 ((x.taken : Int) + 1))) A (hs.set i x.up) := by
  have hi : i < hs.length := (List.getElem?_eq_some_iff.1 hx).1
  have hne : hs ≠ [] := fun e => by rw [e] at hi; simp at hi
  obtain ⟨h1, h2, h3⟩ := h.1 hne
  have hk : Keeps (fun b => b ≠ g ∧ b < B) w (w.setCell ⟨g, o + i * 4 + 3, none⟩ (.int .i64 ((x.taken : Int) + 1))) := ⟨by simp [World.setCell], fun b hb q => Below.heap_setCell _ _ _ _ q.1⟩
  refine ⟨fun _ => ⟨h1, h2, fun j y hy k v hv => ?_⟩, fun y hy => ?_, by simpa [World.setCell] using h.2.2⟩
  · have hk4 : k < 4 := (List.getElem?_eq_some_iff.1 hv).1
    refine ⟨?_, ?_⟩
    · by_cases hj : i = j
      · subst hj
        rw [List.getElem?_set_self hi] at hy
        cases hy
        by_cases hk3 : k = 3
        · subst hk3
          have : v = .int .i64 ((x.taken : Int) + 1) := by
            have e : (x.up.cells)[3]? = some (.int .i64 ((x.taken + 1 : Nat) : Int)) := rfl
            rw [e] at hv
            injection hv with hv
            rw [← hv]
            simp
          subst this
          exact World.cell?_setCell_same _ _ _ (h3 i x hx 3 _ rfl).1
        · rw [World.cell?_setCell_other _ _ _ _ (by intro e; injection e with e1 e2; omega)]
          refine (h3 i x hx k v ?_).1
          rcases (by omega : k = 0 ∨ k = 1 ∨ k = 2) with rfl | rfl | rfl <;> exact hv
      · rw [List.getElem?_set_ne hj] at hy
        rw [World.cell?_setCell_other _ _ _ _ (by intro e; injection e with e1 e2; omega)]
        exact (h3 j y hy k v hv).1
    · rw [World.frozen?_setCell]
      by_cases hj : i = j
      · subst hj
        rw [List.getElem?_set_self hi] at hy
        cases hy
        have : ∃ v', x.cells[k]? = some v' := ⟨x.cells[k]'(by exact hk4), List.getElem?_eq_getElem _⟩
        obtain ⟨v', hv'⟩ := this
        exact (h3 i x hx k v' hv').2
      · rw [List.getElem?_set_ne hj] at hy
        exact (h3 j y hy k v hv).2
  · rcases List.mem_or_eq_of_mem_set hy with q | rfl
    · exact (h.2.1 y q).keep hk
    · exact (h.2.1 x (List.mem_of_getElem? hx)).keep hk
theorem HsAt.of_own {B0 T c : Nat} (h : OwnS houseD T B0 w Any1 (.slice A hs.length c) hs) : ∃ g, HsAt g 0 w.heap.size w A hs ∧ (hs ≠ [] → B0 ≤ g) := by
  have h0 := h
  obtain ⟨⟨_, q | ⟨g, cap, cur, e, hb, hg, _⟩⟩, h2⟩ := h
  · have : hs = [] := List.eq_nil_of_length_eq_zero q.2
    subst this
    exact ⟨0, ⟨fun hn => absurd rfl hn, fun x hx => by simp at hx, Nat.le_refl _⟩, fun hn => absurd rfl hn⟩
  · injection e with e1 e2 e3
    subst e1
    have hglt : g < w.heap.size := (Array.getElem?_eq_some_iff.1 hg).1
    refine ⟨g, ⟨fun _ => ⟨rfl, hglt, fun j x hx i v hv => ?_⟩, fun x hx => (h2 x hx).mono fun b hb q => ⟨fun e => q.2 (by rw [e]; rfl), hb⟩, Nat.le_refl _⟩, fun _ => hb⟩
    have := RowD.of_owns (D := houseD) h0.1 rfl j x hx i v hv
    rw [Nat.zero_add]
    exact this
theorem OwnS.setCell {α : Type} {D : Dat α} {T : Nat} {S : Nat → Prop} {v : Value} {xs : List α} (h : OwnS D T B w S v xs) (p : Addr) (hp : p.block < B) (hS : ∀ b, S b → b ≠ p.block) (u : Value) : OwnS D T B (w.setCell p u) S v xs := by
  refine ⟨⟨h.1.1, ?_⟩, fun x hx => D.keep (h.2 x hx) ⟨by simp [World.setCell], fun b hb q => Below.heap_setCell _ _ _ _ (hS b q.1)⟩⟩
  rcases h.1.2 with q | ⟨g, cap, cur, e, hb, hg, rest⟩
  · exact .inl q
  · refine .inr ⟨g, cap, cur, e, hb, ?_, rest⟩
    rw [Below.heap_setCell _ _ _ _ (by omega)]
    exact hg
end
/-- the candidate so far, among the first k houses -/
def BestAt (hs : List HouseT) (k : Nat) (best : Int) : Prop :=
  (best = -1 ∧ ∀ (j : Nat) (x : HouseT) (r : NoteR), j < k → hs[j]? = some x → x.rs[x.taken]? = some r → ¬ Nt.Ready (hs.map HouseT.s) (hs.map HouseT.taken) r.v) ∨ ∃ (bi : Nat) (y : HouseT) (z : NoteR), best = (bi : Int) ∧ hs[bi]? = some y ∧ y.rs[y.taken]? = some z ∧ Nt.Ready (hs.map HouseT.s) (hs.map HouseT.taken) z.v
theorem BestAt.skip {hs : List HouseT} {k : Nat} {best : Int} {x : HouseT} (h : BestAt hs k best) (hx : hs[k]? = some x) (hn : ∀ r, x.rs[x.taken]? = some r → ¬ Nt.Ready (hs.map HouseT.s) (hs.map HouseT.taken) r.v) : BestAt hs (k + 1) best := by
  rcases h with ⟨h1, h2⟩ | h
  · refine .inl ⟨h1, fun j y r hj hy hr => ?_⟩
    rcases Nat.lt_or_ge j k with q | q
    · exact h2 j y r q hy hr
    · obtain rfl : j = k := by omega
      rw [hx] at hy
      cases hy
      exact hn r hr
  · exact .inr h
theorem BestAt.stay {hs : List HouseT} {k : Nat} {bi : Nat} (h : BestAt hs k (bi : Int)) : BestAt hs (k + 1) (bi : Int) := by
  rcases h with ⟨h1, _⟩ | h
  · omega
  · exact .inr h
/-- what the outer loop keeps -/
def RunAt (S0 : List HouseS) (g o B N : Nat) (A : Option Addr) (w wr : World) (s5 : Value) (hs : List HouseT) (out : List NoteR) : Prop :=
  hs.map HouseT.s = S0 ∧ HsAt g o B wr A hs ∧ OwnS noteD 42 B wr (fun b => b ≠ g ∧ b < B) s5 out ∧ Runs S0 (hs.map HouseT.taken) (out.map NoteR.v) ∧ out.length + left hs ≤ N ∧ (∀ h ∈ hs, ∀ r ∈ h.rs, rightN r.v = true) ∧ Below w.heap.size w wr
theorem run_final {hs : List HouseT} (h : BestAt hs hs.length (-1)) : Final (hs.map HouseT.s) (hs.map HouseT.taken) := by
  rcases h with ⟨_, h⟩ | ⟨bi, _, _, e, _⟩
  · intro i s t x h1 h2 h3
    rw [List.getElem?_map] at h1 h2
    cases hq : hs[i]? with
    | none => rw [hq] at h1; cases h1
    | some y =>
      rw [hq] at h1 h2
      cases h1
      cases h2
      have h3' : (y.rs.map NoteR.v)[y.taken]? = some x := h3
      rw [List.getElem?_map] at h3'
      cases hr : y.rs[y.taken]? with
      | none => rw [hr] at h3'; cases h3'
      | some r =>
        rw [hr] at h3'
        cases h3'
        exact h i y r (List.getElem?_eq_some_iff.1 hq).1 hq hr
  · omega
theorem set_map_s {hs : List HouseT} {i : Nat} {x : HouseT} (hx : hs[i]? = some x) : (hs.set i x.up).map HouseT.s = hs.map HouseT.s := by
  rw [List.map_set]
  refine List.ext_getElem? fun j => ?_
  by_cases hj : i = j
  · subst hj
    have hi : i < (hs.map HouseT.s).length := by simpa using (List.getElem?_eq_some_iff.1 hx).1
    rw [List.getElem?_set_self hi, List.getElem?_map, hx]
    rfl
  · rw [List.getElem?_set_ne hj]
theorem run_step {S0 : List HouseS} {hs : List HouseT} {out : List NoteR} {i : Nat} {y : HouseT} {z : NoteR} (hS : hs.map HouseT.s = S0) (hr : Runs S0 (hs.map HouseT.taken) (out.map NoteR.v)) (hy : hs[i]? = some y) (hz : y.rs[y.taken]? = some z) (hrd : Nt.Ready (hs.map HouseT.s) (hs.map HouseT.taken) z.v) :
    (hs.set i y.up).map HouseT.s = S0 ∧ Runs S0 ((hs.set i y.up).map HouseT.taken) ((out ++ [z]).map NoteR.v) := by
  refine ⟨(set_map_s hy).trans hS, ?_⟩
  rw [List.map_set, List.map_append]
  rw [hS] at hrd
  refine Runs.step hr (h := y.s) ?_ (t := y.taken) ?_ ?_ hrd
  · rw [← hS, List.getElem?_map, hy]; rfl
  · rw [List.getElem?_map, hy]; rfl
  · show (y.rs.map NoteR.v)[y.taken]? = _
    rw [List.getElem?_map, hz]; rfl
end Go.Proofs.YtaojnjealccjiaaGreatDoor
