/- Plain: the houses of a joined list, group by group. -/
import Derived.Test.YtaojnjealccjiaaGreatDoorNote
namespace Nt

/-- the first m notes are of earlier houses than the others -/
def Bnd (ys : List NoteV) (m : Nat) : Prop := ∀ (i j : Nat) (x y : NoteV), i < m → m ≤ j → ys[i]? = some x → ys[j]? = some y → x.house < y.house
theorem house_le {ys : List NoteV} (hs : ys.Pairwise ltN) {i j : Nat} {x y : NoteV} (hij : i ≤ j) (hx : ys[i]? = some x) (hy : ys[j]? = some y) : x.house ≤ y.house := by
  obtain ⟨hi, rfl⟩ := List.getElem?_eq_some_iff.1 hx
  obtain ⟨hj, rfl⟩ := List.getElem?_eq_some_iff.1 hy
  rcases Nat.lt_or_ge i j with h | h
  · have := List.pairwise_iff_getElem.1 hs i j hi hj h
    unfold ltN at this
    omega
  · obtain rfl : i = j := by omega
    exact Int.le_refl _
theorem houses_start (ys : List NoteV) : IsHouses (ys.take 0) [] ∧ Bnd ys 0 :=
  ⟨⟨by simp, fun h hh => by simp at hh, fun n => by simp⟩, fun i j x y hi => absurd hi (Nat.not_lt_zero _)⟩
theorem houses_step {ys : List NoteV} (hs : ys.Pairwise ltN) {m n : Nat} {l : List HouseS} (h : IsHouses (ys.take m) l) (hb : Bnd ys m) (hn : 1 ≤ n) (hmn : m + n ≤ ys.length) {hh : Int} (hg : ∀ i x, i < n → ys[m + i]? = some x → x.house = hh)
    (hnx : ∀ y, ys[m + n]? = some y → y.house ≠ hh) {new : HouseS} (e1 : new.number = hh) (e2 : new.past = past ((ys.drop m).take n)) (e3 : new.forked = true ↔ Forked ((ys.drop m).take n)) : IsHouses (ys.take (m + n)) (l ++ [new]) ∧ Bnd ys (m + n) := by
  have hx0 : ys[m]? = some (ys[m]'(by omega)) := List.getElem?_eq_getElem _
  have hh0 := hg 0 _ (by omega) hx0
  have hG : ∀ g ∈ (ys.drop m).take n, g.house = hh := fun g hgm => by
    obtain ⟨i, hi, e⟩ := List.getElem_of_mem hgm
    have hin : i < n := by rw [List.length_take] at hi; omega
    refine hg i g hin ?_
    have : ((ys.drop m).take n)[i]? = some g := by rw [List.getElem?_eq_getElem hi, e]
    rw [List.getElem?_take, if_pos hin, List.getElem?_drop] at this
    exact this
  have hP : ∀ p ∈ ys.take m, p.house < hh := fun p hp => by
    obtain ⟨i, hi, e⟩ := List.getElem_of_mem hp
    have him : i < m := by rw [List.length_take] at hi; omega
    have hq : ys[i]? = some p := by
      have : (ys.take m)[i]? = some p := by rw [List.getElem?_eq_getElem hi, e]
      rw [List.getElem?_take, if_pos him] at this
      exact this
    have := hb i m p _ him (Nat.le_refl _) hq hx0
    omega
  have hsplit : ys.take (m + n) = ys.take m ++ (ys.drop m).take n := List.take_add
  have hGmem : ys[m]'(by omega) ∈ (ys.drop m).take n := by
    rw [List.mem_iff_getElem?]
    exact ⟨0, by rw [List.getElem?_take, if_pos (by omega), List.getElem?_drop]; exact hx0⟩
  refine ⟨⟨?_, ?_, ?_⟩, ?_⟩
  · rw [List.pairwise_append]
    refine ⟨h.1, by simp, fun a ha b hb' => ?_⟩
    rw [List.mem_singleton.1 hb', e1]
    obtain ⟨y, hy, ey⟩ := (h.2.2 a.number).1 ⟨a, ha, rfl⟩
    have := hP y hy
    omega
  · intro a ha
    have hap : ∀ k, ownOf (ys.take (m + n)) k = ownOf (ys.take m) k ++ ownOf ((ys.drop m).take n) k := fun k => by
      rw [hsplit]; unfold ownOf; rw [List.filter_append]
    rcases List.mem_append.1 ha with ha | ha
    · obtain ⟨y, hy, ey⟩ := (h.2.2 a.number).1 ⟨a, ha, rfl⟩
      have hne := hP y hy
      have : ownOf ((ys.drop m).take n) a.number = [] := by
        unfold ownOf
        rw [List.filter_eq_nil_iff]
        intro g hgm
        have := hG g hgm
        simp
        omega
      rw [hap, this, List.append_nil]
      exact h.2.1 a ha
    · rw [List.mem_singleton.1 ha]
      have k1 : ownOf (ys.take m) hh = [] := by
        unfold ownOf
        rw [List.filter_eq_nil_iff]
        intro g hgm
        have := hP g hgm
        simp
        omega
      have k2 : ownOf ((ys.drop m).take n) hh = (ys.drop m).take n := by
        unfold ownOf
        rw [List.filter_eq_self]
        intro g hgm
        simp [hG g hgm]
      rw [e1, hap, k1, k2, List.nil_append]
      exact ⟨e2, e3⟩
  · intro k
    constructor
    · rintro ⟨a, ha, rfl⟩
      rcases List.mem_append.1 ha with ha | ha
      · obtain ⟨y, hy, ey⟩ := (h.2.2 a.number).1 ⟨a, ha, rfl⟩
        exact ⟨y, by rw [hsplit, List.mem_append]; exact .inl hy, ey⟩
      · rw [List.mem_singleton.1 ha, e1]
        exact ⟨_, by rw [hsplit, List.mem_append]; exact .inr hGmem, hh0⟩
    · rintro ⟨y, hy, rfl⟩
      rw [hsplit, List.mem_append] at hy
      rcases hy with hy | hy
      · obtain ⟨a, ha, ea⟩ := (h.2.2 y.house).2 ⟨y, hy, rfl⟩
        exact ⟨a, List.mem_append.2 (.inl ha), ea⟩
      · exact ⟨new, by simp, by rw [e1, hG y hy]⟩
  · intro i j x y hi hj hx hy
    have hnl : m + n < ys.length := by have := (List.getElem?_eq_some_iff.1 hy).1; omega
    have hz : ys[m + n]? = some ys[m + n] := List.getElem?_eq_getElem hnl
    have h1 := hnx _ hz
    have h2 := house_le hs (Nat.le_add_right m n) hx0 hz
    have h3 := house_le hs hj hz hy
    have hxh : x.house ≤ hh := by
      rcases Nat.lt_or_ge i m with q | q
      · have := hb i m x _ q (Nat.le_refl _) hx hx0
        omega
      · have := hg (i - m) x (by omega) (by rw [show m + (i - m) = i by omega]; exact hx)
        omega
    omega
end Nt
