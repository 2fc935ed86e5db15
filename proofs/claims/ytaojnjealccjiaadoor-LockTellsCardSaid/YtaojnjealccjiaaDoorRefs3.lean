/- The reference's frees, Force. -/
import Derived.Test.YtaojnjealccjiaaDoorRefs2
import Derived.Test.YtaojnjealccjiaaDoorMore
namespace Go.Proofs.YtaojnjealccjiaaDoor
open Go Go.RowKit Kb Go.Lib
set_option linter.unusedVariables false

theorem frees_and (a l : Akt) (day : Int) : freesB a l day = (rightB a && (a.kind == 1) && aboveB a.o l.o && (a.person != l.person) && decide (l.day < a.day) && decide (a.day ≤ day)) := by
  refine bool_eq_of_iff ?_
  rw [freesB_iff]
  simp only [Bool.and_eq_true, beq_iff_eq, bne_iff_ne, decide_eq_true_eq]
  constructor
  · rintro ⟨h1, h2, h3, h4, h5, h6⟩; exact ⟨⟨⟨⟨⟨h6, h1⟩, h5⟩, h2⟩, h3⟩, h4⟩
  · rintro ⟨⟨⟨⟨⟨h6, h1⟩, h5⟩, h2⟩, h3⟩, h4⟩; exact ⟨h1, h2, h3, h4, h5, h6⟩

set_option maxHeartbeats 4000000 in
theorem ref_frees (a l : Akt) (day : Int) (w : World) (ha : a.obj.size < 4294967281) (hl : l.obj.size < 4294967281) :
    Calls Tryd.prog 58 #[.agg #[.int .i64 a.kind, .int .i64 a.person, .int .i64 a.day, .string a.obj], .agg #[.int .i64 l.kind, .int .i64 l.person, .int .i64 l.day, .string l.obj], .int .i64 day] w fun e w' =>
      e = .returned (.bool (freesB a l day)) ∧ Below w.heap.size w w' := by
  rw [frees_and]
  obtain ⟨ak, ap, ad, ao⟩ := a
  obtain ⟨lk, lp, ld, lo⟩ := l
  have hri := fun W => ref_right ak ap ad ao W ha
  have hab := fun W => ref_above ao lo W (by unfold maxLen; simp at ha; omega) (by unfold maxLen; simp at hl; omega)
  simp only [Akt.o] at ha hl ⊢
  generalize aboveB ao.data.toList lo.data.toList = ab at hab ⊢
  generalize rightB ⟨ak, ap, ad, ao⟩ = ri at hri ⊢
  have hfin : ∀ o1 o2 W, Below ((w.alloc o1).alloc o2).heap.size ((w.alloc o1).alloc o2) W → Below w.heap.size w W := fun o1 o2 W h => (((Below.refl _ w).alloc (Nat.le_refl _) _).alloc (by simp) _).trans (h.mono (by simp; omega))
  have HFin := Lib.hid hfin
  have HRi := Lib.hid hri
  have HAb := Lib.hid hab
  clear hri hab hfin
  cases ri with
  | false =>
    go_enter Tryd.func58, Tryd.ntmps58
    go_wp2_with fail
    refine (HRi.out _).mono ?_
    rintro e w1 ⟨rfl, hb1⟩
    have hb := Lib.hid hb1
    have c0 : w1.cell? ⟨w.heap.size, 0, none⟩ = some (.int .i64 ak) := (hb1.cell (p := ⟨w.heap.size, 0, none⟩) (by show w.heap.size < _; simp <;> omega)).trans (by rw [World.cell?_alloc_lt _ _ _ (by simp)]; simp)
    have c1 : w1.cell? ⟨w.heap.size, 1, none⟩ = some (.int .i64 ap) := (hb1.cell (p := ⟨w.heap.size, 1, none⟩) (by show w.heap.size < _; simp <;> omega)).trans (by rw [World.cell?_alloc_lt _ _ _ (by simp)]; simp)
    have c2 : w1.cell? ⟨w.heap.size, 2, none⟩ = some (.int .i64 ad) := (hb1.cell (p := ⟨w.heap.size, 2, none⟩) (by show w.heap.size < _; simp <;> omega)).trans (by rw [World.cell?_alloc_lt _ _ _ (by simp)]; simp)
    have c3 : w1.cell? ⟨w.heap.size, 3, none⟩ = some (.string ao) := (hb1.cell (p := ⟨w.heap.size, 3, none⟩) (by show w.heap.size < _; simp <;> omega)).trans (by rw [World.cell?_alloc_lt _ _ _ (by simp)]; simp)
    have d0 : w1.cell? ⟨w.heap.size + 1, 0, none⟩ = some (.int .i64 lk) := (hb1.cell (p := ⟨w.heap.size + 1, 0, none⟩) (by show w.heap.size + 1 < _; simp <;> omega)).trans (by simp)
    have d1 : w1.cell? ⟨w.heap.size + 1, 1, none⟩ = some (.int .i64 lp) := (hb1.cell (p := ⟨w.heap.size + 1, 1, none⟩) (by show w.heap.size + 1 < _; simp <;> omega)).trans (by simp)
    have d2 : w1.cell? ⟨w.heap.size + 1, 2, none⟩ = some (.int .i64 ld) := (hb1.cell (p := ⟨w.heap.size + 1, 2, none⟩) (by show w.heap.size + 1 < _; simp <;> omega)).trans (by simp)
    have d3 : w1.cell? ⟨w.heap.size + 1, 3, none⟩ = some (.string lo) := (hb1.cell (p := ⟨w.heap.size + 1, 3, none⟩) (by show w.heap.size + 1 < _; simp <;> omega)).trans (by simp)
    clear hb1
    go_wp2_with fail
    go_ret
    exact ⟨rfl, HFin.out _ _ _ hb.out⟩
  | true =>
    cases hk : (ak == 1) with
    | false =>
      go_enter Tryd.func58, Tryd.ntmps58
      go_wp2_with fail
      refine (HRi.out _).mono ?_
      rintro e w1 ⟨rfl, hb1⟩
      have hb := Lib.hid hb1
      have c0 : w1.cell? ⟨w.heap.size, 0, none⟩ = some (.int .i64 ak) := (hb1.cell (p := ⟨w.heap.size, 0, none⟩) (by show w.heap.size < _; simp <;> omega)).trans (by rw [World.cell?_alloc_lt _ _ _ (by simp)]; simp)
      have c1 : w1.cell? ⟨w.heap.size, 1, none⟩ = some (.int .i64 ap) := (hb1.cell (p := ⟨w.heap.size, 1, none⟩) (by show w.heap.size < _; simp <;> omega)).trans (by rw [World.cell?_alloc_lt _ _ _ (by simp)]; simp)
      have c2 : w1.cell? ⟨w.heap.size, 2, none⟩ = some (.int .i64 ad) := (hb1.cell (p := ⟨w.heap.size, 2, none⟩) (by show w.heap.size < _; simp <;> omega)).trans (by rw [World.cell?_alloc_lt _ _ _ (by simp)]; simp)
      have c3 : w1.cell? ⟨w.heap.size, 3, none⟩ = some (.string ao) := (hb1.cell (p := ⟨w.heap.size, 3, none⟩) (by show w.heap.size < _; simp <;> omega)).trans (by rw [World.cell?_alloc_lt _ _ _ (by simp)]; simp)
      have d0 : w1.cell? ⟨w.heap.size + 1, 0, none⟩ = some (.int .i64 lk) := (hb1.cell (p := ⟨w.heap.size + 1, 0, none⟩) (by show w.heap.size + 1 < _; simp <;> omega)).trans (by simp)
      have d1 : w1.cell? ⟨w.heap.size + 1, 1, none⟩ = some (.int .i64 lp) := (hb1.cell (p := ⟨w.heap.size + 1, 1, none⟩) (by show w.heap.size + 1 < _; simp <;> omega)).trans (by simp)
      have d2 : w1.cell? ⟨w.heap.size + 1, 2, none⟩ = some (.int .i64 ld) := (hb1.cell (p := ⟨w.heap.size + 1, 2, none⟩) (by show w.heap.size + 1 < _; simp <;> omega)).trans (by simp)
      have d3 : w1.cell? ⟨w.heap.size + 1, 3, none⟩ = some (.string lo) := (hb1.cell (p := ⟨w.heap.size + 1, 3, none⟩) (by show w.heap.size + 1 < _; simp <;> omega)).trans (by simp)
      clear hb1
      go_wp2_with fail
      go_ret
      exact ⟨rfl, HFin.out _ _ _ hb.out⟩
    | true =>
      cases ab with
      | false =>
        go_enter Tryd.func58, Tryd.ntmps58
        go_wp2_with fail
        refine (HRi.out _).mono ?_
        rintro e w1 ⟨rfl, hb1⟩
        have hb := Lib.hid hb1
        have c0 : w1.cell? ⟨w.heap.size, 0, none⟩ = some (.int .i64 ak) := (hb1.cell (p := ⟨w.heap.size, 0, none⟩) (by show w.heap.size < _; simp <;> omega)).trans (by rw [World.cell?_alloc_lt _ _ _ (by simp)]; simp)
        have c1 : w1.cell? ⟨w.heap.size, 1, none⟩ = some (.int .i64 ap) := (hb1.cell (p := ⟨w.heap.size, 1, none⟩) (by show w.heap.size < _; simp <;> omega)).trans (by rw [World.cell?_alloc_lt _ _ _ (by simp)]; simp)
        have c2 : w1.cell? ⟨w.heap.size, 2, none⟩ = some (.int .i64 ad) := (hb1.cell (p := ⟨w.heap.size, 2, none⟩) (by show w.heap.size < _; simp <;> omega)).trans (by rw [World.cell?_alloc_lt _ _ _ (by simp)]; simp)
        have c3 : w1.cell? ⟨w.heap.size, 3, none⟩ = some (.string ao) := (hb1.cell (p := ⟨w.heap.size, 3, none⟩) (by show w.heap.size < _; simp <;> omega)).trans (by rw [World.cell?_alloc_lt _ _ _ (by simp)]; simp)
        have d0 : w1.cell? ⟨w.heap.size + 1, 0, none⟩ = some (.int .i64 lk) := (hb1.cell (p := ⟨w.heap.size + 1, 0, none⟩) (by show w.heap.size + 1 < _; simp <;> omega)).trans (by simp)
        have d1 : w1.cell? ⟨w.heap.size + 1, 1, none⟩ = some (.int .i64 lp) := (hb1.cell (p := ⟨w.heap.size + 1, 1, none⟩) (by show w.heap.size + 1 < _; simp <;> omega)).trans (by simp)
        have d2 : w1.cell? ⟨w.heap.size + 1, 2, none⟩ = some (.int .i64 ld) := (hb1.cell (p := ⟨w.heap.size + 1, 2, none⟩) (by show w.heap.size + 1 < _; simp <;> omega)).trans (by simp)
        have d3 : w1.cell? ⟨w.heap.size + 1, 3, none⟩ = some (.string lo) := (hb1.cell (p := ⟨w.heap.size + 1, 3, none⟩) (by show w.heap.size + 1 < _; simp <;> omega)).trans (by simp)
        clear hb1
        go_wp2_with fail
        refine (HAb.out _).mono ?_
        rintro e w2 ⟨rfl, rfl⟩
        go_wp2_with fail
        go_ret
        exact ⟨rfl, HFin.out _ _ _ hb.out⟩
      | true =>
        cases hp : (ap != lp) with
        | false =>
          go_enter Tryd.func58, Tryd.ntmps58
          go_wp2_with fail
          refine (HRi.out _).mono ?_
          rintro e w1 ⟨rfl, hb1⟩
          have hb := Lib.hid hb1
          have c0 : w1.cell? ⟨w.heap.size, 0, none⟩ = some (.int .i64 ak) := (hb1.cell (p := ⟨w.heap.size, 0, none⟩) (by show w.heap.size < _; simp <;> omega)).trans (by rw [World.cell?_alloc_lt _ _ _ (by simp)]; simp)
          have c1 : w1.cell? ⟨w.heap.size, 1, none⟩ = some (.int .i64 ap) := (hb1.cell (p := ⟨w.heap.size, 1, none⟩) (by show w.heap.size < _; simp <;> omega)).trans (by rw [World.cell?_alloc_lt _ _ _ (by simp)]; simp)
          have c2 : w1.cell? ⟨w.heap.size, 2, none⟩ = some (.int .i64 ad) := (hb1.cell (p := ⟨w.heap.size, 2, none⟩) (by show w.heap.size < _; simp <;> omega)).trans (by rw [World.cell?_alloc_lt _ _ _ (by simp)]; simp)
          have c3 : w1.cell? ⟨w.heap.size, 3, none⟩ = some (.string ao) := (hb1.cell (p := ⟨w.heap.size, 3, none⟩) (by show w.heap.size < _; simp <;> omega)).trans (by rw [World.cell?_alloc_lt _ _ _ (by simp)]; simp)
          have d0 : w1.cell? ⟨w.heap.size + 1, 0, none⟩ = some (.int .i64 lk) := (hb1.cell (p := ⟨w.heap.size + 1, 0, none⟩) (by show w.heap.size + 1 < _; simp <;> omega)).trans (by simp)
          have d1 : w1.cell? ⟨w.heap.size + 1, 1, none⟩ = some (.int .i64 lp) := (hb1.cell (p := ⟨w.heap.size + 1, 1, none⟩) (by show w.heap.size + 1 < _; simp <;> omega)).trans (by simp)
          have d2 : w1.cell? ⟨w.heap.size + 1, 2, none⟩ = some (.int .i64 ld) := (hb1.cell (p := ⟨w.heap.size + 1, 2, none⟩) (by show w.heap.size + 1 < _; simp <;> omega)).trans (by simp)
          have d3 : w1.cell? ⟨w.heap.size + 1, 3, none⟩ = some (.string lo) := (hb1.cell (p := ⟨w.heap.size + 1, 3, none⟩) (by show w.heap.size + 1 < _; simp <;> omega)).trans (by simp)
          clear hb1
          go_wp2_with fail
          refine (HAb.out _).mono ?_
          rintro e w2 ⟨rfl, rfl⟩
          go_wp2_with fail
          go_ret
          exact ⟨rfl, HFin.out _ _ _ hb.out⟩
        | true =>
          by_cases hd : ld < ad
          · have hd2 : decide (ld < ad) = true := by simpa using hd
            go_enter Tryd.func58, Tryd.ntmps58
            go_wp2_with fail
            refine (HRi.out _).mono ?_
            rintro e w1 ⟨rfl, hb1⟩
            have hb := Lib.hid hb1
            have c0 : w1.cell? ⟨w.heap.size, 0, none⟩ = some (.int .i64 ak) := (hb1.cell (p := ⟨w.heap.size, 0, none⟩) (by show w.heap.size < _; simp <;> omega)).trans (by rw [World.cell?_alloc_lt _ _ _ (by simp)]; simp)
            have c1 : w1.cell? ⟨w.heap.size, 1, none⟩ = some (.int .i64 ap) := (hb1.cell (p := ⟨w.heap.size, 1, none⟩) (by show w.heap.size < _; simp <;> omega)).trans (by rw [World.cell?_alloc_lt _ _ _ (by simp)]; simp)
            have c2 : w1.cell? ⟨w.heap.size, 2, none⟩ = some (.int .i64 ad) := (hb1.cell (p := ⟨w.heap.size, 2, none⟩) (by show w.heap.size < _; simp <;> omega)).trans (by rw [World.cell?_alloc_lt _ _ _ (by simp)]; simp)
            have c3 : w1.cell? ⟨w.heap.size, 3, none⟩ = some (.string ao) := (hb1.cell (p := ⟨w.heap.size, 3, none⟩) (by show w.heap.size < _; simp <;> omega)).trans (by rw [World.cell?_alloc_lt _ _ _ (by simp)]; simp)
            have d0 : w1.cell? ⟨w.heap.size + 1, 0, none⟩ = some (.int .i64 lk) := (hb1.cell (p := ⟨w.heap.size + 1, 0, none⟩) (by show w.heap.size + 1 < _; simp <;> omega)).trans (by simp)
            have d1 : w1.cell? ⟨w.heap.size + 1, 1, none⟩ = some (.int .i64 lp) := (hb1.cell (p := ⟨w.heap.size + 1, 1, none⟩) (by show w.heap.size + 1 < _; simp <;> omega)).trans (by simp)
            have d2 : w1.cell? ⟨w.heap.size + 1, 2, none⟩ = some (.int .i64 ld) := (hb1.cell (p := ⟨w.heap.size + 1, 2, none⟩) (by show w.heap.size + 1 < _; simp <;> omega)).trans (by simp)
            have d3 : w1.cell? ⟨w.heap.size + 1, 3, none⟩ = some (.string lo) := (hb1.cell (p := ⟨w.heap.size + 1, 3, none⟩) (by show w.heap.size + 1 < _; simp <;> omega)).trans (by simp)
            clear hb1
            go_wp2_with fail
            refine (HAb.out _).mono ?_
            rintro e w2 ⟨rfl, rfl⟩
            go_wp2_with fail
            go_ret
            exact ⟨by rw [hd2]; rfl, HFin.out _ _ _ hb.out⟩
          · have hd2 : decide (ld < ad) = false := by simpa using hd
            go_enter Tryd.func58, Tryd.ntmps58
            go_wp2_with fail
            refine (HRi.out _).mono ?_
            rintro e w1 ⟨rfl, hb1⟩
            have hb := Lib.hid hb1
            have c0 : w1.cell? ⟨w.heap.size, 0, none⟩ = some (.int .i64 ak) := (hb1.cell (p := ⟨w.heap.size, 0, none⟩) (by show w.heap.size < _; simp <;> omega)).trans (by rw [World.cell?_alloc_lt _ _ _ (by simp)]; simp)
            have c1 : w1.cell? ⟨w.heap.size, 1, none⟩ = some (.int .i64 ap) := (hb1.cell (p := ⟨w.heap.size, 1, none⟩) (by show w.heap.size < _; simp <;> omega)).trans (by rw [World.cell?_alloc_lt _ _ _ (by simp)]; simp)
            have c2 : w1.cell? ⟨w.heap.size, 2, none⟩ = some (.int .i64 ad) := (hb1.cell (p := ⟨w.heap.size, 2, none⟩) (by show w.heap.size < _; simp <;> omega)).trans (by rw [World.cell?_alloc_lt _ _ _ (by simp)]; simp)
            have c3 : w1.cell? ⟨w.heap.size, 3, none⟩ = some (.string ao) := (hb1.cell (p := ⟨w.heap.size, 3, none⟩) (by show w.heap.size < _; simp <;> omega)).trans (by rw [World.cell?_alloc_lt _ _ _ (by simp)]; simp)
            have d0 : w1.cell? ⟨w.heap.size + 1, 0, none⟩ = some (.int .i64 lk) := (hb1.cell (p := ⟨w.heap.size + 1, 0, none⟩) (by show w.heap.size + 1 < _; simp <;> omega)).trans (by simp)
            have d1 : w1.cell? ⟨w.heap.size + 1, 1, none⟩ = some (.int .i64 lp) := (hb1.cell (p := ⟨w.heap.size + 1, 1, none⟩) (by show w.heap.size + 1 < _; simp <;> omega)).trans (by simp)
            have d2 : w1.cell? ⟨w.heap.size + 1, 2, none⟩ = some (.int .i64 ld) := (hb1.cell (p := ⟨w.heap.size + 1, 2, none⟩) (by show w.heap.size + 1 < _; simp <;> omega)).trans (by simp)
            have d3 : w1.cell? ⟨w.heap.size + 1, 3, none⟩ = some (.string lo) := (hb1.cell (p := ⟨w.heap.size + 1, 3, none⟩) (by show w.heap.size + 1 < _; simp <;> omega)).trans (by simp)
            clear hb1
            go_wp2_with fail
            refine (HAb.out _).mono ?_
            rintro e w2 ⟨rfl, rfl⟩
            go_wp2_with fail
            go_ret
            exact ⟨by rw [hd2]; rfl, HFin.out _ _ _ hb.out⟩

/-- no two acts at these places release the lock together -/
def NP (acts : List Akt) (l : Akt) (day : Int) (i k : Nat) : Prop := ∀ x y, acts[i]? = some x → acts[k]? = some y → ¬ (freesB x l day = true ∧ freesB y l day = true ∧ x.person ≠ y.person)
theorem NP.two {acts : List Akt} {l : Akt} {day : Int} (h : ∀ i, i < acts.length → ∀ k, k < i → NP acts l day i k) : twoB acts l day = false := by
  cases e : twoB acts l day with
  | false => rfl
  | true =>
    obtain ⟨x, hx, y, hy, fx, fy, hne⟩ := twoB_iff.1 e
    obtain ⟨i, hi, rfl⟩ := List.getElem_of_mem hx
    obtain ⟨k, hk, rfl⟩ := List.getElem_of_mem hy
    rcases Nat.lt_trichotomy k i with hlt | heq | hlt
    · exact absurd ⟨fx, fy, hne⟩ (h i hi k hlt _ _ (List.getElem?_eq_getElem hi) (List.getElem?_eq_getElem hk))
    · subst heq; exact absurd rfl hne
    · exact absurd ⟨fy, fx, fun e => hne e.symm⟩ (h k hk i hlt _ _ (List.getElem?_eq_getElem hk) (List.getElem?_eq_getElem hi))
theorem NP.yes {acts : List Akt} {l : Akt} {day : Int} {i k : Nat} (hi : i < acts.length) (hk : k < acts.length) (h1 : freesB acts[i] l day = true) (h2 : freesB acts[k] l day = true) (h3 : acts[i].person ≠ acts[k].person) : twoB acts l day = true :=
  twoB_iff.2 ⟨_, List.getElem_mem hi, _, List.getElem_mem hk, h1, h2, h3⟩

end Go.Proofs.YtaojnjealccjiaaDoor
