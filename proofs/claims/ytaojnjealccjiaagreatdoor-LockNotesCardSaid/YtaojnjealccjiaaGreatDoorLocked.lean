/- lock.force, Locked, Hidden, May. -/
import Derived.Test.YtaojnjealccjiaaGreatDoorAct
import Derived.Test.YtaojnjealccjiaaGreatDoorWords

namespace Go.Proofs.YtaojnjealccjiaaGreatDoor
open Go Go.RowKit Kb Go.Lib
set_option linter.unusedVariables false

theorem bcell {W w1 : World} (hb : Below W.heap.size W w1) : (∀ b o, b < W.heap.size → w1.cell? ⟨b, o, none⟩ = W.cell? ⟨b, o, none⟩) ∧ (∀ b o, b < W.heap.size → w1.frozen? ⟨b, o, none⟩ = W.frozen? ⟨b, o, none⟩) :=
  ⟨fun b o h => hb.cell (p := ⟨b, o, none⟩) h, fun b o h => hb.frozen (p := ⟨b, o, none⟩) h⟩

/-- the four cells of an act -/
def At4 (w : World) (b o : Nat) (a : Akt) : Prop :=
  w.cell? ⟨b, o, none⟩ = some (.int .i64 a.kind) ∧ w.cell? ⟨b, o + 1, none⟩ = some (.int .i64 a.person) ∧ w.cell? ⟨b, o + 2, none⟩ = some (.int .i64 a.day) ∧ w.cell? ⟨b, o + 3, none⟩ = some (.string a.obj)

theorem at4_of {w : World} {A : Option Addr} {acts : List Akt} (hl : Lst aktV 4 w A acts) {k : Nat} (hk : k < acts.length) :
    ∃ b off, A = some ⟨b, off, none⟩ ∧ b < w.heap.size ∧ At4 w b (off + k * 4) acts[k] := by
  obtain ⟨b, off, e, hlt, hc⟩ := hl (fun h => by rw [h] at hk; exact absurd hk (Nat.not_lt_zero _))
  have hx := hc k acts[k] (List.getElem?_eq_getElem hk)
  exact ⟨b, off, e, hlt, hx 0 _ rfl, hx 1 _ rfl, hx 2 _ rfl, hx 3 _ rfl⟩

theorem At4.below {B : Nat} {w w' : World} {b o : Nat} {a : Akt} (h : At4 w b o a) (hb : Below B w w') (hlt : b < B) : At4 w' b o a :=
  ⟨(hb.cell (p := ⟨b, o, none⟩) hlt).trans h.1, (hb.cell (p := ⟨b, o + 1, none⟩) hlt).trans h.2.1, (hb.cell (p := ⟨b, o + 2, none⟩) hlt).trans h.2.2.1, (hb.cell (p := ⟨b, o + 3, none⟩) hlt).trans h.2.2.2⟩

theorem At4.alloc {w : World} {b o : Nat} {a : Akt} (h : At4 w b o a) (hlt : b < w.heap.size) (x : Obj) : At4 (w.alloc x) b o a := h.below ((Below.refl _ w).alloc (Nat.le_refl _) x) hlt

/-- after k rounds of force: the acts so far that free have one person -/
def FRel (acts : List Akt) (l : Akt) (day : Int) (k : Nat) (fp : Int) (sm : Bool) : Prop :=
  (∀ x ∈ acts.take k, freesB x l day = true → sm = true ∧ x.person = fp) ∧ (sm = true → ∃ x ∈ acts.take k, freesB x l day = true ∧ x.person = fp)

section
variable {acts : List Akt} {l : Akt} {day fp : Int} {k : Nat} {sm : Bool}
theorem mem_take_succ {x : Akt} (hk : k < acts.length) : x ∈ acts.take (k + 1) ↔ x ∈ acts.take k ∨ x = acts[k] := by
  rw [List.take_succ_eq_append_getElem hk, List.mem_append, List.mem_singleton]
theorem FRel.skip (h : FRel acts l day k fp sm) (hk : k < acts.length) (hf : freesB acts[k] l day = false) : FRel acts l day (k + 1) fp sm := by
  refine ⟨fun x hx fx => ?_, fun hs => ?_⟩
  · rcases (mem_take_succ hk).1 hx with m | rfl
    · exact h.1 x m fx
    · rw [hf] at fx; cases fx
  · obtain ⟨x, hx, r⟩ := h.2 hs
    exact ⟨x, (mem_take_succ hk).2 (.inl hx), r⟩
theorem FRel.take (h : FRel acts l day k fp sm) (hk : k < acts.length) (hf : freesB acts[k] l day = true) (hp : sm = true → acts[k].person = fp) : FRel acts l day (k + 1) acts[k].person true := by
  refine ⟨fun x hx fx => ⟨rfl, ?_⟩, fun _ => ⟨acts[k], (mem_take_succ hk).2 (.inr rfl), hf, rfl⟩⟩
  rcases (mem_take_succ hk).1 hx with m | rfl
  · obtain ⟨s, e⟩ := h.1 x m fx
    rw [e, hp s]
  · rfl
theorem FRel.two (h : FRel acts l day k fp true) (hk : k < acts.length) (hf : freesB acts[k] l day = true) (hp : acts[k].person ≠ fp) : forceB acts l day = false := by
  obtain ⟨x, hx, fx, e⟩ := h.2 rfl
  have : twoB acts l day = true := twoB_iff.2 ⟨acts[k], List.getElem_mem hk, x, List.mem_of_mem_take hx, hf, fx, by rw [e]; exact hp⟩
  unfold forceB; rw [this]; simp
theorem FRel.fin (h : FRel acts l day acts.length fp sm) (hd : l.day ≤ day) : forceB acts l day = true := by
  rw [forceB_iff]
  refine ⟨hd, ?_⟩
  cases e : twoB acts l day with
  | false => rfl
  | true =>
    obtain ⟨x, hx, y, hy, fx, fy, hne⟩ := twoB_iff.1 e
    rw [← List.take_length (l := acts)] at hx hy
    exact absurd ((h.1 x hx fx).2.trans (h.1 y hy fy).2.symm) hne
theorem frees_eq {ak ap ad : Int} {ao : ByteArray} : freesB ⟨ak, ap, ad, ao⟩ l day = (decide (ak = 1) && !decide (ap = l.person) && decide (l.day < ad) && decide (ad ≤ day) && aboveB ao.data.toList l.obj.data.toList && rightB ⟨ak, ap, ad, ao⟩) := rfl
end

set_option maxHeartbeats 4000000 in
theorem lock_force (acts : List Akt) (A : Option Addr) (c : Nat) (l : Akt) (day : Int) (w : World) (hl : Lst aktV 4 w A acts)
    (hs : ∀ a ∈ acts, a.obj.size < 4294967281) (hlo : l.obj.size < 4294967281) (hbig : acts.length ≤ maxLen) :
    Calls Tryz.prog 38 #[.slice A acts.length c, .agg #[.int .i64 l.kind, .int .i64 l.person, .int .i64 l.day, .string l.obj], .int .i64 day] w fun e w' =>
      e = .returned (.bool (forceB acts l day)) ∧ Below w.heap.size w w' := by
  unfold maxLen at hbig
  by_cases hd : l.day ≤ day
  · have hnd : ¬ day < l.day := by omega
    generalize hn : acts.length = n at hbig ⊢
    have HN := Lib.hid hn
    clear hn
    go_enter Tryz.func38, Tryz.ntmps38
    go_wp2_with fail
    go_loopw [7, 8, 17] (fun f s i wr => ∃ (k : Nat) (fp : Int) (sm : Bool), k ≤ n ∧ i = .int .i64 k ∧ f = .int .i64 fp ∧ s = .bool sm ∧ Hid (FRel acts l day k fp sm) ∧ Hid (Below (w.heap.size + 1) (w.alloc (.cells #[.int .i64 l.kind, .int .i64 l.person, .int .i64 l.day, .string l.obj] 47)) wr)) (fun _ _ i _ => n - (intOf i).toNat)
    case atStart => exact ⟨0, 0, false, Nat.zero_le _, rfl, rfl, rfl, ⟨fun x hx => by simp at hx, fun h => by cases h⟩, Below.refl _ _⟩
    case round =>
      obtain ⟨k, fp, sm, hk, rfl, rfl, rfl, HF, HB⟩ := hrel
      by_cases hlt : k < n
      · obtain ⟨b, off, rfl, hbl, h4⟩ := at4_of hl (k := k) (by rw [HN.out]; exact hlt)
        obtain ⟨c0, c1, c2, c3⟩ := (h4.alloc hbl _).below HB.out (by omega)
        have hkl : k < acts.length := by rw [HN.out]; exact hlt
        have hso := hs acts[k] (List.getElem_mem hkl)
        generalize hak : acts[k] = a at c0 c1 c2 c3 hso
        have HA := Lib.hid hak
        clear hak h4
        obtain ⟨ak, ap, ad, ao⟩ := a
        simp only at c0 c1 c2 c3 hso
        have b1 : wr.cell? ⟨w.heap.size, 0, none⟩ = some (.int .i64 l.kind) := (HB.out.cell (p := ⟨w.heap.size, 0, none⟩) (by simp)).trans (by simp)
        have b2 : wr.cell? ⟨w.heap.size, 1, none⟩ = some (.int .i64 l.person) := (HB.out.cell (p := ⟨w.heap.size, 1, none⟩) (by simp)).trans (by simp)
        have b3 : wr.cell? ⟨w.heap.size, 2, none⟩ = some (.int .i64 l.day) := (HB.out.cell (p := ⟨w.heap.size, 2, none⟩) (by simp)).trans (by simp)
        have b4 : wr.cell? ⟨w.heap.size, 3, none⟩ = some (.string l.obj) := (HB.out.cell (p := ⟨w.heap.size, 3, none⟩) (by simp)).trans (by simp)
        have hab := fun W => lock_above ao l.obj W hso
        have hri := fun W => lock_right ak ap ad ao W hso
        generalize hab2 : aboveB ao.data.toList l.obj.data.toList = ab at hab
        generalize hri2 : rightB ⟨ak, ap, ad, ao⟩ = ri at hri
        have HAb2 := Lib.hid hab2
        have HRi2 := Lib.hid hri2
        have HAb := Lib.hid hab
        have HRi := Lib.hid hri
        clear hab hri hab2 hri2 hl hs
        have hBs : w.heap.size + 1 ≤ wr.heap.size := by have := HB.out.size; simpa using this
        have hBlt : w.heap.size < wr.heap.size := by omega
        have hBne : w.heap.size ≠ wr.heap.size := by omega
        by_cases e1 : ak = 1
        · subst e1
          by_cases e2 : ap = l.person
          · have e2' : (ap == l.person) = true := by simp [e2]
            have E2 := Lib.hid e2
            clear e2
            go_wp2_with fail
            go_roundw
            case rel => exact ⟨k + 1, fp, sm, by omega, by go_num, rfl, rfl, HF.out.skip hkl (by rw [HA.out, frees_eq]; simp [E2.out]), HB.out.alloc (by have := HB.out.size; simp at this; omega) _⟩
            case measure => simp [intOf]; omega
          · have e2' : (ap == l.person) = false := by simp [e2]
            have E2 := Lib.hid e2
            clear e2
            by_cases e3 : ad ≤ l.day
            · go_wp2_with fail
              go_roundw
              case rel => exact ⟨k + 1, fp, sm, by omega, by go_num, rfl, rfl, HF.out.skip hkl (by rw [HA.out, frees_eq]; have : ¬ l.day < ad := (by omega); simp [this]), HB.out.alloc (by have := HB.out.size; simp at this; omega) _⟩
              case measure => simp [intOf]; omega
            · by_cases e4 : day < ad
              · go_wp2_with fail
                go_roundw
                case rel => exact ⟨k + 1, fp, sm, by omega, by go_num, rfl, rfl, HF.out.skip hkl (by rw [HA.out, frees_eq]; have : ¬ ad ≤ day := (by omega); simp [this]), HB.out.alloc (by have := HB.out.size; simp at this; omega) _⟩
                case measure => simp [intOf]; omega
              · cases ab with
                | false =>
                  go_wp2_with (go_at_call 33; refine (HAb.out _).mono ?_; rintro e w' ⟨rfl, rfl⟩)
                  go_roundw
                  case rel => exact ⟨k + 1, fp, sm, by omega, by go_num, rfl, rfl, HF.out.skip hkl (by rw [HA.out, frees_eq]; simp [HAb2.out]), HB.out.alloc (by have := HB.out.size; simp at this; omega) _⟩
                  case measure => simp [intOf]; omega
                | true =>
                  cases ri with
                  | false =>
                    go_wp2_with (first | (go_at_call 33; refine (HAb.out _).mono ?_; rintro e w' ⟨rfl, rfl⟩) | (go_at_call 23; refine (HRi.out _).mono ?_; rintro e w' ⟨rfl, hb'⟩))
                    go_roundw
                    case rel => exact ⟨k + 1, fp, sm, by omega, by go_num, rfl, rfl, HF.out.skip hkl (by rw [HA.out, frees_eq]; simp [HRi2.out]), ((HB.out.alloc hBs _).trans (hb'.mono (by simp; omega)))⟩
                    case measure => simp [intOf]; omega
                  | true =>
                    have hfr : freesB ⟨1, ap, ad, ao⟩ l day = true := by
                      have := E2.out
                      rw [frees_eq, HAb2.out, HRi2.out]
                      simp [this]; omega
                    have HFr := Lib.hid hfr
                    clear hfr
                    by_cases e5 : sm = true ∧ ap ≠ fp
                    · obtain ⟨rfl, e6⟩ := e5
                      have e6' : (ap != fp) = true := by simp [e6]
                      have E6 := Lib.hid e6
                      clear e6
                      go_wp2_with (first | (go_at_call 33; refine (HAb.out _).mono ?_; rintro e w' ⟨rfl, rfl⟩) | (go_at_call 23; refine (HRi.out _).mono ?_; rintro e w' ⟨rfl, hb'⟩; obtain ⟨hc', hf'⟩ := bcell hb'))
                      go_ret
                      refine ⟨?_, ((((Below.refl _ w).alloc (Nat.le_refl _) _).trans (HB.out.mono (by omega))).alloc (by omega) _).trans (hb'.mono (by simp; omega))⟩
                      rw [HF.out.two hkl (by rw [HA.out]; exact HFr.out) (by rw [HA.out]; exact E6.out)]
                      rfl
                    · have hp : sm = true → ap = fp := fun h => by
                        by_cases e : ap = fp
                        · exact e
                        · exact absurd ⟨h, e⟩ e5
                      have HP := Lib.hid hp
                      clear hp e5
                      cases sm with
                      | false =>
                        go_wp2_with (first | (go_at_call 33; refine (HAb.out _).mono ?_; rintro e w' ⟨rfl, rfl⟩) | (go_at_call 23; refine (HRi.out _).mono ?_; rintro e w' ⟨rfl, hb'⟩; obtain ⟨hc', hf'⟩ := bcell hb'))
                        go_roundw
                        case rel => exact ⟨k + 1, ap, true, by omega, by go_num, rfl, rfl, by have h5 := HF.out.take hkl (by rw [HA.out]; exact HFr.out) (by rw [HA.out]; exact HP.out); rw [HA.out] at h5; exact h5, (HB.out.alloc hBs _).trans (hb'.mono (by simp; omega))⟩
                        case measure => simp [intOf]; omega
                      | true =>
                        have e6' : (ap != fp) = false := by simp [HP.out rfl]
                        go_wp2_with (first | (go_at_call 33; refine (HAb.out _).mono ?_; rintro e w' ⟨rfl, rfl⟩) | (go_at_call 23; refine (HRi.out _).mono ?_; rintro e w' ⟨rfl, hb'⟩; obtain ⟨hc', hf'⟩ := bcell hb'))
                        go_roundw
                        case rel => exact ⟨k + 1, ap, true, by omega, by go_num, rfl, rfl, by have h5 := HF.out.take hkl (by rw [HA.out]; exact HFr.out) (by rw [HA.out]; exact fun _ => HP.out trivial); rw [HA.out] at h5; exact h5, (HB.out.alloc hBs _).trans (hb'.mono (by simp; omega))⟩
                        case measure => simp [intOf]; omega
        · have e1' : (ak != 1) = true := by simp [e1]
          have E1 := Lib.hid e1
          clear e1
          go_wp2_with fail
          go_roundw
          case rel => exact ⟨k + 1, fp, sm, by omega, by go_num, rfl, rfl, HF.out.skip hkl (by rw [HA.out, frees_eq]; simp [E1.out]), HB.out.alloc (by have := HB.out.size; simp at this; omega) _⟩
          case measure => simp [intOf]; omega
      · have hkn : k = n := by omega
        go_wp2_with fail
        go_ret
        refine ⟨?_, ((Below.refl _ w).alloc (Nat.le_refl _) _).trans (HB.out.mono (by omega))⟩
        have h5 := HF.out
        rw [hkn, ← HN.out] at h5
        rw [h5.fin hd]
        rfl
  · have hnd : day < l.day := by omega
    go_enter Tryz.func38, Tryz.ntmps38
    go_wp2_with fail
    go_ret
    refine ⟨?_, (Below.refl _ _).alloc (Nat.le_refl _) _⟩
    unfold forceB
    simp
    omega

end Go.Proofs.YtaojnjealccjiaaGreatDoor
