/- kitbagref48.Above; the law's own two. -/
import Derived.Test.YtaojnjealccjiaaDoorFew
namespace Go.Proofs.YtaojnjealccjiaaDoor
open Go Go.RowKit Kb Go.Lib
set_option linter.unusedVariables false

theorem aboveB_ge {a b : Bytes} (h : b.length ≤ a.length) : aboveB a b = (a == b) := by
  unfold aboveB
  have : (a ++ [47]).isPrefixOf b = false := by
    rw [Bool.eq_false_iff]
    intro hp
    have := (List.isPrefixOf_iff_prefix.1 hp).length_le
    simp at this; omega
  rw [this, Bool.or_false]
theorem aboveB_lt {a b : Bytes} (h : a.length < b.length) : aboveB a b = (b.take a.length == a && decide (b[a.length] = 47)) := by
  rw [Bool.eq_iff_iff, aboveB_iff, Bool.and_eq_true, beq_iff_eq, decide_eq_true_eq]
  constructor
  · rintro (rfl | ⟨t, rfl⟩)
    · omega
    · exact ⟨by simp, by simp⟩
  · rintro ⟨h1, h2⟩
    refine .inr ⟨b.drop (a.length + 1), ?_⟩
    have := List.take_append_drop a.length b
    rw [h1, List.drop_eq_getElem_cons h, h2] at this
    exact this.symm

set_option maxHeartbeats 1000000 in
theorem ref_above (a b : ByteArray) (w : World) (ha : a.size ≤ maxLen) (hb : b.size ≤ maxLen) :
    Calls Tryd.prog 22 #[.string a, .string b] w fun e w' => e = .returned (.bool (aboveB a.data.toList b.data.toList)) ∧ w = w' := by
  have la := size_list a
  have lb := size_list b
  unfold maxLen at ha hb
  by_cases h : b.size ≤ a.size
  · rw [aboveB_ge (by omega), ← Lib.toList_data, ← Lib.toList_data]
    clear la lb
    go_enter Tryd.func22, Tryd.ntmps22
    go_wp2_with fail
    go_ret
    exact ⟨rfl, rfl⟩
  · have hlt : a.size < b.size := by omega
    have e1 : (b.extract 0 a.size).toList = b.data.toList.take a.size := by rw [Lib.toList_data, Lib.extract_data]; simp
    have e2 : b.data.toList[a.data.toList.length]'(by omega) = b[a.size] := by simp only [la]; rfl
    rw [aboveB_lt (by omega), e2, la, ← e1, ← Lib.toList_data a]
    have e3 : decide (b[a.size] = 47) = ((b[a.size].toNat : Int) == 47) := by
      rw [Bool.eq_iff_iff]; simp [← UInt8.toNat_inj]; omega
    rw [e3]
    clear e1 e2 e3 la lb h
    cases h1 : ((b.extract 0 a.size).toList == a.toList) <;> cases h2 : ((b[a.size].toNat : Int) == 47) <;>
      (go_enter Tryd.func22, Tryd.ntmps22
       go_wp2_with fail
       go_ret
       exact ⟨rfl, rfl⟩)

section
variable {acts : List Akt} {l : Akt} {day fp : Int} {k : Nat} {sm : Bool}
theorem FRel.twoB_ (h : FRel acts l day k fp true) (hk : k < acts.length) (hf : freesB acts[k] l day = true) (hp : acts[k].person ≠ fp) : twoB acts l day = true := by
  obtain ⟨x, hx, fx, e⟩ := h.2 rfl
  exact twoB_iff.2 ⟨acts[k], List.getElem_mem hk, x, List.mem_of_mem_take hx, hf, fx, by rw [e]; exact hp⟩
theorem FRel.none_ (h : FRel acts l day acts.length fp sm) : twoB acts l day = false := by
  cases e : twoB acts l day with
  | false => rfl
  | true =>
    obtain ⟨x, hx, y, hy, fx, fy, hne⟩ := twoB_iff.1 e
    rw [← List.take_length (l := acts)] at hx hy
    exact absurd ((h.1 x hx fx).2.trans (h.1 y hy fy).2.symm) hne
end
theorem right_person {a : Akt} (h : rightB a = true) : 0 ≤ a.person := by
  unfold rightB at h; simp at h; omega

set_option maxHeartbeats 4000000 in
theorem law_two (acts : List Akt) (A : Option Addr) (c : Nat) (l : Akt) (day : Int) (w : World) (hl : Lst aktV 4 w A acts) (hsm : Small acts) (hlo : l.obj.size < 4294967281) :
    Calls Tryd.prog 23 #[.slice A acts.length c, .agg #[.int .i64 l.kind, .int .i64 l.person, .int .i64 l.day, .string l.obj], .int .i64 day] w fun e w' =>
      e = .returned (.bool (twoB acts l day)) ∧ Below w.heap.size w w' := by
  obtain ⟨hs, hbig⟩ := hsm
  unfold maxLen at hbig
  generalize hn : acts.length = n at hbig ⊢
  have HN := Lib.hid hn
  clear hn
  go_enter Tryd.func23, Tryd.ntmps23
  go_wp2_with fail
  go_loopw [7, 8] (fun f i wr => ∃ (k : Nat) (fv fp : Int) (sm : Bool), k ≤ n ∧ i = .int .i64 k ∧ f = .int .i64 fv ∧ Hid ((sm = false ∧ fv = -1) ∨ (sm = true ∧ fv = fp ∧ 0 ≤ fp)) ∧ Hid (FRel acts l day k fp sm) ∧ Hid (Below (w.heap.size + 1) (w.alloc (.cells #[.int .i64 l.kind, .int .i64 l.person, .int .i64 l.day, .string l.obj] 30)) wr)) (fun _ i _ => n - (intOf i).toNat)
  case atStart => exact ⟨0, -1, 0, false, Nat.zero_le _, rfl, rfl, .inl ⟨rfl, rfl⟩, ⟨fun x hx => by simp at hx, fun h => by cases h⟩, Below.refl _ _⟩
  case round =>
    obtain ⟨k, fv, fp, sm, hk, rfl, rfl, HV, HF, HB⟩ := hrel
    by_cases hlt : k < n
    · obtain ⟨b, off, rfl, hbl, h4⟩ := at4_of hl (k := k) (by rw [HN.out]; exact hlt)
      obtain ⟨c0, c1, c2, c3⟩ := (h4.alloc hbl _).below HB.out (by omega)
      have hkl : k < acts.length := by rw [HN.out]; exact hlt
      have hso := hs acts[k] (List.getElem_mem hkl)
      generalize hak : acts[k] = a at c0 c1 c2 c3 hso
      have HA := Lib.hid hak
      clear hak h4
      obtain ⟨ak, ap, ad, ao⟩ := a
      simp only at c0 c1 c2 c3 hso
      have b2 : wr.cell? ⟨w.heap.size, 1, none⟩ = some (.int .i64 l.person) := (HB.out.cell (p := ⟨w.heap.size, 1, none⟩) (by simp)).trans (by simp)
      have b3 : wr.cell? ⟨w.heap.size, 2, none⟩ = some (.int .i64 l.day) := (HB.out.cell (p := ⟨w.heap.size, 2, none⟩) (by simp)).trans (by simp)
      have b4 : wr.cell? ⟨w.heap.size, 3, none⟩ = some (.string l.obj) := (HB.out.cell (p := ⟨w.heap.size, 3, none⟩) (by simp)).trans (by simp)
      have hab := fun W => ref_above ao l.obj W (by unfold maxLen; omega) (by unfold maxLen; omega)
      have hri := fun W => lock_right ak ap ad ao W hso
      have hpos : rightB ⟨ak, ap, ad, ao⟩ = true → 0 ≤ ap := fun h => right_person h
      generalize hab2 : aboveB ao.data.toList l.obj.data.toList = ab at hab
      generalize hri2 : rightB ⟨ak, ap, ad, ao⟩ = ri at hri hpos
      have HAb2 := Lib.hid hab2
      have HRi2 := Lib.hid hri2
      have HAb := Lib.hid hab
      have HRi := Lib.hid hri
      have HPos := Lib.hid hpos
      clear hab hri hab2 hri2 hl hs hpos
      have hBs : w.heap.size + 1 ≤ wr.heap.size := by have := HB.out.size; simpa using this
      have hBlt : w.heap.size < wr.heap.size := by omega
      have hBne : w.heap.size ≠ wr.heap.size := by omega
      have hBl1 : w.heap.size < wr.heap.size + 1 := by omega
      cases ri with
      | false =>
        go_wp2_with (first | (go_at_call 18; refine (HRi.out _).mono ?_; rintro e w' ⟨rfl, hb'⟩; obtain ⟨hc', hf'⟩ := bcell hb') | (go_at_call 22; refine (HAb.out _).mono ?_; rintro e w'' ⟨rfl, rfl⟩))
        go_roundw
        case rel => exact ⟨k + 1, fv, fp, sm, by omega, by go_num, rfl, HV.out, HF.out.skip hkl (by rw [HA.out, frees_eq]; simp [HRi2.out]), (HB.out.alloc hBs _).trans (hb'.mono (by simp; omega))⟩
        case measure => simp [intOf]; omega
      | true =>
        by_cases e1 : ak = 1
        · subst e1
          by_cases e2 : ap = l.person
          · have e2' : (ap == l.person) = true := by simp [e2]
            have E2 := Lib.hid e2
            clear e2
            go_wp2_with (first | (go_at_call 18; refine (HRi.out _).mono ?_; rintro e w' ⟨rfl, hb'⟩; obtain ⟨hc', hf'⟩ := bcell hb') | (go_at_call 22; refine (HAb.out _).mono ?_; rintro e w'' ⟨rfl, rfl⟩))
            go_roundw
            case rel => exact ⟨k + 1, fv, fp, sm, by omega, by go_num, rfl, HV.out, HF.out.skip hkl (by rw [HA.out, frees_eq]; simp [E2.out]), (HB.out.alloc hBs _).trans (hb'.mono (by simp; omega))⟩
            case measure => simp [intOf]; omega
          · have e2' : (ap == l.person) = false := by simp [e2]
            have E2 := Lib.hid e2
            clear e2
            by_cases e3 : ad ≤ l.day
            · go_wp2_with (first | (go_at_call 18; refine (HRi.out _).mono ?_; rintro e w' ⟨rfl, hb'⟩; obtain ⟨hc', hf'⟩ := bcell hb') | (go_at_call 22; refine (HAb.out _).mono ?_; rintro e w'' ⟨rfl, rfl⟩))
              go_roundw
              case rel => exact ⟨k + 1, fv, fp, sm, by omega, by go_num, rfl, HV.out, HF.out.skip hkl (by rw [HA.out, frees_eq]; have : ¬ l.day < ad := (by omega); simp [this]), (HB.out.alloc hBs _).trans (hb'.mono (by simp; omega))⟩
              case measure => simp [intOf]; omega
            · by_cases e4 : day < ad
              · go_wp2_with (first | (go_at_call 18; refine (HRi.out _).mono ?_; rintro e w' ⟨rfl, hb'⟩; obtain ⟨hc', hf'⟩ := bcell hb') | (go_at_call 22; refine (HAb.out _).mono ?_; rintro e w'' ⟨rfl, rfl⟩))
                go_roundw
                case rel => exact ⟨k + 1, fv, fp, sm, by omega, by go_num, rfl, HV.out, HF.out.skip hkl (by rw [HA.out, frees_eq]; have : ¬ ad ≤ day := (by omega); simp [this]), (HB.out.alloc hBs _).trans (hb'.mono (by simp; omega))⟩
                case measure => simp [intOf]; omega
              · cases ab with
                | false =>
                  go_wp2_with (first | (go_at_call 18; refine (HRi.out _).mono ?_; rintro e w' ⟨rfl, hb'⟩; obtain ⟨hc', hf'⟩ := bcell hb') | (go_at_call 22; refine (HAb.out _).mono ?_; rintro e w'' ⟨rfl, rfl⟩))
                  go_roundw
                  case rel => exact ⟨k + 1, fv, fp, sm, by omega, by go_num, rfl, HV.out, HF.out.skip hkl (by rw [HA.out, frees_eq]; simp [HAb2.out]), (HB.out.alloc hBs _).trans (hb'.mono (by simp; omega))⟩
                  case measure => simp [intOf]; omega
                | true =>
                  have hfr : freesB ⟨1, ap, ad, ao⟩ l day = true := by
                    have := E2.out
                    rw [frees_eq, HAb2.out, HRi2.out]
                    simp [this]; omega
                  have hp0 : 0 ≤ ap := HPos.out rfl
                  have HFr := Lib.hid hfr
                  clear hfr
                  cases sm with
                  | false =>
                    obtain rfl : fv = -1 := by rcases HV.out with ⟨_, h⟩ | ⟨h, _⟩; exact h; cases h
                    go_wp2_with (first | (go_at_call 18; refine (HRi.out _).mono ?_; rintro e w' ⟨rfl, hb'⟩; obtain ⟨hc', hf'⟩ := bcell hb') | (go_at_call 22; refine (HAb.out _).mono ?_; rintro e w'' ⟨rfl, rfl⟩))
                    go_roundw
                    case rel => exact ⟨k + 1, ap, ap, true, by omega, by go_num, rfl, .inr ⟨rfl, rfl, hp0⟩, by have h5 := HF.out.take hkl (by rw [HA.out]; exact HFr.out) (fun h => by cases h); rw [HA.out] at h5; exact h5, (HB.out.alloc hBs _).trans (hb'.mono (by simp; omega))⟩
                    case measure => simp [intOf]; omega
                  | true =>
                    obtain ⟨hfv, hf0⟩ : fv = fp ∧ 0 ≤ fp := by rcases HV.out with ⟨h, _⟩ | ⟨_, h⟩; cases h; exact h
                    have hne1 : (fv != -1) = true := by rw [bne_iff_ne]; omega
                    have HFv := Lib.hid hfv
                    clear hfv HV
                    by_cases e6 : fv = ap
                    · have e6' : (fv != ap) = false := by simp [e6]
                      have E6 := Lib.hid e6
                      clear e6
                      go_wp2_with (first | (go_at_call 18; refine (HRi.out _).mono ?_; rintro e w' ⟨rfl, hb'⟩; obtain ⟨hc', hf'⟩ := bcell hb') | (go_at_call 22; refine (HAb.out _).mono ?_; rintro e w'' ⟨rfl, rfl⟩))
                      go_roundw
                      case rel => exact ⟨k + 1, ap, ap, true, by omega, by go_num, rfl, .inr ⟨rfl, rfl, hp0⟩, by have h5 := HF.out.take hkl (by rw [HA.out]; exact HFr.out) (fun _ => by rw [HA.out]; exact E6.out.symm.trans HFv.out); rw [HA.out] at h5; exact h5, (HB.out.alloc hBs _).trans (hb'.mono (by simp; omega))⟩
                      case measure => simp [intOf]; omega
                    · have e6' : (fv != ap) = true := by simp [e6]
                      have E6 := Lib.hid e6
                      clear e6
                      go_wp2_with (first | (go_at_call 18; refine (HRi.out _).mono ?_; rintro e w' ⟨rfl, hb'⟩; obtain ⟨hc', hf'⟩ := bcell hb') | (go_at_call 22; refine (HAb.out _).mono ?_; rintro e w'' ⟨rfl, rfl⟩))
                      go_ret
                      refine ⟨?_, ((((Below.refl _ w).alloc (Nat.le_refl _) _).trans (HB.out.mono (by omega))).alloc (by omega) _).trans (hb'.mono (by simp; omega))⟩
                      rw [HF.out.twoB_ hkl (by rw [HA.out]; exact HFr.out) (by rw [HA.out]; intro h; exact E6.out (HFv.out.trans h.symm))]
                      rfl
        · have e1' : (ak != 1) = true := by simp [e1]
          have E1 := Lib.hid e1
          clear e1
          go_wp2_with (first | (go_at_call 18; refine (HRi.out _).mono ?_; rintro e w' ⟨rfl, hb'⟩; obtain ⟨hc', hf'⟩ := bcell hb') | (go_at_call 22; refine (HAb.out _).mono ?_; rintro e w'' ⟨rfl, rfl⟩))
          go_roundw
          case rel => exact ⟨k + 1, fv, fp, sm, by omega, by go_num, rfl, HV.out, HF.out.skip hkl (by rw [HA.out, frees_eq]; simp [E1.out]), (HB.out.alloc hBs _).trans (hb'.mono (by simp; omega))⟩
          case measure => simp [intOf]; omega
    · have hkn : k = n := by omega
      go_wp2_with fail
      go_ret
      refine ⟨?_, ((Below.refl _ w).alloc (Nat.le_refl _) _).trans (HB.out.mono (by omega))⟩
      have h5 := HF.out
      rw [hkn, ← HN.out] at h5
      rw [h5.none_]
      rfl

end Go.Proofs.YtaojnjealccjiaaDoor
