/- The reference's May. -/
import Derived.Test.YtaojnjealccjiaaDoorRefs5
namespace Go.Proofs.YtaojnjealccjiaaDoor
open Go Go.RowKit Kb Go.Lib
set_option linter.unusedVariables false

theorem mayI_alt (ea el eo : Int) (acts : List Akt) (nm : Bytes) (p d : Int) : mayI ea el eo acts nm p d =
    if (objectB nm && (decide (0 ≤ p) && decide (p ≤ 999)) && (decide (0 ≤ d) && decide (d ≤ 100000))) = false then ea else if lockedB acts nm d = true then el else if acts.any (ownP nm p d) = true then eo else 0 := by
  unfold mayI
  rw [ownB_any]
  have e : (!objectB nm || decide (p < 0) || decide (1000 ≤ p) || decide (d < 0) || decide (100000 < d)) = !(objectB nm && (decide (0 ≤ p) && decide (p ≤ 999)) && (decide (0 ≤ d) && decide (d ≤ 100000))) := by
    cases objectB nm
    · simp
    · rw [Bool.eq_iff_iff]; simp; omega
  generalize (objectB nm && (decide (0 ≤ p) && decide (p ≤ 999)) && (decide (0 ≤ d) && decide (d ≤ 100000))) = q at e ⊢
  simp only [e]
  cases q <;> simp

set_option maxHeartbeats 4000000 in
set_option maxRecDepth 100000 in
theorem ref_may (acts : List Akt) (A : Option Addr) (c : Nat) (nm : ByteArray) (person day : Int) (w : World) (hl : Lst aktV 4 w A acts) (hsm : Small acts) (hnm : nm.size < 4294967281) :
    Calls Tryd.prog 21 #[.slice A acts.length c, .string nm, .int .i64 person, .int .i64 day] w fun e w' => e = .returned (.int .i64 (mayI 1 27 19 acts nm.data.toList person day)) ∧ Below w.heap.size w w' := by
  have hob := fun W => ref_object nm W hnm
  have hip := fun W => ref_in person 999 W
  have hid_ := fun W => ref_in day 100000 W
  have hlk := fun W (h : Lst aktV 4 W A acts) => ref_locked acts A c nm day W h hsm hnm
  rw [mayI_alt]
  generalize objectB nm.data.toList = ob at hob ⊢
  generalize (decide (0 ≤ person) && decide (person ≤ 999)) = ip at hip ⊢
  generalize (decide (0 ≤ day) && decide (day ≤ 100000)) = id_ at hid_ ⊢
  generalize lockedB acts nm.data.toList day = lk at hlk ⊢
  have HO := Lib.hid hob
  have HIp := Lib.hid hip
  have HId := Lib.hid hid_
  have hlk1 := hlk w hl
  clear hob hip hid_ hlk
  obtain ⟨hs, hbig⟩ := hsm
  unfold maxLen at hbig
  have HS := Lib.hid hs
  have HL := Lib.hid hl
  clear hs hl
  generalize hn : acts.length = n at *
  have HLk : Hid (∀ W : World, w = W → Calls Tryd.prog 15 #[.slice A n c, .string nm, .int .i64 day] W fun e w' => e = .returned (.bool lk) ∧ Below W.heap.size W w') := fun W h => by subst h; exact hlk1
  clear hlk1
  have HN := Lib.hid hn
  clear hn
  have hfin : (acts.take n).any (ownP nm.data.toList person day) = false → acts.any (ownP nm.data.toList person day) = false := fun h => any_full HN.out h
  have hhit : ∀ k (hk : k < acts.length), (ownP nm.data.toList person day) acts[k] = true → acts.any (ownP nm.data.toList person day) = true := fun k hk h => any_hit hk h
  generalize hr : acts.any (ownP nm.data.toList person day) = r at hfin hhit ⊢
  have HFn := Lib.hid hfin
  have HHit := Lib.hid hhit
  clear hfin hhit hr
  cases ob with
  | false =>
    rw [if_pos (by simp)]
    go_enter Tryd.func21, Tryd.ntmps21
    go_wp2_with (first | (go_at_call 39; refine (HO.out _).mono ?_; rintro e w3 ⟨rfl, rfl⟩) | (go_at_call_of 42 (Value.int .i64 999); refine (HIp.out _).mono ?_; rintro e w3 ⟨rfl, rfl⟩) | (go_at_call_of 42 (Value.int .i64 100000); refine (HId.out _).mono ?_; rintro e w3 ⟨rfl, rfl⟩) | (go_at_call 15; refine (HLk.out _).mono ?_; rintro e w0 ⟨rfl, hb0⟩; have HB0 := Lib.hid hb0; clear hb0))
    go_ret
    exact ⟨rfl, Below.refl _ _⟩
  | true =>
    cases ip with
    | false =>
      rw [if_pos (by simp)]
      go_enter Tryd.func21, Tryd.ntmps21
      go_wp2_with (first | (go_at_call 39; refine (HO.out _).mono ?_; rintro e w3 ⟨rfl, rfl⟩) | (go_at_call_of 42 (Value.int .i64 999); refine (HIp.out _).mono ?_; rintro e w3 ⟨rfl, rfl⟩) | (go_at_call_of 42 (Value.int .i64 100000); refine (HId.out _).mono ?_; rintro e w3 ⟨rfl, rfl⟩) | (go_at_call 15; refine (HLk.out _).mono ?_; rintro e w0 ⟨rfl, hb0⟩; have HB0 := Lib.hid hb0; clear hb0))
      go_ret
      exact ⟨rfl, Below.refl _ _⟩
    | true =>
      cases id_ with
      | false =>
        rw [if_pos (by simp)]
        go_enter Tryd.func21, Tryd.ntmps21
        go_wp2_with (first | (go_at_call 39; refine (HO.out _).mono ?_; rintro e w3 ⟨rfl, rfl⟩) | (go_at_call_of 42 (Value.int .i64 999); refine (HIp.out _).mono ?_; rintro e w3 ⟨rfl, rfl⟩) | (go_at_call_of 42 (Value.int .i64 100000); refine (HId.out _).mono ?_; rintro e w3 ⟨rfl, rfl⟩) | (go_at_call 15; refine (HLk.out _).mono ?_; rintro e w0 ⟨rfl, hb0⟩; have HB0 := Lib.hid hb0; clear hb0))
        go_ret
        exact ⟨rfl, Below.refl _ _⟩
      | true =>
        rw [if_neg (by simp)]
        cases lk with
        | true =>
          rw [if_pos (by simp)]
          go_enter Tryd.func21, Tryd.ntmps21
          go_wp2_with (first | (go_at_call 39; refine (HO.out _).mono ?_; rintro e w3 ⟨rfl, rfl⟩) | (go_at_call_of 42 (Value.int .i64 999); refine (HIp.out _).mono ?_; rintro e w3 ⟨rfl, rfl⟩) | (go_at_call_of 42 (Value.int .i64 100000); refine (HId.out _).mono ?_; rintro e w3 ⟨rfl, rfl⟩) | (go_at_call 15; refine (HLk.out _ rfl).mono ?_; rintro e w0 ⟨rfl, hb0⟩; have HB0 := Lib.hid hb0; clear hb0))
          go_ret
          exact ⟨rfl, HB0.out⟩
        | false =>
          rw [if_neg (by simp)]
          go_enter Tryd.func21, Tryd.ntmps21
          go_wp2_with (first | (go_at_call 39; refine (HO.out _).mono ?_; rintro e w3 ⟨rfl, rfl⟩) | (go_at_call_of 42 (Value.int .i64 999); refine (HIp.out _).mono ?_; rintro e w3 ⟨rfl, rfl⟩) | (go_at_call_of 42 (Value.int .i64 100000); refine (HId.out _).mono ?_; rintro e w3 ⟨rfl, rfl⟩) | (go_at_call 15; refine (HLk.out _ rfl).mono ?_; rintro e w0 ⟨rfl, hb0⟩; have HB0 := Lib.hid hb0; clear hb0))
          go_loopw [9, 10] (fun s7 s8 wr => ∃ k : Nat, k ≤ n ∧ s7 = .int .i64 k ∧ Hid ((acts.take k).any (ownP nm.data.toList person day) = false) ∧ Hid (Below w.heap.size w wr)) (fun s7 _ _ => n - (intOf s7).toNat)
          case atStart => exact ⟨0, Nat.zero_le _, rfl, by show _ = _; simp, HB0.out⟩
          case round =>
            obtain ⟨k, hk, rfl, HQ, HB⟩ := hrel
            by_cases hlt : k < n
            · have hkl : k < acts.length := by rw [HN.out]; exact hlt
              obtain ⟨b, off, rfl, hbl, h4⟩ := at4_of HL.out hkl
              obtain ⟨c0, c1, c2, c3⟩ := h4.below HB.out hbl
              have hso := HS.out acts[k] (List.getElem_mem hkl)
              have hys := HHit.out k hkl
              have hsk : (ownP nm.data.toList person day) acts[k] = false → (acts.take (k + 1)).any (ownP nm.data.toList person day) = false := fun h => by rw [any_next hkl, HQ.out, h]; rfl
              generalize acts[k] = a at c0 c1 c2 c3 hso hys hsk
              clear h4
              obtain ⟨ak, ap, ad, ao⟩ := a
              simp only at c0 c1 c2 c3 hso
              have hpe : ownP nm.data.toList person day ⟨ak, ap, ad, ao⟩ = (rightB ⟨ak, ap, ad, ao⟩ && (ak == 1) && (ap == person) && (ad == day) && aboveB ao.data.toList nm.data.toList) := rfl
              rw [hpe] at hys hsk
              clear hpe
              have hab := fun W => ref_above ao nm W (by unfold maxLen; omega) (by unfold maxLen; omega)
              have hri := fun W => ref_right ak ap ad ao W hso
              generalize aboveB ao.data.toList nm.data.toList = ab at hab hys hsk
              generalize rightB ⟨ak, ap, ad, ao⟩ = ri at hri hys hsk
              have HAb := Lib.hid hab
              have HRi := Lib.hid hri
              have hBs : w.heap.size ≤ wr.heap.size := HB.out.size
              have hBlt : wr.heap.size < wr.heap.size + 1 := by omega
              have j1 : (k : Int) < (n : Int) := by omega
              clear hab hri
              cases ri with
              | false =>
                have HSk := Lib.hid hsk
                clear hsk hys
                go_wp2_with (first | (go_at_call 19; refine (HRi.out _).mono ?_; rintro e w1 ⟨rfl, hb1⟩; obtain ⟨hc', hf'⟩ := bcell hb1) | (go_at_call 22; refine (HAb.out _).mono ?_; rintro e w2 ⟨rfl, rfl⟩))
                go_roundw
                case rel => exact ⟨k + 1, by omega, by go_num, HSk.out rfl, (HB.out.alloc hBs _).trans (hb1.mono (by simp; omega))⟩
                case measure => simp [intOf]; omega
              | true =>
                cases hkd : (ak == 1) with
                | false =>
                  rw [hkd] at hsk hys
                  have HSk := Lib.hid hsk
                  clear hsk hys
                  go_wp2_with (first | (go_at_call 19; refine (HRi.out _).mono ?_; rintro e w1 ⟨rfl, hb1⟩; obtain ⟨hc', hf'⟩ := bcell hb1) | (go_at_call 22; refine (HAb.out _).mono ?_; rintro e w2 ⟨rfl, rfl⟩))
                  go_roundw
                  case rel => exact ⟨k + 1, by omega, by go_num, HSk.out rfl, (HB.out.alloc hBs _).trans (hb1.mono (by simp; omega))⟩
                  case measure => simp [intOf]; omega
                | true =>
                  rw [hkd] at hsk hys
                  cases hpd : (ap == person) with
                  | false =>
                    rw [hpd] at hsk hys
                    have HSk := Lib.hid hsk
                    clear hsk hys
                    go_wp2_with (first | (go_at_call 19; refine (HRi.out _).mono ?_; rintro e w1 ⟨rfl, hb1⟩; obtain ⟨hc', hf'⟩ := bcell hb1) | (go_at_call 22; refine (HAb.out _).mono ?_; rintro e w2 ⟨rfl, rfl⟩))
                    go_roundw
                    case rel => exact ⟨k + 1, by omega, by go_num, HSk.out rfl, (HB.out.alloc hBs _).trans (hb1.mono (by simp; omega))⟩
                    case measure => simp [intOf]; omega
                  | true =>
                    rw [hpd] at hsk hys
                    cases hdd : (ad == day) with
                    | false =>
                      rw [hdd] at hsk hys
                      have HSk := Lib.hid hsk
                      clear hsk hys
                      go_wp2_with (first | (go_at_call 19; refine (HRi.out _).mono ?_; rintro e w1 ⟨rfl, hb1⟩; obtain ⟨hc', hf'⟩ := bcell hb1) | (go_at_call 22; refine (HAb.out _).mono ?_; rintro e w2 ⟨rfl, rfl⟩))
                      go_roundw
                      case rel => exact ⟨k + 1, by omega, by go_num, HSk.out rfl, (HB.out.alloc hBs _).trans (hb1.mono (by simp; omega))⟩
                      case measure => simp [intOf]; omega
                    | true =>
                      rw [hdd] at hsk hys
                      cases ab with
                      | false =>
                        have HSk := Lib.hid hsk
                        clear hsk hys
                        go_wp2_with (first | (go_at_call 19; refine (HRi.out _).mono ?_; rintro e w1 ⟨rfl, hb1⟩; obtain ⟨hc', hf'⟩ := bcell hb1) | (go_at_call 22; refine (HAb.out _).mono ?_; rintro e w2 ⟨rfl, rfl⟩))
                        go_roundw
                        case rel => exact ⟨k + 1, by omega, by go_num, HSk.out rfl, (HB.out.alloc hBs _).trans (hb1.mono (by simp; omega))⟩
                        case measure => simp [intOf]; omega
                      | true =>
                        have hr1 := hys rfl
                        subst hr1
                        clear hsk hys HFn HHit
                        go_wp2_with (first | (go_at_call 19; refine (HRi.out _).mono ?_; rintro e w1 ⟨rfl, hb1⟩; obtain ⟨hc', hf'⟩ := bcell hb1) | (go_at_call 22; refine (HAb.out _).mono ?_; rintro e w2 ⟨rfl, rfl⟩))
                        go_ret
                        exact ⟨rfl, (HB.out.alloc hBs _).trans (hb1.mono (by simp; omega))⟩
            · have hkn : k = n := by omega
              have hr0 := HFn.out (by rw [← hkn]; exact HQ.out)
              have j1 : ¬ (k : Int) < (n : Int) := by omega
              subst hr0
              go_wp2_with fail
              go_ret
              exact ⟨rfl, HB.out⟩

end Go.Proofs.YtaojnjealccjiaaDoor
