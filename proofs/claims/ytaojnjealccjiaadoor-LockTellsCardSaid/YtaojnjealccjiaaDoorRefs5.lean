/- The reference's Locked, Hidden, May. -/
import Derived.Test.YtaojnjealccjiaaDoorForce
import Derived.Test.YtaojnjealccjiaaDoorJoins
namespace Go.Proofs.YtaojnjealccjiaaDoor
open Go Go.RowKit Kb Go.Lib
set_option linter.unusedVariables false

def lockP (acts : List Akt) (nm : Bytes) (day : Int) (a : Akt) : Bool := rightB a && (a.kind == 0) && aboveB a.o nm && forceB acts a day
def hideP (nm : Bytes) (day : Int) (a : Akt) : Bool := rightB a && (a.kind == 2) && aboveB a.o nm && decide (day < a.day)
def ownP (nm : Bytes) (person day : Int) (a : Akt) : Bool := rightB a && (a.kind == 1) && (a.person == person) && (a.day == day) && aboveB a.o nm
theorem lockedB_any (acts : List Akt) (nm : Bytes) (day : Int) : lockedB acts nm day = (objectB nm && acts.any (lockP acts nm day)) := by
  unfold lockedB
  congr 2
  funext a
  unfold lockP
  refine bool_eq_of_iff ?_
  simp only [Bool.and_eq_true, decide_eq_true_eq, beq_iff_eq]
  constructor
  · rintro ⟨⟨⟨h1, h2⟩, h3⟩, h4⟩; exact ⟨⟨⟨h3, h1⟩, h2⟩, h4⟩
  · rintro ⟨⟨⟨h3, h1⟩, h2⟩, h4⟩; exact ⟨⟨⟨h1, h2⟩, h3⟩, h4⟩
theorem hiddenB_any (acts : List Akt) (nm : Bytes) (day : Int) : hiddenB acts nm day = (objectB nm && acts.any (hideP nm day)) := by
  unfold hiddenB
  congr 2
  funext a
  unfold hideP
  refine bool_eq_of_iff ?_
  simp only [Bool.and_eq_true, decide_eq_true_eq, beq_iff_eq]
  constructor
  · rintro ⟨⟨⟨h1, h2⟩, h3⟩, h4⟩; exact ⟨⟨⟨h4, h1⟩, h3⟩, h2⟩
  · rintro ⟨⟨⟨h4, h1⟩, h3⟩, h2⟩; exact ⟨⟨⟨h1, h2⟩, h3⟩, h4⟩
theorem ownB_any (acts : List Akt) (nm : Bytes) (person day : Int) : ownB acts nm person day = acts.any (ownP nm person day) := by
  unfold ownB
  congr 1
  funext a
  unfold ownP
  refine bool_eq_of_iff ?_
  simp only [Bool.and_eq_true, decide_eq_true_eq, beq_iff_eq]
  constructor
  · rintro ⟨⟨⟨⟨h1, h2⟩, h3⟩, h4⟩, h5⟩; exact ⟨⟨⟨⟨h5, h1⟩, h2⟩, h3⟩, h4⟩
  · rintro ⟨⟨⟨⟨h5, h1⟩, h2⟩, h3⟩, h4⟩; exact ⟨⟨⟨⟨h1, h2⟩, h3⟩, h4⟩, h5⟩
theorem any_full {acts : List Akt} {n : Nat} (hn : acts.length = n) {p : Akt → Bool} (h : (acts.take n).any p = false) : acts.any p = false := by
  rw [← hn, List.take_length] at h; exact h
theorem any_hit {acts : List Akt} {k : Nat} (hk : k < acts.length) {p : Akt → Bool} (h : p acts[k] = true) : acts.any p = true := List.any_eq_true.2 ⟨_, List.getElem_mem hk, h⟩

set_option maxHeartbeats 4000000 in
set_option maxRecDepth 100000 in
theorem ref_locked (acts : List Akt) (A : Option Addr) (c : Nat) (nm : ByteArray) (day : Int) (w : World) (hl : Lst aktV 4 w A acts) (hsm : Small acts) (hnm : nm.size < 4294967281) :
    Calls Tryd.prog 15 #[.slice A acts.length c, .string nm, .int .i64 day] w fun e w' => e = .returned (.bool (lockedB acts nm.data.toList day)) ∧ Below w.heap.size w w' := by
  have hob := fun W => ref_object nm W hnm
  rw [lockedB_any]
  generalize objectB nm.data.toList = ob at hob ⊢
  have HO := Lib.hid hob
  clear hob
  obtain ⟨hs, hbig⟩ := hsm
  unfold maxLen at hbig
  have hfo := fun (l : Akt) (hlo : l.obj.size < 4294967281) (W : World) (h : Below w.heap.size w W) => ref_force acts A c l day W (hl.below h) ⟨hs, by unfold maxLen; omega⟩ hlo
  have HFoAll := Lib.hid hfo
  clear hfo
  have HS := Lib.hid hs
  have HL := Lib.hid hl
  clear hs hl
  generalize hn : acts.length = n at *
  have HN := Lib.hid hn
  clear hn
  cases ob with
  | false =>
    by_cases h0 : 0 < n
    · have j0 : (0 : Int) < (n : Int) := by omega
      go_enter Tryd.func15, Tryd.ntmps15
      go_wp2_with fail
      go_loopw [7] (fun s7 wr => s7 = .int .i64 0 ∧ w = wr) (fun _ _ => 0)
      case atStart => exact ⟨rfl, rfl⟩
      case round =>
        obtain ⟨rfl, rfl⟩ := hrel
        go_wp2_with fail
        refine (HO.out _).mono ?_
        rintro e w1 ⟨rfl, rfl⟩
        go_wp2_with fail
        go_ret
        exact ⟨rfl, Below.refl _ _⟩
    · obtain rfl : n = 0 := by omega
      go_enter Tryd.func15, Tryd.ntmps15
      go_wp2_with fail
      go_loopw [7] (fun s7 wr => s7 = .int .i64 0 ∧ w = wr) (fun _ _ => 0)
      case atStart => exact ⟨rfl, rfl⟩
      case round =>
        obtain ⟨rfl, rfl⟩ := hrel
        go_wp2_with fail
        go_ret
        exact ⟨rfl, Below.refl _ _⟩
  | true =>
    have hfin : (acts.take n).any (lockP acts nm.data.toList day) = false → acts.any (lockP acts nm.data.toList day) = false := fun h => any_full HN.out h
    have hhit : ∀ k (hk : k < acts.length), (lockP acts nm.data.toList day) acts[k] = true → acts.any (lockP acts nm.data.toList day) = true := fun k hk h => any_hit hk h
    generalize hr : acts.any (lockP acts nm.data.toList day) = r at hfin hhit ⊢
    have HFn := Lib.hid hfin
    have HHit := Lib.hid hhit
    clear hfin hhit hr
    go_enter Tryd.func15, Tryd.ntmps15
    go_wp2_with fail
    go_loopw [7, 8] (fun s7 s8 wr => ∃ k : Nat, k ≤ n ∧ s7 = .int .i64 k ∧ Hid ((acts.take k).any (lockP acts nm.data.toList day) = false) ∧ Hid (Below w.heap.size w wr)) (fun s7 _ _ => n - (intOf s7).toNat)
    case atStart => exact ⟨0, Nat.zero_le _, rfl, by show _ = _; simp, Below.refl _ _⟩
    case round =>
      obtain ⟨k, hk, rfl, HQ, HB⟩ := hrel
      by_cases hlt : k < n
      · have hkl : k < acts.length := by rw [HN.out]; exact hlt
        obtain ⟨b, off, rfl, hbl, h4⟩ := at4_of HL.out hkl
        obtain ⟨c0, c1, c2, c3⟩ := h4.below HB.out hbl
        have hso := HS.out acts[k] (List.getElem_mem hkl)
        have hys := HHit.out k hkl
        have hsk : (lockP acts nm.data.toList day) acts[k] = false → (acts.take (k + 1)).any (lockP acts nm.data.toList day) = false := fun h => by rw [any_next hkl, HQ.out, h]; rfl
        generalize acts[k] = a at c0 c1 c2 c3 hso hys hsk
        clear h4
        obtain ⟨ak, ap, ad, ao⟩ := a
        simp only at c0 c1 c2 c3 hso
        have hfo := HFoAll.out ⟨ak, ap, ad, ao⟩ hso
        have hpe : lockP acts nm.data.toList day ⟨ak, ap, ad, ao⟩ = (rightB ⟨ak, ap, ad, ao⟩ && (ak == 0) && aboveB ao.data.toList nm.data.toList && forceB acts ⟨ak, ap, ad, ao⟩ day) := rfl
        rw [hpe] at hys hsk
        clear hpe
        have hab := fun W => ref_above ao nm W (by unfold maxLen; omega) (by unfold maxLen; omega)
        have hri := fun W => ref_right ak ap ad ao W hso
        generalize aboveB ao.data.toList nm.data.toList = ab at hab hys hsk
        generalize rightB ⟨ak, ap, ad, ao⟩ = ri at hri hys hsk
        generalize forceB acts ⟨ak, ap, ad, ao⟩ day = fo at hfo hys hsk
        have HFo := Lib.hid hfo
        clear hfo
        have HAb := Lib.hid hab
        have HRi := Lib.hid hri
        have hBs : w.heap.size ≤ wr.heap.size := HB.out.size
        have hBlt : wr.heap.size < wr.heap.size + 1 := by omega
        have j1 : (k : Int) < (n : Int) := by omega
        clear hab hri
        cases ri with
        | false =>
          have HSk := Lib.hid hsk
          clear hsk hys
          go_wp2_with (first | (go_at_call 19; refine (HRi.out _).mono ?_; rintro e w1 ⟨rfl, hb1⟩; obtain ⟨hc', hf'⟩ := bcell hb1) | (go_at_call 22; refine (HAb.out _).mono ?_; rintro e w2 ⟨rfl, rfl⟩) | (go_at_call 39; refine (HO.out _).mono ?_; rintro e w3 ⟨rfl, rfl⟩) | (go_at_call 40; refine (HFo.out _ (HB.out.alloc hBs _ |>.trans (hb1.mono (by simp; omega)))).mono ?_; rintro e w4 ⟨rfl, hb4⟩))
          go_roundw
          case rel => exact ⟨k + 1, by omega, by go_num, HSk.out rfl, (HB.out.alloc hBs _).trans (hb1.mono (by simp; omega))⟩
          case measure => simp [intOf]; omega
        | true =>
          cases hkd : (ak == 0) with
          | false =>
            rw [hkd] at hsk hys
            have HSk := Lib.hid hsk
            clear hsk hys
            go_wp2_with (first | (go_at_call 19; refine (HRi.out _).mono ?_; rintro e w1 ⟨rfl, hb1⟩; obtain ⟨hc', hf'⟩ := bcell hb1) | (go_at_call 22; refine (HAb.out _).mono ?_; rintro e w2 ⟨rfl, rfl⟩) | (go_at_call 39; refine (HO.out _).mono ?_; rintro e w3 ⟨rfl, rfl⟩) | (go_at_call 40; refine (HFo.out _ (HB.out.alloc hBs _ |>.trans (hb1.mono (by simp; omega)))).mono ?_; rintro e w4 ⟨rfl, hb4⟩))
            go_roundw
            case rel => exact ⟨k + 1, by omega, by go_num, HSk.out rfl, (HB.out.alloc hBs _).trans (hb1.mono (by simp; omega))⟩
            case measure => simp [intOf]; omega
          | true =>
            rw [hkd] at hsk hys
            cases ab with
            | false =>
              have HSk := Lib.hid hsk
              clear hsk hys
              go_wp2_with (first | (go_at_call 19; refine (HRi.out _).mono ?_; rintro e w1 ⟨rfl, hb1⟩; obtain ⟨hc', hf'⟩ := bcell hb1) | (go_at_call 22; refine (HAb.out _).mono ?_; rintro e w2 ⟨rfl, rfl⟩) | (go_at_call 39; refine (HO.out _).mono ?_; rintro e w3 ⟨rfl, rfl⟩) | (go_at_call 40; refine (HFo.out _ (HB.out.alloc hBs _ |>.trans (hb1.mono (by simp; omega)))).mono ?_; rintro e w4 ⟨rfl, hb4⟩))
              go_roundw
              case rel => exact ⟨k + 1, by omega, by go_num, HSk.out rfl, (HB.out.alloc hBs _).trans (hb1.mono (by simp; omega))⟩
              case measure => simp [intOf]; omega
            | true =>
              cases fo with
              | false =>
                have HSk := Lib.hid hsk
                clear hsk hys
                go_wp2_with (first | (go_at_call 19; refine (HRi.out _).mono ?_; rintro e w1 ⟨rfl, hb1⟩; obtain ⟨hc', hf'⟩ := bcell hb1) | (go_at_call 22; refine (HAb.out _).mono ?_; rintro e w2 ⟨rfl, rfl⟩) | (go_at_call 39; refine (HO.out _).mono ?_; rintro e w3 ⟨rfl, rfl⟩) | (go_at_call 40; refine (HFo.out _ (HB.out.alloc hBs _ |>.trans (hb1.mono (by simp; omega)))).mono ?_; rintro e w4 ⟨rfl, hb4⟩))
                go_roundw
                case rel => exact ⟨k + 1, by omega, by go_num, HSk.out rfl, ((HB.out.alloc hBs _).trans (hb1.mono (by simp; omega))).trans (hb4.mono (by have := HB.out.size; have := hb1.size; simp at *; omega))⟩
                case measure => simp [intOf]; omega
              | true =>
                have HYs := Lib.hid hys
                clear hsk hys
                go_wp2_with (first | (go_at_call 19; refine (HRi.out _).mono ?_; rintro e w1 ⟨rfl, hb1⟩; obtain ⟨hc', hf'⟩ := bcell hb1) | (go_at_call 22; refine (HAb.out _).mono ?_; rintro e w2 ⟨rfl, rfl⟩) | (go_at_call 39; refine (HO.out _).mono ?_; rintro e w3 ⟨rfl, rfl⟩) | (go_at_call 40; refine (HFo.out _ (HB.out.alloc hBs _ |>.trans (hb1.mono (by simp; omega)))).mono ?_; rintro e w4 ⟨rfl, hb4⟩))
                go_ret
                exact ⟨by rw [HYs.out rfl]; rfl, ((HB.out.alloc hBs _).trans (hb1.mono (by simp; omega))).trans (hb4.mono (by have := HB.out.size; have := hb1.size; simp at *; omega))⟩
      · have hkn : k = n := by omega
        have hr0 := HFn.out (by rw [← hkn]; exact HQ.out)
        have j1 : ¬ (k : Int) < (n : Int) := by omega
        subst hr0
        go_wp2_with fail
        go_ret
        exact ⟨rfl, HB.out⟩

set_option maxHeartbeats 4000000 in
set_option maxRecDepth 100000 in
theorem ref_hidden (acts : List Akt) (A : Option Addr) (c : Nat) (nm : ByteArray) (day : Int) (w : World) (hl : Lst aktV 4 w A acts) (hsm : Small acts) (hnm : nm.size < 4294967281) :
    Calls Tryd.prog 17 #[.slice A acts.length c, .string nm, .int .i64 day] w fun e w' => e = .returned (.bool (hiddenB acts nm.data.toList day)) ∧ Below w.heap.size w w' := by
  have hob := fun W => ref_object nm W hnm
  rw [hiddenB_any]
  generalize objectB nm.data.toList = ob at hob ⊢
  have HO := Lib.hid hob
  clear hob
  obtain ⟨hs, hbig⟩ := hsm
  unfold maxLen at hbig
  have HS := Lib.hid hs
  have HL := Lib.hid hl
  clear hs hl
  generalize hn : acts.length = n at *
  have HN := Lib.hid hn
  clear hn
  cases ob with
  | false =>
    by_cases h0 : 0 < n
    · have j0 : (0 : Int) < (n : Int) := by omega
      go_enter Tryd.func17, Tryd.ntmps17
      go_wp2_with fail
      go_loopw [7] (fun s7 wr => s7 = .int .i64 0 ∧ w = wr) (fun _ _ => 0)
      case atStart => exact ⟨rfl, rfl⟩
      case round =>
        obtain ⟨rfl, rfl⟩ := hrel
        go_wp2_with fail
        refine (HO.out _).mono ?_
        rintro e w1 ⟨rfl, rfl⟩
        go_wp2_with fail
        go_ret
        exact ⟨rfl, Below.refl _ _⟩
    · obtain rfl : n = 0 := by omega
      go_enter Tryd.func17, Tryd.ntmps17
      go_wp2_with fail
      go_loopw [7] (fun s7 wr => s7 = .int .i64 0 ∧ w = wr) (fun _ _ => 0)
      case atStart => exact ⟨rfl, rfl⟩
      case round =>
        obtain ⟨rfl, rfl⟩ := hrel
        go_wp2_with fail
        go_ret
        exact ⟨rfl, Below.refl _ _⟩
  | true =>
    have hfin : (acts.take n).any (hideP nm.data.toList day) = false → acts.any (hideP nm.data.toList day) = false := fun h => any_full HN.out h
    have hhit : ∀ k (hk : k < acts.length), (hideP nm.data.toList day) acts[k] = true → acts.any (hideP nm.data.toList day) = true := fun k hk h => any_hit hk h
    generalize hr : acts.any (hideP nm.data.toList day) = r at hfin hhit ⊢
    have HFn := Lib.hid hfin
    have HHit := Lib.hid hhit
    clear hfin hhit hr
    go_enter Tryd.func17, Tryd.ntmps17
    go_wp2_with fail
    go_loopw [7, 8] (fun s7 s8 wr => ∃ k : Nat, k ≤ n ∧ s7 = .int .i64 k ∧ Hid ((acts.take k).any (hideP nm.data.toList day) = false) ∧ Hid (Below w.heap.size w wr)) (fun s7 _ _ => n - (intOf s7).toNat)
    case atStart => exact ⟨0, Nat.zero_le _, rfl, by show _ = _; simp, Below.refl _ _⟩
    case round =>
      obtain ⟨k, hk, rfl, HQ, HB⟩ := hrel
      by_cases hlt : k < n
      · have hkl : k < acts.length := by rw [HN.out]; exact hlt
        obtain ⟨b, off, rfl, hbl, h4⟩ := at4_of HL.out hkl
        obtain ⟨c0, c1, c2, c3⟩ := h4.below HB.out hbl
        have hso := HS.out acts[k] (List.getElem_mem hkl)
        have hys := HHit.out k hkl
        have hsk : (hideP nm.data.toList day) acts[k] = false → (acts.take (k + 1)).any (hideP nm.data.toList day) = false := fun h => by rw [any_next hkl, HQ.out, h]; rfl
        generalize acts[k] = a at c0 c1 c2 c3 hso hys hsk
        clear h4
        obtain ⟨ak, ap, ad, ao⟩ := a
        simp only at c0 c1 c2 c3 hso
        have hpe : hideP nm.data.toList day ⟨ak, ap, ad, ao⟩ = (rightB ⟨ak, ap, ad, ao⟩ && (ak == 2) && aboveB ao.data.toList nm.data.toList && decide (day < ad)) := rfl
        rw [hpe] at hys hsk
        clear hpe
        have hab := fun W => ref_above ao nm W (by unfold maxLen; omega) (by unfold maxLen; omega)
        have hri := fun W => ref_right ak ap ad ao W hso
        generalize aboveB ao.data.toList nm.data.toList = ab at hab hys hsk
        generalize rightB ⟨ak, ap, ad, ao⟩ = ri at hri hys hsk
        have HAb := Lib.hid hab
        have HRi := Lib.hid hri
        have hBs : w.heap.size ≤ wr.heap.size := HB.out.size
        have hBlt : wr.heap.size < wr.heap.size + 1 := by omega
        have j1 : (k : Int) < (n : Int) := by omega
        clear hab hri
        cases ri with
        | false =>
          have HSk := Lib.hid hsk
          clear hsk hys
          go_wp2_with (first | (go_at_call 19; refine (HRi.out _).mono ?_; rintro e w1 ⟨rfl, hb1⟩; obtain ⟨hc', hf'⟩ := bcell hb1) | (go_at_call 22; refine (HAb.out _).mono ?_; rintro e w2 ⟨rfl, rfl⟩) | (go_at_call 39; refine (HO.out _).mono ?_; rintro e w3 ⟨rfl, rfl⟩))
          go_roundw
          case rel => exact ⟨k + 1, by omega, by go_num, HSk.out rfl, (HB.out.alloc hBs _).trans (hb1.mono (by simp; omega))⟩
          case measure => simp [intOf]; omega
        | true =>
          cases hkd : (ak == 2) with
          | false =>
            rw [hkd] at hsk hys
            have HSk := Lib.hid hsk
            clear hsk hys
            go_wp2_with (first | (go_at_call 19; refine (HRi.out _).mono ?_; rintro e w1 ⟨rfl, hb1⟩; obtain ⟨hc', hf'⟩ := bcell hb1) | (go_at_call 22; refine (HAb.out _).mono ?_; rintro e w2 ⟨rfl, rfl⟩) | (go_at_call 39; refine (HO.out _).mono ?_; rintro e w3 ⟨rfl, rfl⟩))
            go_roundw
            case rel => exact ⟨k + 1, by omega, by go_num, HSk.out rfl, (HB.out.alloc hBs _).trans (hb1.mono (by simp; omega))⟩
            case measure => simp [intOf]; omega
          | true =>
            rw [hkd] at hsk hys
            cases ab with
            | false =>
              have HSk := Lib.hid hsk
              clear hsk hys
              go_wp2_with (first | (go_at_call 19; refine (HRi.out _).mono ?_; rintro e w1 ⟨rfl, hb1⟩; obtain ⟨hc', hf'⟩ := bcell hb1) | (go_at_call 22; refine (HAb.out _).mono ?_; rintro e w2 ⟨rfl, rfl⟩) | (go_at_call 39; refine (HO.out _).mono ?_; rintro e w3 ⟨rfl, rfl⟩))
              go_roundw
              case rel => exact ⟨k + 1, by omega, by go_num, HSk.out rfl, (HB.out.alloc hBs _).trans (hb1.mono (by simp; omega))⟩
              case measure => simp [intOf]; omega
            | true =>
              cases hd : decide (day < ad) with
              | false =>
                rw [hd] at hsk
                have HSk := Lib.hid hsk
                clear hsk hys
                go_wp2_with (first | (go_at_call 19; refine (HRi.out _).mono ?_; rintro e w1 ⟨rfl, hb1⟩; obtain ⟨hc', hf'⟩ := bcell hb1) | (go_at_call 22; refine (HAb.out _).mono ?_; rintro e w2 ⟨rfl, rfl⟩) | (go_at_call 39; refine (HO.out _).mono ?_; rintro e w3 ⟨rfl, rfl⟩))
                go_roundw
                case rel => exact ⟨k + 1, by omega, by go_num, HSk.out rfl, (HB.out.alloc hBs _).trans (hb1.mono (by simp; omega))⟩
                case measure => simp [intOf]; omega
              | true =>
                rw [hd] at hys
                have HYs := Lib.hid hys
                clear hsk hys
                go_wp2_with (first | (go_at_call 19; refine (HRi.out _).mono ?_; rintro e w1 ⟨rfl, hb1⟩; obtain ⟨hc', hf'⟩ := bcell hb1) | (go_at_call 22; refine (HAb.out _).mono ?_; rintro e w2 ⟨rfl, rfl⟩) | (go_at_call 39; refine (HO.out _).mono ?_; rintro e w3 ⟨rfl, rfl⟩))
                go_ret
                exact ⟨by rw [HYs.out rfl]; rfl, (HB.out.alloc hBs _).trans (hb1.mono (by simp; omega))⟩
      · have hkn : k = n := by omega
        have hr0 := HFn.out (by rw [← hkn]; exact HQ.out)
        have j1 : ¬ (k : Int) < (n : Int) := by omega
        subst hr0
        go_wp2_with fail
        go_ret
        exact ⟨rfl, HB.out⟩

end Go.Proofs.YtaojnjealccjiaaDoor
