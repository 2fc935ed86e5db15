/- kitbagref48.Few; LockBelow's walk. -/
import Derived.Test.YtaojnjealccjiaaDoorSmall
namespace Go.Proofs.YtaojnjealccjiaaDoor
open Go Go.RowKit Kb Go.Lib
set_option linter.unusedVariables false

def fewB (acts : List Akt) : Bool := decide (acts.length ≤ 40) && acts.all fun a => decide (a.obj.size ≤ 100)

theorem fewB_iff {acts : List Akt} : fewB acts = true ↔ acts.length ≤ 40 ∧ ∀ a ∈ acts, a.obj.size ≤ 100 := by
  unfold fewB; simp
theorem few_small {acts : List Akt} (h : fewB acts = true) : Small acts ∧ acts.length ≤ 40 := by
  rw [fewB_iff] at h
  exact ⟨⟨fun a ha => by have := h.2 a ha; omega, by unfold maxLen; omega⟩, h.1⟩

set_option maxHeartbeats 1000000 in
theorem ref_few (acts : List Akt) (A : Option Addr) (c : Nat) (w : World) (hl : Lst aktV 4 w A acts) (hbig : acts.length ≤ maxLen) :
    Calls Tryd.prog 10 #[.slice A acts.length c] w fun e w' => e = .returned (.bool (fewB acts)) ∧ w = w' := by
  unfold maxLen at hbig
  have e1 : ∀ k, k = 41 ∨ k = acts.length → (∀ j (h : j < acts.length), j < k → acts[j].obj.size ≤ 100) → k ≤ acts.length → fewB acts = decide (acts.length ≤ 40) := fun k hk ha hkl => by
    unfold fewB
    by_cases h : acts.length ≤ 40
    · have : (acts.all fun a => decide (a.obj.size ≤ 100)) = true := List.all_eq_true.2 fun a hm => by
        obtain ⟨j, hj, e⟩ := List.getElem_of_mem hm
        rw [decide_eq_true_eq, ← e]
        exact ha j hj (by omega)
      rw [this, Bool.and_true]
    · simp [h]
  have e2 : ∀ j (h : j < acts.length), 100 < acts[j].obj.size → fewB acts = false := fun j h hb => by
    cases hf : fewB acts with
    | false => rfl
    | true => exact absurd ((fewB_iff.1 hf).2 acts[j] (List.getElem_mem h)) (by omega)
  generalize fewB acts = r at e1 e2 ⊢
  generalize hn : acts.length = n at hbig ⊢
  have HN := Lib.hid hn
  have E1 := Lib.hid e1
  have E2 := Lib.hid e2
  have HL := Lib.hid hl
  clear hn e1 e2 hl
  go_enter Tryd.func10, Tryd.ntmps10
  go_wp2_with fail
  go_loop [3] (fun i => ∃ k : Nat, k ≤ n ∧ k ≤ 41 ∧ i = .int .i64 k ∧ Hid (∀ j (h : j < acts.length), j < k → acts[j].obj.size ≤ 100)) (fun i => n - (intOf i).toNat)
  case atStart => exact ⟨0, Nat.zero_le _, Nat.zero_le _, rfl, fun j _ h => absurd h (Nat.not_lt_zero _)⟩
  case round =>
    obtain ⟨k, hk, hk41, rfl, HA⟩ := hrel
    by_cases hlt : k < n
    · by_cases h40 : k ≤ 40
      · have hkx : k < acts.length := by rw [HN.out]; exact hlt
        obtain ⟨b, off, rfl, hbl, c0, c1, c2, c3⟩ := at4_of HL.out hkx
        generalize hx : acts[k] = x at c0 c1 c2 c3
        have HX := Lib.hid hx
        clear hx
        by_cases h100 : 100 < x.obj.size
        · go_wp2_with fail
          go_ret
          refine ⟨?_, rfl⟩
          rw [E2.out k hkx (by rw [HX.out]; exact h100)]
          rfl
        · go_wp2_with fail
          go_round
          case rel =>
            refine ⟨k + 1, by omega, by omega, by go_num, fun j hj hjk => ?_⟩
            by_cases e : j = k
            · subst e; rw [HX.out]; omega
            · exact HA.out j hj (by omega)
          case measure => simp [intOf]; omega
      · have hn40 : ¬ n ≤ 40 := by omega
        go_wp2_with fail
        go_ret
        refine ⟨?_, rfl⟩
        rw [E1.out k (.inl (by omega)) HA.out (by rw [HN.out]; omega), HN.out]
        simp [hn40]; omega
    · by_cases h40 : n ≤ 40
      · have H40 := Lib.hid h40
        go_wp2_with fail
        go_ret
        refine ⟨?_, rfl⟩
        rw [E1.out k (.inr (by rw [HN.out]; omega)) HA.out (by rw [HN.out]; omega), HN.out, decide_eq_true H40.out]
        exact congrArg (fun b => Ending.returned (Value.bool b)) (decide_eq_true (by have := H40.out; omega))
      · have H40 := Lib.hid h40
        go_wp2_with fail
        go_ret
        refine ⟨?_, rfl⟩
        rw [E1.out k (.inr (by rw [HN.out]; omega)) HA.out (by rw [HN.out]; omega), HN.out, decide_eq_false H40.out]
        exact congrArg (fun b => Ending.returned (Value.bool b)) (decide_eq_false (by have := H40.out; omega))

set_option maxHeartbeats 4000000 in
set_option maxRecDepth 100000 in
theorem walk_below (acts : List Akt) (A : Option Addr) (c : Nat) (ob nm : ByteArray) (day : Int) (before : Int) (w : World) (hl : Lst aktV 4 w A acts) (hbig : acts.length ≤ maxLen)
    (hob : ob.size ≤ maxLen) (hnm : nm.size ≤ maxLen) (hd1 : -9223372036854775808 ≤ day) (hd2 : day ≤ 9223372036854775807) (hb1 : 0 ≤ before) (hb2 : before ≤ 255) :
    Calls Tryd.prog 7 #[.slice A acts.length c, .string ob, .string nm, .int .i64 day, .int .u8 before] w fun e w' => e = .returned (.bool true) ∧ Below w.heap.size w w' := by
  have hfew := fun (W : World) (h : Below w.heap.size w W) => ref_few acts A c W (hl.below h) hbig
  unfold maxLen at hob hnm hbig
  cases hf : fewB acts with
  | false =>
    rw [hf] at hfew
    have HFe := Lib.hid hfew
    clear hfew hf
    generalize acts.length = n at *
    go_enter Tryd.func7, Tryd.ntmps7
    go_wp2_with fail
    refine (law_small _).mono ?_
    rintro e w1 ⟨rfl, hb1⟩
    go_wp2_with fail
    refine (HFe.out _ hb1).mono ?_
    rintro e w2 ⟨rfl, rfl⟩
    go_wp2_with fail
    go_ret
    exact ⟨rfl, hb1⟩
  | true =>
    rw [hf] at hfew
    obtain ⟨hsm, h40⟩ := few_small hf
    have HFe := Lib.hid hfew
    clear hfew hf
    by_cases h100 : 100 < ob.size
    · generalize acts.length = n at *
      go_enter Tryd.func7, Tryd.ntmps7
      go_wp2_with fail
      refine (law_small _).mono ?_
      rintro e w1 ⟨rfl, hb1⟩
      go_wp2_with fail
      refine (HFe.out _ hb1).mono ?_
      rintro e w2 ⟨rfl, rfl⟩
      go_wp2_with fail
      go_ret
      exact ⟨rfl, hb1⟩
    · by_cases h20 : 20 < nm.size
      · generalize acts.length = n at *
        go_enter Tryd.func7, Tryd.ntmps7
        go_wp2_with fail
        refine (law_small _).mono ?_
        rintro e w1 ⟨rfl, hb1⟩
        go_wp2_with fail
        refine (HFe.out _ hb1).mono ?_
        rintro e w2 ⟨rfl, rfl⟩
        go_wp2_with fail
        go_ret
        exact ⟨rfl, hb1⟩
      · have hbl : (ob ++ ⟨#[47]⟩ ++ nm : ByteArray).size ≤ 121 := by
          have : (⟨#[47]⟩ : ByteArray).size = 1 := rfl
          simp only [ByteArray.size_append, this]; omega
        have ebl : (ob ++ ⟨#[47]⟩ ++ nm : ByteArray).data.toList = ob.data.toList ++ 47 :: nm.data.toList := by simp
        have hri := fun W => lock_right 0 0 0 (ob ++ ⟨#[47]⟩ ++ nm) W (by omega)
        have hlo := fun (W : World) (h : Below w.heap.size w W) => lock_locked acts A c ob day W (hl.below h) hsm (by omega)
        have hlb := fun (W : World) (h : Below w.heap.size w W) => lock_locked acts A c (ob ++ ⟨#[47]⟩ ++ nm) day W (hl.below h) hsm (by omega)
        have hho := fun (W : World) (h : Below w.heap.size w W) => lock_hidden acts A c ob day W (hl.below h) hsm (by omega)
        have hhb := fun (W : World) (h : Below w.heap.size w W) => lock_hidden acts A c (ob ++ ⟨#[47]⟩ ++ nm) day W (hl.below h) hsm (by omega)
        have hh2 := fun (W : World) (h : Below w.heap.size w W) => lock_hidden acts A c ob (day - before) W (hl.below h) hsm (by omega)
        rw [ebl] at hlb hhb
        have er : rightB ⟨0, 0, 0, ob ++ ⟨#[47]⟩ ++ nm⟩ = objectB (ob.data.toList ++ 47 :: nm.data.toList) := by
          have : rightB ⟨0, 0, 0, ob ++ ⟨#[47]⟩ ++ nm⟩ = objectB (ob ++ ⟨#[47]⟩ ++ nm : ByteArray).data.toList := by
            unfold rightB Akt.o; simp
          rw [this, ebl]
        rw [er] at hri
        have p1 : objectB (ob.data.toList ++ 47 :: nm.data.toList) = false → lockedB acts (ob.data.toList ++ 47 :: nm.data.toList) day = false ∧ hiddenB acts (ob.data.toList ++ 47 :: nm.data.toList) day = false := fun h => by
          unfold lockedB hiddenB; rw [h]; exact ⟨rfl, rfl⟩
        have p2 : objectB (ob.data.toList ++ 47 :: nm.data.toList) = true → lockedB acts ob.data.toList day = true → lockedB acts (ob.data.toList ++ 47 :: nm.data.toList) day = true := fun h => locked_below h
        have p3 : objectB (ob.data.toList ++ 47 :: nm.data.toList) = true → hiddenB acts ob.data.toList day = true → hiddenB acts (ob.data.toList ++ 47 :: nm.data.toList) day = true := fun h => hidden_below h
        have p4 : hiddenB acts ob.data.toList day = true → hiddenB acts ob.data.toList (day - before) = true := hidden_earlier (by omega)
        generalize objectB (ob.data.toList ++ 47 :: nm.data.toList) = bR at *
        generalize lockedB acts ob.data.toList day = bLo at *
        generalize lockedB acts (ob.data.toList ++ 47 :: nm.data.toList) day = bLb at *
        generalize hiddenB acts ob.data.toList day = bHo at *
        generalize hiddenB acts (ob.data.toList ++ 47 :: nm.data.toList) day = bHb at *
        generalize hiddenB acts ob.data.toList (day - before) = bH2 at *
        clear er ebl hl hsm
        generalize acts.length = n at *
        have HRi := Lib.hid hri
        have HLo := Lib.hid hlo
        have HLb := Lib.hid hlb
        have HHo := Lib.hid hho
        have HHb := Lib.hid hhb
        have HH2 := Lib.hid hh2
        clear hri hlo hlb hho hhb hh2
        cases bR with
        | false =>
          obtain ⟨rfl, rfl⟩ := p1 rfl
          clear p1 p2 p3 p4
          go_enter Tryd.func7, Tryd.ntmps7
          go_wp2_with fail
          refine (law_small _).mono ?_
          rintro e w1 ⟨rfl, hb⟩
          have HB1 := Lib.hid hb
          clear hb
          go_wp2_with fail
          refine (HFe.out _ HB1.out).mono ?_
          rintro e w2 ⟨rfl, hw⟩
          have HB2 : Hid (Below w.heap.size w w2) := hw ▸ HB1.out
          clear hw HB1
          go_wp2_with fail
          refine (law_act _ _ _ _ _).mono ?_
          rintro e w3 ⟨rfl, hb⟩
          have hB := HB2.out.trans (hb.mono HB2.out.size)
          have HB3 := Lib.hid hB
          clear hb hB HB2
          go_wp2_with fail
          refine (HRi.out _).mono ?_
          rintro e w4 ⟨rfl, hb⟩
          have hB := HB3.out.trans (hb.mono HB3.out.size)
          have HB4 := Lib.hid hB
          clear hb hB HB3
          go_wp2_with fail
          refine (HLb.out _ HB4.out).mono ?_
          rintro e w5 ⟨rfl, hb⟩
          have hB := HB4.out.trans (hb.mono HB4.out.size)
          have HB5 := Lib.hid hB
          clear hb hB HB4
          go_wp2_with fail
          refine (HHb.out _ HB5.out).mono ?_
          rintro e w6 ⟨rfl, hb⟩
          have hB := HB5.out.trans (hb.mono HB5.out.size)
          have HB6 := Lib.hid hB
          clear hb hB HB5
          go_wp2_with fail
          go_ret
          exact ⟨rfl, HB6.out⟩
        | true =>
          have p2' := p2 rfl
          have p3' := p3 rfl
          clear p1 p2 p3
          by_cases hd : day < -1000
          · cases bLo with
            | false =>
              cases bHo with
              | false =>
                clear p2' p3' p4
                go_enter Tryd.func7, Tryd.ntmps7
                go_wp2_with fail
                refine (law_small _).mono ?_
                rintro e w1 ⟨rfl, hb⟩
                have HB1 := Lib.hid hb
                clear hb
                go_wp2_with fail
                refine (HFe.out _ HB1.out).mono ?_
                rintro e w2 ⟨rfl, hw⟩
                have HB2 : Hid (Below w.heap.size w w2) := hw ▸ HB1.out
                clear hw HB1
                go_wp2_with fail
                refine (law_act _ _ _ _ _).mono ?_
                rintro e w3 ⟨rfl, hb⟩
                have hB := HB2.out.trans (hb.mono HB2.out.size)
                have HB3 := Lib.hid hB
                clear hb hB HB2
                go_wp2_with fail
                refine (HRi.out _).mono ?_
                rintro e w4 ⟨rfl, hb⟩
                have hB := HB3.out.trans (hb.mono HB3.out.size)
                have HB4 := Lib.hid hB
                clear hb hB HB3
                go_wp2_with fail
                refine (HLo.out _ HB4.out).mono ?_
                rintro e w5 ⟨rfl, hb⟩
                have hB := HB4.out.trans (hb.mono HB4.out.size)
                have HB5 := Lib.hid hB
                clear hb hB HB4
                go_wp2_with fail
                refine (HHo.out _ HB5.out).mono ?_
                rintro e w6 ⟨rfl, hb⟩
                have hB := HB5.out.trans (hb.mono HB5.out.size)
                have HB6 := Lib.hid hB
                clear hb hB HB5
                go_wp2_with fail
                go_ret
                exact ⟨rfl, HB6.out⟩
              | true =>
                obtain rfl := p3' rfl
                obtain rfl := p4 rfl
                clear p2' p3' p4
                go_enter Tryd.func7, Tryd.ntmps7
                go_wp2_with fail
                refine (law_small _).mono ?_
                rintro e w1 ⟨rfl, hb⟩
                have HB1 := Lib.hid hb
                clear hb
                go_wp2_with fail
                refine (HFe.out _ HB1.out).mono ?_
                rintro e w2 ⟨rfl, hw⟩
                have HB2 : Hid (Below w.heap.size w w2) := hw ▸ HB1.out
                clear hw HB1
                go_wp2_with fail
                refine (law_act _ _ _ _ _).mono ?_
                rintro e w3 ⟨rfl, hb⟩
                have hB := HB2.out.trans (hb.mono HB2.out.size)
                have HB3 := Lib.hid hB
                clear hb hB HB2
                go_wp2_with fail
                refine (HRi.out _).mono ?_
                rintro e w4 ⟨rfl, hb⟩
                have hB := HB3.out.trans (hb.mono HB3.out.size)
                have HB4 := Lib.hid hB
                clear hb hB HB3
                go_wp2_with fail
                refine (HLo.out _ HB4.out).mono ?_
                rintro e w5 ⟨rfl, hb⟩
                have hB := HB4.out.trans (hb.mono HB4.out.size)
                have HB5 := Lib.hid hB
                clear hb hB HB4
                go_wp2_with fail
                refine (HHo.out _ HB5.out).mono ?_
                rintro e w6 ⟨rfl, hb⟩
                have hB := HB5.out.trans (hb.mono HB5.out.size)
                have HB6 := Lib.hid hB
                clear hb hB HB5
                go_wp2_with fail
                refine (HHb.out _ HB6.out).mono ?_
                rintro e w7 ⟨rfl, hb⟩
                have hB := HB6.out.trans (hb.mono HB6.out.size)
                have HB7 := Lib.hid hB
                clear hb hB HB6
                go_wp2_with fail
                go_ret
                exact ⟨rfl, HB7.out⟩
            | true =>
              obtain rfl := p2' rfl
              cases bHo with
              | false =>
                clear p2' p3' p4
                go_enter Tryd.func7, Tryd.ntmps7
                go_wp2_with fail
                refine (law_small _).mono ?_
                rintro e w1 ⟨rfl, hb⟩
                have HB1 := Lib.hid hb
                clear hb
                go_wp2_with fail
                refine (HFe.out _ HB1.out).mono ?_
                rintro e w2 ⟨rfl, hw⟩
                have HB2 : Hid (Below w.heap.size w w2) := hw ▸ HB1.out
                clear hw HB1
                go_wp2_with fail
                refine (law_act _ _ _ _ _).mono ?_
                rintro e w3 ⟨rfl, hb⟩
                have hB := HB2.out.trans (hb.mono HB2.out.size)
                have HB3 := Lib.hid hB
                clear hb hB HB2
                go_wp2_with fail
                refine (HRi.out _).mono ?_
                rintro e w4 ⟨rfl, hb⟩
                have hB := HB3.out.trans (hb.mono HB3.out.size)
                have HB4 := Lib.hid hB
                clear hb hB HB3
                go_wp2_with fail
                refine (HLo.out _ HB4.out).mono ?_
                rintro e w5 ⟨rfl, hb⟩
                have hB := HB4.out.trans (hb.mono HB4.out.size)
                have HB5 := Lib.hid hB
                clear hb hB HB4
                go_wp2_with fail
                refine (HLb.out _ HB5.out).mono ?_
                rintro e w6 ⟨rfl, hb⟩
                have hB := HB5.out.trans (hb.mono HB5.out.size)
                have HB6 := Lib.hid hB
                clear hb hB HB5
                go_wp2_with fail
                refine (HHo.out _ HB6.out).mono ?_
                rintro e w7 ⟨rfl, hb⟩
                have hB := HB6.out.trans (hb.mono HB6.out.size)
                have HB7 := Lib.hid hB
                clear hb hB HB6
                go_wp2_with fail
                go_ret
                exact ⟨rfl, HB7.out⟩
              | true =>
                obtain rfl := p3' rfl
                obtain rfl := p4 rfl
                clear p2' p3' p4
                go_enter Tryd.func7, Tryd.ntmps7
                go_wp2_with fail
                refine (law_small _).mono ?_
                rintro e w1 ⟨rfl, hb⟩
                have HB1 := Lib.hid hb
                clear hb
                go_wp2_with fail
                refine (HFe.out _ HB1.out).mono ?_
                rintro e w2 ⟨rfl, hw⟩
                have HB2 : Hid (Below w.heap.size w w2) := hw ▸ HB1.out
                clear hw HB1
                go_wp2_with fail
                refine (law_act _ _ _ _ _).mono ?_
                rintro e w3 ⟨rfl, hb⟩
                have hB := HB2.out.trans (hb.mono HB2.out.size)
                have HB3 := Lib.hid hB
                clear hb hB HB2
                go_wp2_with fail
                refine (HRi.out _).mono ?_
                rintro e w4 ⟨rfl, hb⟩
                have hB := HB3.out.trans (hb.mono HB3.out.size)
                have HB4 := Lib.hid hB
                clear hb hB HB3
                go_wp2_with fail
                refine (HLo.out _ HB4.out).mono ?_
                rintro e w5 ⟨rfl, hb⟩
                have hB := HB4.out.trans (hb.mono HB4.out.size)
                have HB5 := Lib.hid hB
                clear hb hB HB4
                go_wp2_with fail
                refine (HLb.out _ HB5.out).mono ?_
                rintro e w6 ⟨rfl, hb⟩
                have hB := HB5.out.trans (hb.mono HB5.out.size)
                have HB6 := Lib.hid hB
                clear hb hB HB5
                go_wp2_with fail
                refine (HHo.out _ HB6.out).mono ?_
                rintro e w7 ⟨rfl, hb⟩
                have hB := HB6.out.trans (hb.mono HB6.out.size)
                have HB7 := Lib.hid hB
                clear hb hB HB6
                go_wp2_with fail
                refine (HHb.out _ HB7.out).mono ?_
                rintro e w8 ⟨rfl, hb⟩
                have hB := HB7.out.trans (hb.mono HB7.out.size)
                have HB8 := Lib.hid hB
                clear hb hB HB7
                go_wp2_with fail
                go_ret
                exact ⟨rfl, HB8.out⟩
          · cases bLo with
            | false =>
              cases bHo with
              | false =>
                clear p2' p3' p4
                go_enter Tryd.func7, Tryd.ntmps7
                go_wp2_with fail
                refine (law_small _).mono ?_
                rintro e w1 ⟨rfl, hb⟩
                have HB1 := Lib.hid hb
                clear hb
                go_wp2_with fail
                refine (HFe.out _ HB1.out).mono ?_
                rintro e w2 ⟨rfl, hw⟩
                have HB2 : Hid (Below w.heap.size w w2) := hw ▸ HB1.out
                clear hw HB1
                go_wp2_with fail
                refine (law_act _ _ _ _ _).mono ?_
                rintro e w3 ⟨rfl, hb⟩
                have hB := HB2.out.trans (hb.mono HB2.out.size)
                have HB3 := Lib.hid hB
                clear hb hB HB2
                go_wp2_with fail
                refine (HRi.out _).mono ?_
                rintro e w4 ⟨rfl, hb⟩
                have hB := HB3.out.trans (hb.mono HB3.out.size)
                have HB4 := Lib.hid hB
                clear hb hB HB3
                go_wp2_with fail
                refine (HLo.out _ HB4.out).mono ?_
                rintro e w5 ⟨rfl, hb⟩
                have hB := HB4.out.trans (hb.mono HB4.out.size)
                have HB5 := Lib.hid hB
                clear hb hB HB4
                go_wp2_with fail
                refine (HHo.out _ HB5.out).mono ?_
                rintro e w6 ⟨rfl, hb⟩
                have hB := HB5.out.trans (hb.mono HB5.out.size)
                have HB6 := Lib.hid hB
                clear hb hB HB5
                go_wp2_with fail
                refine (HHo.out _ HB6.out).mono ?_
                rintro e w7 ⟨rfl, hb⟩
                have hB := HB6.out.trans (hb.mono HB6.out.size)
                have HB7 := Lib.hid hB
                clear hb hB HB6
                go_wp2_with fail
                go_ret
                exact ⟨rfl, HB7.out⟩
              | true =>
                obtain rfl := p3' rfl
                obtain rfl := p4 rfl
                clear p2' p3' p4
                go_enter Tryd.func7, Tryd.ntmps7
                go_wp2_with fail
                refine (law_small _).mono ?_
                rintro e w1 ⟨rfl, hb⟩
                have HB1 := Lib.hid hb
                clear hb
                go_wp2_with fail
                refine (HFe.out _ HB1.out).mono ?_
                rintro e w2 ⟨rfl, hw⟩
                have HB2 : Hid (Below w.heap.size w w2) := hw ▸ HB1.out
                clear hw HB1
                go_wp2_with fail
                refine (law_act _ _ _ _ _).mono ?_
                rintro e w3 ⟨rfl, hb⟩
                have hB := HB2.out.trans (hb.mono HB2.out.size)
                have HB3 := Lib.hid hB
                clear hb hB HB2
                go_wp2_with fail
                refine (HRi.out _).mono ?_
                rintro e w4 ⟨rfl, hb⟩
                have hB := HB3.out.trans (hb.mono HB3.out.size)
                have HB4 := Lib.hid hB
                clear hb hB HB3
                go_wp2_with fail
                refine (HLo.out _ HB4.out).mono ?_
                rintro e w5 ⟨rfl, hb⟩
                have hB := HB4.out.trans (hb.mono HB4.out.size)
                have HB5 := Lib.hid hB
                clear hb hB HB4
                go_wp2_with fail
                refine (HHo.out _ HB5.out).mono ?_
                rintro e w6 ⟨rfl, hb⟩
                have hB := HB5.out.trans (hb.mono HB5.out.size)
                have HB6 := Lib.hid hB
                clear hb hB HB5
                go_wp2_with fail
                refine (HHb.out _ HB6.out).mono ?_
                rintro e w7 ⟨rfl, hb⟩
                have hB := HB6.out.trans (hb.mono HB6.out.size)
                have HB7 := Lib.hid hB
                clear hb hB HB6
                go_wp2_with fail
                refine (HHo.out _ HB7.out).mono ?_
                rintro e w8 ⟨rfl, hb⟩
                have hB := HB7.out.trans (hb.mono HB7.out.size)
                have HB8 := Lib.hid hB
                clear hb hB HB7
                go_wp2_with fail
                refine (HH2.out _ HB8.out).mono ?_
                rintro e w9 ⟨rfl, hb⟩
                have hB := HB8.out.trans (hb.mono HB8.out.size)
                have HB9 := Lib.hid hB
                clear hb hB HB8
                go_wp2_with fail
                go_ret
                exact ⟨rfl, HB9.out⟩
            | true =>
              obtain rfl := p2' rfl
              cases bHo with
              | false =>
                clear p2' p3' p4
                go_enter Tryd.func7, Tryd.ntmps7
                go_wp2_with fail
                refine (law_small _).mono ?_
                rintro e w1 ⟨rfl, hb⟩
                have HB1 := Lib.hid hb
                clear hb
                go_wp2_with fail
                refine (HFe.out _ HB1.out).mono ?_
                rintro e w2 ⟨rfl, hw⟩
                have HB2 : Hid (Below w.heap.size w w2) := hw ▸ HB1.out
                clear hw HB1
                go_wp2_with fail
                refine (law_act _ _ _ _ _).mono ?_
                rintro e w3 ⟨rfl, hb⟩
                have hB := HB2.out.trans (hb.mono HB2.out.size)
                have HB3 := Lib.hid hB
                clear hb hB HB2
                go_wp2_with fail
                refine (HRi.out _).mono ?_
                rintro e w4 ⟨rfl, hb⟩
                have hB := HB3.out.trans (hb.mono HB3.out.size)
                have HB4 := Lib.hid hB
                clear hb hB HB3
                go_wp2_with fail
                refine (HLo.out _ HB4.out).mono ?_
                rintro e w5 ⟨rfl, hb⟩
                have hB := HB4.out.trans (hb.mono HB4.out.size)
                have HB5 := Lib.hid hB
                clear hb hB HB4
                go_wp2_with fail
                refine (HLb.out _ HB5.out).mono ?_
                rintro e w6 ⟨rfl, hb⟩
                have hB := HB5.out.trans (hb.mono HB5.out.size)
                have HB6 := Lib.hid hB
                clear hb hB HB5
                go_wp2_with fail
                refine (HHo.out _ HB6.out).mono ?_
                rintro e w7 ⟨rfl, hb⟩
                have hB := HB6.out.trans (hb.mono HB6.out.size)
                have HB7 := Lib.hid hB
                clear hb hB HB6
                go_wp2_with fail
                refine (HHo.out _ HB7.out).mono ?_
                rintro e w8 ⟨rfl, hb⟩
                have hB := HB7.out.trans (hb.mono HB7.out.size)
                have HB8 := Lib.hid hB
                clear hb hB HB7
                go_wp2_with fail
                go_ret
                exact ⟨rfl, HB8.out⟩
              | true =>
                obtain rfl := p3' rfl
                obtain rfl := p4 rfl
                clear p2' p3' p4
                go_enter Tryd.func7, Tryd.ntmps7
                go_wp2_with fail
                refine (law_small _).mono ?_
                rintro e w1 ⟨rfl, hb⟩
                have HB1 := Lib.hid hb
                clear hb
                go_wp2_with fail
                refine (HFe.out _ HB1.out).mono ?_
                rintro e w2 ⟨rfl, hw⟩
                have HB2 : Hid (Below w.heap.size w w2) := hw ▸ HB1.out
                clear hw HB1
                go_wp2_with fail
                refine (law_act _ _ _ _ _).mono ?_
                rintro e w3 ⟨rfl, hb⟩
                have hB := HB2.out.trans (hb.mono HB2.out.size)
                have HB3 := Lib.hid hB
                clear hb hB HB2
                go_wp2_with fail
                refine (HRi.out _).mono ?_
                rintro e w4 ⟨rfl, hb⟩
                have hB := HB3.out.trans (hb.mono HB3.out.size)
                have HB4 := Lib.hid hB
                clear hb hB HB3
                go_wp2_with fail
                refine (HLo.out _ HB4.out).mono ?_
                rintro e w5 ⟨rfl, hb⟩
                have hB := HB4.out.trans (hb.mono HB4.out.size)
                have HB5 := Lib.hid hB
                clear hb hB HB4
                go_wp2_with fail
                refine (HLb.out _ HB5.out).mono ?_
                rintro e w6 ⟨rfl, hb⟩
                have hB := HB5.out.trans (hb.mono HB5.out.size)
                have HB6 := Lib.hid hB
                clear hb hB HB5
                go_wp2_with fail
                refine (HHo.out _ HB6.out).mono ?_
                rintro e w7 ⟨rfl, hb⟩
                have hB := HB6.out.trans (hb.mono HB6.out.size)
                have HB7 := Lib.hid hB
                clear hb hB HB6
                go_wp2_with fail
                refine (HHb.out _ HB7.out).mono ?_
                rintro e w8 ⟨rfl, hb⟩
                have hB := HB7.out.trans (hb.mono HB7.out.size)
                have HB8 := Lib.hid hB
                clear hb hB HB7
                go_wp2_with fail
                refine (HHo.out _ HB8.out).mono ?_
                rintro e w9 ⟨rfl, hb⟩
                have hB := HB8.out.trans (hb.mono HB8.out.size)
                have HB9 := Lib.hid hB
                clear hb hB HB8
                go_wp2_with fail
                refine (HH2.out _ HB9.out).mono ?_
                rintro e w10 ⟨rfl, hb⟩
                have hB := HB9.out.trans (hb.mono HB9.out.size)
                have HB10 := Lib.hid hB
                clear hb hB HB9
                go_wp2_with fail
                go_ret
                exact ⟨rfl, HB10.out⟩

end Go.Proofs.YtaojnjealccjiaaDoor
