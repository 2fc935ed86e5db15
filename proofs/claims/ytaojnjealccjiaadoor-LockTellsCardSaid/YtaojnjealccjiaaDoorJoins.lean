/- LockJoins's walk. -/
import Derived.Test.YtaojnjealccjiaaDoorTwo
namespace Go.Proofs.YtaojnjealccjiaaDoor
open Go Go.RowKit Kb Go.Lib
set_option linter.unusedVariables false

theorem strict_len : ∀ (j l : List Akt), j.Pairwise ltAct → (∀ x ∈ j, x ∈ l) → j.length ≤ l.length
  | [], _, _, _ => Nat.zero_le _
  | x :: j, l, hp, hm => by
    rw [List.pairwise_cons] at hp
    have hx : x ∈ l := hm x (by simp)
    have := strict_len j (l.erase x) hp.2 (fun y hy => (List.mem_erase_of_ne (fun e => by subst e; exact ltAct_irrefl _ (hp.1 _ hy))).2 (hm y (by simp [hy])))
    rw [List.length_erase_of_mem hx] at this
    have : 0 < l.length := List.length_pos_of_mem hx
    simp only [List.length_cons]; omega
theorem isJoin_small {a b j : List Akt} (h : IsJoin a b j) (ha : Small a) (hb : Small b) (h1 : a.length ≤ 40) (h2 : b.length ≤ 40) : Small j ∧ j.length ≤ 80 := by
  have hl : j.length ≤ (a ++ b).length := strict_len j _ h.1 fun x hx => by rw [List.mem_append]; exact ((h.2 x).1 hx).2
  rw [List.length_append] at hl
  refine ⟨⟨fun x hx => ?_, by unfold maxLen; omega⟩, by omega⟩
  rcases ((h.2 x).1 hx).2 with m | m
  · exact ha.1 x m
  · exact hb.1 x m

section
variable {acts : List Akt} {k : Nat} {p : Akt → Bool}
theorem any_next (hk : k < acts.length) : (acts.take (k + 1)).any p = ((acts.take k).any p || p acts[k]) := by
  rw [List.take_succ_eq_append_getElem hk, List.any_append]; simp
end
def freeP (a : Akt) : Bool := decide (a.kind = 1)
def everP (ob : Bytes) (day : Int) (a : Akt) : Bool := decide (a.kind = 0) && decide (a.day ≤ day) && aboveB a.o ob

set_option maxHeartbeats 8000000 in
set_option maxRecDepth 100000 in
theorem walk_joins (a b : List Akt) (A A' : Option Addr) (c c' : Nat) (ob : ByteArray) (day : Int) (w : World) (hl : Lst aktV 4 w A a) (hbig : a.length ≤ maxLen) (hl' : Lst aktV 4 w A' b) (hbig' : b.length ≤ maxLen)
    (hob : ob.size ≤ maxLen) :
    Calls Tryd.prog 6 #[.slice A a.length c, .slice A' b.length c', .string ob, .int .i64 day] w fun e w' => e = .returned (.bool true) ∧ Below w.heap.size w w' := by
  have hfa := fun (W : World) (h : Below w.heap.size w W) => ref_few a A c W (hl.below h) hbig
  have hfb := fun (W : World) (h : Below w.heap.size w W) => ref_few b A' c' W (hl'.below h) hbig'
  unfold maxLen at hob hbig hbig'
  cases ha : fewB a with
  | false =>
    rw [ha] at hfa
    have HFa := Lib.hid hfa
    clear hfa hfb ha
    generalize a.length = na at *
    generalize b.length = nb at *
    go_enter Tryd.func6, Tryd.ntmps6
    go_wp2_with fail
    refine (law_small _).mono ?_
    rintro e w1 ⟨rfl, hb⟩
    have HB1 := Lib.hid hb
    clear hb
    go_wp2_with fail
    refine (HFa.out _ HB1.out).mono ?_
    rintro e w2 ⟨rfl, hw⟩
    have HB2 : Hid (Below w.heap.size w w2) := hw ▸ HB1.out
    clear hw HB1
    go_wp2_with fail
    go_ret
    exact ⟨rfl, HB2.out⟩
  | true =>
    obtain ⟨hsa, ha40⟩ := few_small ha
    rw [ha] at hfa
    have HFa := Lib.hid hfa
    clear hfa
    cases hb : fewB b with
    | false =>
      rw [hb] at hfb
      have HFb := Lib.hid hfb
      clear hfb hb ha
      generalize a.length = na at *
      generalize b.length = nb at *
      go_enter Tryd.func6, Tryd.ntmps6
      go_wp2_with fail
      refine (law_small _).mono ?_
      rintro e w1 ⟨rfl, hb⟩
      have HB1 := Lib.hid hb
      clear hb
      go_wp2_with fail
      refine (HFa.out _ HB1.out).mono ?_
      rintro e w2 ⟨rfl, hw⟩
      have HB2 : Hid (Below w.heap.size w w2) := hw ▸ HB1.out
      clear hw HB1
      go_wp2_with fail
      refine (HFb.out _ HB2.out).mono ?_
      rintro e w3 ⟨rfl, hw⟩
      have HB3 : Hid (Below w.heap.size w w3) := hw ▸ HB2.out
      clear hw HB2
      go_wp2_with fail
      go_ret
      exact ⟨rfl, HB3.out⟩
    | true =>
      obtain ⟨hsb, hb40⟩ := few_small hb
      rw [hb] at hfb
      have HFb := Lib.hid hfb
      clear hfb hb ha
      by_cases h100 : 100 < ob.size
      · generalize a.length = na at *
        generalize b.length = nb at *
        go_enter Tryd.func6, Tryd.ntmps6
        go_wp2_with fail
        refine (law_small _).mono ?_
        rintro e w1 ⟨rfl, hb⟩
        have HB1 := Lib.hid hb
        clear hb
        go_wp2_with fail
        refine (HFa.out _ HB1.out).mono ?_
        rintro e w2 ⟨rfl, hw⟩
        have HB2 : Hid (Below w.heap.size w w2) := hw ▸ HB1.out
        clear hw HB1
        go_wp2_with fail
        refine (HFb.out _ HB2.out).mono ?_
        rintro e w3 ⟨rfl, hw⟩
        have HB3 : Hid (Below w.heap.size w w3) := hw ▸ HB2.out
        clear hw HB2
        go_wp2_with fail
        go_ret
        exact ⟨rfl, HB3.out⟩
      · have hjo := fun (W : World) (h : Below w.heap.size w W) => lock_join a b A A' c c' W (hl.below h) (hl'.below h) hsa hsb (by omega)
        have hha := fun (W : World) (h : Below w.heap.size w W) => lock_hidden a A c ob day W (hl.below h) hsa (by omega)
        have hhb := fun (W : World) (h : Below w.heap.size w W) => lock_hidden b A' c' ob day W (hl'.below h) hsb (by omega)
        have hla := fun (W : World) (h : Below w.heap.size w W) => lock_locked a A c ob day W (hl.below h) hsa (by omega)
        have HJo := Lib.hid hjo
        have HHa := Lib.hid hha
        have HHb := Lib.hid hhb
        have HLa := Lib.hid hla
        have HSa := Lib.hid hsa
        have HSb := Lib.hid hsb
        have HL' := Lib.hid hl'
        clear hjo hha hhb hla hsa hsb hl hl'
        generalize hna : a.length = na at *
        generalize hnb : b.length = nb at *
        have HNa := Lib.hid hna
        have HNb := Lib.hid hnb
        clear hna hnb
        go_enter Tryd.func6, Tryd.ntmps6
        go_wp2_with fail
        refine (law_small _).mono ?_
        rintro e w1 ⟨rfl, hb⟩
        have HB1 := Lib.hid hb
        clear hb
        go_wp2_with fail
        refine (HFa.out _ HB1.out).mono ?_
        rintro e w2 ⟨rfl, hw⟩
        have HB2 : Hid (Below w.heap.size w w2) := hw ▸ HB1.out
        clear hw HB1
        go_wp2_with fail
        refine (HFb.out _ HB2.out).mono ?_
        rintro e w3 ⟨rfl, hw⟩
        have HB3 : Hid (Below w.heap.size w w3) := hw ▸ HB2.out
        clear hw HB2
        go_wp2_with fail
        refine (HJo.out _ HB3.out).mono ?_
        rintro e w4 ⟨Aj, cj, j, rfl, hj, hlj, hb⟩
        have hB := HB3.out.trans (hb.mono HB3.out.size)
        have HB4 := Lib.hid hB
        clear hb hB
        obtain ⟨hsj, hj80⟩ := isJoin_small hj HSa.out HSb.out (by rw [HNa.out]; exact ha40) (by rw [HNb.out]; exact hb40)
        have hhj := fun (W : World) (h : Below w4.heap.size w4 W) => lock_hidden j Aj cj ob day W (hlj.below h) hsj (by omega)
        have hlj2 := fun (W : World) (h : Below w4.heap.size w4 W) => lock_locked j Aj cj ob day W (hlj.below h) hsj (by omega)
        have p1 := hidden_join hj ob.data.toList day
        have p2 : b.any freeP = false → lockedB a ob.data.toList day = true → lockedB j ob.data.toList day = true := fun h h2 => locked_join hj _ _ (fun x hx hk => by
          have : b.any freeP = true := List.any_eq_true.2 ⟨x, hx, by unfold freeP; simp [hk]⟩
          rw [h] at this; cases this) h2
        have p3 : lockedB j ob.data.toList day = true → j.any (everP ob.data.toList day) = true := fun h => by
          obtain ⟨x, hx, h1, h2, h3⟩ := locked_ever h
          exact List.any_eq_true.2 ⟨x, hx, by unfold everP; simp [h1, h2, h3]⟩
        rw [p1] at hhj
        clear p1
        generalize hiddenB a ob.data.toList day = bHa at *
        generalize hiddenB b ob.data.toList day = bHb at *
        generalize lockedB a ob.data.toList day = bLa at *
        generalize lockedB j ob.data.toList day = bNow at *
        have HHj := Lib.hid hhj
        have HLj := Lib.hid hlj2
        have P2 := Lib.hid p2
        have P3 := Lib.hid p3
        have HLst := Lib.hid hlj
        have h100j : ∀ x ∈ j, x.obj.size < 4294967281 := hsj.1
        have H100 := Lib.hid h100j
        clear hhj hlj2 p2 p3 hlj hj hsj h100j HJo HFa HFb HSa HSb
        generalize hnj : j.length = nj at *
        have HNj := Lib.hid hnj
        clear hnj
        have rest : ∀ (w7 : World) (fr0 : List Value), True := fun _ _ => trivial
        clear rest
        cases bHa with
        | true =>
          go_wp2_with fail
          refine (HHj.out _ (Below.refl _ _)).mono ?_
          rintro e w5 ⟨rfl, hb⟩
          have hB := HB4.out.trans (hb.mono HB4.out.size)
          have HB5 := Lib.hid hB
          have HJ5 := Lib.hid hb
          clear hb hB
          go_wp2_with fail
          refine (HHa.out _ HB5.out).mono ?_
          rintro e w6 ⟨rfl, hb⟩
          have hB := HB5.out.trans (hb.mono HB5.out.size)
          have HB6 := Lib.hid hB
          have HJ6 := Lib.hid (HJ5.out.trans (hb.mono HJ5.out.size))
          clear hb hB
          go_wp2_with fail
          go_loop [11, 13] (fun s11 s13 => ∃ (k : Nat) (fr : Bool), k ≤ nb ∧ s13 = .int .i64 k ∧ s11 = .bool fr ∧ Hid (fr = (b.take k).any freeP)) (fun _ i => nb - (intOf i).toNat)
          case atStart => exact ⟨0, false, Nat.zero_le _, rfl, rfl, by show _ = _; simp⟩
          case round =>
            obtain ⟨k, fr, hk, rfl, rfl, HQ⟩ := hrel
            by_cases hlk : k < nb
            · have hkl : k < b.length := by rw [HNb.out]; exact hlk
              obtain ⟨g, off, rfl, hbl, h4⟩ := at4_of HL'.out hkl
              obtain ⟨c0, _, _, _⟩ := h4.below HB6.out hbl
              have q1 := any_next (p := freeP) hkl
              rw [← HQ.out] at q1
              generalize b[k] = x at c0 q1
              clear h4
              have Q1 := Lib.hid q1
              clear q1
              cases fr with
              | true =>
                go_wp2_with fail
                go_round
                case rel => exact ⟨k + 1, true, by omega, by go_num, rfl, by show _ = _; rw [Q1.out]; simp⟩
                case measure => simp [intOf]; omega
              | false =>
                cases e : (x.kind == 1) with
                | true =>
                  have E := Lib.hid e
                  go_wp2_with fail
                  go_round
                  case rel => exact ⟨k + 1, true, by omega, by go_num, rfl, by show _ = _; rw [Q1.out]; have := E.out; simp at this; unfold freeP; simp [this]⟩
                  case measure => simp [intOf]; omega
                | false =>
                  have E := Lib.hid e
                  go_wp2_with fail
                  go_round
                  case rel => exact ⟨k + 1, false, by omega, by go_num, rfl, by show _ = _; rw [Q1.out]; have := E.out; simp at this; unfold freeP; simp [this]⟩
                  case measure => simp [intOf]; omega
            · have hkn : k = nb := by omega
              have hq := HQ.out
              rw [hkn, ← HNb.out, List.take_length] at hq
              rw [← hq] at P2
              clear HQ hkn hq
              go_wp2_with fail
              go_loopw [12, 14] (fun s12 s14 wr => ∃ (k : Nat) (ev : Bool), k ≤ nj ∧ s14 = .int .i64 k ∧ s12 = .bool ev ∧ Hid (ev = (j.take k).any (everP ob.data.toList day)) ∧ w6 = wr) (fun _ i _ => nj - (intOf i).toNat)
              case atStart => exact ⟨0, false, Nat.zero_le _, rfl, rfl, by show _ = _; simp, rfl⟩
              case round =>
                obtain ⟨k2, ev, hk2, rfl, rfl, HQ, rfl⟩ := hrel
                by_cases hlk2 : k2 < nj
                · have hkl : k2 < j.length := by rw [HNj.out]; exact hlk2
                  obtain ⟨g, off, rfl, hbl, h4⟩ := at4_of HLst.out hkl
                  obtain ⟨c0, _, c2, c3⟩ := h4.below HJ6.out hbl
                  have q1 := any_next (p := everP ob.data.toList day) hkl
                  have hso := H100.out j[k2] (List.getElem_mem hkl)
                  rw [← HQ.out] at q1
                  generalize j[k2] = x at c0 c2 c3 q1 hso
                  clear h4
                  have hab := fun W => ref_above x.obj ob W (by unfold maxLen; omega) (by unfold maxLen; omega)
                  have hpe : everP ob.data.toList day x = (decide (x.kind = 0) && decide (x.day ≤ day) && aboveB x.obj.data.toList ob.data.toList) := rfl
                  rw [hpe] at q1
                  clear hpe
                  generalize aboveB x.obj.data.toList ob.data.toList = ab at hab q1
                  have Q1 := Lib.hid q1
                  have HAb := Lib.hid hab
                  clear q1 hab
                  cases ev with
                  | true =>
                    go_wp2_with fail
                    go_roundw
                    case rel => exact ⟨k2 + 1, true, by omega, by go_num, rfl, by show _ = _; rw [Q1.out]; simp, trivial⟩
                    case measure => simp [intOf]; omega
                  | false =>
                    cases e : (x.kind == 0) with
                    | false =>
                      have E := Lib.hid e
                      go_wp2_with fail
                      go_roundw
                      case rel => exact ⟨k2 + 1, false, by omega, by go_num, rfl, by show _ = _; rw [Q1.out]; have := E.out; simp at this; simp [this], trivial⟩
                      case measure => simp [intOf]; omega
                    | true =>
                      have E := Lib.hid e
                      by_cases hd : x.day ≤ day
                      · have HD := Lib.hid hd
                        go_wp2_with (go_at_call 22; refine (HAb.out _).mono ?_; rintro e w9 ⟨rfl, rfl⟩)
                        go_roundw
                        case rel => exact ⟨k2 + 1, ab, by omega, by go_num, rfl, by show _ = _; rw [Q1.out]; have := E.out; simp at this; simp [this, HD.out], trivial⟩
                        case measure => simp [intOf]; omega
                      · have HD := Lib.hid hd
                        go_wp2_with fail
                        go_roundw
                        case rel => exact ⟨k2 + 1, false, by omega, by go_num, rfl, by show _ = _; rw [Q1.out]; have h9 := HD.out; simp; intro _ h; exact absurd h h9, trivial⟩
                        case measure => simp [intOf]; omega
                · have hkn : k2 = nj := by omega
                  have hq := HQ.out
                  rw [hkn, ← HNj.out, List.take_length] at hq
                  rw [← hq] at P3
                  clear HQ hkn hq
                  have h2 := P2.out
                  have h3 := P3.out
                  clear P2 P3
                  cases fr with
                  | true =>
                    cases bNow with
                    | false =>
                      clear h2 h3
                      cases ev <;>
                      (go_wp2_with fail
                       refine (HLj.out _ HJ6.out).mono ?_
                       rintro e w9 ⟨rfl, hb⟩
                       have hB := HB6.out.trans (hb.mono HB6.out.size)
                       have HB9 := Lib.hid hB
                       clear hb hB
                       go_wp2_with fail
                       go_ret
                       exact ⟨rfl, HB9.out⟩)
                    | true =>
                      obtain rfl := h3 rfl
                      clear h2 h3
                      go_wp2_with fail
                      refine (HLj.out _ HJ6.out).mono ?_
                      rintro e w9 ⟨rfl, hb⟩
                      have hB := HB6.out.trans (hb.mono HB6.out.size)
                      have HB9 := Lib.hid hB
                      clear hb hB
                      go_wp2_with fail
                      go_ret
                      exact ⟨rfl, HB9.out⟩
                  | false =>
                    cases bNow with
                    | true =>
                      obtain rfl := h3 rfl
                      clear h2 h3
                      cases bLa <;>
                      (go_wp2_with fail
                       refine (HLj.out _ HJ6.out).mono ?_
                       rintro e w9 ⟨rfl, hb⟩
                       have hB := HB6.out.trans (hb.mono HB6.out.size)
                       have HB9 := Lib.hid hB
                       clear hb hB
                       go_wp2_with fail
                       refine (HLa.out _ HB9.out).mono ?_
                       rintro e w10 ⟨rfl, hb⟩
                       have hB := HB9.out.trans (hb.mono HB9.out.size)
                       have HB10 := Lib.hid hB
                       clear hb hB
                       go_wp2_with fail
                       go_ret
                       exact ⟨rfl, HB10.out⟩)
                    | false =>
                      cases bLa with
                      | true => exact absurd (h2 rfl rfl) (by simp)
                      | false =>
                        clear h2 h3
                        cases ev <;>
                        (go_wp2_with fail
                         refine (HLj.out _ HJ6.out).mono ?_
                         rintro e w9 ⟨rfl, hb⟩
                         have hB := HB6.out.trans (hb.mono HB6.out.size)
                         have HB9 := Lib.hid hB
                         clear hb hB
                         go_wp2_with fail
                         refine (HLa.out _ HB9.out).mono ?_
                         rintro e w10 ⟨rfl, hb⟩
                         have hB := HB9.out.trans (hb.mono HB9.out.size)
                         have HB10 := Lib.hid hB
                         clear hb hB
                         go_wp2_with fail
                         go_ret
                         exact ⟨rfl, HB10.out⟩)
        | false =>
          cases bHb <;>
          (go_wp2_with fail
           refine (HHj.out _ (Below.refl _ _)).mono ?_
           rintro e w5 ⟨rfl, hb⟩
           have hB := HB4.out.trans (hb.mono HB4.out.size)
           have HB5 := Lib.hid hB
           have HJ5 := Lib.hid hb
           clear hb hB
           go_wp2_with fail
           refine (HHa.out _ HB5.out).mono ?_
           rintro e w6 ⟨rfl, hb⟩
           have hB := HB5.out.trans (hb.mono HB5.out.size)
           have HB6 := Lib.hid hB
           have HJ6 := Lib.hid (HJ5.out.trans (hb.mono HJ5.out.size))
           clear hb hB
           go_wp2_with fail
           refine (HHb.out _ HB6.out).mono ?_
           rintro e w7 ⟨rfl, hb⟩
           have hB := HB6.out.trans (hb.mono HB6.out.size)
           have HB7 := Lib.hid hB
           have HJ7 := Lib.hid (HJ6.out.trans (hb.mono HJ6.out.size))
           clear hb hB
           go_wp2_with fail
           go_loop [11, 13] (fun s11 s13 => ∃ (k : Nat) (fr : Bool), k ≤ nb ∧ s13 = .int .i64 k ∧ s11 = .bool fr ∧ Hid (fr = (b.take k).any freeP)) (fun _ i => nb - (intOf i).toNat)
           case atStart => exact ⟨0, false, Nat.zero_le _, rfl, rfl, by show _ = _; simp⟩
           case round =>
             obtain ⟨k, fr, hk, rfl, rfl, HQ⟩ := hrel
             by_cases hlk : k < nb
             · have hkl : k < b.length := by rw [HNb.out]; exact hlk
               obtain ⟨g, off, rfl, hbl, h4⟩ := at4_of HL'.out hkl
               obtain ⟨c0, _, _, _⟩ := h4.below HB7.out hbl
               have q1 := any_next (p := freeP) hkl
               rw [← HQ.out] at q1
               generalize b[k] = x at c0 q1
               clear h4
               have Q1 := Lib.hid q1
               clear q1
               cases fr with
               | true =>
                 go_wp2_with fail
                 go_round
                 case rel => exact ⟨k + 1, true, by omega, by go_num, rfl, by show _ = _; rw [Q1.out]; simp⟩
                 case measure => simp [intOf]; omega
               | false =>
                 cases e : (x.kind == 1) with
                 | true =>
                   have E := Lib.hid e
                   go_wp2_with fail
                   go_round
                   case rel => exact ⟨k + 1, true, by omega, by go_num, rfl, by show _ = _; rw [Q1.out]; have := E.out; simp at this; unfold freeP; simp [this]⟩
                   case measure => simp [intOf]; omega
                 | false =>
                   have E := Lib.hid e
                   go_wp2_with fail
                   go_round
                   case rel => exact ⟨k + 1, false, by omega, by go_num, rfl, by show _ = _; rw [Q1.out]; have := E.out; simp at this; unfold freeP; simp [this]⟩
                   case measure => simp [intOf]; omega
             · have hkn : k = nb := by omega
               have hq := HQ.out
               rw [hkn, ← HNb.out, List.take_length] at hq
               rw [← hq] at P2
               clear HQ hkn hq
               go_wp2_with fail
               go_loopw [12, 14] (fun s12 s14 wr => ∃ (k : Nat) (ev : Bool), k ≤ nj ∧ s14 = .int .i64 k ∧ s12 = .bool ev ∧ Hid (ev = (j.take k).any (everP ob.data.toList day)) ∧ w7 = wr) (fun _ i _ => nj - (intOf i).toNat)
               case atStart => exact ⟨0, false, Nat.zero_le _, rfl, rfl, by show _ = _; simp, rfl⟩
               case round =>
                 obtain ⟨k2, ev, hk2, rfl, rfl, HQ, rfl⟩ := hrel
                 by_cases hlk2 : k2 < nj
                 · have hkl : k2 < j.length := by rw [HNj.out]; exact hlk2
                   obtain ⟨g, off, rfl, hbl, h4⟩ := at4_of HLst.out hkl
                   obtain ⟨c0, _, c2, c3⟩ := h4.below HJ7.out hbl
                   have q1 := any_next (p := everP ob.data.toList day) hkl
                   have hso := H100.out j[k2] (List.getElem_mem hkl)
                   rw [← HQ.out] at q1
                   generalize j[k2] = x at c0 c2 c3 q1 hso
                   clear h4
                   have hab := fun W => ref_above x.obj ob W (by unfold maxLen; omega) (by unfold maxLen; omega)
                   have hpe : everP ob.data.toList day x = (decide (x.kind = 0) && decide (x.day ≤ day) && aboveB x.obj.data.toList ob.data.toList) := rfl
                   rw [hpe] at q1
                   clear hpe
                   generalize aboveB x.obj.data.toList ob.data.toList = ab at hab q1
                   have Q1 := Lib.hid q1
                   have HAb := Lib.hid hab
                   clear q1 hab
                   cases ev with
                   | true =>
                     go_wp2_with fail
                     go_roundw
                     case rel => exact ⟨k2 + 1, true, by omega, by go_num, rfl, by show _ = _; rw [Q1.out]; simp, trivial⟩
                     case measure => simp [intOf]; omega
                   | false =>
                     cases e : (x.kind == 0) with
                     | false =>
                       have E := Lib.hid e
                       go_wp2_with fail
                       go_roundw
                       case rel => exact ⟨k2 + 1, false, by omega, by go_num, rfl, by show _ = _; rw [Q1.out]; have := E.out; simp at this; simp [this], trivial⟩
                       case measure => simp [intOf]; omega
                     | true =>
                       have E := Lib.hid e
                       by_cases hd : x.day ≤ day
                       · have HD := Lib.hid hd
                         go_wp2_with (go_at_call 22; refine (HAb.out _).mono ?_; rintro e w9 ⟨rfl, rfl⟩)
                         go_roundw
                         case rel => exact ⟨k2 + 1, ab, by omega, by go_num, rfl, by show _ = _; rw [Q1.out]; have := E.out; simp at this; simp [this, HD.out], trivial⟩
                         case measure => simp [intOf]; omega
                       · have HD := Lib.hid hd
                         go_wp2_with fail
                         go_roundw
                         case rel => exact ⟨k2 + 1, false, by omega, by go_num, rfl, by show _ = _; rw [Q1.out]; have h9 := HD.out; simp; intro _ h; exact absurd h h9, trivial⟩
                         case measure => simp [intOf]; omega
                 · have hkn : k2 = nj := by omega
                   have hq := HQ.out
                   rw [hkn, ← HNj.out, List.take_length] at hq
                   rw [← hq] at P3
                   clear HQ hkn hq
                   have h2 := P2.out
                   have h3 := P3.out
                   clear P2 P3
                   cases fr with
                   | true =>
                     cases bNow with
                     | false =>
                       clear h2 h3
                       cases ev <;>
                       (go_wp2_with fail
                        refine (HLj.out _ HJ7.out).mono ?_
                        rintro e w9 ⟨rfl, hb⟩
                        have hB := HB7.out.trans (hb.mono HB7.out.size)
                        have HB9 := Lib.hid hB
                        clear hb hB
                        go_wp2_with fail
                        go_ret
                        exact ⟨rfl, HB9.out⟩)
                     | true =>
                       obtain rfl := h3 rfl
                       clear h2 h3
                       go_wp2_with fail
                       refine (HLj.out _ HJ7.out).mono ?_
                       rintro e w9 ⟨rfl, hb⟩
                       have hB := HB7.out.trans (hb.mono HB7.out.size)
                       have HB9 := Lib.hid hB
                       clear hb hB
                       go_wp2_with fail
                       go_ret
                       exact ⟨rfl, HB9.out⟩
                   | false =>
                     cases bNow with
                     | true =>
                       obtain rfl := h3 rfl
                       clear h2 h3
                       cases bLa <;>
                       (go_wp2_with fail
                        refine (HLj.out _ HJ7.out).mono ?_
                        rintro e w9 ⟨rfl, hb⟩
                        have hB := HB7.out.trans (hb.mono HB7.out.size)
                        have HB9 := Lib.hid hB
                        clear hb hB
                        go_wp2_with fail
                        refine (HLa.out _ HB9.out).mono ?_
                        rintro e w10 ⟨rfl, hb⟩
                        have hB := HB9.out.trans (hb.mono HB9.out.size)
                        have HB10 := Lib.hid hB
                        clear hb hB
                        go_wp2_with fail
                        go_ret
                        exact ⟨rfl, HB10.out⟩)
                     | false =>
                       cases bLa with
                       | true => exact absurd (h2 rfl rfl) (by simp)
                       | false =>
                         clear h2 h3
                         cases ev <;>
                         (go_wp2_with fail
                          refine (HLj.out _ HJ7.out).mono ?_
                          rintro e w9 ⟨rfl, hb⟩
                          have hB := HB7.out.trans (hb.mono HB7.out.size)
                          have HB9 := Lib.hid hB
                          clear hb hB
                          go_wp2_with fail
                          refine (HLa.out _ HB9.out).mono ?_
                          rintro e w10 ⟨rfl, hb⟩
                          have hB := HB9.out.trans (hb.mono HB9.out.size)
                          have HB10 := Lib.hid hB
                          clear hb hB
                          go_wp2_with fail
                          go_ret
                          exact ⟨rfl, HB10.out⟩))

end Go.Proofs.YtaojnjealccjiaaDoor
