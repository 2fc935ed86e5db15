/- LockFour's walk. -/
import Derived.Test.YtaojnjealccjiaaDoorTwo
import Derived.Test.YtaojnjealccjiaaDoorConcat
namespace Go.Proofs.YtaojnjealccjiaaDoor
open Go Go.RowKit Kb Go.Lib
set_option linter.unusedVariables false

theorem grown_cell {W w2 : World} {row : Option Nat} (hg : W.grownBy w2 row) {b o : Nat} (hb : b < W.heap.size) (hne : some b ≠ row) : w2.cell? ⟨b, o, none⟩ = W.cell? ⟨b, o, none⟩ := World.cell?_of_block (hg.block b hb hne)

/-- one act in a new block reads as a list of one -/
theorem reads_one {W : World} {g B : Nat} {a : Akt} (h : At4 W g 0 a) (hg : g < B) : Reads W B 4 (some ⟨g, 0, none⟩) 1 (aktV a) := by
  refine ⟨rfl, fun _ => ⟨_, rfl, hg, fun j u hu => ?_⟩⟩
  rw [Addr.add_lit]
  obtain ⟨c0, c1, c2, c3⟩ := h
  match j, hu with
  | 0, hu => cases hu; exact c0
  | 1, hu => cases hu; exact c1
  | 2, hu => cases hu; exact c2
  | 3, hu => cases hu; exact c3
  | j + 4, hu => simp [aktV] at hu
theorem one_akt (a : Akt) : ∀ u ∈ aktV a, u.oneCell' = true := fun u hu => by
  simp [aktV] at hu
  rcases hu with rfl | rfl | rfl | rfl <;> rfl

theorem own_below {w w' : World} {B e size n : Nat} {v : Value} {xs : List Value} (h : w.ownsRow B e size v n xs) (hb : Below w.heap.size w w') : w'.ownsRow B e size v n xs := by
  refine ⟨h.1, ?_⟩
  rcases h.2 with h1 | ⟨g, cap, cur, rfl, hB, hg, rest⟩
  · exact .inl h1
  · refine .inr ⟨g, cap, cur, rfl, hB, ?_, rest⟩
    have hlt : g < w.heap.size := by
      rcases Nat.lt_or_ge g w.heap.size with h2 | h2
      · exact h2
      · rw [Array.getElem?_eq_none h2] at hg; cases hg
    rw [hb.block g hlt]; exact hg

def someP (ob : Bytes) (day : Int) (a : Akt) : Bool := decide (a.kind = 0) && rightB a && aboveB a.o ob && decide (a.day ≤ day)
def freedP (acts : List Akt) (ob : Bytes) (later : Int) (a : Akt) : Bool := decide (a.kind = 0) && rightB a && aboveB a.o ob && twoB acts a later
def bareP (a : Akt) : Bool := !decide (a.kind = 1)

section
variable {acts : List Akt} {k : Nat} {p : Akt → Bool}
theorem any_succ (hk : k < acts.length) : (acts.take (k + 1)).any p = ((acts.take k).any p || p acts[k]) := by
  rw [List.take_succ_eq_append_getElem hk, List.any_append]; simp
theorem filter_succ (hk : k < acts.length) : (acts.take (k + 1)).filter p = (acts.take k).filter p ++ if p acts[k] then [acts[k]] else [] := by
  rw [List.take_succ_eq_append_getElem hk, List.filter_append]
  cases h : p acts[k] <;> simp [h]
theorem filter_len : ((acts.take k).filter p).length ≤ acts.length := Nat.le_trans (List.length_filter_le _ _) (by simp; omega)
end

set_option maxHeartbeats 8000000 in
set_option maxRecDepth 100000 in
theorem walk_four (acts : List Akt) (A : Option Addr) (c : Nat) (ob : ByteArray) (day later : Int) (w : World) (hl : Lst aktV 4 w A acts) (hbig : acts.length ≤ maxLen)
    (hob : ob.size ≤ maxLen) :
    Calls Tryd.prog 4 #[.slice A acts.length c, .string ob, .int .i64 day, .int .i64 later] w fun e w' => e = .returned (.bool true) ∧ Below w.heap.size w w' := by
  have hfew := fun (W : World) (h : Below w.heap.size w W) => ref_few acts A c W (hl.below h) hbig
  unfold maxLen at hob hbig
  cases hf : fewB acts with
  | false =>
    rw [hf] at hfew
    have HFe := Lib.hid hfew
    clear hfew hf
    generalize acts.length = n at *
    go_enter Tryd.func4, Tryd.ntmps4
    go_wp2_with fail
    refine (law_small _).mono ?_
    rintro e w1 ⟨rfl, hb⟩
    have HB1 := Lib.hid hb
    clear hb
    go_wp2_with fail
    refine (HFe.out _ HB1.out).mono ?_
    rintro e w2 ⟨rfl, hw⟩
    have HB2 : Hid (Below w.heap.size w w2) := hw ▸ HB1.out
    clear hw HB1
    go_wp2_with fail
    go_ret
    exact ⟨rfl, HB2.out⟩
  | true =>
    rw [hf] at hfew
    obtain ⟨hsm, h40⟩ := few_small hf
    have h100a := (fewB_iff.1 hf).2
    have HFe := Lib.hid hfew
    clear hfew hf
    by_cases h100 : 100 < ob.size
    · generalize acts.length = n at *
      go_enter Tryd.func4, Tryd.ntmps4
      go_wp2_with fail
      refine (law_small _).mono ?_
      rintro e w1 ⟨rfl, hb⟩
      have HB1 := Lib.hid hb
      clear hb
      go_wp2_with fail
      refine (HFe.out _ HB1.out).mono ?_
      rintro e w2 ⟨rfl, hw⟩
      have HB2 : Hid (Below w.heap.size w w2) := hw ▸ HB1.out
      clear hw HB1
      go_wp2_with fail
      go_ret
      exact ⟨rfl, HB2.out⟩
    · by_cases hlt : later < day
      · generalize acts.length = n at *
        go_enter Tryd.func4, Tryd.ntmps4
        go_wp2_with fail
        refine (law_small _).mono ?_
        rintro e w1 ⟨rfl, hb⟩
        have HB1 := Lib.hid hb
        clear hb
        go_wp2_with fail
        refine (HFe.out _ HB1.out).mono ?_
        rintro e w2 ⟨rfl, hw⟩
        have HB2 : Hid (Below w.heap.size w w2) := hw ▸ HB1.out
        clear hw HB1
        go_wp2_with fail
        go_ret
        exact ⟨rfl, HB2.out⟩
      · have hle : day ≤ later := by omega
        have hri := fun W => lock_right 0 0 0 ob W (by omega)
        have er : rightB ⟨0, 0, 0, ob⟩ = objectB ob.data.toList := by unfold rightB Akt.o; simp
        rw [er] at hri
        have hlb := fun (W : World) (A' : Option Addr) (c' : Nat) (h : Lst aktV 4 W A' (acts.filter bareP)) => lock_locked (acts.filter bareP) A' c' ob day W h ⟨fun a ha => hsm.1 a (List.mem_filter.1 ha).1, Nat.le_trans (List.length_filter_le _ _) hsm.2⟩ (by omega)
        have hl1 := fun (W : World) (h : Below w.heap.size w W) => lock_locked acts A c ob day W (hl.below h) hsm (by omega)
        have hl2 := fun (W : World) (h : Below w.heap.size w W) => lock_locked acts A c ob later W (hl.below h) hsm (by omega)
        have htw := fun (W : World) (h : Below w.heap.size w W) (l : Akt) (hlo : l ∈ acts) => law_two acts A c l later W (hl.below h) hsm (hsm.1 l hlo)
        have pb : lockedB (acts.filter bareP) ob.data.toList day = (acts.any (someP ob.data.toList day) && objectB ob.data.toList) := four_bare
        have p1 : lockedB acts ob.data.toList day = false → acts.any (someP ob.data.toList day) = true → objectB ob.data.toList = true → acts.any (freedP acts ob.data.toList later) = true := fun h1 h2 h3 => by
          obtain ⟨a, ha, h4⟩ := List.any_eq_true.1 h2
          unfold someP at h4
          simp only [Bool.and_eq_true, decide_eq_true_eq] at h4
          refine List.any_eq_true.2 ⟨a, ha, ?_⟩
          unfold freedP
          simp only [Bool.and_eq_true, decide_eq_true_eq]
          exact ⟨h4.1, four_no hle h1 h3 ha h4.1.1.1 h4.1.1.2 h4.1.2 h4.2⟩
        have p2 : lockedB acts ob.data.toList day = true → acts.any (someP ob.data.toList day) = true ∧ objectB ob.data.toList = true := fun h => by
          obtain ⟨ho, a, hm, hk, hab, hr, hd, _⟩ := lockedB_iff.1 h
          refine ⟨List.any_eq_true.2 ⟨a, hm, ?_⟩, ho⟩
          unfold someP
          simp [hk, hab, hr, hd]
        have p3 : lockedB acts ob.data.toList day = true → acts.any (freedP acts ob.data.toList later) = false → lockedB acts ob.data.toList later = true := fun h h2 => four_yes hle h fun a ha hk hr hab => by
          cases e : twoB acts a later with
          | false => rfl
          | true =>
            rw [List.any_eq_true.2 ⟨a, ha, by unfold freedP; simp [hk, hr, hab, e]⟩] at h2
            cases h2
        clear er
        generalize objectB ob.data.toList = bN at *
        generalize lockedB acts ob.data.toList day = bL1 at *
        generalize lockedB acts ob.data.toList later = bL2 at *
        rw [pb] at hlb
        clear pb
        obtain ⟨i0, hi0, hz0, hz1, hz2⟩ := info_parts Tryd.infoAct
        have HRi := Lib.hid hri
        have HLb := Lib.hid hlb
        have HL1 := Lib.hid hl1
        have HL2 := Lib.hid hl2
        have HTw := Lib.hid htw
        have P1 := Lib.hid p1
        have P2 := Lib.hid p2
        have P3 := Lib.hid p3
        have HL := Lib.hid hl
        have HSm := Lib.hid hsm
        clear hri hlb hl1 hl2 htw p1 p2 p3 hl hsm
        generalize hn : acts.length = n at *
        have HN := Lib.hid hn
        clear hn
        have H100 := Lib.hid h100a
        clear h100a
        go_enter Tryd.func4, Tryd.ntmps4
        go_wp2_with fail
        refine (law_small _).mono ?_
        rintro e w1 ⟨rfl, hb⟩
        have HB1 := Lib.hid hb
        clear hb
        go_wp2_with fail
        refine (HFe.out _ HB1.out).mono ?_
        rintro e w2 ⟨rfl, hw⟩
        have HB2 : Hid (Below w.heap.size w w2) := hw ▸ HB1.out
        clear hw HB1
        go_wp2_with fail
        go_loopw [10, 11, 12, 13] (fun s10 s11 s12 s13 wr => ∃ (k : Nat) (v10 : Value) (m : Nat) (sm fr : Bool), k ≤ n ∧ m ≤ k ∧ s13 = .int .i64 k ∧ v10 = s10 ∧ s11 = .bool sm ∧ s12 = .bool fr ∧ Hid (sm = (acts.take k).any (someP ob.data.toList day) ∧ fr = (acts.take k).any (freedP acts ob.data.toList later) ∧ m = ((acts.take k).filter bareP).length) ∧
          Hid (wr.ownsRow w.heap.size 30 4 v10 m (((acts.take k).filter bareP).flatMap aktV)) ∧ Hid (Below w.heap.size w wr)) (fun _ _ _ i _ => n - (intOf i).toNat)
        case atStart => exact ⟨0, _, 0, false, false, Nat.zero_le _, Nat.zero_le _, rfl, rfl, rfl, rfl, ⟨by simp, by simp, by simp⟩, World.ownsRow_made w2 #[] 0 HB2.out.size (Nat.zero_le _) rfl, HB2.out.alloc HB2.out.size _⟩
        case round =>
          clear HB2
          obtain ⟨k, v10, m, sm, fr, hk, hm, rfl, rfl, rfl, rfl, HQ, HOw, HB⟩ := hrel
          by_cases hlk : k < n
          · have hkl : k < acts.length := by rw [HN.out]; exact hlk
            obtain ⟨b, off, rfl, hbl, h4⟩ := at4_of HL.out hkl
            obtain ⟨c0, c1, c2, c3⟩ := h4.below HB.out hbl
            have hso := H100.out acts[k] (List.getElem_mem hkl)
            have htk := fun (W : World) (h : Below w.heap.size w W) => HTw.out W h acts[k] (List.getElem_mem hkl)
            have q1 := any_succ (p := someP ob.data.toList day) hkl
            have q2 := any_succ (p := freedP acts ob.data.toList later) hkl
            have q3 := filter_succ (p := bareP) hkl
            generalize acts[k] = a at c0 c1 c2 c3 hso htk q1 q2 q3
            clear h4
            rw [← HQ.out.1] at q1
            rw [← HQ.out.2.1] at q2
            have hmm := HQ.out.2.2
            obtain ⟨ak, ap, ad, ao⟩ := a
            simp only at c0 c1 c2 c3 hso htk
            have hab := fun W => ref_above ao ob W (by unfold maxLen; omega) (by unfold maxLen; omega)
            have hri := fun W => lock_right ak ap ad ao W (by omega)
            have f1 : someP ob.data.toList day ⟨ak, ap, ad, ao⟩ = (decide (ak = 0) && rightB ⟨ak, ap, ad, ao⟩ && aboveB ao.data.toList ob.data.toList && decide (ad ≤ day)) := rfl
            have f2 : freedP acts ob.data.toList later ⟨ak, ap, ad, ao⟩ = (decide (ak = 0) && rightB ⟨ak, ap, ad, ao⟩ && aboveB ao.data.toList ob.data.toList && twoB acts ⟨ak, ap, ad, ao⟩ later) := rfl
            have f3 : bareP ⟨ak, ap, ad, ao⟩ = !decide (ak = 1) := rfl
            rw [f1] at q1
            rw [f2] at q2
            rw [f3] at q3
            clear f1 f2 f3
            generalize aboveB ao.data.toList ob.data.toList = ab at hab q1 q2
            generalize rightB ⟨ak, ap, ad, ao⟩ = ri at hri q1 q2
            generalize twoB acts ⟨ak, ap, ad, ao⟩ later = tw at htk q2
            have Q1 := Lib.hid q1
            have Q2 := Lib.hid q2
            have Q3 := Lib.hid q3
            have HMm := Lib.hid hmm
            have HAb := Lib.hid hab
            have HR := Lib.hid hri
            have HT := Lib.hid htk
            clear q1 q2 q3 hmm hab hri htk
            have hBs : w.heap.size ≤ wr.heap.size := HB.out.size
            by_cases e1 : ak = 1
            · have E1 := Lib.hid e1
              have e1' : (ak != 1) = false := by simp [e1]
              have e1'' : (ak == 0) = false := by simp [e1]
              clear e1
              go_wp2_with fail
              go_roundw
              case rel => exact ⟨k + 1, v10, m, sm, fr, by omega, by omega, by go_num, rfl, rfl, rfl, ⟨by rw [Q1.out]; simp [E1.out], by rw [Q2.out]; simp [E1.out], by rw [Q3.out, HMm.out]; simp [E1.out]⟩, Lib.hid (by rw [Q3.out]; simpa [E1.out] using HOw.out.alloc _), HB.out.alloc hBs _⟩
              case measure => simp [intOf]; omega
            · have E1 := Lib.hid e1
              have e1' : (ak != 1) = true := by simp [e1]
              clear e1
              have hlt10 : ∀ j, v10.ownBlock = some j → w.heap.size ≤ j ∧ j < wr.heap.size := fun j hj => HOw.out.lt j hj
              have HLt := Lib.hid hlt10
              clear hlt10
              have hsum : m + 1 ≤ 1000 := by omega
              by_cases e0 : ak = 0
              · have E0 := Lib.hid e0
                have e0' : (ak == 0) = true := by simp [e0]
                clear e0
                cases ri with
                | false =>
                  go_wp2_with (at_builtin; refine wpList_append_any _ rfl (.tmp 45) (.tmp 47) _ rfl w.heap.size 30 i0 _ 4 40 Tryd.underlying22 hi0 hz0 hz1 hz2 rfl (by omega) v10 m _ rfl ((HOw.out.alloc _).alloc _) (wr.heap.size + 2) (some ⟨wr.heap.size + 1, 0, none⟩) 1 1 (aktV ⟨ak, ap, ad, ao⟩) rfl (reads_one ⟨by simp, by simp, by simp, by simp⟩ (by omega)) (one_akt _) (by simp only [maxLen]; omega) (by omega) (by simp; omega) ?_; intro v2 w2 hown2 hg2 hat2; have hne2 : some wr.heap.size ≠ v10.ownBlock := fun h => (by have := (HLt.out wr.heap.size h.symm).2; omega); have x0 := (grown_cell hg2 (b := wr.heap.size) (o := 0) (by simp; omega) hne2).trans (by simp : _ = some (.int .i64 ak)); have x1 := (grown_cell hg2 (b := wr.heap.size) (o := 1) (by simp; omega) hne2).trans (by simp : _ = some (.int .i64 ap)); have x2 := (grown_cell hg2 (b := wr.heap.size) (o := 2) (by simp; omega) hne2).trans (by simp : _ = some (.int .i64 ad)); have x3 := (grown_cell hg2 (b := wr.heap.size) (o := 3) (by simp; omega) hne2).trans (by simp : _ = some (.string ao)); have hbw2 : Below w.heap.size w w2 := ((HB.out.alloc hBs _).alloc (by simp; omega) _).grown hg2 (by simp; omega) (fun j hj => (HLt.out j hj).1); have hsz2 := hg2.size; have HO2 := Lib.hid hown2; have HB2 := Lib.hid hbw2; clear hown2 hg2 hat2 hbw2 hne2)
                  go_wp2_with fail
                  refine (HR.out _).mono ?_
                  rintro e w3 ⟨rfl, hb3⟩
                  obtain ⟨hc3, hf3⟩ := bcell hb3
                  have y0 := (hc3 wr.heap.size 0 (by simp at hsz2; omega)).trans x0
                  have y1 := (hc3 wr.heap.size 1 (by simp at hsz2; omega)).trans x1
                  have y2 := (hc3 wr.heap.size 2 (by simp at hsz2; omega)).trans x2
                  have y3 := (hc3 wr.heap.size 3 (by simp at hsz2; omega)).trans x3
                  have hB3 := HB2.out.trans (hb3.mono HB2.out.size)
                  have hO3 := own_below HO2.out hb3
                  have HB3 := Lib.hid hB3
                  have HO3 := Lib.hid hO3
                  have hsz3 := hb3.size
                  clear hb3 hc3 hf3 x0 x1 x2 x3 HB2 HO2 hB3 hO3
                  go_wp2_with fail
                  go_roundw
                  case rel => exact ⟨k + 1, _, m + 1, sm, fr, by omega, by omega, by go_num, rfl, rfl, rfl, ⟨by rw [Q1.out]; simp, by rw [Q2.out]; simp, by rw [Q3.out, List.length_append, ← HMm.out]; simp [E1.out]⟩, Lib.hid (by rw [Q3.out]; have h9 := HO3.out; simpa [E1.out] using h9), HB3.out⟩
                  case measure => simp [intOf]; omega
                | true =>
                  cases ab with
                  | false =>
                    go_wp2_with (at_builtin; refine wpList_append_any _ rfl (.tmp 45) (.tmp 47) _ rfl w.heap.size 30 i0 _ 4 40 Tryd.underlying22 hi0 hz0 hz1 hz2 rfl (by omega) v10 m _ rfl ((HOw.out.alloc _).alloc _) (wr.heap.size + 2) (some ⟨wr.heap.size + 1, 0, none⟩) 1 1 (aktV ⟨ak, ap, ad, ao⟩) rfl (reads_one ⟨by simp, by simp, by simp, by simp⟩ (by omega)) (one_akt _) (by simp only [maxLen]; omega) (by omega) (by simp; omega) ?_; intro v2 w2 hown2 hg2 hat2; have hne2 : some wr.heap.size ≠ v10.ownBlock := fun h => (by have := (HLt.out wr.heap.size h.symm).2; omega); have x0 := (grown_cell hg2 (b := wr.heap.size) (o := 0) (by simp; omega) hne2).trans (by simp : _ = some (.int .i64 ak)); have x1 := (grown_cell hg2 (b := wr.heap.size) (o := 1) (by simp; omega) hne2).trans (by simp : _ = some (.int .i64 ap)); have x2 := (grown_cell hg2 (b := wr.heap.size) (o := 2) (by simp; omega) hne2).trans (by simp : _ = some (.int .i64 ad)); have x3 := (grown_cell hg2 (b := wr.heap.size) (o := 3) (by simp; omega) hne2).trans (by simp : _ = some (.string ao)); have hbw2 : Below w.heap.size w w2 := ((HB.out.alloc hBs _).alloc (by simp; omega) _).grown hg2 (by simp; omega) (fun j hj => (HLt.out j hj).1); have hsz2 := hg2.size; have HO2 := Lib.hid hown2; have HB2 := Lib.hid hbw2; clear hown2 hg2 hat2 hbw2 hne2)
                    go_wp2_with fail
                    refine (HR.out _).mono ?_
                    rintro e w3 ⟨rfl, hb3⟩
                    obtain ⟨hc3, hf3⟩ := bcell hb3
                    have y0 := (hc3 wr.heap.size 0 (by simp at hsz2; omega)).trans x0
                    have y1 := (hc3 wr.heap.size 1 (by simp at hsz2; omega)).trans x1
                    have y2 := (hc3 wr.heap.size 2 (by simp at hsz2; omega)).trans x2
                    have y3 := (hc3 wr.heap.size 3 (by simp at hsz2; omega)).trans x3
                    have hB3 := HB2.out.trans (hb3.mono HB2.out.size)
                    have hO3 := own_below HO2.out hb3
                    have HB3 := Lib.hid hB3
                    have HO3 := Lib.hid hO3
                    have hsz3 := hb3.size
                    clear hb3 hc3 hf3 x0 x1 x2 x3 HB2 HO2 hB3 hO3
                    go_wp2_with fail
                    refine (HAb.out _).mono ?_
                    rintro e w4 ⟨rfl, hw4⟩
                    subst hw4
                    go_wp2_with fail
                    go_roundw
                    case rel => exact ⟨k + 1, _, m + 1, sm, fr, by omega, by omega, by go_num, rfl, rfl, rfl, ⟨by rw [Q1.out]; simp, by rw [Q2.out]; simp, by rw [Q3.out, List.length_append, ← HMm.out]; simp [E1.out]⟩, Lib.hid (by rw [Q3.out]; have h9 := HO3.out; simpa [E1.out] using h9), HB3.out⟩
                    case measure => simp [intOf]; omega
                  | true =>
                    cases sm with
                    | false =>
                      cases fr with
                      | false =>
                        go_wp2_with (at_builtin; refine wpList_append_any _ rfl (.tmp 45) (.tmp 47) _ rfl w.heap.size 30 i0 _ 4 40 Tryd.underlying22 hi0 hz0 hz1 hz2 rfl (by omega) v10 m _ rfl ((HOw.out.alloc _).alloc _) (wr.heap.size + 2) (some ⟨wr.heap.size + 1, 0, none⟩) 1 1 (aktV ⟨ak, ap, ad, ao⟩) rfl (reads_one ⟨by simp, by simp, by simp, by simp⟩ (by omega)) (one_akt _) (by simp only [maxLen]; omega) (by omega) (by simp; omega) ?_; intro v2 w2 hown2 hg2 hat2; have hne2 : some wr.heap.size ≠ v10.ownBlock := fun h => (by have := (HLt.out wr.heap.size h.symm).2; omega); have x0 := (grown_cell hg2 (b := wr.heap.size) (o := 0) (by simp; omega) hne2).trans (by simp : _ = some (.int .i64 ak)); have x1 := (grown_cell hg2 (b := wr.heap.size) (o := 1) (by simp; omega) hne2).trans (by simp : _ = some (.int .i64 ap)); have x2 := (grown_cell hg2 (b := wr.heap.size) (o := 2) (by simp; omega) hne2).trans (by simp : _ = some (.int .i64 ad)); have x3 := (grown_cell hg2 (b := wr.heap.size) (o := 3) (by simp; omega) hne2).trans (by simp : _ = some (.string ao)); have hbw2 : Below w.heap.size w w2 := ((HB.out.alloc hBs _).alloc (by simp; omega) _).grown hg2 (by simp; omega) (fun j hj => (HLt.out j hj).1); have hsz2 := hg2.size; have HO2 := Lib.hid hown2; have HB2 := Lib.hid hbw2; clear hown2 hg2 hat2 hbw2 hne2)
                        go_wp2_with fail
                        refine (HR.out _).mono ?_
                        rintro e w3 ⟨rfl, hb3⟩
                        obtain ⟨hc3, hf3⟩ := bcell hb3
                        have y0 := (hc3 wr.heap.size 0 (by simp at hsz2; omega)).trans x0
                        have y1 := (hc3 wr.heap.size 1 (by simp at hsz2; omega)).trans x1
                        have y2 := (hc3 wr.heap.size 2 (by simp at hsz2; omega)).trans x2
                        have y3 := (hc3 wr.heap.size 3 (by simp at hsz2; omega)).trans x3
                        have hB3 := HB2.out.trans (hb3.mono HB2.out.size)
                        have hO3 := own_below HO2.out hb3
                        have HB3 := Lib.hid hB3
                        have HO3 := Lib.hid hO3
                        have hsz3 := hb3.size
                        clear hb3 hc3 hf3 x0 x1 x2 x3 HB2 HO2 hB3 hO3
                        go_wp2_with fail
                        refine (HAb.out _).mono ?_
                        rintro e w4 ⟨rfl, hw4⟩
                        subst hw4
                        go_wp2_with fail
                        refine (HT.out _ HB3.out).mono ?_
                        rintro e w5 ⟨rfl, hb5⟩
                        have hB5 := HB3.out.trans (hb5.mono HB3.out.size)
                        have hO5 := own_below HO3.out hb5
                        have HB5 := Lib.hid hB5
                        have HO5 := Lib.hid hO5
                        clear hb5 HB3 HO3 hB5 hO5
                        go_wp2_with fail
                        go_roundw
                        case rel => exact ⟨k + 1, _, m + 1, decide (ad ≤ day), tw, by omega, by omega, by go_num, rfl, rfl, rfl, ⟨by rw [Q1.out]; simp [E0.out], by rw [Q2.out]; simp [E0.out], by rw [Q3.out, List.length_append, ← HMm.out]; simp [E1.out]⟩, Lib.hid (by rw [Q3.out]; have h9 := HO5.out; simpa [E1.out] using h9), HB5.out⟩
                        case measure => simp [intOf]; omega
                      | true =>
                        go_wp2_with (at_builtin; refine wpList_append_any _ rfl (.tmp 45) (.tmp 47) _ rfl w.heap.size 30 i0 _ 4 40 Tryd.underlying22 hi0 hz0 hz1 hz2 rfl (by omega) v10 m _ rfl ((HOw.out.alloc _).alloc _) (wr.heap.size + 2) (some ⟨wr.heap.size + 1, 0, none⟩) 1 1 (aktV ⟨ak, ap, ad, ao⟩) rfl (reads_one ⟨by simp, by simp, by simp, by simp⟩ (by omega)) (one_akt _) (by simp only [maxLen]; omega) (by omega) (by simp; omega) ?_; intro v2 w2 hown2 hg2 hat2; have hne2 : some wr.heap.size ≠ v10.ownBlock := fun h => (by have := (HLt.out wr.heap.size h.symm).2; omega); have x0 := (grown_cell hg2 (b := wr.heap.size) (o := 0) (by simp; omega) hne2).trans (by simp : _ = some (.int .i64 ak)); have x1 := (grown_cell hg2 (b := wr.heap.size) (o := 1) (by simp; omega) hne2).trans (by simp : _ = some (.int .i64 ap)); have x2 := (grown_cell hg2 (b := wr.heap.size) (o := 2) (by simp; omega) hne2).trans (by simp : _ = some (.int .i64 ad)); have x3 := (grown_cell hg2 (b := wr.heap.size) (o := 3) (by simp; omega) hne2).trans (by simp : _ = some (.string ao)); have hbw2 : Below w.heap.size w w2 := ((HB.out.alloc hBs _).alloc (by simp; omega) _).grown hg2 (by simp; omega) (fun j hj => (HLt.out j hj).1); have hsz2 := hg2.size; have HO2 := Lib.hid hown2; have HB2 := Lib.hid hbw2; clear hown2 hg2 hat2 hbw2 hne2)
                        go_wp2_with fail
                        refine (HR.out _).mono ?_
                        rintro e w3 ⟨rfl, hb3⟩
                        obtain ⟨hc3, hf3⟩ := bcell hb3
                        have y0 := (hc3 wr.heap.size 0 (by simp at hsz2; omega)).trans x0
                        have y1 := (hc3 wr.heap.size 1 (by simp at hsz2; omega)).trans x1
                        have y2 := (hc3 wr.heap.size 2 (by simp at hsz2; omega)).trans x2
                        have y3 := (hc3 wr.heap.size 3 (by simp at hsz2; omega)).trans x3
                        have hB3 := HB2.out.trans (hb3.mono HB2.out.size)
                        have hO3 := own_below HO2.out hb3
                        have HB3 := Lib.hid hB3
                        have HO3 := Lib.hid hO3
                        have hsz3 := hb3.size
                        clear hb3 hc3 hf3 x0 x1 x2 x3 HB2 HO2 hB3 hO3
                        go_wp2_with fail
                        refine (HAb.out _).mono ?_
                        rintro e w4 ⟨rfl, hw4⟩
                        subst hw4
                        go_wp2_with fail
                        go_roundw
                        case rel => exact ⟨k + 1, _, m + 1, decide (ad ≤ day), true, by omega, by omega, by go_num, rfl, rfl, rfl, ⟨by rw [Q1.out]; simp [E0.out], by rw [Q2.out]; simp [E0.out], by rw [Q3.out, List.length_append, ← HMm.out]; simp [E1.out]⟩, Lib.hid (by rw [Q3.out]; have h9 := HO3.out; simpa [E1.out] using h9), HB3.out⟩
                        case measure => simp [intOf]; omega
                    | true =>
                      cases fr with
                      | false =>
                        go_wp2_with (at_builtin; refine wpList_append_any _ rfl (.tmp 45) (.tmp 47) _ rfl w.heap.size 30 i0 _ 4 40 Tryd.underlying22 hi0 hz0 hz1 hz2 rfl (by omega) v10 m _ rfl ((HOw.out.alloc _).alloc _) (wr.heap.size + 2) (some ⟨wr.heap.size + 1, 0, none⟩) 1 1 (aktV ⟨ak, ap, ad, ao⟩) rfl (reads_one ⟨by simp, by simp, by simp, by simp⟩ (by omega)) (one_akt _) (by simp only [maxLen]; omega) (by omega) (by simp; omega) ?_; intro v2 w2 hown2 hg2 hat2; have hne2 : some wr.heap.size ≠ v10.ownBlock := fun h => (by have := (HLt.out wr.heap.size h.symm).2; omega); have x0 := (grown_cell hg2 (b := wr.heap.size) (o := 0) (by simp; omega) hne2).trans (by simp : _ = some (.int .i64 ak)); have x1 := (grown_cell hg2 (b := wr.heap.size) (o := 1) (by simp; omega) hne2).trans (by simp : _ = some (.int .i64 ap)); have x2 := (grown_cell hg2 (b := wr.heap.size) (o := 2) (by simp; omega) hne2).trans (by simp : _ = some (.int .i64 ad)); have x3 := (grown_cell hg2 (b := wr.heap.size) (o := 3) (by simp; omega) hne2).trans (by simp : _ = some (.string ao)); have hbw2 : Below w.heap.size w w2 := ((HB.out.alloc hBs _).alloc (by simp; omega) _).grown hg2 (by simp; omega) (fun j hj => (HLt.out j hj).1); have hsz2 := hg2.size; have HO2 := Lib.hid hown2; have HB2 := Lib.hid hbw2; clear hown2 hg2 hat2 hbw2 hne2)
                        go_wp2_with fail
                        refine (HR.out _).mono ?_
                        rintro e w3 ⟨rfl, hb3⟩
                        obtain ⟨hc3, hf3⟩ := bcell hb3
                        have y0 := (hc3 wr.heap.size 0 (by simp at hsz2; omega)).trans x0
                        have y1 := (hc3 wr.heap.size 1 (by simp at hsz2; omega)).trans x1
                        have y2 := (hc3 wr.heap.size 2 (by simp at hsz2; omega)).trans x2
                        have y3 := (hc3 wr.heap.size 3 (by simp at hsz2; omega)).trans x3
                        have hB3 := HB2.out.trans (hb3.mono HB2.out.size)
                        have hO3 := own_below HO2.out hb3
                        have HB3 := Lib.hid hB3
                        have HO3 := Lib.hid hO3
                        have hsz3 := hb3.size
                        clear hb3 hc3 hf3 x0 x1 x2 x3 HB2 HO2 hB3 hO3
                        go_wp2_with fail
                        refine (HAb.out _).mono ?_
                        rintro e w4 ⟨rfl, hw4⟩
                        subst hw4
                        go_wp2_with fail
                        refine (HT.out _ HB3.out).mono ?_
                        rintro e w5 ⟨rfl, hb5⟩
                        have hB5 := HB3.out.trans (hb5.mono HB3.out.size)
                        have hO5 := own_below HO3.out hb5
                        have HB5 := Lib.hid hB5
                        have HO5 := Lib.hid hO5
                        clear hb5 HB3 HO3 hB5 hO5
                        go_wp2_with fail
                        go_roundw
                        case rel => exact ⟨k + 1, _, m + 1, true, tw, by omega, by omega, by go_num, rfl, rfl, rfl, ⟨by rw [Q1.out]; simp [E0.out], by rw [Q2.out]; simp [E0.out], by rw [Q3.out, List.length_append, ← HMm.out]; simp [E1.out]⟩, Lib.hid (by rw [Q3.out]; have h9 := HO5.out; simpa [E1.out] using h9), HB5.out⟩
                        case measure => simp [intOf]; omega
                      | true =>
                        go_wp2_with (at_builtin; refine wpList_append_any _ rfl (.tmp 45) (.tmp 47) _ rfl w.heap.size 30 i0 _ 4 40 Tryd.underlying22 hi0 hz0 hz1 hz2 rfl (by omega) v10 m _ rfl ((HOw.out.alloc _).alloc _) (wr.heap.size + 2) (some ⟨wr.heap.size + 1, 0, none⟩) 1 1 (aktV ⟨ak, ap, ad, ao⟩) rfl (reads_one ⟨by simp, by simp, by simp, by simp⟩ (by omega)) (one_akt _) (by simp only [maxLen]; omega) (by omega) (by simp; omega) ?_; intro v2 w2 hown2 hg2 hat2; have hne2 : some wr.heap.size ≠ v10.ownBlock := fun h => (by have := (HLt.out wr.heap.size h.symm).2; omega); have x0 := (grown_cell hg2 (b := wr.heap.size) (o := 0) (by simp; omega) hne2).trans (by simp : _ = some (.int .i64 ak)); have x1 := (grown_cell hg2 (b := wr.heap.size) (o := 1) (by simp; omega) hne2).trans (by simp : _ = some (.int .i64 ap)); have x2 := (grown_cell hg2 (b := wr.heap.size) (o := 2) (by simp; omega) hne2).trans (by simp : _ = some (.int .i64 ad)); have x3 := (grown_cell hg2 (b := wr.heap.size) (o := 3) (by simp; omega) hne2).trans (by simp : _ = some (.string ao)); have hbw2 : Below w.heap.size w w2 := ((HB.out.alloc hBs _).alloc (by simp; omega) _).grown hg2 (by simp; omega) (fun j hj => (HLt.out j hj).1); have hsz2 := hg2.size; have HO2 := Lib.hid hown2; have HB2 := Lib.hid hbw2; clear hown2 hg2 hat2 hbw2 hne2)
                        go_wp2_with fail
                        refine (HR.out _).mono ?_
                        rintro e w3 ⟨rfl, hb3⟩
                        obtain ⟨hc3, hf3⟩ := bcell hb3
                        have y0 := (hc3 wr.heap.size 0 (by simp at hsz2; omega)).trans x0
                        have y1 := (hc3 wr.heap.size 1 (by simp at hsz2; omega)).trans x1
                        have y2 := (hc3 wr.heap.size 2 (by simp at hsz2; omega)).trans x2
                        have y3 := (hc3 wr.heap.size 3 (by simp at hsz2; omega)).trans x3
                        have hB3 := HB2.out.trans (hb3.mono HB2.out.size)
                        have hO3 := own_below HO2.out hb3
                        have HB3 := Lib.hid hB3
                        have HO3 := Lib.hid hO3
                        have hsz3 := hb3.size
                        clear hb3 hc3 hf3 x0 x1 x2 x3 HB2 HO2 hB3 hO3
                        go_wp2_with fail
                        refine (HAb.out _).mono ?_
                        rintro e w4 ⟨rfl, hw4⟩
                        subst hw4
                        go_wp2_with fail
                        go_roundw
                        case rel => exact ⟨k + 1, _, m + 1, true, true, by omega, by omega, by go_num, rfl, rfl, rfl, ⟨by rw [Q1.out]; simp [E0.out], by rw [Q2.out]; simp [E0.out], by rw [Q3.out, List.length_append, ← HMm.out]; simp [E1.out]⟩, Lib.hid (by rw [Q3.out]; have h9 := HO3.out; simpa [E1.out] using h9), HB3.out⟩
                        case measure => simp [intOf]; omega
              · have E0 := Lib.hid e0
                have e0' : (ak == 0) = false := by simp [e0]
                clear e0
                go_wp2_with (at_builtin; refine wpList_append_any _ rfl (.tmp 45) (.tmp 47) _ rfl w.heap.size 30 i0 _ 4 40 Tryd.underlying22 hi0 hz0 hz1 hz2 rfl (by omega) v10 m _ rfl ((HOw.out.alloc _).alloc _) (wr.heap.size + 2) (some ⟨wr.heap.size + 1, 0, none⟩) 1 1 (aktV ⟨ak, ap, ad, ao⟩) rfl (reads_one ⟨by simp, by simp, by simp, by simp⟩ (by omega)) (one_akt _) (by simp only [maxLen]; omega) (by omega) (by simp; omega) ?_; intro v2 w2 hown2 hg2 hat2; have hne2 : some wr.heap.size ≠ v10.ownBlock := fun h => (by have := (HLt.out wr.heap.size h.symm).2; omega); have x0 := (grown_cell hg2 (b := wr.heap.size) (o := 0) (by simp; omega) hne2).trans (by simp : _ = some (.int .i64 ak)); have x1 := (grown_cell hg2 (b := wr.heap.size) (o := 1) (by simp; omega) hne2).trans (by simp : _ = some (.int .i64 ap)); have x2 := (grown_cell hg2 (b := wr.heap.size) (o := 2) (by simp; omega) hne2).trans (by simp : _ = some (.int .i64 ad)); have x3 := (grown_cell hg2 (b := wr.heap.size) (o := 3) (by simp; omega) hne2).trans (by simp : _ = some (.string ao)); have hbw2 : Below w.heap.size w w2 := ((HB.out.alloc hBs _).alloc (by simp; omega) _).grown hg2 (by simp; omega) (fun j hj => (HLt.out j hj).1); have hsz2 := hg2.size; have HO2 := Lib.hid hown2; have HB2 := Lib.hid hbw2; clear hown2 hg2 hat2 hbw2 hne2)
                go_roundw
                case rel => exact ⟨k + 1, _, m + 1, sm, fr, by omega, by omega, by go_num, rfl, rfl, rfl, ⟨by rw [Q1.out]; simp [E0.out], by rw [Q2.out]; simp [E0.out], by rw [Q3.out, List.length_append, ← HMm.out]; simp [E1.out]⟩, Lib.hid (by rw [Q3.out]; have h9 := HO2.out; simpa [E1.out] using h9), HB2.out⟩
                case measure => simp [intOf]; omega
          · have hkn : k = n := by omega
            have HKn := Lib.hid hkn
            have hq := HQ.out
            have how := HOw.out
            rw [hkn, ← HN.out, List.take_length] at hq how
            obtain ⟨g1, g2, g3⟩ := hq
            have hlst : ∃ A' c', v10 = .slice A' (acts.filter bareP).length c' ∧ Lst aktV 4 wr A' (acts.filter bareP) := by
              rw [g3] at how
              rcases how.2 with ⟨h1, h2⟩ | ⟨g, cap', cur, h1, _⟩
              · rw [h1, h2]
                exact ⟨none, 0, rfl, by rw [List.eq_nil_of_length_eq_zero h2]; exact Lst.nil⟩
              · rw [h1] at how ⊢
                exact ⟨_, _, rfl, lst_of_owns (fun _ => rfl) how⟩
            obtain ⟨A', c', hv, hlb⟩ := hlst
            rw [hv]
            rw [← g1] at HLb P1 P2
            rw [← g2] at P1 P3
            have HLs := Lib.hid hlb
            clear hv hlb g1 g2 g3 how hkn HQ HOw HKn
            generalize (acts.filter bareP).length = mb at *
            have h1 := P1.out
            have h2 := P2.out
            have h3 := P3.out
            clear P1 P2 P3
            cases bL1 with
            | false =>
              have h4 : sm = false ∨ bN = false ∨ fr = true := by
                cases sm <;> cases bN <;> cases fr <;> simp at h1 <;> simp
              clear h1 h2 h3
              rcases h4 with rfl | rfl | rfl
              · cases bN <;> cases fr <;>
                (go_wp2_with fail
                 refine (law_act _ _ _ _ _).mono ?_
                 rintro e w5 ⟨rfl, hb⟩
                 have hB := HB.out.trans (hb.mono HB.out.size)
                 have HB5 := Lib.hid hB
                 have HLs5 := Lib.hid (HLs.out.below hb)
                 clear hb hB
                 go_wp2_with fail
                 refine (HRi.out _).mono ?_
                 rintro e w6 ⟨rfl, hb⟩
                 have hB := HB5.out.trans (hb.mono HB5.out.size)
                 have HB6 := Lib.hid hB
                 have HLs6 := Lib.hid (HLs5.out.below hb)
                 clear hb hB
                 go_wp2_with fail
                 refine (HLb.out _ A' c' HLs6.out).mono ?_
                 rintro e w7 ⟨rfl, hb⟩
                 have hB := HB6.out.trans (hb.mono HB6.out.size)
                 have HB7 := Lib.hid hB
                 clear hb hB
                 go_wp2_with fail
                 refine (HL1.out _ HB7.out).mono ?_
                 rintro e w8 ⟨rfl, hb⟩
                 have hB := HB7.out.trans (hb.mono HB7.out.size)
                 have HB8 := Lib.hid hB
                 clear hb hB
                 go_wp2_with fail
                 go_ret
                 exact ⟨rfl, HB8.out⟩)
              · cases sm <;> cases fr <;>
                (go_wp2_with fail
                 refine (law_act _ _ _ _ _).mono ?_
                 rintro e w5 ⟨rfl, hb⟩
                 have hB := HB.out.trans (hb.mono HB.out.size)
                 have HB5 := Lib.hid hB
                 have HLs5 := Lib.hid (HLs.out.below hb)
                 clear hb hB
                 go_wp2_with fail
                 refine (HRi.out _).mono ?_
                 rintro e w6 ⟨rfl, hb⟩
                 have hB := HB5.out.trans (hb.mono HB5.out.size)
                 have HB6 := Lib.hid hB
                 have HLs6 := Lib.hid (HLs5.out.below hb)
                 clear hb hB
                 go_wp2_with fail
                 refine (HLb.out _ A' c' HLs6.out).mono ?_
                 rintro e w7 ⟨rfl, hb⟩
                 have hB := HB6.out.trans (hb.mono HB6.out.size)
                 have HB7 := Lib.hid hB
                 clear hb hB
                 go_wp2_with fail
                 refine (HL1.out _ HB7.out).mono ?_
                 rintro e w8 ⟨rfl, hb⟩
                 have hB := HB7.out.trans (hb.mono HB7.out.size)
                 have HB8 := Lib.hid hB
                 clear hb hB
                 go_wp2_with fail
                 go_ret
                 exact ⟨rfl, HB8.out⟩)
              · cases sm <;> cases bN <;>
                (go_wp2_with fail
                 refine (law_act _ _ _ _ _).mono ?_
                 rintro e w5 ⟨rfl, hb⟩
                 have hB := HB.out.trans (hb.mono HB.out.size)
                 have HB5 := Lib.hid hB
                 have HLs5 := Lib.hid (HLs.out.below hb)
                 clear hb hB
                 go_wp2_with fail
                 refine (HRi.out _).mono ?_
                 rintro e w6 ⟨rfl, hb⟩
                 have hB := HB5.out.trans (hb.mono HB5.out.size)
                 have HB6 := Lib.hid hB
                 have HLs6 := Lib.hid (HLs5.out.below hb)
                 clear hb hB
                 go_wp2_with fail
                 refine (HLb.out _ A' c' HLs6.out).mono ?_
                 rintro e w7 ⟨rfl, hb⟩
                 have hB := HB6.out.trans (hb.mono HB6.out.size)
                 have HB7 := Lib.hid hB
                 clear hb hB
                 go_wp2_with fail
                 refine (HL1.out _ HB7.out).mono ?_
                 rintro e w8 ⟨rfl, hb⟩
                 have hB := HB7.out.trans (hb.mono HB7.out.size)
                 have HB8 := Lib.hid hB
                 clear hb hB
                 go_wp2_with fail
                 go_ret
                 exact ⟨rfl, HB8.out⟩)
            | true =>
              obtain ⟨rfl, rfl⟩ := h2 rfl
              cases fr with
              | true =>
                clear h1 h2 h3
                go_wp2_with fail
                refine (law_act _ _ _ _ _).mono ?_
                rintro e w5 ⟨rfl, hb⟩
                have hB := HB.out.trans (hb.mono HB.out.size)
                have HB5 := Lib.hid hB
                have HLs5 := Lib.hid (HLs.out.below hb)
                clear hb hB
                go_wp2_with fail
                refine (HRi.out _).mono ?_
                rintro e w6 ⟨rfl, hb⟩
                have hB := HB5.out.trans (hb.mono HB5.out.size)
                have HB6 := Lib.hid hB
                have HLs6 := Lib.hid (HLs5.out.below hb)
                clear hb hB
                go_wp2_with fail
                refine (HLb.out _ A' c' HLs6.out).mono ?_
                rintro e w7 ⟨rfl, hb⟩
                have hB := HB6.out.trans (hb.mono HB6.out.size)
                have HB7 := Lib.hid hB
                clear hb hB
                go_wp2_with fail
                refine (HL1.out _ HB7.out).mono ?_
                rintro e w8 ⟨rfl, hb⟩
                have hB := HB7.out.trans (hb.mono HB7.out.size)
                have HB8 := Lib.hid hB
                clear hb hB
                go_wp2_with fail
                go_ret
                exact ⟨rfl, HB8.out⟩
              | false =>
                obtain rfl := h3 rfl rfl
                clear h1 h2 h3
                go_wp2_with fail
                refine (law_act _ _ _ _ _).mono ?_
                rintro e w5 ⟨rfl, hb⟩
                have hB := HB.out.trans (hb.mono HB.out.size)
                have HB5 := Lib.hid hB
                have HLs5 := Lib.hid (HLs.out.below hb)
                clear hb hB
                go_wp2_with fail
                refine (HRi.out _).mono ?_
                rintro e w6 ⟨rfl, hb⟩
                have hB := HB5.out.trans (hb.mono HB5.out.size)
                have HB6 := Lib.hid hB
                have HLs6 := Lib.hid (HLs5.out.below hb)
                clear hb hB
                go_wp2_with fail
                refine (HLb.out _ A' c' HLs6.out).mono ?_
                rintro e w7 ⟨rfl, hb⟩
                have hB := HB6.out.trans (hb.mono HB6.out.size)
                have HB7 := Lib.hid hB
                clear hb hB
                go_wp2_with fail
                refine (HL1.out _ HB7.out).mono ?_
                rintro e w8 ⟨rfl, hb⟩
                have hB := HB7.out.trans (hb.mono HB7.out.size)
                have HB8 := Lib.hid hB
                clear hb hB
                go_wp2_with fail
                refine (HL2.out _ HB8.out).mono ?_
                rintro e w9 ⟨rfl, hb⟩
                have hB := HB8.out.trans (hb.mono HB8.out.size)
                have HB9 := Lib.hid hB
                clear hb hB
                go_wp2_with fail
                go_ret
                exact ⟨rfl, HB9.out⟩

end Go.Proofs.YtaojnjealccjiaaDoor
