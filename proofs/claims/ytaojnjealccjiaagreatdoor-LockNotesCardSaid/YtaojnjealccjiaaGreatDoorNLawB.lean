/- The law's told and free. -/
import Derived.Test.YtaojnjealccjiaaGreatDoorNLawA
namespace Go.Proofs.YtaojnjealccjiaaGreatDoor
open Go Go.RowKit Nt Go.Proofs Go.Lib
set_option linter.unusedVariables false
set_option linter.unusedSimpArgs false

def actD : Dat Kb.Akt where
  cells := aktV
  k := 4
  len _ := rfl
  one r v hv := by simp [aktV] at hv; rcases hv with rfl | rfl | rfl | rfl <;> rfl
  ok _ _ _ := True
  keep _ _ := trivial
  mono _ _ := trivial
theorem told_next {acts : List Kb.Akt} {l : List NoteR} {k : Nat} {r : NoteR} (h : l[k]? = some r) : told acts ((l.take (k + 1)).map NoteR.v) = told acts ((l.take k).map NoteR.v) ++ (told1 acts r.v).toList := by
  obtain ⟨hk, he⟩ := List.getElem?_eq_some_iff.1 h
  rw [List.take_succ_eq_append_getElem hk, he, List.map_append]
  unfold told
  rw [List.filterMap_append]
  cases hq : told1 acts r.v <;> simp [hq]
def ToldPost (acts : List Kb.Akt) (l : List NoteV) (w : World) (e : Ending) (w' : World) : Prop :=
  ∃ A' c', e = .returned (.slice A' (told acts l).length c') ∧ Lst aktV 4 w' A' (told acts l) ∧ (told acts l).length ≤ l.length ∧ Below w.heap.size w w'
set_option maxRecDepth 100000 in
set_option maxHeartbeats 4000000 in
theorem law_told (l : List NoteR) (acts : List Kb.Akt) (A A0 : Option Addr) (c c0 : Nat) (w : World) (h : Sl noteD w Any1 A l) (hl : l.length ≤ 1000000) (ha : Lst aktV 4 w A0 acts) (hal : acts.length ≤ 100000) :
    Calls Tryz.prog 16 #[.slice A l.length c, .slice A0 acts.length c0] w (ToldPost acts (l.map NoteR.v) w) := by
  have H := Lib.hid h
  have HA := Lib.hid ha
  clear h ha
  go_enter Tryz.func16, Tryz.ntmps16
  go_wp2_with fail
  go_loopw [5, 6] (fun t u wr => ∃ (k : Nat) (ts : List Kb.Akt), k ≤ l.length ∧ ts.length ≤ k ∧ u = .int .i64 (k : Int) ∧ Hid (ts = told acts ((l.take k).map NoteR.v)) ∧ Hid (OwnS actD 47 w.heap.size wr Any1 t ts) ∧ Hid (Below w.heap.size w wr)) (fun _ u _ => l.length - (intOf u).toNat)
  case atStart => exact ⟨0, [], Nat.zero_le _, Nat.le_refl _, rfl, rfl, OwnS.empty (Nat.le_refl _) _ rfl, (Below.refl _ _).alloc (Nat.le_refl _) _⟩
  case round =>
    obtain ⟨k, ts, hk, htl, rfl, HT, HO, HW⟩ := hrel
    have hw1 := HW.out.size
    by_cases hlt : k < l.length
    · obtain ⟨b, off, rfl, _, hbw, _, hcl⟩ := (H.out.below HW.out).get hlt
      have hx : l[k]? = some l[k] := List.getElem?_eq_getElem hlt
      generalize l[k] = r at hx hcl
      have c4 : wr.cell? ⟨b, off + k * 5 + 4, none⟩ = some (.string r.v.text) := hcl 4 _ rfl
      have HN := Lib.hid (told_next (acts := acts) hx)
      clear hx hcl
      by_cases h1 : r.v.text.size = 1
      · have hlt0 : 0 < r.v.text.size := by omega
        obtain ⟨n, hbt⟩ : ∃ n, (r.v.text[0]'hlt0).toNat = n := ⟨_, rfl⟩
        have hcl : n < 256 := by rw [← hbt]; exact (r.v.text[0]'hlt0).toNat_lt
        have HTD := Lib.hid (show told1 acts r.v = if 97 ≤ n then acts[n - 97]? else none by
          have h2 : r.v.text.data.toList.length = 1 := by simpa using h1
          have h3 : r.v.text.data.toList = [r.v.text[0]'hlt0] := by
            match hq : r.v.text.data.toList, h2 with
            | [ch], _ =>
              have e : r.v.text = ⟨#[ch]⟩ := ByteArray.ext (Array.toList_inj.1 hq)
              have : (r.v.text[0]'hlt0) = ch := by
                simp only [e]
                rfl
              rw [this]
          unfold told1
          rw [h3, ← hbt])
        by_cases h97 : 97 ≤ n
        · by_cases hin : n - 97 < acts.length
          · obtain ⟨ab, aoff, rfl, hab, g0, g1, g2, g3⟩ := at4_of (HA.out.below HW.out) hin
            have hxa : acts[n - 97]? = some acts[n - 97] := List.getElem?_eq_getElem hin
            generalize acts[n - 97] = a at hxa g0 g1 g2 g3
            have HNT := Lib.hid (show ts ++ [a] = told acts ((l.take (k + 1)).map NoteR.v) by rw [HN.out, HTD.out, if_pos h97, hxa, ← HT.out]; rfl)
            have i1 : (0 : Int) ≤ (n : Int) - 97 := by omega
            have i2 : (n : Int) - 97 < (acts.length : Int) := by omega
            have i3 : ((n : Int) - 97).toNat = n - 97 := by omega
            have i5 : decide ((0 : Int) ≤ (n : Int) - 97) = true := by simpa using i1
            have i6 : decide ((n : Int) - 97 < (acts.length : Int)) = true := by simpa using i2
            obtain ⟨i0, hi0, hz0, hz1, hz2⟩ := info_parts Tryz.infoAct
            have hbu : Below wr.heap.size wr (wr.alloc (.cells #[.int .i64 a.kind, .int .i64 a.person, .int .i64 a.day, .string a.obj] 47)) := (Below.refl _ _).alloc (Nat.le_refl _) _
            have HOB := Lib.hid (HO.out.below hbu)
            have HBU := Lib.hid hbu
            clear hbu hxa
            go_wp2_with (at_builtin; refine wpList_append_any _ rfl (.tmp 38) (.tmp 43) _ rfl w.heap.size 47 i0 _ 4 40 Tryz.underlying23 hi0 hz0 hz1 hz2 rfl (by omega) _ ts.length (ts.flatMap actD.cells) rfl HOB.out.1 (wr.heap.size + 1) (some ⟨wr.heap.size, 0, none⟩) 1 1 [.int .i64 a.kind, .int .i64 a.person, .int .i64 a.day, .string a.obj] rfl ?c2 ?c6 ?c3 ?c4 ?c5 ?_)
            case c2 => simpa using reads_new wr [.int .i64 a.kind, .int .i64 a.person, .int .i64 a.day, .string a.obj] 47 1 4 rfl
            case c6 => intro u hu; simp at hu; rcases hu with rfl | rfl | rfl | rfl <;> rfl
            case c3 => unfold maxLen; omega
            case c4 => omega
            case c5 => simp; omega
            intro v9 w9 hown9 hg9 hat9
            have HM9 := Lib.hid (OwnS.more (D := actD) (S := Any1) (news := [a]) (xs := ts) HOB.out.2 (fun _ _ => trivial) (by simp [actD, aktV]) rfl hown9 hg9 (by simpa using hat9))
            have HB9 := Lib.hid (show Below w.heap.size w w9 from (HW.out.trans (HBU.out.mono hw1)).grown hg9 (Nat.le_trans hw1 HBU.out.size) (fun g hg => (owns_lt HOB.out.1 g hg).1))
            clear hown9 hg9 hat9
            go_wp2_with fail
            go_roundw
            case rel => exact ⟨k + 1, ts ++ [a], by omega, by simp; omega, by go_num, HNT.out, HM9.out, HB9.out⟩
            case measure => simp [intOf]; omega
          · have HNT := Lib.hid (show ts = told acts ((l.take (k + 1)).map NoteR.v) by rw [HN.out, HTD.out, if_pos h97, List.getElem?_eq_none (by omega), ← HT.out]; simp)
            have i1 : (0 : Int) ≤ (n : Int) - 97 := by omega
            have i2 : ¬ (n : Int) - 97 < (acts.length : Int) := by omega
            have i5 : decide ((0 : Int) ≤ (n : Int) - 97) = true := by simpa using i1
            have i6 : decide ((n : Int) - 97 < (acts.length : Int)) = false := by simpa using i2
            go_wp2_with fail
            go_roundw
            case rel => exact ⟨k + 1, ts, by omega, by omega, by go_num, HNT.out, HO.out, HW.out⟩
            case measure => simp [intOf]; omega
        · have HNT := Lib.hid (show ts = told acts ((l.take (k + 1)).map NoteR.v) by rw [HN.out, HTD.out, if_neg h97, ← HT.out]; simp)
          have i1 : ¬ (0 : Int) ≤ (n : Int) - 97 := by omega
          have i5 : decide ((0 : Int) ≤ (n : Int) - 97) = false := by simpa using i1
          go_wp2_with fail
          go_roundw
          case rel => exact ⟨k + 1, ts, by omega, by omega, by go_num, HNT.out, HO.out, HW.out⟩
          case measure => simp [intOf]; omega
      · have HTD := Lib.hid (show told1 acts r.v = none by
          unfold told1
          split
          · next c e => exact absurd (by have := congrArg List.length e; simpa using this) h1
          · rfl)
        have HNT := Lib.hid (show ts = told acts ((l.take (k + 1)).map NoteR.v) by rw [HN.out, HTD.out, ← HT.out]; simp)
        have h2 : ((r.v.text.size : Int) == 1) = false := by rw [beq_eq_false_iff_ne]; omega
        go_wp2_with fail
        go_roundw
        case rel => exact ⟨k + 1, ts, by omega, by omega, by go_num, HNT.out, HO.out, HW.out⟩
        case measure => simp [intOf]; omega
    · obtain rfl : k = l.length := by omega
      obtain ⟨A4, c4, rfl, _⟩ := HO.out.slice
      have hte : ts = told acts (l.map NoteR.v) := by have := HT.out; rw [List.take_of_length_le (Nat.le_refl _)] at this; exact this
      have HF := Lib.hid (show ToldPost acts (l.map NoteR.v) w (.returned (.slice A4 ts.length c4)) wr from by
        have hs := (HO.out.sl (fun _ _ _ => trivial)).lst
        rw [hte] at hs htl ⊢
        exact ⟨A4, c4, rfl, hs, by rw [List.length_map]; exact htl, HW.out⟩)
      go_wp2_with fail
      go_ret
      exact HF.out
set_option maxRecDepth 100000 in
set_option maxHeartbeats 4000000 in
theorem law_free (acts : List Kb.Akt) (A : Option Addr) (c : Nat) (w : World) (ha : Lst aktV 4 w A acts) (hl : acts.length ≤ 1000000) :
    Calls Tryz.prog 19 #[.slice A acts.length c] w (SaysQ (∃ a ∈ acts, a.kind = 1) w) := by
  have HA := Lib.hid ha
  clear ha
  go_enter Tryz.func19, Tryz.ntmps19
  go_wp2_with fail
  go_loop [3] (fun i => ∃ k : Nat, k ≤ acts.length ∧ i = .int .i64 (k : Int) ∧ Hid (∀ (j : Nat) (a : Kb.Akt), j < k → acts[j]? = some a → a.kind ≠ 1)) (fun i => acts.length - (intOf i).toNat)
  case atStart => exact ⟨0, Nat.zero_le _, rfl, fun j _ h => absurd h (Nat.not_lt_zero _)⟩
  case round =>
    obtain ⟨k, hk, rfl, HE⟩ := hrel
    by_cases hlt : k < acts.length
    · obtain ⟨b, off, rfl, hbl, c0, c1, c2, c3⟩ := at4_of HA.out hlt
      have hx : acts[k]? = some acts[k] := List.getElem?_eq_getElem hlt
      generalize acts[k] = x at hx c0 c1 c2 c3
      have HX := Lib.hid hx
      clear hx
      by_cases h1 : x.kind = 1
      · have HY := Lib.hid (show ∃ a ∈ acts, a.kind = 1 from ⟨x, List.mem_of_getElem? HX.out, h1⟩)
        go_wp2_with fail
        go_ret
        exact ⟨true, rfl, ⟨fun _ => HY.out, fun _ => rfl⟩, rfl⟩
      · have HNX := Lib.hid (show ∀ (j : Nat) (a : Kb.Akt), j < k + 1 → acts[j]? = some a → a.kind ≠ 1 from fun j a hj hz => by
          rcases Nat.lt_or_ge j k with q | q
          · exact HE.out j a q hz
          · obtain rfl : j = k := by omega
            rw [HX.out] at hz
            cases hz
            exact h1)
        have h2 : (x.kind == 1) = false := by rw [beq_eq_false_iff_ne]; exact h1
        go_wp2_with fail
        go_round
        case rel => exact ⟨k + 1, by omega, by go_num, HNX.out⟩
        case measure => simp [intOf]; omega
    · obtain rfl : k = acts.length := by omega
      have HNO := Lib.hid (show ¬ ∃ a ∈ acts, a.kind = 1 from fun ⟨a, ha, e⟩ => by
        obtain ⟨j, hj, ej⟩ := List.getElem_of_mem ha
        exact HE.out j a hj (by rw [List.getElem?_eq_getElem hj, ej]) e)
      go_wp2_with fail
      go_ret
      exact ⟨false, rfl, ⟨fun q => (by cases q), fun q => absurd q HNO.out⟩, rfl⟩
end Go.Proofs.YtaojnjealccjiaaGreatDoor
