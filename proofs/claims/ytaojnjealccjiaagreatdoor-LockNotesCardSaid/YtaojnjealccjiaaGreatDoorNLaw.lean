/- LockNotes: the walk. -/
import Derived.Test.YtaojnjealccjiaaGreatDoorNLawB
namespace Go.Proofs.YtaojnjealccjiaaGreatDoor
open Go Go.RowKit Nt Go.Proofs Go.Lib
set_option linter.unusedVariables false
set_option linter.unusedSimpArgs false

theorem join_no {l ys : List NoteV} (h : IsJoin l ys) : ∀ x ∈ ys, 0 ≤ x.no := fun x hx => by
  have := rightN_head ((h.2 x).1 hx).1
  rw [headB_iff] at this
  omega
theorem runs_same {acts : List Kb.Akt} {la lb ya yb : List NoteV} {ha hb : List HouseS} {oa ob : List NoteV} (ja : IsJoin la ya) (jb : IsJoin lb yb) (hm : ∀ x, rightN x = true → (x ∈ la ↔ x ∈ lb)) (ia : IsHouses ya ha) (ib : IsHouses yb hb) (ca : Counts ha oa) (cb : Counts hb ob) (name : Kb.Bytes) (day : Int) :
    Kb.lockedB (told acts oa) name day = Kb.lockedB (told acts ob) name day := by
  have e : ya = yb := strict_unique ja.1 jb.1 fun x => by
    rw [ja.2, jb.2]
    exact ⟨fun q => ⟨q.1, (hm x q.1).1 q.2⟩, fun q => ⟨q.1, (hm x q.1).2 q.2⟩⟩
  subst e
  have w1 : Within ha hb := houses_within ja.1 ja.1 ia ib (join_no ja) (fun x hx => hx) (fun h _ _ x hx _ => hx)
  have w2 : Within hb ha := houses_within ja.1 ja.1 ib ia (join_no ja) (fun x hx => hx) (fun h _ _ x hx _ => hx)
  exact Kb.lockedB_congr (fun a _ => ⟨told_mem (counts_within w1 ib.1 ca cb) a, told_mem (counts_within w2 ia.1 cb ca) a⟩) name day
theorem fork_in {ys : List NoteV} {hs hs' : List HouseS} (h : IsHouses ys hs) (h' : IsHouses ys hs') {x : HouseS} (hx : x ∈ hs) (hf : x.forked = true) : x.number ∈ (hs'.filter HouseS.forked).map HouseS.number := by
  obtain ⟨y, hy, e⟩ := (h'.2.2 x.number).2 ((h.2.2 x.number).1 ⟨x, hx, rfl⟩)
  refine List.mem_map.2 ⟨y, List.mem_filter.2 ⟨hy, ?_⟩, e⟩
  rw [(h'.2.1 y hy).2, e]
  exact ((h.2.1 x hx).2).1 hf
theorem law_last {acts : List Kb.Akt} {la lb bl js ya yb y3 : List NoteV} {ha hb h3 : List HouseS} {mine more : List NoteV} (jj : IsJoin lb js) (hlb : ∀ x, x ∈ lb ↔ x ∈ la ∨ x ∈ bl) (ja : IsJoin la ya) (jb : IsJoin js yb) (j3 : IsJoin js y3) (ia : IsHouses ya ha) (ib : IsHouses yb hb) (i3 : IsHouses y3 h3)
    (ca : Counts ha mine) (cb : Counts hb more) (hfk : ∀ x ∈ bl, ∀ f ∈ (h3.filter HouseS.forked).map HouseS.number, x.house ≠ f) (h2 : ∀ x ∈ more, x ∉ mine → ∀ a ∈ told acts [x], a.kind ≠ 1) {name : Kb.Bytes} {day : Int} (hl : Kb.lockedB (told acts mine) name day = true) : Kb.lockedB (told acts more) name day = true := by
  have e : yb = y3 := strict_unique jb.1 j3.1 fun x => by rw [jb.2, j3.2]
  subst e
  have hsub : ∀ x ∈ ya, x ∈ yb := fun x hx => by
    obtain ⟨q1, q2⟩ := (ja.2 x).1 hx
    exact (jb.2 x).2 ⟨q1, (jj.2 x).2 ⟨q1, (hlb x).2 (.inl q2)⟩⟩
  have w1 : Within ha hb := houses_within ja.1 jb.1 ia ib (join_no jb) hsub (fun h hh hf x hx hxh => by
    obtain ⟨q1, q2⟩ := (jb.2 x).1 hx
    rcases (hlb x).1 ((jj.2 x).1 q2).2 with q | q
    · exact (ja.2 x).2 ⟨q1, q⟩
    · exact absurd hxh (hfk x q h.number (fork_in ib i3 hh hf)))
  exact locked_notes (counts_within w1 ib.1 ca cb) h2 hl
theorem told_small {acts : List Kb.Akt} (hs : Small acts) {l : List NoteV} (hl : (told acts l).length ≤ 1000000) : Small (told acts l) :=
  ⟨fun a ha => by
    obtain ⟨x, _, e⟩ := List.mem_filterMap.1 ha
    refine hs.1 a ?_
    unfold told1 at e
    split at e
    · split at e
      · exact List.mem_of_getElem? e
      · (cases e)
    · (cases e), by unfold maxLen; omega⟩

set_option maxRecDepth 100000 in
set_option maxHeartbeats 16000000 in
theorem walk_notes (a b : List NoteR) (Aa Ab : Option Addr) (ca cb : Nat) (acts : List Kb.Akt) (A0 : Option Addr) (c0 : Nat) (name : ByteArray) (day : Int) (w : World) (ht : Tab w.heap.size w) (ha : Sl noteD w Any1 Aa a) (hal : a.length ≤ maxLen) (hb : Sl noteD w Any1 Ab b) (hbl : b.length ≤ maxLen) (hl : Lst aktV 4 w A0 acts) (hll : acts.length ≤ maxLen) :
    Calls Tryz.prog 4 #[.slice Aa a.length ca, .slice Ab b.length cb, .slice A0 acts.length c0, .string name, .int .i64 day] w fun e w' => e = .returned (.bool true) ∧ Below w.heap.size w w' := by
  have HT := Lib.hid ht
  have HAL := Lib.hid hal
  have HBL := Lib.hid hbl
  have HLL := Lib.hid hll
  have HA0 := Lib.hid ha
  have HC0 := Lib.hid hb
  have HL0 := Lib.hid hl
  have HB0 := Lib.hid (Below.refl w.heap.size w)
  have HAW := Lib.hid ha
  have HCW := Lib.hid hb
  clear ht ha hb hl hal hbl hll
  go_enter Tryz.func4, Tryz.ntmps4
  go_wp2_with fail
  refine (law_small _).mono ?_
  rintro e w1 ⟨rfl, hb⟩
  have HB1 := Lib.hid (HB0.out.trans (hb.mono HB0.out.size))
  have HA1 := Lib.hid (HA0.out.below hb)
  have HC1 := Lib.hid (HC0.out.below hb)
  have HL1 := Lib.hid (HL0.out.below hb)
  clear HB0 HA0 HC0 HL0
  clear hb
  go_wp2_with fail
  refine (ref_fewN a Aa ca _ HA1.out HAL.out).mono ?_
  rintro e w2 ⟨q1, rfl, hq1, rfl⟩
  have HQ1 := Lib.hid hq1
  clear hq1
  rcases q1 with _ | _
  · go_wp2_with fail
    go_ret
    exact ⟨rfl, HB1.out⟩
  obtain ⟨hal20, hsma⟩ := HQ1.out.1 rfl
  have HSA := Lib.hid hsma
  clear hsma HQ1
  go_wp2_with fail
  refine (ref_fewN b Ab cb _ HC1.out HBL.out).mono ?_
  rintro e w3 ⟨q2, rfl, hq2, rfl⟩
  have HQ2 := Lib.hid hq2
  clear hq2
  rcases q2 with _ | _
  · go_wp2_with fail
    go_ret
    exact ⟨rfl, HB1.out⟩
  obtain ⟨hbl20, hsmb⟩ := HQ2.out.1 rfl
  have HSB := Lib.hid hsmb
  clear hsmb HQ2
  have hfew := ref_few acts A0 c0 w1 HL1.out HLL.out
  obtain ⟨q3, hq3⟩ : ∃ q, q = fewB acts := ⟨_, rfl⟩
  rw [← hq3] at hfew
  have HQ3 := Lib.hid hq3
  have HFEW := Lib.hid hfew
  clear hq3 hfew
  go_wp2_with fail
  refine HFEW.out.mono ?_
  rintro e w4 ⟨rfl, rfl⟩
  clear HFEW
  rcases q3 with _ | _
  · go_wp2_with fail
    go_ret
    exact ⟨rfl, HB1.out⟩
  have HSMALL := Lib.hid (few_small HQ3.out.symm).1
  clear HQ3
  by_cases h20 : 20 < acts.length
  · have hd20 : decide (20 < acts.length) = true := by simpa using h20
    have hd20i : decide ((20 : Int) < (acts.length : Int)) = true := by simp; omega
    go_wp2_with fail
    go_ret
    exact ⟨rfl, HB1.out⟩
  have hd20 : decide (20 < acts.length) = false := by simpa using h20
  have hd20i : decide ((20 : Int) < (acts.length : Int)) = false := by simp; omega
  by_cases h100 : 100 < name.size
  · have hd100 : decide (100 < name.size) = true := by simpa using h100
    have hd100i : decide ((100 : Int) < (name.size : Int)) = true := by simp; omega
    go_wp2_with fail
    go_ret
    exact ⟨rfl, HB1.out⟩
  have hd100 : decide (100 < name.size) = false := by simpa using h100
  have hd100i : decide ((100 : Int) < (name.size : Int)) = false := by simp; omega
  have HSAB := Lib.hid (show ∀ r ∈ a ++ b, SmN r.v from fun r hr => (List.mem_append.1 hr).elim (HSA.out r) (HSB.out r))
  go_wp2_with fail
  refine (gossip_join a b Aa Ab ca cb _ (HT.out.on HB1.out) HB1.out.size HA1.out HC1.out HSAB.out (by omega)).mono ?_
  rintro e w4 ⟨A4, c4, js, rfl, hc4, hcm4, hsl4, hjo, hle, hb⟩
  have hjl : js.length ≤ 40 := by simp at hle; omega
  have HJO := Lib.hid hjo
  have HSJ := Lib.hid (show ∀ r ∈ js, SmN r.v from fun r hr => by
    obtain ⟨q, hq, e⟩ := List.mem_map.1 ((hjo.2 r.v).1 (List.mem_map_of_mem hr)).2
    rw [← e]
    exact HSAB.out q hq)
  have HB2 := Lib.hid (HB1.out.trans (hb.mono HB1.out.size))
  have HA2 := Lib.hid (HA1.out.below hb)
  have HC2 := Lib.hid (HC1.out.below hb)
  have HL2 := Lib.hid (HL1.out.below hb)
  clear HB1 HA1 HC1 HL1
  have HJ2 := Lib.hid (hsl4)
  clear hb hsl4 hjo hle
  have hw4 := HB2.out.size
  obtain ⟨i0, hi0, hz0, hz1, hz2⟩ := info_parts Tryz.infoNote
  have hLOW : ∀ (u : Nat) (l : List NoteR) (A : Option Addr) (W : World), w.heap.size ≤ u → Below w.heap.size w W → Sl noteD w Any1 A l → ∀ x ∈ l, noteD.ok W (fun t => Any1 t ∧ some t ≠ some u) x := fun u l A W hu q h => ((sl_low h fun t ht => ⟨trivial, fun e => by injection e with e; omega⟩).below q).2
  have HLOW := Lib.hid hLOW
  clear hLOW
  have hbA : Below w4.heap.size w4 (w4.alloc (.cells #[] 42)) := (Below.refl _ _).alloc (Nat.le_refl _) _
  have HO := Lib.hid (OwnS.empty (D := noteD) (T := 42) (B := w4.heap.size) (w := w4) (S := Any1) (Nat.le_refl _) 42 rfl)
  have HRB := Lib.hid ((HC2.out.below hbA).reads)
  have HBA := Lib.hid hbA
  clear hbA
  go_wp2_with (at_builtin; refine wpList_append_any _ rfl (.tmp 49) (.tmp 50) _ rfl w4.heap.size 42 i0 _ 5 64 Tryz.underlying33 hi0 hz0 hz1 hz2 rfl (by omega) _ 0 [] rfl HO.out.1 _ Ab b.length cb (b.flatMap noteD.cells) rfl HRB.out flat_one ?c3 ?c4 ?c5 ?_)
  case c3 => unfold maxLen; first | omega | (simp; omega)
  case c4 => first | omega | (simp; omega)
  case c5 => simp
  intro v5 w5 hown hg hat
  have HM5 := Lib.hid (OwnS.more (D := noteD) (S := Any1) (news := b) (xs := []) HO.out.2 (HLOW.out _ b Ab _ hw4 (HB2.out.trans (HBA.out.mono hw4)) HCW.out) rfl rfl (by simp only [List.length_nil, Nat.zero_add, List.flatMap_nil, List.nil_append]; exact hown) hg (by simpa using hat))
  have HG5 := Lib.hid (show Below w4.heap.size w4 w5 from HBA.out.grown hg HBA.out.size (fun t ht => (owns_lt HO.out.1 t ht).1))
  clear hown hg hat HO HRB HBA
  rw [List.nil_append] at HM5
  have hw5 := HG5.out.size
  have HW5 := Lib.hid (show Below w.heap.size w w5 from HB2.out.trans (HG5.out.mono hw4))
  have hbA : Below w5.heap.size w5 (w5.alloc (.cells #[] 42)) := (Below.refl _ _).alloc (Nat.le_refl _) _
  have HO := Lib.hid (OwnS.empty (D := noteD) (T := 42) (B := w5.heap.size) (w := w5) (S := Any1) (Nat.le_refl _) 42 rfl)
  have HRA := Lib.hid (((HAW.out.below HW5.out).below hbA).reads)
  have HBA := Lib.hid hbA
  clear hbA
  go_wp2_with (at_builtin; refine wpList_append_any _ rfl (.tmp 52) (.tmp 53) _ rfl w5.heap.size 42 i0 _ 5 64 Tryz.underlying33 hi0 hz0 hz1 hz2 rfl (by omega) _ 0 [] rfl HO.out.1 _ Aa a.length ca (a.flatMap noteD.cells) rfl HRA.out flat_one ?c3 ?c4 ?c5 ?_)
  case c3 => unfold maxLen; first | omega | (simp; omega)
  case c4 => first | omega | (simp; omega)
  case c5 => simp
  intro v6 w6 hown hg hat
  have HM6 := Lib.hid (OwnS.more (D := noteD) (S := Any1) (news := a) (xs := []) HO.out.2 (HLOW.out _ a Aa _ (Nat.le_trans hw4 hw5) (HW5.out.trans (HBA.out.mono (Nat.le_trans hw4 hw5))) HAW.out) rfl rfl (by simp only [List.length_nil, Nat.zero_add, List.flatMap_nil, List.nil_append]; exact hown) hg (by simpa using hat))
  have HG6 := Lib.hid (show Below w5.heap.size w5 w6 from HBA.out.grown hg HBA.out.size (fun t ht => (owns_lt HO.out.1 t ht).1))
  clear hown hg hat HO HRA HBA
  rw [List.nil_append] at HM6
  have hw6 := HG6.out.size
  have HW6 := Lib.hid (show Below w.heap.size w w6 from HW5.out.trans (HG6.out.mono (Nat.le_trans hw4 hw5)))
  have HRB := Lib.hid ((HCW.out.below HW6.out).reads)
  have hv6 : ∀ t, some t = v6.ownBlock → w5.heap.size ≤ t := fun t ht => (owns_lt HM6.out.1 t ht.symm).1
  have HV6 := Lib.hid hv6
  clear hv6
  go_wp2_with (at_builtin; refine wpList_append_any _ rfl (.tmp 54) (.tmp 55) _ rfl w5.heap.size 42 i0 _ 5 64 Tryz.underlying33 hi0 hz0 hz1 hz2 rfl (by omega) v6 a.length (a.flatMap noteD.cells) rfl HM6.out.1 _ Ab b.length cb (b.flatMap noteD.cells) rfl HRB.out flat_one ?c3 ?c4 ?c5 ?_)
  case c3 => unfold maxLen; first | omega | (simp; omega)
  case c4 => first | omega | (simp; omega)
  case c5 => omega
  intro v7 w7 hown hg hat
  have HM7 := Lib.hid (OwnS.more (D := noteD) (S := Any1) (news := b) (xs := a) HM6.out.2 (((sl_low HCW.out (S := fun t => Any1 t ∧ some t ≠ v6.ownBlock) fun t ht => ⟨trivial, fun e => by have := HV6.out t e; omega⟩).below HW6.out).2) rfl rfl hown hg (by simpa using hat))
  have HG7 := Lib.hid (show Below w5.heap.size w5 w7 from HG6.out.grown hg hw6 (fun t ht => (owns_lt HM6.out.1 t ht).1))
  clear hown hg hat HM6 HRB HV6
  have hw7 := HG7.out.size
  have HW7 := Lib.hid (show Below w.heap.size w w7 from HW5.out.trans (HG7.out.mono (Nat.le_trans hw4 hw5)))
  have HN5 := Lib.hid (HM5.out.below HG7.out)
  obtain ⟨A7, c7, rfl, _⟩ := HM7.out.slice
  have HRAB := Lib.hid ((HM7.out.sl (fun _ _ _ => trivial)).reads)
  have hv5 : ∀ t, some t = v5.ownBlock → w4.heap.size ≤ t := fun t ht => (owns_lt HM5.out.1 t ht.symm).1
  have HV5 := Lib.hid hv5
  have HABW := Lib.hid (show ∀ x ∈ a ++ b, noteD.ok w (fun t => Any1 t ∧ some t ≠ v5.ownBlock) x from fun x hx => by
    have q : ∀ (l : List NoteR) (A : Option Addr), Sl noteD w Any1 A l → ∀ x ∈ l, noteD.ok w (fun t => Any1 t ∧ some t ≠ v5.ownBlock) x := fun l A h => (sl_low h fun t ht => ⟨trivial, fun e => by have := hv5 t e; omega⟩).2
    exact (List.mem_append.1 hx).elim (q a Aa HAW.out x) (q b Ab HCW.out x))
  clear hv5
  have hab : (a ++ b).length ≤ 40 := by simp; omega
  generalize hABe : a ++ b = ab at HM7 HRAB HABW hab
  have HABE := Lib.hid hABe
  clear hABe
  go_wp2_with (at_builtin; refine wpList_append_any _ rfl (.tmp 51) (.tmp 56) _ rfl w4.heap.size 42 i0 _ 5 64 Tryz.underlying33 hi0 hz0 hz1 hz2 rfl (by omega) v5 b.length (b.flatMap noteD.cells) rfl HN5.out.1 _ A7 ab.length c7 (ab.flatMap noteD.cells) rfl HRAB.out flat_one ?c3 ?c4 ?c5 ?_)
  case c3 => unfold maxLen; first | omega | (simp; omega)
  case c4 => first | omega | (simp; omega)
  case c5 => omega
  intro v8 w8 hown hg hat
  have HM8 := Lib.hid (OwnS.more (D := noteD) (S := Any1) (news := ab) (xs := b) HN5.out.2 (fun x hx => noteD.keep (HABW.out x hx) (Keeps.of_below HW7.out)) rfl rfl hown hg (by simpa using hat))
  have HG8 := Lib.hid (show Below w4.heap.size w4 w8 from (HG5.out.trans (HG7.out.mono hw5)).grown hg (Nat.le_trans hw5 hw7) (fun t ht => (owns_lt HN5.out.1 t ht).1))
  clear hown hg hat HM5 HN5 HM7 HRAB HV5 HABW HG5 HG7 HW5 HW6 HW7 HG6 HLOW
  obtain ⟨A8, c8, rfl, _⟩ := HM8.out.slice
  have htl : (b ++ ab).length ≤ 60 := by simp; omega
  have HTM := Lib.hid (show ∀ x, x ∈ (b ++ ab).map NoteR.v ↔ x ∈ (a ++ b).map NoteR.v from fun x => by
    rw [← HABE.out]
    simp only [List.map_append, List.mem_append]
    constructor
    · rintro (q | q | q)
      · exact .inr q
      · exact .inl q
      · exact .inr q
    · exact fun q => .inr q)
  have HSTL := Lib.hid (show ∀ r ∈ b ++ ab, SmN r.v from fun r hr => by
    rw [← HABE.out] at hr
    rcases List.mem_append.1 hr with q | q
    · exact HSB.out r q
    · exact HSAB.out r q)
  have HTL0 := Lib.hid (HM8.out.sl (fun _ _ _ => trivial))
  clear HM8 HABE hab
  generalize b ++ ab = tl at *
  have hb := HG8.out
  have HB3 := Lib.hid (HB2.out.trans (hb.mono HB2.out.size))
  have HA3 := Lib.hid (HA2.out.below hb)
  have HC3 := Lib.hid (HC2.out.below hb)
  have HL3 := Lib.hid (HL2.out.below hb)
  have HJ3 := Lib.hid (HJ2.out.below hb)
  clear HB2 HA2 HC2 HL2 HJ2
  clear hb HG8
  have HTL3 := HTL0
  clear HTL0
  go_wp2_with fail
  refine (gossip_order js A4 c4 _ (HT.out.on HB3.out) HB3.out.size HJ3.out HSJ.out (by omega)).mono ?_
  rintro e w10 ⟨A10, c10, o10, y10, s10, rfl, hsl, hj, hh, hct, hle, hb⟩
  have ho10 : o10.length ≤ 3600 := by rw [List.length_map] at hle; exact Nat.le_trans hle (Nat.le_trans (Nat.mul_le_mul hjl hjl) (by omega))
  have HJ_10 := Lib.hid hj
  have HH_10 := Lib.hid hh
  have HC_10 := Lib.hid hct
  have HB4 := Lib.hid (HB3.out.trans (hb.mono HB3.out.size))
  have HA4 := Lib.hid (HA3.out.below hb)
  have HC4 := Lib.hid (HC3.out.below hb)
  have HL4 := Lib.hid (HL3.out.below hb)
  have HJ4 := Lib.hid (HJ3.out.below hb)
  have HTL4 := Lib.hid (HTL3.out.below hb)
  clear HB3 HA3 HC3 HL3 HJ3 HTL3
  have HO10_4 := Lib.hid (hsl)
  clear hsl hj hh hct hle hb
  go_wp2_with fail
  refine (law_told o10 acts A10 A0 c10 c0 _ HO10_4.out (by omega) HL4.out (by omega)).mono ?_
  rintro e w11 ⟨A11, c11, rfl, hl, hle, hb⟩
  have ht11 : (told acts (o10.map NoteR.v)).length ≤ 3600 := by rw [List.length_map] at hle; omega
  have HB5 := Lib.hid (HB4.out.trans (hb.mono HB4.out.size))
  have HA5 := Lib.hid (HA4.out.below hb)
  have HC5 := Lib.hid (HC4.out.below hb)
  have HL5 := Lib.hid (HL4.out.below hb)
  have HJ5 := Lib.hid (HJ4.out.below hb)
  have HTL5 := Lib.hid (HTL4.out.below hb)
  have HO10_5 := Lib.hid (HO10_4.out.below hb)
  clear HB4 HA4 HC4 HL4 HJ4 HTL4 HO10_4
  have HT11_5 := Lib.hid (hl)
  clear hl hle hb
  go_wp2_with fail
  refine (lock_locked (told acts (o10.map NoteR.v)) A11 c11 name day _ HT11_5.out (told_small HSMALL.out (by omega)) (by omega)).mono ?_
  rintro e w12 ⟨rfl, hb⟩
  have HB6 := Lib.hid (HB5.out.trans (hb.mono HB5.out.size))
  have HA6 := Lib.hid (HA5.out.below hb)
  have HC6 := Lib.hid (HC5.out.below hb)
  have HL6 := Lib.hid (HL5.out.below hb)
  have HJ6 := Lib.hid (HJ5.out.below hb)
  have HTL6 := Lib.hid (HTL5.out.below hb)
  have HO10_6 := Lib.hid (HO10_5.out.below hb)
  clear HB5 HA5 HC5 HL5 HJ5 HTL5 HO10_5
  clear hb
  generalize hL1 : Kb.lockedB (told acts (o10.map NoteR.v)) name.data.toList day = L1
  have HL1E := Lib.hid hL1
  clear hL1
  go_wp2_with fail
  refine (gossip_order tl A8 c8 _ (HT.out.on HB6.out) HB6.out.size HTL6.out HSTL.out (by omega)).mono ?_
  rintro e w13 ⟨A13, c13, o13, y13, s13, rfl, hsl, hj, hh, hct, hle, hb⟩
  have ho13 : o13.length ≤ 3600 := by rw [List.length_map] at hle; exact Nat.le_trans hle (Nat.le_trans (Nat.mul_le_mul htl htl) (by omega))
  have HJ_13 := Lib.hid hj
  have HH_13 := Lib.hid hh
  have HC_13 := Lib.hid hct
  have HB7 := Lib.hid (HB6.out.trans (hb.mono HB6.out.size))
  have HA7 := Lib.hid (HA6.out.below hb)
  have HC7 := Lib.hid (HC6.out.below hb)
  have HL7 := Lib.hid (HL6.out.below hb)
  have HJ7 := Lib.hid (HJ6.out.below hb)
  have HTL7 := Lib.hid (HTL6.out.below hb)
  clear HB6 HA6 HC6 HL6 HJ6 HTL6
  have HO13_7 := Lib.hid (hsl)
  clear hsl hj hh hct hle hb
  go_wp2_with fail
  refine (law_told o13 acts A13 A0 c13 c0 _ HO13_7.out (by omega) HL7.out (by omega)).mono ?_
  rintro e w14 ⟨A14, c14, rfl, hl, hle, hb⟩
  have ht14 : (told acts (o13.map NoteR.v)).length ≤ 3600 := by rw [List.length_map] at hle; omega
  have HB8 := Lib.hid (HB7.out.trans (hb.mono HB7.out.size))
  have HA8 := Lib.hid (HA7.out.below hb)
  have HC8 := Lib.hid (HC7.out.below hb)
  have HL8 := Lib.hid (HL7.out.below hb)
  have HJ8 := Lib.hid (HJ7.out.below hb)
  have HTL8 := Lib.hid (HTL7.out.below hb)
  have HO13_8 := Lib.hid (HO13_7.out.below hb)
  clear HB7 HA7 HC7 HL7 HJ7 HTL7 HO13_7
  have HT14_8 := Lib.hid (hl)
  clear hl hle hb
  go_wp2_with fail
  refine (lock_locked (told acts (o13.map NoteR.v)) A14 c14 name day _ HT14_8.out (told_small HSMALL.out (by omega)) (by omega)).mono ?_
  rintro e w15 ⟨rfl, hb⟩
  have HB9 := Lib.hid (HB8.out.trans (hb.mono HB8.out.size))
  have HA9 := Lib.hid (HA8.out.below hb)
  have HC9 := Lib.hid (HC8.out.below hb)
  have HL9 := Lib.hid (HL8.out.below hb)
  have HJ9 := Lib.hid (HJ8.out.below hb)
  have HTL9 := Lib.hid (HTL8.out.below hb)
  have HO13_9 := Lib.hid (HO13_8.out.below hb)
  clear HB8 HA8 HC8 HL8 HJ8 HTL8 HO13_8
  clear hb
  have hL2 : Kb.lockedB (told acts (o13.map NoteR.v)) name.data.toList day = L1 := by
    rw [← HL1E.out]
    refine runs_same HJ_13.out HJ_10.out (fun x hx => ?_) HH_13.out HH_10.out HC_13.out HC_10.out _ _
    rw [HTM.out x, HJO.out.2 x]
    exact ⟨fun q => ⟨hx, q⟩, fun q => q.2⟩
  rw [hL2]
  clear hL2 HJ_13 HH_13 HC_13 HTM HSTL ho13 ht14 ht11 htl
  go_wp2_with fail
  refine (gossip_forks js A4 c4 _ (HT.out.on HB9.out) HB9.out.size HJ9.out HSJ.out (by omega)).mono ?_
  rintro e w16 ⟨A16, c16, fs, y16, s16, rfl, hsl, hj, hh, hfs, hle, hb⟩
  have hfl : fs.length ≤ 40 := by rw [List.length_map] at hle; omega
  have HJ_16 := Lib.hid hj
  have HH_16 := Lib.hid hh
  have HFS := Lib.hid hfs
  have HB10 := Lib.hid (HB9.out.trans (hb.mono HB9.out.size))
  have HA10 := Lib.hid (HA9.out.below hb)
  have HC10 := Lib.hid (HC9.out.below hb)
  have HL10 := Lib.hid (HL9.out.below hb)
  have HJ10 := Lib.hid (HJ9.out.below hb)
  clear HB9 HA9 HC9 HL9 HJ9
  have HF10 := Lib.hid (hsl)
  clear hsl hj hh hfs hle hb
  go_wp2_with fail
  go_loopw [16] (fun s16 wr => ∃ i : Nat, i ≤ b.length ∧ s16 = .int .i64 (i : Int) ∧ Hid (∀ (j : Nat) (x : NoteR), j < i → b[j]? = some x → ∀ f ∈ fs, x.v.house ≠ f) ∧ Hid (Below w16.heap.size w16 wr)) (fun s16 _ => b.length - (intOf s16).toNat)
  case atStart => exact ⟨0, Nat.zero_le _, rfl, fun j x hj => absurd hj (Nat.not_lt_zero _), Below.refl _ _⟩
  case round =>
    obtain ⟨i, hi, rfl, HFR, HW⟩ := hrel
    have hws := HW.out.size
    by_cases hlt : i < b.length
    · obtain ⟨bb, boff, rfl, _, hbw, _, hcl⟩ := HC10.out.get hlt
      have hx : b[i]? = some b[i] := List.getElem?_eq_getElem hlt
      generalize b[i] = x at hx hcl
      have HX := Lib.hid hx
      have HXC := Lib.hid (show w16.cell? ⟨bb, boff + i * 5, none⟩ = some (.int .i64 x.v.house) from hcl 0 _ rfl)
      have hi4 : (i : Int) < (b.length : Int) := by omega
      clear hx hcl
      go_wp2_with fail
      obtain ⟨wo, hwo⟩ : ∃ wo : World, wo = wr := ⟨_, rfl⟩
      rw [← hwo] at HW hws
      go_loopw [17] (fun s17 wr => ∃ j : Nat, j ≤ fs.length ∧ s17 = .int .i64 (j : Int) ∧ Hid (∀ (t : Nat) (f : Int), t < j → fs[t]? = some f → x.v.house ≠ f) ∧ Hid (Below wo.heap.size wo wr)) (fun s17 _ => fs.length - (intOf s17).toNat)
      case atStart => exact ⟨0, Nat.zero_le _, rfl, fun t f ht => absurd ht (Nat.not_lt_zero _), by rw [hwo]; exact Below.refl _ _⟩
      case round =>
        obtain ⟨j, hj, rfl, HFI, HW2⟩ := hrel
        have HWW := Lib.hid (show Below w16.heap.size w16 wr from HW.out.trans (HW2.out.mono hws))
        have x0 : wr.cell? ⟨bb, boff + i * 5, none⟩ = some (.int .i64 x.v.house) := (HWW.out.cell (p := ⟨bb, boff + i * 5, none⟩) hbw).trans HXC.out
        by_cases hlt2 : j < fs.length
        · obtain ⟨fb, foff, rfl, _, hfw, _, hcl⟩ := HF10.out.get hlt2
          have hf : fs[j]? = some fs[j] := List.getElem?_eq_getElem hlt2
          generalize fs[j] = f at hf hcl
          have f0 : wr.cell? ⟨fb, foff + j, none⟩ = some (.int .i64 f) := (HWW.out.cell (p := ⟨fb, foff + j, none⟩) hfw).trans (by simpa [intD] using hcl 0 _ rfl)
          have HFJ := Lib.hid hf
          have hj4 : (j : Int) < (fs.length : Int) := by omega
          clear hf hcl
          by_cases he : x.v.house = f
          · have he1 : (x.v.house == f) = true := by rw [he]; simp
            clear he
            go_wp2_with fail
            go_quiet (fail)
            go_wp2_with fail
            go_ret
            exact ⟨rfl, below_dn (HB10.out.trans (HWW.out.mono HB10.out.size)) _⟩
          · have he1 : (x.v.house == f) = false := by rw [beq_eq_false_iff_ne]; exact he
            have HNE := Lib.hid he
            clear he
            go_wp2_with fail
            go_quiet (fail)
            go_wp2_with fail
            go_roundw
            case rel => exact ⟨j + 1, by omega, by go_num, fun t f' ht hf' => by
              rcases Nat.lt_or_ge t j with q | q
              · exact HFI.out t f' q hf'
              · obtain rfl : t = j := by omega
                rw [HFJ.out] at hf'
                cases hf'
                exact HNE.out, below_dn HW2.out _⟩
            case measure => simp [intOf]; omega
        · obtain rfl : j = fs.length := by omega
          have HNX := Lib.hid (show ∀ (t : Nat) (y : NoteR), t < i + 1 → b[t]? = some y → ∀ f ∈ fs, y.v.house ≠ f from fun t y ht hy f hf => by
            rcases Nat.lt_or_ge t i with q | q
            · exact HFR.out t y q hy f hf
            · obtain rfl : t = i := by omega
              rw [HX.out] at hy
              cases hy
              obtain ⟨u, hu, eu⟩ := List.getElem_of_mem hf
              exact HFI.out u f hu (by rw [List.getElem?_eq_getElem hu, eu]))
          go_wp2_with fail
          go_roundw
          case rel => exact ⟨i + 1, by omega, by go_num, HNX.out, HWW.out⟩
          case measure => simp [intOf]; omega
    · obtain rfl : i = b.length := by omega
      have HFK := Lib.hid (show ∀ x ∈ b.map NoteR.v, ∀ f ∈ (s16.filter HouseS.forked).map HouseS.number, x.house ≠ f from fun x hx f hf => by
        obtain ⟨r, hr, rfl⟩ := List.mem_map.1 hx
        obtain ⟨j, hj, e⟩ := List.getElem_of_mem hr
        rw [← HFS.out] at hf
        exact HFR.out j r hj (by rw [List.getElem?_eq_getElem hj, e]) f hf)
      have hb := HW.out
      have HB11 := Lib.hid (HB10.out.trans (hb.mono HB10.out.size))
      have HA11 := Lib.hid (HA10.out.below hb)
      have HC11 := Lib.hid (HC10.out.below hb)
      have HL11 := Lib.hid (HL10.out.below hb)
      have HJ11 := Lib.hid (HJ10.out.below hb)
      clear HB10 HA10 HC10 HL10 HJ10
      clear hb HW HFR hws HFS
      go_wp2_with fail
      refine (law_told b acts Ab A0 cb c0 _ HC11.out (by omega) HL11.out (by omega)).mono ?_
      rintro e w17 ⟨A17, c17, rfl, hl, hle, hb⟩
      have ht17 : (told acts (b.map NoteR.v)).length ≤ 3600 := by rw [List.length_map] at hle; omega
      have HB12 := Lib.hid (HB11.out.trans (hb.mono HB11.out.size))
      have HA12 := Lib.hid (HA11.out.below hb)
      have HC12 := Lib.hid (HC11.out.below hb)
      have HL12 := Lib.hid (HL11.out.below hb)
      have HJ12 := Lib.hid (HJ11.out.below hb)
      clear HB11 HA11 HC11 HL11 HJ11
      have HT17_12 := Lib.hid (hl)
      clear hl hle hb
      go_wp2_with fail
      refine (law_free (told acts (b.map NoteR.v)) A17 c17 _ HT17_12.out (by omega)).mono ?_
      rintro e w18 ⟨q4, rfl, hq4, rfl⟩
      have HQ4 := Lib.hid hq4
      clear hq4
      rcases q4 with _ | _
      rotate_left
      · go_wp2_with fail
        go_ret
        exact ⟨rfl, HB12.out⟩
      go_wp2_with fail
      refine (gossip_order js A4 c4 _ (HT.out.on HB12.out) HB12.out.size HJ12.out HSJ.out (by omega)).mono ?_
      rintro e w19 ⟨A19, c19, o19, y19, s19, rfl, hsl, hj, hh, hct, hle, hb⟩
      have ho19 : o19.length ≤ 3600 := by rw [List.length_map] at hle; exact Nat.le_trans hle (Nat.le_trans (Nat.mul_le_mul hjl hjl) (by omega))
      have HJ_19 := Lib.hid hj
      have HH_19 := Lib.hid hh
      have HC_19 := Lib.hid hct
      have HB13 := Lib.hid (HB12.out.trans (hb.mono HB12.out.size))
      have HA13 := Lib.hid (HA12.out.below hb)
      have HC13 := Lib.hid (HC12.out.below hb)
      have HL13 := Lib.hid (HL12.out.below hb)
      have HJ13 := Lib.hid (HJ12.out.below hb)
      clear HB12 HA12 HC12 HL12 HJ12
      have HO19_13 := Lib.hid (hsl)
      clear hsl hj hh hct hle hb
      go_wp2_with fail
      refine (gossip_order a Aa ca _ (HT.out.on HB13.out) HB13.out.size HA13.out HSA.out (by omega)).mono ?_
      rintro e w20 ⟨A20, c20, o20, y20, s20, rfl, hsl, hj, hh, hct, hle, hb⟩
      have ho20 : o20.length ≤ 3600 := by rw [List.length_map] at hle; exact Nat.le_trans hle (Nat.le_trans (Nat.mul_le_mul hal20 hal20) (by omega))
      have HJ_20 := Lib.hid hj
      have HH_20 := Lib.hid hh
      have HC_20 := Lib.hid hct
      have HB14 := Lib.hid (HB13.out.trans (hb.mono HB13.out.size))
      have HA14 := Lib.hid (HA13.out.below hb)
      have HC14 := Lib.hid (HC13.out.below hb)
      have HL14 := Lib.hid (HL13.out.below hb)
      have HJ14 := Lib.hid (HJ13.out.below hb)
      have HO19_14 := Lib.hid (HO19_13.out.below hb)
      clear HB13 HA13 HC13 HL13 HJ13 HO19_13
      have HO20_14 := Lib.hid (hsl)
      clear hsl hj hh hct hle hb
      go_wp2_with fail
      have HSM20 := Lib.hid (show ∀ r ∈ o20, r.v.needs.length ≤ 100000 from fun r hr => by
        obtain ⟨tk, rn, _⟩ := HC_20.out
        obtain ⟨_, h, _, _, h1, _, _, h4⟩ := (rn.mem r.v).1 (List.mem_map_of_mem hr)
        have hm := List.mem_of_getElem? h4
        rw [(HH_20.out.2.1 h (List.mem_of_getElem? h1)).1] at hm
        have := (ownOf_mem.1 ((pastL_prefix _ 0 0).subset hm)).1
        have := rightN_head ((HJ_20.out.2 r.v).1 this).1
        rw [headB_iff] at this
        omega)
      have HSM19 := Lib.hid (show ∀ r ∈ o19, r.v.needs.length ≤ 100000 from fun r hr => by
        obtain ⟨tk, rn, _⟩ := HC_19.out
        obtain ⟨_, h, _, _, h1, _, _, h4⟩ := (rn.mem r.v).1 (List.mem_map_of_mem hr)
        have hm := List.mem_of_getElem? h4
        rw [(HH_19.out.2.1 h (List.mem_of_getElem? h1)).1] at hm
        have := (ownOf_mem.1 ((pastL_prefix _ 0 0).subset hm)).1
        have := rightN_head ((HJ_19.out.2 r.v).1 this).1
        rw [headB_iff] at this
        omega)
      go_loopw [20] (fun s20 wr => ∃ i : Nat, i ≤ o19.length ∧ s20 = .int .i64 (i : Int) ∧ Hid (∀ (j : Nat) (x : NoteR), j < i → o19[j]? = some x → x.v ∉ o20.map NoteR.v → ∀ t ∈ told acts [x.v], t.kind ≠ 1) ∧ Hid (Below w20.heap.size w20 wr)) (fun s20 _ => o19.length - (intOf s20).toNat)
      case atStart => exact ⟨0, Nat.zero_le _, rfl, fun j x hj => absurd hj (Nat.not_lt_zero _), Below.refl _ _⟩
      case round =>
        obtain ⟨i, hi, rfl, HNR, HW⟩ := hrel
        have hws := HW.out.size
        have HBB := Lib.hid (show Below w.heap.size w wr from HB14.out.trans (HW.out.mono HB14.out.size))
        by_cases hlt : i < o19.length
        · obtain ⟨xb, xoff, rfl, _, hbw, hok, hcl⟩ := (HO19_14.out.below HW.out).get hlt
          have hx : o19[i]? = some o19[i] := List.getElem?_eq_getElem hlt
          generalize o19[i] = x at hx hcl hok
          have HX := Lib.hid hx
          have HOK := Lib.hid (show Sl refD wr Any1 x.A x.v.needs from hok)
          have x0 : wr.cell? ⟨xb, xoff + i * 5, none⟩ = some (.int .i64 x.v.house) := hcl 0 _ rfl
          have x1 : wr.cell? ⟨xb, xoff + i * 5 + 1, none⟩ = some (.int .i64 x.v.no) := hcl 1 _ rfl
          have x2 : wr.cell? ⟨xb, xoff + i * 5 + 2, none⟩ = some (.int .i64 x.v.day) := hcl 2 _ rfl
          have x3 : wr.cell? ⟨xb, xoff + i * 5 + 3, none⟩ = some (.slice x.A x.v.needs.length x.c) := hcl 3 _ rfl
          have x4 : wr.cell? ⟨xb, xoff + i * 5 + 4, none⟩ = some (.string x.v.text) := hcl 4 _ rfl
          have hi4 : (i : Int) < (o19.length : Int) := by omega
          have HHAS := Lib.hid (ref_has o20 x A20 c20 wr (HO20_14.out.below HW.out) (by omega) HOK.out HSM20.out (HSM19.out x (List.mem_of_getElem? hx)))
          clear hx hcl hok
          go_wp2_with fail
          refine HHAS.out.mono ?_
          rintro e w21 ⟨q5, rfl, hq5, hb21⟩
          have HQ5 := Lib.hid hq5
          have HB21 := Lib.hid hb21
          have HW21 := Lib.hid (show Below w20.heap.size w20 w21 from HW.out.trans (hb21.mono hws))
          have z0 : w21.cell? ⟨xb, xoff + i * 5, none⟩ = some (.int .i64 x.v.house) := (hb21.cell (p := ⟨xb, xoff + i * 5, none⟩) hbw).trans x0
          have z1 : w21.cell? ⟨xb, xoff + i * 5 + 1, none⟩ = some (.int .i64 x.v.no) := (hb21.cell (p := ⟨xb, xoff + i * 5 + 1, none⟩) hbw).trans x1
          have z2 : w21.cell? ⟨xb, xoff + i * 5 + 2, none⟩ = some (.int .i64 x.v.day) := (hb21.cell (p := ⟨xb, xoff + i * 5 + 2, none⟩) hbw).trans x2
          have z3 : w21.cell? ⟨xb, xoff + i * 5 + 3, none⟩ = some (.slice x.A x.v.needs.length x.c) := (hb21.cell (p := ⟨xb, xoff + i * 5 + 3, none⟩) hbw).trans x3
          have z4 : w21.cell? ⟨xb, xoff + i * 5 + 4, none⟩ = some (.string x.v.text) := (hb21.cell (p := ⟨xb, xoff + i * 5 + 4, none⟩) hbw).trans x4
          have hw21 := hb21.size
          clear hq5 hb21
          rcases q5 with _ | _
          · have HNI := Lib.hid (show x.v ∉ o20.map NoteR.v from fun q => by cases HQ5.out.2 q)
            have hbA : Below w21.heap.size w21 (w21.alloc (.cells #[.int .i64 x.v.house, .int .i64 x.v.no, .int .i64 x.v.day, .slice x.A x.v.needs.length x.c, .string x.v.text] 42)) := (Below.refl _ _).alloc (Nat.le_refl _) _
            have hS1 : Sl noteD (w21.alloc (.cells #[.int .i64 x.v.house, .int .i64 x.v.no, .int .i64 x.v.day, .slice x.A x.v.needs.length x.c, .string x.v.text] 42)) Any1 (some ⟨w21.heap.size, 0, none⟩) [x] := by
              refine ⟨fun _ => ⟨w21.heap.size, 0, rfl, trivial, by simp, fun j y hy t v hv => ?_⟩, fun y hy => ?_⟩
              · match j, hy with
                | 0, hy =>
                  cases hy
                  have ht5 : t < 5 := (List.getElem?_eq_some_iff.1 hv).1
                  rcases (by omega : t = 0 ∨ t = 1 ∨ t = 2 ∨ t = 3 ∨ t = 4) with rfl | rfl | rfl | rfl | rfl <;> (cases hv; simp [go_sem])
              · rw [List.mem_singleton.1 hy]
                exact (HOK.out.below HB21.out).below hbA
            have HBW := Lib.hid (show Below w.heap.size w (w21.alloc (.cells #[.int .i64 x.v.house, .int .i64 x.v.no, .int .i64 x.v.day, .slice x.A x.v.needs.length x.c, .string x.v.text] 42)) from (HBB.out.trans (HB21.out.mono HBB.out.size)).trans (hbA.mono (Nat.le_trans HBB.out.size hw21)))
            have HBX := Lib.hid (show Below w20.heap.size w20 (w21.alloc (.cells #[.int .i64 x.v.house, .int .i64 x.v.no, .int .i64 x.v.day, .slice x.A x.v.needs.length x.c, .string x.v.text] 42)) from HW21.out.trans (hbA.mono (Nat.le_trans hws hw21)))
            have HTO := Lib.hid (show Calls Tryz.prog 16 #[.slice (some ⟨w21.heap.size, 0, none⟩) 1 1, .slice A0 acts.length c0] (w21.alloc (.cells #[.int .i64 x.v.house, .int .i64 x.v.no, .int .i64 x.v.day, .slice x.A x.v.needs.length x.c, .string x.v.text] 42)) (ToldPost acts [x.v] (w21.alloc (.cells #[.int .i64 x.v.house, .int .i64 x.v.no, .int .i64 x.v.day, .slice x.A x.v.needs.length x.c, .string x.v.text] 42))) from law_told [x] acts (some ⟨w21.heap.size, 0, none⟩) A0 1 c0 _ hS1 (by simp) (HL14.out.below HBX.out) (by omega))
            clear hbA hS1
            go_wp2_with fail
            refine HTO.out.mono ?_
            rintro e w22 ⟨A22, c22, rfl, hl22, hle22, hb22⟩
            have ht22 : (told acts [x.v]).length ≤ 1 := by simpa using hle22
            have HL22 := Lib.hid hl22
            have HB22 := Lib.hid (show Below w.heap.size w w22 from HBW.out.trans (hb22.mono HBW.out.size))
            have HX22 := Lib.hid (show Below w20.heap.size w20 w22 from HBX.out.trans (hb22.mono HBX.out.size))
            clear hl22 hle22 hb22
            go_wp2_with fail
            refine (law_free (told acts [x.v]) A22 c22 _ HL22.out (by omega)).mono ?_
            rintro e w23 ⟨q6, rfl, hq6, rfl⟩
            have HQ6 := Lib.hid hq6
            clear hq6
            rcases q6 with _ | _
            · have HNX := Lib.hid (show ∀ (j : Nat) (y : NoteR), j < i + 1 → o19[j]? = some y → y.v ∉ o20.map NoteR.v → ∀ t ∈ told acts [y.v], t.kind ≠ 1 from fun j y hj hy hn t ht hk => by
                rcases Nat.lt_or_ge j i with q | q
                · exact HNR.out j y q hy hn t ht hk
                · obtain rfl : j = i := by omega
                  rw [HX.out] at hy
                  cases hy
                  cases HQ6.out.2 ⟨t, ht, hk⟩)
              go_wp2_with fail
              go_roundw
              case rel => exact ⟨i + 1, by omega, by go_num, HNX.out, HX22.out⟩
              case measure => simp [intOf]; omega
            · go_wp2_with fail
              go_ret
              exact ⟨rfl, HB22.out⟩
          · have HNX := Lib.hid (show ∀ (j : Nat) (y : NoteR), j < i + 1 → o19[j]? = some y → y.v ∉ o20.map NoteR.v → ∀ t ∈ told acts [y.v], t.kind ≠ 1 from fun j y hj hy hn t ht hk => by
              rcases Nat.lt_or_ge j i with q | q
              · exact HNR.out j y q hy hn t ht hk
              · obtain rfl : j = i := by omega
                rw [HX.out] at hy
                cases hy
                exact hn (HQ5.out.1 rfl))
            go_wp2_with fail
            go_roundw
            case rel => exact ⟨i + 1, by omega, by go_num, HNX.out, HW21.out⟩
            case measure => simp [intOf]; omega
        · obtain rfl : i = o19.length := by omega
          have HEND := Lib.hid (show Kb.lockedB (told acts (o20.map NoteR.v)) name.data.toList day = true → L1 = true from fun q => by
            have h1 : Kb.lockedB (told acts (o19.map NoteR.v)) name.data.toList day = true := law_last (bl := b.map NoteR.v) HJO.out (fun x => by rw [List.map_append, List.mem_append]) HJ_20.out HJ_19.out HJ_16.out HH_20.out HH_19.out HH_16.out HC_20.out HC_19.out HFK.out (fun x hx hn => by
              obtain ⟨r, hr, rfl⟩ := List.mem_map.1 hx
              obtain ⟨j, hj, e⟩ := List.getElem_of_mem hr
              exact HNR.out j r hj (by rw [List.getElem?_eq_getElem hj, e]) hn) q
            rw [← HL1E.out]
            rw [← h1]
            exact runs_same HJ_10.out HJ_19.out (fun x _ => Iff.rfl) HH_10.out HH_19.out HC_10.out HC_19.out _ _)
          cases L1 with
          | true =>
            go_wp2_with fail
            go_ret
            exact ⟨rfl, HBB.out⟩
          | false =>
            have hL4 : Kb.lockedB (told acts (o20.map NoteR.v)) name.data.toList day = false := by
              cases hq : Kb.lockedB (told acts (o20.map NoteR.v)) name.data.toList day with
              | false => rfl
              | true => cases HEND.out hq
            have HL4 := Lib.hid hL4
            clear hL4
            go_wp2_with fail
            refine (law_told o20 acts A20 A0 c20 c0 _ (HO20_14.out.below HW.out) (by omega) (HL14.out.below HW.out) (by omega)).mono ?_
            rintro e w24 ⟨A24, c24, rfl, hl24, hle24, hb24⟩
            have ht24 : (told acts (o20.map NoteR.v)).length ≤ 3600 := by rw [List.length_map] at hle24; omega
            have HL24 := Lib.hid hl24
            have HB24 := Lib.hid (show Below w.heap.size w w24 from HBB.out.trans (hb24.mono HBB.out.size))
            clear hl24 hle24 hb24
            have hlk := lock_locked (told acts (o20.map NoteR.v)) A24 c24 name day w24 HL24.out (told_small HSMALL.out (by omega)) (by omega)
            rw [HL4.out] at hlk
            have HLK := Lib.hid hlk
            clear hlk
            go_wp2_with fail
            refine HLK.out.mono ?_
            rintro e w25 ⟨rfl, hb25⟩
            have HB25 := Lib.hid (show Below w.heap.size w w25 from HB24.out.trans (hb25.mono HB24.out.size))
            clear hb25
            go_wp2_with fail
            go_ret
            exact ⟨rfl, HB25.out⟩
end Go.Proofs.YtaojnjealccjiaaGreatDoor
