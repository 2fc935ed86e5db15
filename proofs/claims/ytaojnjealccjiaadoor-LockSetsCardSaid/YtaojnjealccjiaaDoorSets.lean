/- LockSets's walk. -/
import Derived.Test.YtaojnjealccjiaaDoorSame
namespace Go.Proofs.YtaojnjealccjiaaDoor
open Go Go.RowKit Kb Go.Lib
set_option linter.unusedVariables false

theorem small_nil : Small [] := ⟨fun a h => by simp at h, Nat.zero_le _⟩
theorem isJoin_small2 {a b j : List Akt} (h : IsJoin a b j) (ha : Small a) (hb : Small b) (h1 : a.length + b.length ≤ 1000) : Small j ∧ j.length ≤ a.length + b.length := by
  have hl : j.length ≤ (a ++ b).length := strict_len j _ h.1 fun x hx => by rw [List.mem_append]; exact ((h.2 x).1 hx).2
  rw [List.length_append] at hl
  refine ⟨⟨fun x hx => ?_, by unfold maxLen; omega⟩, by omega⟩
  rcases ((h.2 x).1 hx).2 with m | m
  · exact ha.1 x m
  · exact hb.1 x m
theorem turnL_small {a : List Akt} (h : Small a) (h40 : a.length ≤ 40) (k : Nat) : Small (turnL a k) := by
  unfold turnL
  refine ⟨fun x hx => ?_, ?_⟩
  · rcases List.mem_append.1 hx with m | m
    · exact h.1 x (List.mem_reverse.1 m)
    · cases e : a[k]? with
      | none => rw [e] at m; simp at m
      | some y => rw [e] at m; simp at m; subst m; exact h.1 _ (List.mem_of_getElem? e)
  · unfold maxLen
    cases e : a[k]? <;> simp <;> omega
theorem turnL_same (a : List Akt) (again : Int) : SameRight (turnL a (again.toNat % a.length)) a := by
  by_cases h : 0 < a.length
  · have hk := Nat.mod_lt again.toNat h
    have := turned_same a (again.toNat % a.length) hk
    unfold turnL
    rw [List.getElem?_eq_getElem hk]
    exact this
  · have : a = [] := List.eq_nil_of_length_eq_zero (by omega)
    subst this
    exact fun x _ => by simp [turnL]

set_option maxHeartbeats 16000000 in
set_option maxRecDepth 100000 in
theorem walk_sets (a b c : List Akt) (A A' A'' : Option Addr) (ca cb cc : Nat) (ob : ByteArray) (person day again : Int) (w : World) (hl : Lst aktV 4 w A a) (hbig : a.length ≤ maxLen) (hl' : Lst aktV 4 w A' b) (hbig' : b.length ≤ maxLen) (hl'' : Lst aktV 4 w A'' c) (hbig'' : c.length ≤ maxLen)
    (hob : ob.size ≤ maxLen) (hag0 : 0 ≤ again) (hag1 : again ≤ 255) :
    Calls Tryd.prog 5 #[.slice A a.length ca, .slice A' b.length cb, .slice A'' c.length cc, .string ob, .int .i64 person, .int .i64 day, .int .u8 again] w fun e w' => e = .returned (.bool true) ∧ Below w.heap.size w w' := by
  have hfa := fun (W : World) (h : Below w.heap.size w W) => ref_few a A ca W (hl.below h) hbig
  have hfb := fun (W : World) (h : Below w.heap.size w W) => ref_few b A' cb W (hl'.below h) hbig'
  have hfc := fun (W : World) (h : Below w.heap.size w W) => ref_few c A'' cc W (hl''.below h) hbig''
  unfold maxLen at hob hbig hbig' hbig''
  cases ha : fewB a with
  | false =>
    rw [ha] at hfa
    have HFa := Lib.hid hfa
    clear hfa hfb hfc ha
    go_enter Tryd.func5, Tryd.ntmps5
    go_wp2_with fail
    refine (law_small _).mono ?_
    rintro e w1 ⟨rfl, hb⟩
    have HB1 := Lib.hid hb
    clear hb
    go_wp2_with fail
    refine (HFa.out _ HB1.out).mono ?_
    rintro e w2 ⟨rfl, hw⟩
    have HB2 : Hid (Below w.heap.size w w2) := hw ▸ HB1.out
    clear hw
    go_wp2_with fail
    go_ret
    exact ⟨rfl, HB2.out⟩
  | true =>
    obtain ⟨hsa, ha40⟩ := few_small ha
    rw [ha] at hfa
    have HFa := Lib.hid hfa
    clear hfa
    cases hb : fewB b with
    | false =>
      rw [hb] at hfb
      have HFb := Lib.hid hfb
      clear hfb hfc hb ha
      go_enter Tryd.func5, Tryd.ntmps5
      go_wp2_with fail
      refine (law_small _).mono ?_
      rintro e w1 ⟨rfl, hb⟩
      have HB1 := Lib.hid hb
      clear hb
      go_wp2_with fail
      refine (HFa.out _ HB1.out).mono ?_
      rintro e w2 ⟨rfl, hw⟩
      have HB2 : Hid (Below w.heap.size w w2) := hw ▸ HB1.out
      clear hw
      go_wp2_with fail
      refine (HFb.out _ HB2.out).mono ?_
      rintro e w3 ⟨rfl, hw⟩
      have HB3 : Hid (Below w.heap.size w w3) := hw ▸ HB2.out
      clear hw
      go_wp2_with fail
      go_ret
      exact ⟨rfl, HB3.out⟩
    | true =>
      obtain ⟨hsb, hb40⟩ := few_small hb
      rw [hb] at hfb
      have HFb := Lib.hid hfb
      clear hfb
      cases hc : fewB c with
      | false =>
        rw [hc] at hfc
        have HFc := Lib.hid hfc
        clear hfc hc hb ha
        go_enter Tryd.func5, Tryd.ntmps5
        go_wp2_with fail
        refine (law_small _).mono ?_
        rintro e w1 ⟨rfl, hb⟩
        have HB1 := Lib.hid hb
        clear hb
        go_wp2_with fail
        refine (HFa.out _ HB1.out).mono ?_
        rintro e w2 ⟨rfl, hw⟩
        have HB2 : Hid (Below w.heap.size w w2) := hw ▸ HB1.out
        clear hw
        go_wp2_with fail
        refine (HFb.out _ HB2.out).mono ?_
        rintro e w3 ⟨rfl, hw⟩
        have HB3 : Hid (Below w.heap.size w w3) := hw ▸ HB2.out
        clear hw
        go_wp2_with fail
        refine (HFc.out _ HB3.out).mono ?_
        rintro e w4 ⟨rfl, hw⟩
        have HB4 : Hid (Below w.heap.size w w4) := hw ▸ HB3.out
        clear hw
        go_wp2_with fail
        go_ret
        exact ⟨rfl, HB4.out⟩
      | true =>
        obtain ⟨hsc, hc40⟩ := few_small hc
        rw [hc] at hfc
        have HFc := Lib.hid hfc
        clear hfc hc hb ha
        by_cases h100 : 100 < ob.size
        · go_enter Tryd.func5, Tryd.ntmps5
          go_wp2_with fail
          refine (law_small _).mono ?_
          rintro e w1 ⟨rfl, hb⟩
          have HB1 := Lib.hid hb
          clear hb
          go_wp2_with fail
          refine (HFa.out _ HB1.out).mono ?_
          rintro e w2 ⟨rfl, hw⟩
          have HB2 : Hid (Below w.heap.size w w2) := hw ▸ HB1.out
          clear hw
          go_wp2_with fail
          refine (HFb.out _ HB2.out).mono ?_
          rintro e w3 ⟨rfl, hw⟩
          have HB3 : Hid (Below w.heap.size w w3) := hw ▸ HB2.out
          clear hw
          go_wp2_with fail
          refine (HFc.out _ HB3.out).mono ?_
          rintro e w4 ⟨rfl, hw⟩
          have HB4 : Hid (Below w.heap.size w w4) := hw ▸ HB3.out
          clear hw
          go_wp2_with fail
          go_ret
          exact ⟨rfl, HB4.out⟩
        · have hobs : ob.size < 4294967281 := by omega
          have HLa := Lib.hid hl
          have HLb := Lib.hid hl'
          have HLc := Lib.hid hl''
          have HSa := Lib.hid hsa
          have HSb := Lib.hid hsb
          have HSc := Lib.hid hsc
          have HNa := Lib.hid ha40
          have HNb := Lib.hid hb40
          have HNc := Lib.hid hc40
          clear hl hl' hl'' hsa hsb hsc
          go_enter Tryd.func5, Tryd.ntmps5
          go_wp2_with fail
          refine (law_small _).mono ?_
          rintro e w1 ⟨rfl, hb⟩
          have HB1 := Lib.hid hb
          clear hb
          go_wp2_with fail
          refine (HFa.out _ HB1.out).mono ?_
          rintro e w2 ⟨rfl, hw⟩
          have HB2 : Hid (Below w.heap.size w w2) := hw ▸ HB1.out
          clear hw
          go_wp2_with fail
          refine (HFb.out _ HB2.out).mono ?_
          rintro e w3 ⟨rfl, hw⟩
          have HB3 : Hid (Below w.heap.size w w3) := hw ▸ HB2.out
          clear hw
          go_wp2_with fail
          refine (HFc.out _ HB3.out).mono ?_
          rintro e w4 ⟨rfl, hw⟩
          have HB4 : Hid (Below w.heap.size w w4) := hw ▸ HB3.out
          clear hw
          go_wp2_with fail
          refine (lock_join a b A A' ca cb _ (HLa.out.below HB4.out) (HLb.out.below HB4.out) HSa.out HSb.out (by have h1 := HNa.out; have h2 := HNb.out; omega)).mono ?_
          rintro e w5 ⟨A5, c5, ab, rfl, hj, hlj, hb⟩
          have hB := HB4.out.trans (hb.mono HB4.out.size)
          have HB5 := Lib.hid hB
          clear hb hB
          have hs9 := isJoin_small2 hj HSa.out HSb.out (by have h1 := HNa.out; have h2 := HNb.out; omega)
          have HSab := Lib.hid hs9.1
          have HNab : Hid (ab.length ≤ 80) := (by have h3 := hs9.2; have h1 := HNa.out; have h2 := HNb.out; show _ ≤ _; omega)
          have HJab := Lib.hid hj
          have HLab5 := Lib.hid hlj
          clear hs9 hlj hj
          go_wp2_with fail
          refine (lock_join b a A' A cb ca _ (HLb.out.below HB5.out) (HLa.out.below HB5.out) HSb.out HSa.out (by have h1 := HNb.out; have h2 := HNa.out; omega)).mono ?_
          rintro e w6 ⟨A6, c6, ba, rfl, hj, hlj, hb⟩
          have hB := HB5.out.trans (hb.mono HB5.out.size)
          have HB6 := Lib.hid hB
          have hl9 := HLab5.out.below hb
          clear HLab5
          have HLab6 := Lib.hid hl9
          clear hl9
          clear hb hB
          obtain rfl : ab = ba := HJab.out.comm.unique hj
          have HLba6 := Lib.hid hlj
          clear hlj hj
          go_wp2_with fail
          refine (ref_same ab A5 A6 c5 c6 _ HLab6.out HLba6.out (HSab.out.2)).mono ?_
          rintro e w7 ⟨rfl, hb⟩
          have hB := HB6.out.trans (hb.mono HB6.out.size)
          have HB7 := Lib.hid hB
          have hl9 := HLab6.out.below hb
          clear HLab6
          have HLab7 := Lib.hid hl9
          clear hl9
          have hl9 := HLba6.out.below hb
          clear HLba6
          have HLba7 := Lib.hid hl9
          clear hl9
          clear hb hB
          clear HLba7
          go_wp2_with fail
          refine (lock_join ab c A5 A'' c5 cc _ HLab7.out (HLc.out.below HB7.out) HSab.out HSc.out (by have h1 := HNab.out; have h2 := HNc.out; omega)).mono ?_
          rintro e w8 ⟨A8, c8, abc, rfl, hj, hlj, hb⟩
          have hB := HB7.out.trans (hb.mono HB7.out.size)
          have HB8 := Lib.hid hB
          have hl9 := HLab7.out.below hb
          clear HLab7
          have HLab8 := Lib.hid hl9
          clear hl9
          clear hb hB
          have hs9 := isJoin_small2 hj HSab.out HSc.out (by have h1 := HNab.out; have h2 := HNc.out; omega)
          have HSabc := Lib.hid hs9.1
          have HNabc : Hid (abc.length ≤ 120) := (by have h3 := hs9.2; have h1 := HNab.out; have h2 := HNc.out; show _ ≤ _; omega)
          have HJabc := Lib.hid hj
          have HLabc8 := Lib.hid hlj
          clear hs9 hlj hj
          go_wp2_with fail
          refine (lock_join b c A' A'' cb cc _ (HLb.out.below HB8.out) (HLc.out.below HB8.out) HSb.out HSc.out (by have h1 := HNb.out; have h2 := HNc.out; omega)).mono ?_
          rintro e w9 ⟨A9, c9, bc, rfl, hj, hlj, hb⟩
          have hB := HB8.out.trans (hb.mono HB8.out.size)
          have HB9 := Lib.hid hB
          have hl9 := HLab8.out.below hb
          clear HLab8
          have HLab9 := Lib.hid hl9
          clear hl9
          have hl9 := HLabc8.out.below hb
          clear HLabc8
          have HLabc9 := Lib.hid hl9
          clear hl9
          clear hb hB
          have hs9 := isJoin_small2 hj HSb.out HSc.out (by have h1 := HNb.out; have h2 := HNc.out; omega)
          have HSbc := Lib.hid hs9.1
          have HNbc : Hid (bc.length ≤ 80) := (by have h3 := hs9.2; have h1 := HNb.out; have h2 := HNc.out; show _ ≤ _; omega)
          have HJbc := Lib.hid hj
          have HLbc9 := Lib.hid hlj
          clear hs9 hlj hj
          go_wp2_with fail
          refine (lock_join a bc A A9 ca c9 _ (HLa.out.below HB9.out) HLbc9.out HSa.out HSbc.out (by have h1 := HNa.out; have h2 := HNbc.out; omega)).mono ?_
          rintro e w10 ⟨A10, c10, abc2, rfl, hj, hlj, hb⟩
          have hB := HB9.out.trans (hb.mono HB9.out.size)
          have HB10 := Lib.hid hB
          have hl9 := HLab9.out.below hb
          clear HLab9
          have HLab10 := Lib.hid hl9
          clear hl9
          have hl9 := HLabc9.out.below hb
          clear HLabc9
          have HLabc10 := Lib.hid hl9
          clear hl9
          have hl9 := HLbc9.out.below hb
          clear HLbc9
          have HLbc10 := Lib.hid hl9
          clear hl9
          clear hb hB
          obtain rfl : abc = abc2 := (HJab.out.assoc HJabc.out HJbc.out).unique hj
          have HLabc210 := Lib.hid hlj
          clear hlj hj
          go_wp2_with fail
          refine (ref_same abc A8 A10 c8 c10 _ HLabc10.out HLabc210.out (HSabc.out.2)).mono ?_
          rintro e w11 ⟨rfl, hb⟩
          have hB := HB10.out.trans (hb.mono HB10.out.size)
          have HB11 := Lib.hid hB
          have hl9 := HLab10.out.below hb
          clear HLab10
          have HLab11 := Lib.hid hl9
          clear hl9
          have hl9 := HLabc10.out.below hb
          clear HLabc10
          have HLabc11 := Lib.hid hl9
          clear hl9
          have hl9 := HLbc10.out.below hb
          clear HLbc10
          have HLbc11 := Lib.hid hl9
          clear hl9
          have hl9 := HLabc210.out.below hb
          clear HLabc210
          have HLabc211 := Lib.hid hl9
          clear hl9
          clear hb hB
          clear HLabc211 HLabc11 HLbc11
          go_wp2_with fail
          refine (lock_join ab b A5 A' c5 cb _ HLab11.out (HLb.out.below HB11.out) HSab.out HSb.out (by have h1 := HNab.out; have h2 := HNb.out; omega)).mono ?_
          rintro e w12 ⟨A12, c12, abb, rfl, hj, hlj, hb⟩
          have hB := HB11.out.trans (hb.mono HB11.out.size)
          have HB12 := Lib.hid hB
          have hl9 := HLab11.out.below hb
          clear HLab11
          have HLab12 := Lib.hid hl9
          clear hl9
          clear hb hB
          obtain rfl : ab = abb := HJab.out.again.unique hj
          have HLabb12 := Lib.hid hlj
          clear hlj hj
          go_wp2_with fail
          refine (ref_same ab A12 A5 c12 c5 _ HLabb12.out HLab12.out (HSab.out.2)).mono ?_
          rintro e w13 ⟨rfl, hb⟩
          have hB := HB12.out.trans (hb.mono HB12.out.size)
          have HB13 := Lib.hid hB
          have hl9 := HLab12.out.below hb
          clear HLab12
          have HLab13 := Lib.hid hl9
          clear hl9
          have hl9 := HLabb12.out.below hb
          clear HLabb12
          have HLabb13 := Lib.hid hl9
          clear hl9
          clear hb hB
          clear HLabb13
          go_wp2_with fail
          refine (lock_join ab [] A5 none c5 0 _ HLab13.out Lst.nil HSab.out small_nil (by have h1 := HNab.out; simp only [List.length_nil]; omega)).mono ?_
          rintro e w14 ⟨A14, c14, abn, rfl, hj, hlj, hb⟩
          have hB := HB13.out.trans (hb.mono HB13.out.size)
          have HB14 := Lib.hid hB
          have hl9 := HLab13.out.below hb
          clear HLab13
          have HLab14 := Lib.hid hl9
          clear hl9
          clear hb hB
          obtain rfl : ab = abn := HJab.out.nil.unique hj
          have HLabn14 := Lib.hid hlj
          clear hlj hj
          go_wp2_with fail
          refine (ref_same ab A14 A5 c14 c5 _ HLabn14.out HLab14.out (HSab.out.2)).mono ?_
          rintro e w15 ⟨rfl, hb⟩
          have hB := HB14.out.trans (hb.mono HB14.out.size)
          have HB15 := Lib.hid hB
          have hl9 := HLab14.out.below hb
          clear HLab14
          have HLab15 := Lib.hid hl9
          clear hl9
          have hl9 := HLabn14.out.below hb
          clear HLabn14
          have HLabn15 := Lib.hid hl9
          clear hl9
          clear hb hB
          clear HLabn15 HLab15
          go_wp2_with fail
          refine (lock_join a [] A none ca 0 _ (HLa.out.below HB15.out) Lst.nil HSa.out small_nil (by have h1 := HNa.out; simp only [List.length_nil]; omega)).mono ?_
          rintro e w16 ⟨A16, c16, own, rfl, hj, hlj, hb⟩
          have hB := HB15.out.trans (hb.mono HB15.out.size)
          have HB16 := Lib.hid hB
          clear hb hB
          have hs9 := isJoin_small2 hj HSa.out small_nil (by have h1 := HNa.out; simp only [List.length_nil]; omega)
          have HSown := Lib.hid hs9.1
          have HNown : Hid (own.length ≤ 40) := (by have h3 := hs9.2; have h1 := HNa.out; simp only [List.length_nil] at h3; show _ ≤ _; omega)
          have HJown := Lib.hid hj
          have HLown16 := Lib.hid hlj
          clear hs9 hlj hj
          go_wp2_with fail
          refine (law_turned a A ca again _ (HLa.out.below HB16.out) HNa.out hag0 hag1).mono ?_
          rintro e w17 ⟨A17, c17, rfl, hlj, hb⟩
          have hB := HB16.out.trans (hb.mono HB16.out.size)
          have HB17 := Lib.hid hB
          have hl9 := HLown16.out.below hb
          clear HLown16
          have HLown17 := Lib.hid hl9
          clear hl9
          clear hb hB
          have HLtn17 := Lib.hid hlj
          clear hlj
          have hp1 := lockedB_congr HJown.out.same ob.data.toList day
          have hp2 := hiddenB_congr HJown.out.same ob.data.toList day
          have hp3 := mayI_congr HJown.out.same 1 27 19 ob.data.toList person day
          have hso9 := HSown.out
          generalize hT : turnL a (again.toNat % a.length) = T at *
          have hst := turnL_small HSa.out HNa.out (again.toNat % a.length)
          rw [hT] at hst
          have hsm9 := turnL_same a again
          rw [hT] at hsm9
          have hq1 := lockedB_congr hsm9 ob.data.toList day
          have hq2 := hiddenB_congr hsm9 ob.data.toList day
          have hq3 := mayI_congr hsm9 1 27 19 ob.data.toList person day
          clear hT hsm9
          have cl := fun (W : World) (h : Below w.heap.size w W) => lock_locked a A ca ob day W (HLa.out.below h) HSa.out hobs
          have ch := fun (W : World) (h : Below w.heap.size w W) => lock_hidden a A ca ob day W (HLa.out.below h) HSa.out hobs
          have cm := fun (W : World) (h : Below w.heap.size w W) => lock_may a A ca ob person day W (HLa.out.below h) HSa.out hobs
          have ol := fun (W : World) (h : Lst aktV 4 W A16 own) => lock_locked own A16 c16 ob day W h hso9 hobs
          have oh := fun (W : World) (h : Lst aktV 4 W A16 own) => lock_hidden own A16 c16 ob day W h hso9 hobs
          have om := fun (W : World) (h : Lst aktV 4 W A16 own) => lock_may own A16 c16 ob person day W h hso9 hobs
          have tl := fun (W : World) (h : Lst aktV 4 W A17 T) => lock_locked T A17 c17 ob day W h hst hobs
          have th := fun (W : World) (h : Lst aktV 4 W A17 T) => lock_hidden T A17 c17 ob day W h hst hobs
          have tm := fun (W : World) (h : Lst aktV 4 W A17 T) => lock_may T A17 c17 ob person day W h hst hobs
          rw [hp1] at ol
          rw [hp2] at oh
          rw [hp3] at om
          rw [hq1] at tl
          rw [hq2] at th
          rw [hq3] at tm
          clear hp1 hp2 hp3 hq1 hq2 hq3 hst hso9
          generalize lockedB a ob.data.toList day = bL at *
          generalize hiddenB a ob.data.toList day = bH at *
          generalize mayI 1 27 19 a ob.data.toList person day = mM at *
          have CL := Lib.hid cl
          have CH := Lib.hid ch
          have CM := Lib.hid cm
          have OL := Lib.hid ol
          have OH := Lib.hid oh
          have OM := Lib.hid om
          have TL := Lib.hid tl
          have TH := Lib.hid th
          have TM := Lib.hid tm
          clear cl ch cm ol oh om tl th tm
          have m1 : (mM != mM) = false := by simp
          have m2 : (mM == mM) = true := by simp
          generalize T.length = nT at *
          generalize own.length = nO at *
          cases bL <;> cases bH <;>
          (go_wp2_with fail
           refine (CL.out _ HB17.out).mono ?_
           rintro e w18 ⟨rfl, hb⟩
           have hB := HB17.out.trans (hb.mono HB17.out.size)
           have HB18 := Lib.hid hB
           have hl9 := HLown17.out.below hb
           clear HLown17
           have HLown18 := Lib.hid hl9
           clear hl9
           have hl9 := HLtn17.out.below hb
           clear HLtn17
           have HLtn18 := Lib.hid hl9
           clear hl9
           clear hb hB
           go_wp2_with fail
           refine (CH.out _ HB18.out).mono ?_
           rintro e w19 ⟨rfl, hb⟩
           have hB := HB18.out.trans (hb.mono HB18.out.size)
           have HB19 := Lib.hid hB
           have hl9 := HLown18.out.below hb
           clear HLown18
           have HLown19 := Lib.hid hl9
           clear hl9
           have hl9 := HLtn18.out.below hb
           clear HLtn18
           have HLtn19 := Lib.hid hl9
           clear hl9
           clear hb hB
           go_wp2_with fail
           refine (CM.out _ HB19.out).mono ?_
           rintro e w20 ⟨rfl, hb⟩
           have hB := HB19.out.trans (hb.mono HB19.out.size)
           have HB20 := Lib.hid hB
           have hl9 := HLown19.out.below hb
           clear HLown19
           have HLown20 := Lib.hid hl9
           clear hl9
           have hl9 := HLtn19.out.below hb
           clear HLtn19
           have HLtn20 := Lib.hid hl9
           clear hl9
           clear hb hB
           go_wp2_with fail
           refine (OL.out _ HLown20.out).mono ?_
           rintro e w21 ⟨rfl, hb⟩
           have hB := HB20.out.trans (hb.mono HB20.out.size)
           have HB21 := Lib.hid hB
           have hl9 := HLown20.out.below hb
           clear HLown20
           have HLown21 := Lib.hid hl9
           clear hl9
           have hl9 := HLtn20.out.below hb
           clear HLtn20
           have HLtn21 := Lib.hid hl9
           clear hl9
           clear hb hB
           go_wp2_with fail
           refine (OH.out _ HLown21.out).mono ?_
           rintro e w22 ⟨rfl, hb⟩
           have hB := HB21.out.trans (hb.mono HB21.out.size)
           have HB22 := Lib.hid hB
           have hl9 := HLown21.out.below hb
           clear HLown21
           have HLown22 := Lib.hid hl9
           clear hl9
           have hl9 := HLtn21.out.below hb
           clear HLtn21
           have HLtn22 := Lib.hid hl9
           clear hl9
           clear hb hB
           go_wp2_with fail
           refine (OM.out _ HLown22.out).mono ?_
           rintro e w23 ⟨rfl, hb⟩
           have hB := HB22.out.trans (hb.mono HB22.out.size)
           have HB23 := Lib.hid hB
           have hl9 := HLown22.out.below hb
           clear HLown22
           have HLown23 := Lib.hid hl9
           clear hl9
           have hl9 := HLtn22.out.below hb
           clear HLtn22
           have HLtn23 := Lib.hid hl9
           clear hl9
           clear hb hB
           go_wp2_with fail
           refine (TL.out _ HLtn23.out).mono ?_
           rintro e w24 ⟨rfl, hb⟩
           have hB := HB23.out.trans (hb.mono HB23.out.size)
           have HB24 := Lib.hid hB
           have hl9 := HLown23.out.below hb
           clear HLown23
           have HLown24 := Lib.hid hl9
           clear hl9
           have hl9 := HLtn23.out.below hb
           clear HLtn23
           have HLtn24 := Lib.hid hl9
           clear hl9
           clear hb hB
           go_wp2_with fail
           refine (TH.out _ HLtn24.out).mono ?_
           rintro e w25 ⟨rfl, hb⟩
           have hB := HB24.out.trans (hb.mono HB24.out.size)
           have HB25 := Lib.hid hB
           have hl9 := HLown24.out.below hb
           clear HLown24
           have HLown25 := Lib.hid hl9
           clear hl9
           have hl9 := HLtn24.out.below hb
           clear HLtn24
           have HLtn25 := Lib.hid hl9
           clear hl9
           clear hb hB
           go_wp2_with fail
           refine (TM.out _ HLtn25.out).mono ?_
           rintro e w26 ⟨rfl, hb⟩
           have hB := HB25.out.trans (hb.mono HB25.out.size)
           have HB26 := Lib.hid hB
           have hl9 := HLown25.out.below hb
           clear HLown25
           have HLown26 := Lib.hid hl9
           clear hl9
           have hl9 := HLtn25.out.below hb
           clear HLtn25
           have HLtn26 := Lib.hid hl9
           clear hl9
           clear hb hB
           go_wp2_with fail
           go_ret
           exact ⟨rfl, HB26.out⟩)

end Go.Proofs.YtaojnjealccjiaaDoor
