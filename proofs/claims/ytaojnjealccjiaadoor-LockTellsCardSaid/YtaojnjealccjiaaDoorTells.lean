/- The walk of LockTells. -/
import Derived.Test.YtaojnjealccjiaaDoorRefJoin
namespace Go.Proofs.YtaojnjealccjiaaDoor
open Go Go.RowKit Kb Go.Lib
set_option linter.unusedVariables false

set_option maxHeartbeats 8000000 in
set_option maxRecDepth 100000 in
theorem walk_tells (a b : List Akt) (A A' : Option Addr) (c c' : Nat) (ob : ByteArray) (person day : Int) (w : World) (hl : Lst aktV 4 w A a) (hbig : a.length ≤ maxLen) (hl' : Lst aktV 4 w A' b) (hbig' : b.length ≤ maxLen)
    (hob : ob.size ≤ maxLen) :
    Calls Tryd.prog 3 #[.slice A a.length c, .slice A' b.length c', .string ob, .int .i64 person, .int .i64 day] w fun e w' => e = .returned (.bool true) ∧ Below w.heap.size w w' := by
  have hfa := fun (W : World) (h : Below w.heap.size w W) => ref_few a A c W (hl.below h) hbig
  have hfb := fun (W : World) (h : Below w.heap.size w W) => ref_few b A' c' W (hl'.below h) hbig'
  unfold maxLen at hob hbig hbig'
  cases ha : fewB a with
  | false =>
    rw [ha] at hfa
    have HFa := Lib.hid hfa
    clear hfa hfb ha
    generalize a.length = na at *
    generalize b.length = nb at *
    go_enter Tryd.func3, Tryd.ntmps3
    go_wp2_with fail
    refine (law_small _).mono ?_
    rintro e w1 ⟨rfl, hb⟩
    have HB1 := Lib.hid hb
    clear hb
    go_wp2_with fail
    refine (HFa.out _ HB1.out).mono ?_
    rintro e w2 ⟨rfl, hw⟩
    have HB2 : Hid (Below w.heap.size w w2) := hw ▸ HB1.out
    clear hw HB1
    go_wp2_with fail
    go_ret
    exact ⟨rfl, HB2.out⟩
  | true =>
    obtain ⟨hsa, ha40⟩ := few_small ha
    rw [ha] at hfa
    have HFa := Lib.hid hfa
    clear hfa
    cases hb : fewB b with
    | false =>
      rw [hb] at hfb
      have HFb := Lib.hid hfb
      clear hfb hb ha
      generalize a.length = na at *
      generalize b.length = nb at *
      go_enter Tryd.func3, Tryd.ntmps3
      go_wp2_with fail
      refine (law_small _).mono ?_
      rintro e w1 ⟨rfl, hb⟩
      have HB1 := Lib.hid hb
      clear hb
      go_wp2_with fail
      refine (HFa.out _ HB1.out).mono ?_
      rintro e w2 ⟨rfl, hw⟩
      have HB2 : Hid (Below w.heap.size w w2) := hw ▸ HB1.out
      clear hw HB1
      go_wp2_with fail
      refine (HFb.out _ HB2.out).mono ?_
      rintro e w3 ⟨rfl, hw⟩
      have HB3 : Hid (Below w.heap.size w w3) := hw ▸ HB2.out
      clear hw HB2
      go_wp2_with fail
      go_ret
      exact ⟨rfl, HB3.out⟩
    | true =>
      obtain ⟨hsb, hb40⟩ := few_small hb
      rw [hb] at hfb
      have HFb := Lib.hid hfb
      clear hfb hb ha
      by_cases h100 : 100 < ob.size
      · generalize a.length = na at *
        generalize b.length = nb at *
        go_enter Tryd.func3, Tryd.ntmps3
        go_wp2_with fail
        refine (law_small _).mono ?_
        rintro e w1 ⟨rfl, hb⟩
        have HB1 := Lib.hid hb
        clear hb
        go_wp2_with fail
        refine (HFa.out _ HB1.out).mono ?_
        rintro e w2 ⟨rfl, hw⟩
        have HB2 : Hid (Below w.heap.size w w2) := hw ▸ HB1.out
        clear hw HB1
        go_wp2_with fail
        refine (HFb.out _ HB2.out).mono ?_
        rintro e w3 ⟨rfl, hw⟩
        have HB3 : Hid (Below w.heap.size w w3) := hw ▸ HB2.out
        clear hw HB2
        go_wp2_with fail
        go_ret
        exact ⟨rfl, HB3.out⟩
      · have hobs : ob.size < 4294967281 := by omega
        have h1 := fun (W : World) (h : Below w.heap.size w W) => lock_locked a A c ob day W (hl.below h) hsa hobs
        have h2 := fun (W : World) (h : Below w.heap.size w W) => ref_locked a A c ob day W (hl.below h) hsa hobs
        have h3 := fun (W : World) (h : Below w.heap.size w W) => lock_hidden a A c ob day W (hl.below h) hsa hobs
        have h4 := fun (W : World) (h : Below w.heap.size w W) => ref_hidden a A c ob day W (hl.below h) hsa hobs
        have h5 := fun (W : World) (h : Below w.heap.size w W) => lock_may a A c ob person day W (hl.below h) hsa hobs
        have h6 := fun (W : World) (h : Below w.heap.size w W) => ref_may a A c ob person day W (hl.below h) hsa hobs
        generalize lockedB a ob.data.toList day = lk at h1 h2
        generalize hiddenB a ob.data.toList day = hd at h3 h4
        generalize mayI 1 27 19 a ob.data.toList person day = my at h5 h6
        have HL1 := Lib.hid h1
        have HL2 := Lib.hid h2
        have HH1 := Lib.hid h3
        have HH2 := Lib.hid h4
        have HM1 := Lib.hid h5
        have HM2 := Lib.hid h6
        have HLa := Lib.hid hl
        have HLb := Lib.hid hl'
        have HSa := Lib.hid hsa
        have HSb := Lib.hid hsb
        have HNa := Lib.hid ha40
        have HNb := Lib.hid hb40
        clear h1 h2 h3 h4 h5 h6 hl hl' hsa hsb
        go_enter Tryd.func3, Tryd.ntmps3
        go_wp2_with fail
        refine (law_small _).mono ?_
        rintro e w1 ⟨rfl, hb⟩
        have HB1 := Lib.hid hb
        clear hb
        go_wp2_with fail
        refine (HFa.out _ HB1.out).mono ?_
        rintro e w2 ⟨rfl, hw⟩
        have HB2 : Hid (Below w.heap.size w w2) := hw ▸ HB1.out
        clear hw HB1
        go_wp2_with fail
        refine (HFb.out _ HB2.out).mono ?_
        rintro e w3 ⟨rfl, hw⟩
        have HB3 : Hid (Below w.heap.size w w3) := hw ▸ HB2.out
        clear hw HB2
        go_wp2_with fail
        refine (lock_join a b A A' c c' _ (HLa.out.below HB3.out) (HLb.out.below HB3.out) HSa.out HSb.out (by have h1 := HNa.out; have h2 := HNb.out; omega)).mono ?_
        rintro e w4 ⟨A5, c5, j, rfl, hj, hlj, hb⟩
        have HB4 := Lib.hid (HB3.out.trans (hb.mono HB3.out.size))
        clear hb HB3
        have HJ := Lib.hid hj
        have HLj := Lib.hid hlj
        clear hj hlj
        go_wp2_with fail
        refine (ref_join a b A A' c c' _ (HLa.out.below HB4.out) (HLb.out.below HB4.out) HSa.out HSb.out HNa.out HNb.out).mono ?_
        rintro e w5 ⟨A6, c6, rfl, hlr, hb⟩
        have hrj : putAll (putAll [] a) b = j := IsJoin.unique (putAll_isJoin a b) HJ.out
        rw [hrj] at hlr ⊢
        have HLj5 := Lib.hid (HLj.out.below hb)
        have HLr5 := Lib.hid hlr
        have HB5 := Lib.hid (HB4.out.trans (hb.mono HB4.out.size))
        have hjl : j.length ≤ 80 := (isJoin_small HJ.out HSa.out HSb.out HNa.out HNb.out).2
        have HJl := Lib.hid hjl
        clear hb HB4 HLj hlr hrj hjl
        go_wp2_with fail
        refine (ref_same j A5 A6 c5 c6 _ HLj5.out HLr5.out (by have := HJl.out; unfold maxLen; omega)).mono ?_
        rintro e w6 ⟨rfl, hb⟩
        have HB6 := Lib.hid (HB5.out.trans (hb.mono HB5.out.size))
        clear hb HB5
        go_wp2_with fail
        refine (HL1.out _ HB6.out).mono ?_
        rintro e w7 ⟨rfl, hb⟩
        have HB7 := Lib.hid (HB6.out.trans (hb.mono HB6.out.size))
        clear hb HB6
        go_wp2_with fail
        refine (HL2.out _ HB7.out).mono ?_
        rintro e w8 ⟨rfl, hb⟩
        have HB8 := Lib.hid (HB7.out.trans (hb.mono HB7.out.size))
        clear hb HB7
        go_wp2_with fail
        refine (HH1.out _ HB8.out).mono ?_
        rintro e w9 ⟨rfl, hb⟩
        have HB9 := Lib.hid (HB8.out.trans (hb.mono HB8.out.size))
        clear hb HB8
        go_wp2_with fail
        refine (HH2.out _ HB9.out).mono ?_
        rintro e w10 ⟨rfl, hb⟩
        have HB10 := Lib.hid (HB9.out.trans (hb.mono HB9.out.size))
        clear hb HB9
        go_wp2_with fail
        go_loopw [12] (fun s12 wr => ∃ k : Nat, k ≤ a.length ∧ s12 = .int .i64 k ∧ Hid (Below w.heap.size w wr)) (fun s12 _ => a.length - (intOf s12).toNat)
        case atStart => exact ⟨0, Nat.zero_le _, rfl, HB10⟩
        case round =>
          obtain ⟨k, hk, rfl, HB⟩ := hrel
          clear HB10
          by_cases hlt : k < a.length
          · obtain ⟨b_, off, rfl, hbl, h4⟩ := at4_of HLa.out hlt
            have hall : ∀ W, Below wr.heap.size wr W → At4 W b_ (off + k * 4) a[k] := fun W h => h4.below (HB.out.trans (h.mono HB.out.size)) hbl
            have hso := HSa.out.1 a[k] (List.getElem_mem hlt)
            generalize a[k] = x at hall hso
            clear h4
            obtain ⟨xk, xp, xd, xo⟩ := x
            simp only at hso
            have hr1 := fun W => lock_right xk xp xd xo W hso
            have hr2 := fun W => ref_right xk xp xd xo W hso
            generalize rightB ⟨xk, xp, xd, xo⟩ = ri at hr1 hr2
            have HR1 := Lib.hid hr1
            have HR2 := Lib.hid hr2
            have HAll := Lib.hid hall
            obtain ⟨c0, c1, c2, c3⟩ := hall _ (Below.refl _ _)
            simp only at c0 c1 c2 c3
            clear hr1 hr2 hall
            have j1 : (k : Int) < (a.length : Int) := by omega
            have j3 : (0 : Int) ≤ (k : Int) := by omega
            generalize a.length = na at *
            go_wp2_with fail
            go_region_held3 (fun w' => w'.cell? ⟨b_, off + k * 4, none⟩ = some (.int .i64 xk) ∧ w'.cell? ⟨b_, off + k * 4 + 1, none⟩ = some (.int .i64 xp) ∧ w'.cell? ⟨b_, off + k * 4 + 2, none⟩ = some (.int .i64 xd) ∧ w'.cell? ⟨b_, off + k * 4 + 3, none⟩ = some (.string xo)) (go_keep)
              (first
               | (go_at_call 18; refine (HR1.out _).mono ?_; rintro e wa ⟨rfl, hba⟩; (first | (have HBa : Hid (Below wr.heap.size wr wa) := HBb.out.trans (hba.mono HBb.out.size)) | (have HBa : Hid (Below wr.heap.size wr wa) := ((Below.refl _ wr).drew).trans (hba.mono (by simp)))); clear hba; obtain ⟨ca0, ca1, ca2, ca3⟩ := HAll.out _ HBa.out)
               | (go_at_call 19; refine (HR2.out _).mono ?_; rintro e wb ⟨rfl, hbb⟩; (first | (have HBb : Hid (Below wr.heap.size wr wb) := HBa.out.trans (hbb.mono HBa.out.size)) | (have HBb : Hid (Below wr.heap.size wr wb) := ((Below.refl _ wr).drew).trans (hbb.mono (by simp)))); clear hbb; obtain ⟨cb0, cb1, cb2, cb3⟩ := HAll.out _ HBb.out))
            all_goals
              (go_wp2_with fail
               go_roundw
               case rel => exact ⟨k + 1, by omega, by go_num, Lib.hid (by first | exact HB.out.trans (HBb.out.mono HB.out.size) | exact HB.out.trans (HBa.out.mono HB.out.size))⟩
               case measure => simp [intOf]; omega)
          · obtain rfl : k = a.length := by omega
            have j1 : ¬ (a.length : Int) < (a.length : Int) := by omega
            generalize a.length = na at *
            go_wp2_with fail
            refine (HM1.out _ HB.out).mono ?_
            rintro e w11 ⟨rfl, hb⟩
            have HB11 := Lib.hid (HB.out.trans (hb.mono HB.out.size))
            clear hb HB
            go_wp2_with fail
            refine (HM2.out _ HB11.out).mono ?_
            rintro e w12 ⟨rfl, hb⟩
            have HB12 := Lib.hid (HB11.out.trans (hb.mono HB11.out.size))
            clear hb HB11
            go_wp2_with fail
            go_ret
            exact ⟨rfl, HB12.out⟩

end Go.Proofs.YtaojnjealccjiaaDoor
