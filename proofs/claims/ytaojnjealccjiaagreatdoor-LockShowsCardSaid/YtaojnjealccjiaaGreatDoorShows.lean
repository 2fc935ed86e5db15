/- LockShows: the walk. -/
import Derived.Test.YtaojnjealccjiaaGreatDoorSeen
namespace Go.Proofs.YtaojnjealccjiaaGreatDoor
open Go Go.RowKit Go.Proofs
set_option linter.unusedVariables false

/-- what is known of the figures that come in -/
def ShIn (w : World) (A : Option Addr) (rs : List Raw) (l : List Bg.ShownV) : Prop :=
  Lst Raw.cells 10 w A rs ∧ rs.length = l.length ∧ ∀ (j : Nat) (r : Raw) (x : Bg.ShownV), rs[j]? = some r → l[j]? = some x → IsShown maxLen w r x ∧ r.k.size ≤ maxLen
theorem big_three {M n : Nat} {w : World} {s : Int} {A : Option Addr} {b : Bg.BigV} (h : IsBig M w s A n b) (hn : n ≤ 3) : IsBig 3 w s A n b := ⟨h.1, h.2.1, hn, h.2.2.2⟩
theorem shs_few {w : World} {A : Option Addr} {rs : List Raw} {l : List Bg.ShownV} (h : ShIn w A rs l) (hf : fewRs rs = true) : Shs 3 w A rs l ∧ l.length ≤ 20 := by
  unfold fewRs at hf
  simp only [Bool.and_eq_true, decide_eq_true_eq] at hf
  obtain ⟨h1, h2, h3⟩ := h
  refine ⟨⟨h1, h2, fun j r x a b => ?_⟩, by omega⟩
  obtain ⟨i1, i2⟩ := h3 j r x a b
  have hr := List.all_eq_true.1 hf.2 r (List.mem_of_getElem? a)
  simp only [fewR, fewRaw, Bool.and_eq_true, decide_eq_true_eq] at hr
  exact ⟨⟨i1.1, i1.2.1, ⟨big_three i1.2.2.1.1 hr.2.1.1, big_three i1.2.2.1.2 hr.2.1.2⟩, ⟨big_three i1.2.2.2.1 hr.2.2.1, big_three i1.2.2.2.2 hr.2.2.2⟩⟩, by omega⟩
theorem seen_key (acts : List Kb.Akt) (d : Int) (l : List Bg.ShownV) (key : ByteArray) : (seenL acts d l).filter (fun x => decide (x.key = key)) = if Kb.hiddenB acts key.data.toList d then [] else l.filter fun x => decide (x.key = key) := by
  unfold seenL
  rw [List.filter_filter]
  cases hh : Kb.hiddenB acts key.data.toList d with
  | true =>
    simp only [if_true]
    rw [List.filter_eq_nil_iff]
    intro x _ hx
    simp only [Bool.and_eq_true, decide_eq_true_eq] at hx
    rw [hx.1, hh] at hx
    simp at hx
  | false =>
    simp only [Bool.false_eq_true, if_false]
    congr 1
    funext x
    by_cases e : x.key = key
    · simp [e, hh]
    · simp [e]
theorem seen_right {acts : List Kb.Akt} {d : Int} {l : List Bg.ShownV} (h : Bg.rightL oddK l = true) : Bg.rightL oddK (seenL acts d l) = true := Bg.rightL_filter oddK (fun k => !Kb.hiddenB acts k.data.toList d) h
theorem seen_len (acts : List Kb.Akt) (d e : Int) (he : d ≤ e) : ∀ l : List Bg.ShownV, (seenL acts d l).length ≤ (seenL acts e l).length
  | [] => Nat.le_refl _
  | x :: r => by
    have ih := seen_len acts d e he r
    unfold seenL at ih ⊢
    simp only [List.filter_cons]
    cases h1 : Kb.hiddenB acts x.key.data.toList d with
    | true => cases h2 : Kb.hiddenB acts x.key.data.toList e <;> simp <;> omega
    | false =>
      have h2 : Kb.hiddenB acts x.key.data.toList e = false := by
        cases h2 : Kb.hiddenB acts x.key.data.toList e with
        | false => rfl
        | true => rw [Kb.hidden_earlier he h2] at h1; cases h1
      simp [h2]
      exact ih
theorem seen_small (acts : List Kb.Akt) (d : Int) (l : List Bg.ShownV) : (seenL acts d l).length ≤ l.length := List.length_filter_le _ _

set_option maxRecDepth 100000 in
set_option maxHeartbeats 4000000 in
theorem walk_shows (rs : List Raw) (l : List Bg.ShownV) (A : Option Addr) (c : Nat) (acts : List Kb.Akt) (A0 : Option Addr) (c0 : Nat) (key : ByteArray) (day later : Int) (w : World) (h : ShIn w A rs l) (hlen : l.length ≤ maxLen) (hns : ∀ r ∈ rs, r.k.size ≤ maxLen) (ha : Lst aktV 4 w A0 acts) (hal : acts.length ≤ maxLen)
    (hks : key.size ≤ maxLen) (hd1 : -9223372036854775808 ≤ day) (hd2 : day ≤ 9223372036854775807) (hl1 : 0 ≤ later) (hl2 : later ≤ 255) :
    Calls Tryz.prog 3 #[.slice A l.length c, .slice A0 acts.length c0, .string key, .int .i64 day, .int .u8 later] w fun e w' => e = .returned (.bool true) ∧ Below w.heap.size w w' := by
  unfold maxLen at hks
  have hfl := fun (W : World) (hb : Below w.heap.size w W) => r43_few rs A c W (h.1.below hb) (by rw [h.2.1]; exact hlen) hns (fun r hr => by
    obtain ⟨j, hj, e⟩ := List.getElem_of_mem hr
    have hjl : j < l.length := by rw [← h.2.1]; exact hj
    have := (h.2.2 j r l[j] (by rw [List.getElem?_eq_getElem hj, e]) (List.getElem?_eq_getElem hjl)).1
    exact ⟨this.2.2.1.1.le, this.2.2.1.2.le, this.2.2.2.1.le, this.2.2.2.2.le⟩)
  rw [h.2.1] at hfl
  have hfa := fun (W : World) (hb : Below w.heap.size w W) => ref_few acts A0 c0 W (ha.below hb) hal
  have H := Lib.hid h
  have HA := Lib.hid ha
  cases hf1 : fewRs rs with
  | false =>
    rw [hf1] at hfl
    have HFl := Lib.hid hfl
    clear hfl hfa hf1 h ha hns hlen hal
    go_enter Tryz.func3, Tryz.ntmps3
    go_wp2_with fail
    refine (law_small _).mono ?_
    rintro e w1 ⟨rfl, hb⟩
    have HBw1 := Lib.hid hb
    clear hb
    go_wp2_with fail
    refine (HFl.out _ HBw1.out).mono ?_
    rintro e w2 ⟨rfl, hb⟩
    have HBw2 := Lib.hid (HBw1.out.trans (hb.mono HBw1.out.size))
    clear hb
    go_wp2_with fail
    go_ret
    exact ⟨rfl, HBw2.out⟩
  | true =>
   rw [hf1] at hfl
   have HFl := Lib.hid hfl
   cases hf2 : fewB acts with
   | false =>
    rw [hf2] at hfa
    have HFa := Lib.hid hfa
    clear hfl hfa hf1 hf2 h ha hns hlen hal
    go_enter Tryz.func3, Tryz.ntmps3
    go_wp2_with fail
    refine (law_small _).mono ?_
    rintro e w1 ⟨rfl, hb⟩
    have HBw1 := Lib.hid hb
    clear hb
    go_wp2_with fail
    refine (HFl.out _ HBw1.out).mono ?_
    rintro e w2 ⟨rfl, hb⟩
    have HBw2 := Lib.hid (HBw1.out.trans (hb.mono HBw1.out.size))
    clear hb
    go_wp2_with fail
    refine (HFa.out _ HBw2.out).mono ?_
    rintro e w3 ⟨rfl, hw⟩
    have HBw3 : Hid (Below w.heap.size w w3) := hw ▸ HBw2.out
    clear hw
    go_wp2_with fail
    go_ret
    exact ⟨rfl, HBw3.out⟩
   | true =>
    rw [hf2] at hfa
    have HFa := Lib.hid hfa
    obtain ⟨hsh, hll⟩ := shs_few h hf1
    have hsm := (few_small hf2).1
    have HS := Lib.hid hsh
    have HSm := Lib.hid hsm
    clear hfl hfa hf1 hf2 h ha hns hlen hal
    by_cases hk70 : 70 < key.size
    · clear hsh hsm
      go_enter Tryz.func3, Tryz.ntmps3
      go_wp2_with fail
      refine (law_small _).mono ?_
      rintro e w1 ⟨rfl, hb⟩
      have HBw1 := Lib.hid hb
      clear hb
      go_wp2_with fail
      refine (HFl.out _ HBw1.out).mono ?_
      rintro e w2 ⟨rfl, hb⟩
      have HBw2 := Lib.hid (HBw1.out.trans (hb.mono HBw1.out.size))
      clear hb
      go_wp2_with fail
      refine (HFa.out _ HBw2.out).mono ?_
      rintro e w3 ⟨rfl, hw⟩
      have HBw3 : Hid (Below w.heap.size w w3) := hw ▸ HBw2.out
      clear hw
      go_wp2_with fail
      go_ret
      exact ⟨rfl, HBw3.out⟩
    by_cases hdl : day < -1000
    · clear hsh hsm
      have hk71 : decide (70 < key.size) = false := by simpa using hk70
      go_enter Tryz.func3, Tryz.ntmps3
      go_wp2_with fail
      refine (law_small _).mono ?_
      rintro e w1 ⟨rfl, hb⟩
      have HBw1 := Lib.hid hb
      clear hb
      go_wp2_with fail
      refine (HFl.out _ HBw1.out).mono ?_
      rintro e w2 ⟨rfl, hb⟩
      have HBw2 := Lib.hid (HBw1.out.trans (hb.mono HBw1.out.size))
      clear hb
      go_wp2_with fail
      refine (HFa.out _ HBw2.out).mono ?_
      rintro e w3 ⟨rfl, hw⟩
      have HBw3 : Hid (Below w.heap.size w w3) := hw ▸ HBw2.out
      clear hw
      go_wp2_with fail
      go_ret
      exact ⟨rfl, HBw3.out⟩
    by_cases hdh : 100000 < day
    · clear hsh hsm
      have hk71 : decide (70 < key.size) = false := by simpa using hk70
      have hdl1 : decide (day < -1000) = false := by simpa using hdl
      go_enter Tryz.func3, Tryz.ntmps3
      go_wp2_with fail
      refine (law_small _).mono ?_
      rintro e w1 ⟨rfl, hb⟩
      have HBw1 := Lib.hid hb
      clear hb
      go_wp2_with fail
      refine (HFl.out _ HBw1.out).mono ?_
      rintro e w2 ⟨rfl, hb⟩
      have HBw2 := Lib.hid (HBw1.out.trans (hb.mono HBw1.out.size))
      clear hb
      go_wp2_with fail
      refine (HFa.out _ HBw2.out).mono ?_
      rintro e w3 ⟨rfl, hw⟩
      have HBw3 : Hid (Below w.heap.size w w3) := hw ▸ HBw2.out
      clear hw
      go_wp2_with fail
      go_ret
      exact ⟨rfl, HBw3.out⟩
    have hk71 : decide (70 < key.size) = false := by simpa using hk70
    have hdl1 : decide (day < -1000) = false := by simpa using hdl
    have hdh1 : decide (100000 < day) = false := by simpa using hdh
    have hri := fun (W : World) (hb : Below w.heap.size w W) => res_right rs l A c W (HS.out.below hb) (by omega) (by omega)
    cases hrl : Bg.rightL oddK l with
    | false =>
      rw [hrl] at hri
      have HRi := Lib.hid hri
      clear hri hrl hsh hsm
      go_enter Tryz.func3, Tryz.ntmps3
      go_wp2_with fail
      refine (law_small _).mono ?_
      rintro e w1 ⟨rfl, hb⟩
      have HBw1 := Lib.hid hb
      clear hb
      go_wp2_with fail
      refine (HFl.out _ HBw1.out).mono ?_
      rintro e w2 ⟨rfl, hb⟩
      have HBw2 := Lib.hid (HBw1.out.trans (hb.mono HBw1.out.size))
      clear hb
      go_wp2_with fail
      refine (HFa.out _ HBw2.out).mono ?_
      rintro e w3 ⟨rfl, hw⟩
      have HBw3 : Hid (Below w.heap.size w w3) := hw ▸ HBw2.out
      clear hw
      go_wp2_with fail
      refine (HRi.out _ HBw3.out).mono ?_
      rintro e w4 ⟨rfl, hb⟩
      have HBw4 := Lib.hid (HBw3.out.trans (hb.mono HBw3.out.size))
      clear hb
      go_wp2_with fail
      go_ret
      exact ⟨rfl, HBw4.out⟩
    | true =>
      rw [hrl] at hri
      have HRi := Lib.hid hri
      have HRL := Lib.hid hrl
      clear hri hrl hsh hsm
      go_enter Tryz.func3, Tryz.ntmps3
      go_wp2_with fail
      refine (law_small _).mono ?_
      rintro e w1 ⟨rfl, hb⟩
      have HBw1 := Lib.hid hb
      clear hb
      go_wp2_with fail
      refine (HFl.out _ HBw1.out).mono ?_
      rintro e w2 ⟨rfl, hb⟩
      have HBw2 := Lib.hid (HBw1.out.trans (hb.mono HBw1.out.size))
      clear hb
      go_wp2_with fail
      refine (HFa.out _ HBw2.out).mono ?_
      rintro e w3 ⟨rfl, hw⟩
      have HBw3 : Hid (Below w.heap.size w w3) := hw ▸ HBw2.out
      clear hw
      go_wp2_with fail
      refine (HRi.out _ HBw3.out).mono ?_
      rintro e w4 ⟨rfl, hb⟩
      have HBw4 := Lib.hid (HBw3.out.trans (hb.mono HBw3.out.size))
      clear hb
      have HRa := Lib.hid (seen_right (acts := acts) (d := day) HRL.out)
      have HRb := Lib.hid (seen_right (acts := acts) (d := day + later) HRL.out)
      have hka := seen_key acts day l key
      have hkb := seen_key acts (day + later) l key
      generalize hkx : (if Kb.hiddenB acts key.data.toList day then [] else l.filter fun x => decide (x.key = key)) = kx at hka
      generalize hky : (if Kb.hiddenB acts key.data.toList (day + later) then [] else l.filter fun x => decide (x.key = key)) = ky at hkb
      have HKX := Lib.hid hkx
      have HKY := Lib.hid hky
      have HKa := Lib.hid hka
      have HKb := Lib.hid hkb
      clear hkx hky hka hkb
      have hab := seen_len acts day (day + later) (by omega) l
      have hsma := seen_small acts day l
      have hsmb := seen_small acts (day + later) l
      have HSa := Lib.hid (law_seen acts A0 c0 rs l A c day w4 (HA.out.below HBw4.out) HSm.out (HS.out.below HBw4.out) (by omega))
      have HSb := Lib.hid fun (W : World) (hb : Below w.heap.size w W) => law_seen acts A0 c0 rs l A c (day + later) W (HA.out.below hb) HSm.out (HS.out.below hb) (by omega)
      generalize seenL acts day l = la at HRa HKa hab hsma HSa
      generalize seenL acts (day + later) l = lb at HRb HKb hab hsmb HSb
      have hab1 : decide ((lb.length : Int) < (la.length : Int)) = false := by simpa using hab
      go_wp2_with fail
      refine HSa.out.mono ?_
      rintro e w5 ⟨Aa, ca, ra, rfl, hsa, hb⟩
      have HBw5 := Lib.hid (HBw4.out.trans (hb.mono HBw4.out.size))
      have HXa := Lib.hid hsa
      have hwl : IntKind.i64.wrap (day + later) = day + later := IntWalk.i64_in _ (by omega)
      clear hb hsa HSa
      go_wp2_with fail
      refine (HSb.out _ HBw5.out).mono ?_
      rintro e w6 ⟨Ab, cb, rb, rfl, hsb, hb⟩
      have HBw6 := Lib.hid (HBw5.out.trans (hb.mono HBw5.out.size))
      have HX6 := Lib.hid (HXa.out.below hb)
      have HXb := Lib.hid hsb
      clear hb hsb HSb hwl HXa
      have HQ1 := Lib.hid (res_right ra la Aa ca w6 HX6.out (by omega) (by omega))
      rw [HRa.out] at HQ1
      go_wp2_with fail
      refine HQ1.out.mono ?_
      rintro e w7 ⟨rfl, hb⟩
      have HBw7 := Lib.hid (HBw6.out.trans (hb.mono HBw6.out.size))
      have HX7 := Lib.hid (HX6.out.below hb)
      have HY7 := Lib.hid (HXb.out.below hb)
      clear hb HX6 HXb HQ1
      have HQ2 := Lib.hid (res_right rb lb Ab cb w7 HY7.out (by omega) (by omega))
      rw [HRb.out] at HQ2
      go_wp2_with fail
      refine HQ2.out.mono ?_
      rintro e w8 ⟨rfl, hb⟩
      have HBw8 := Lib.hid (HBw7.out.trans (hb.mono HBw7.out.size))
      have HX8 := Lib.hid (HX7.out.below hb)
      have HY8 := Lib.hid (HY7.out.below hb)
      clear hb HX7 HY7 HQ2
      have HQ3 := Lib.hid (res_all rs l A c key w8 (HS.out.below HBw8.out) HRL.out (by omega) (by omega))
      go_wp2_with fail
      refine HQ3.out.mono ?_
      rintro e w9 ⟨A3, c3, r3, rfl, h3, hb⟩
      have HBw9 := Lib.hid (HBw8.out.trans (hb.mono HBw8.out.size))
      have HX9 := Lib.hid (HX8.out.below hb)
      have HY9 := Lib.hid (HY8.out.below hb)
      have HZ9 := Lib.hid h3
      clear hb HX8 HY8 HQ3 h3
      have HQ4 := Lib.hid (res_all ra la Aa ca key w9 HX9.out HRa.out (by omega) (by omega))
      rw [HKa.out] at HQ4
      go_wp2_with fail
      refine HQ4.out.mono ?_
      rintro e w10 ⟨A4, c4, r4, rfl, h4, hb⟩
      have HBw10 := Lib.hid (HBw9.out.trans (hb.mono HBw9.out.size))
      have HX10 := Lib.hid h4
      have HY10 := Lib.hid (HY9.out.below hb)
      have HZ10 := Lib.hid (HZ9.out.below hb)
      clear hb HX9 HY9 HZ9 HQ4 h4
      have HQ5 := Lib.hid (res_all rb lb Ab cb key w10 HY10.out HRb.out (by omega) (by omega))
      rw [HKb.out] at HQ5
      go_wp2_with fail
      refine HQ5.out.mono ?_
      rintro e w11 ⟨A5, c5, r5, rfl, h5, hb⟩
      have HBw11 := Lib.hid (HBw10.out.trans (hb.mono HBw10.out.size))
      have HX11 := Lib.hid (HX10.out.below hb)
      have HY11 := Lib.hid h5
      have HZ11 := Lib.hid (HZ10.out.below hb)
      clear hb HX10 HY10 HZ10 HQ5 h5 HKa HKb
      have hlk : (l.filter fun x => decide (x.key = key)).length ≤ l.length := List.length_filter_le _ _
      have HQ6 := Lib.hid (lock_hidden acts A0 c0 key day w11 (HA.out.below HBw11.out) HSm.out (by omega))
      have hear := fun h => Kb.hidden_earlier (acts := acts) (name := key.data.toList) (day := day + later) (e := day) (by omega) h
      generalize l.filter (fun x => decide (x.key = key)) = lk at HKX HKY HZ11 hlk ⊢
      generalize Kb.hiddenB acts key.data.toList day = b1 at HKX HQ6 hear ⊢
      generalize Kb.hiddenB acts key.data.toList (day + later) = b2 at HKY hear ⊢
      have HE := Lib.hid hear
      clear hear
      go_wp2_with fail
      refine HQ6.out.mono ?_
      rintro e w12 ⟨rfl, hb⟩
      have HBw12 := Lib.hid (HBw11.out.trans (hb.mono HBw11.out.size))
      have HX12 := Lib.hid (HX11.out.below hb)
      have HY12 := Lib.hid (HY11.out.below hb)
      have HZ12 := Lib.hid (HZ11.out.below hb)
      clear hb HX11 HY11 HZ11 HQ6
      cases b1 with
      | true =>
        obtain rfl : kx = [] := by have := HKX.out; simpa using this.symm
        simp only [List.length_nil] at HX12 ⊢
        cases b2 with
        | true =>
          obtain rfl : ky = [] := by have := HKY.out; simpa using this.symm
          simp only [List.length_nil] at HY12 ⊢
          go_wp2_with fail
          go_ret
          exact ⟨rfl, HBw12.out⟩
        | false =>
          obtain rfl : ky = lk := by have := HKY.out; simpa using this.symm
          clear HKX HKY
          by_cases h0 : ky.length = 0
          · simp only [h0]
            go_wp2_with fail
            go_ret
            exact ⟨rfl, HBw12.out⟩
          · have h01 : ((ky.length : Int) == 0) = false := by simpa using h0
            have HQ7 := Lib.hid (r43_same r5 r3 ky A5 A3 c5 c3 w12 HY12.out HZ12.out (by omega) (by omega))
            go_wp2_with fail
            refine HQ7.out.mono ?_
            rintro e w13 ⟨rfl, hb⟩
            have HBw13 := Lib.hid (HBw12.out.trans (hb.mono HBw12.out.size))
            clear hb HQ7
            go_wp2_with fail
            go_ret
            exact ⟨rfl, HBw13.out⟩
      | false =>
        have hb2 : b2 = false := by
          cases b2 with
          | false => rfl
          | true => exact (HE.out rfl).symm
        subst hb2
        obtain rfl : kx = lk := by have := HKX.out; simpa using this.symm
        obtain rfl : ky = kx := by have := HKY.out; simpa using this.symm
        clear HKX HKY
        have HQ7 := Lib.hid (r43_same r4 r3 ky A4 A3 c4 c3 w12 HX12.out HZ12.out (by omega) (by omega))
        go_wp2_with fail
        refine HQ7.out.mono ?_
        rintro e w13 ⟨rfl, hb⟩
        have HBw13 := Lib.hid (HBw12.out.trans (hb.mono HBw12.out.size))
        have HY13 := Lib.hid (HY12.out.below hb)
        have HZ13 := Lib.hid (HZ12.out.below hb)
        clear hb HQ7 HX12 HY12 HZ12
        have HQ8 := Lib.hid (r43_same r5 r3 ky A5 A3 c5 c3 w13 HY13.out HZ13.out (by omega) (by omega))
        go_wp2_with fail
        refine HQ8.out.mono ?_
        rintro e w14 ⟨rfl, hb⟩
        have HBw14 := Lib.hid (HBw13.out.trans (hb.mono HBw13.out.size))
        clear hb HQ8
        go_wp2_with fail
        go_ret
        exact ⟨rfl, HBw14.out⟩
end Go.Proofs.YtaojnjealccjiaaGreatDoor
