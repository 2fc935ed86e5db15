/- The contracts of gossip.houses and Forks. -/
import Derived.Test.YtaojnjealccjiaaGreatDoorNPast
import Derived.Test.YtaojnjealccjiaaGreatDoorNHouseP
namespace Go.Proofs.YtaojnjealccjiaaGreatDoor
open Go Go.RowKit Nt Go.Proofs Go.Lib
set_option linter.unusedVariables false
set_option linter.unusedSimpArgs false

/-- what is known of a house, in memory -/
structure HouseT where
  number : Int
  rs : List NoteR
  A : Option Addr
  c : Nat
  forked : Bool
  taken : Nat
def HouseT.cells (h : HouseT) : List Value := [.int .i64 h.number, .slice h.A h.rs.length h.c, .bool h.forked, .int .i64 (h.taken : Int)]
def houseD : Dat HouseT where
  cells := HouseT.cells
  k := 4
  len _ := rfl
  one r v hv := by simp [HouseT.cells] at hv; rcases hv with rfl | rfl | rfl | rfl <;> rfl
  ok w S h := Sl noteD w S h.A h.rs
  keep h k := h.keep k
  mono h k := h.mono k
def HouseT.s (h : HouseT) : HouseS := ⟨h.number, h.rs.map NoteR.v, h.forked⟩
theorem Tryz.infoHouse : (Tryz.prog.info? 79).map (fun i => (i.zero, i.size, i.bytes)) = some (some (.agg #[.int .i64 0, .slice none 0 0, .bool false, .int .i64 0]), 4, 48) := by kernel_rfl
def slLen : Value → Nat
  | .slice _ n _ => n
  | _ => 0
/-- houses came back: those of the joined list -/
def HousesPost (l : List NoteV) (w : World) (e : Ending) (w' : World) : Prop :=
  ∃ A c hs ys, e = .returned (.slice A hs.length c) ∧ OwnS houseD 79 w.heap.size w' Any1 (.slice A hs.length c) hs ∧ IsJoin l ys ∧ IsHouses ys (hs.map HouseT.s) ∧ (∀ h ∈ hs, h.taken = 0 ∧ ∀ r ∈ h.rs, rightN r.v = true) ∧ hs.length ≤ l.length ∧ Below w.heap.size w w'
theorem own_base {α : Type} {D : Dat α} {T B B' : Nat} {w : World} {S : Nat → Prop} {v : Value} {xs : List α} (h : OwnS D T B w S v xs) (hB : B' ≤ B) : OwnS D T B' w S v xs := by
  refine ⟨⟨h.1.1, ?_⟩, h.2⟩
  rcases h.1.2 with q | ⟨g, cap, cur, e, hb, rest⟩
  · exact .inl q
  · exact .inr ⟨g, cap, cur, e, Nat.le_trans hB hb, rest⟩
/-- what the loop keeps: the houses of the first m notes -/
def HAt (js : List NoteR) (w1 wr : World) (m : Nat) (t : Value) (hs : List HouseT) : Prop :=
  OwnS houseD 79 w1.heap.size wr Any1 t hs ∧ IsHouses ((js.map NoteR.v).take m) (hs.map HouseT.s) ∧ Bnd (js.map NoteR.v) m ∧ (∀ h ∈ hs, h.taken = 0 ∧ ∀ r ∈ h.rs, rightN r.v = true) ∧ hs.length ≤ m ∧ Below w1.heap.size w1 wr
/-- one group more -/
theorem group_step {js : List NoteR} (hsrt : (js.map NoteR.v).Pairwise ltN) (hrt : ∀ r ∈ js, rightN r.v = true) {m n : Nat} {hs : List HouseT} (h1 : IsHouses ((js.map NoteR.v).take m) (hs.map HouseT.s)) (h2 : Bnd (js.map NoteR.v) m) (h3 : ∀ h ∈ hs, h.taken = 0 ∧ ∀ r ∈ h.rs, rightN r.v = true) (h4 : hs.length ≤ m)
    (x : NoteR) (A : Option Addr) (c pl : Nat) (fk : Bool) (hn1 : 1 ≤ n) (hnr : n ≤ (js.drop m).length) (hg : ∀ i z, i < n → (js.drop m)[i]? = some z → z.v.house = x.v.house) (hnx : ∀ z, (js.drop m)[n]? = some z → z.v.house ≠ x.v.house)
    (hpl : (past (((js.drop m).take n).map NoteR.v)).length = pl) (hfk : fkB (((js.drop m).take n).map NoteR.v) n = fk) (hln : ((js.drop m).take n).length = n) :
    (IsHouses ((js.map NoteR.v).take (m + n)) ((hs ++ [(⟨x.v.house, ((js.drop m).take n).take pl, A, c, fk, 0⟩ : HouseT)]).map HouseT.s) ∧ Bnd (js.map NoteR.v) (m + n)) ∧ (∀ h ∈ hs ++ [(⟨x.v.house, ((js.drop m).take n).take pl, A, c, fk, 0⟩ : HouseT)], h.taken = 0 ∧ ∀ r ∈ h.rs, rightN r.v = true) ∧ (hs ++ [(⟨x.v.house, ((js.drop m).take n).take pl, A, c, fk, 0⟩ : HouseT)]).length ≤ m + n := by
  rw [List.length_drop] at hnr
  have hgrp : ((js.drop m).take n).map NoteR.v = ((js.map NoteR.v).drop m).take n := by rw [List.map_take, List.map_drop]
  refine ⟨?_, fun h hh => ?_, by simp; omega⟩
  · rw [List.map_append]
    refine houses_step hsrt h1 h2 hn1 (by simp; omega) (hh := x.v.house) (fun i z hi hz => ?_) (fun z hz => ?_) rfl ?_ ?_
    · rw [List.getElem?_map] at hz
      cases hq : js[m + i]? with
      | none => rw [hq] at hz; cases hz
      | some y =>
        rw [hq] at hz
        cases hz
        exact hg i y hi (by rw [List.getElem?_drop]; exact hq)
    · rw [List.getElem?_map] at hz
      cases hq : js[m + n]? with
      | none => rw [hq] at hz; cases hz
      | some y =>
        rw [hq] at hz
        cases hz
        exact hnx y (by rw [List.getElem?_drop]; exact hq)
    · show (((js.drop m).take n).take pl).map NoteR.v = _
      rw [List.map_take, hgrp, ← hpl, hgrp, past_take]
    · show fk = true ↔ _
      rw [← hfk, hgrp]
      have : n = (((js.map NoteR.v).drop m).take n).length := by rw [← hgrp, List.length_map, hln]
      conv => lhs; rw [this]
      rw [show (((js.map NoteR.v).drop m).take (((js.map NoteR.v).drop m).take n).length) = ((js.map NoteR.v).drop m).take n by rw [← this]]
      exact fk_iff
  · rcases List.mem_append.1 hh with hh | hh
    · exact h3 h hh
    · rw [List.mem_singleton.1 hh]
      exact ⟨rfl, fun r hr => hrt r (List.mem_of_mem_drop (List.mem_of_mem_take (List.mem_of_mem_take hr)))⟩
set_option maxRecDepth 100000 in
set_option maxHeartbeats 8000000 in
theorem gossip_houses (l : List NoteR) (A : Option Addr) (c : Nat) {B : Nat} (w : World) (ht : Tab B w) (hB : B ≤ w.heap.size) (h : Sl noteD w Any1 A l) (hsm : ∀ r ∈ l, SmN r.v) (hl : l.length ≤ 50000) :
    Calls Tryz.prog 40 #[.slice A l.length c] w (HousesPost (l.map NoteR.v) w) := by
  have hj := gossip_join l [] A none c 0 w ht hB h Sl.nil (by simpa using hsm) (by simp; omega)
  rw [List.append_nil] at hj
  have HJ := Lib.hid hj
  clear hj ht h hsm
  go_enter Tryz.func40, Tryz.ntmps40
  go_wp2_with fail
  refine HJ.out.mono ?_
  rintro e w1 ⟨A1, c1, js, rfl, hc1, hcm1, hsl, hjo, hle, hb1⟩
  have HSL := Lib.hid hsl
  have HJO := Lib.hid hjo
  have HB1 := Lib.hid hb1
  have hlj : js.length ≤ 50000 := by rw [List.length_map] at hle; omega
  have HLE := Lib.hid hle
  have HRT := Lib.hid (show ∀ r ∈ js, rightN r.v = true from fun r hr => ((hjo.2 r.v).1 (List.mem_map_of_mem hr)).1)
  clear hsl hjo hb1 hle
  go_wp2_with fail
  go_loopw [3, 4] (fun s3 s4 wr => ∃ (m q : Nat) (A' : Option Addr) (c' : Nat) (hs : List HouseT), m + q ≤ js.length ∧ js.length ≤ m + q ∧ s3 = .slice A' q c' ∧ q ≤ c' ∧ c' ≤ maxLen ∧ Hid (Sl noteD w1 Any1 A' (js.drop m)) ∧ Hid (HAt js w1 wr m s4 hs)) (fun s3 _ _ => slLen s3)
  case atStart => exact ⟨0, js.length, A1, c1, [], by omega, by omega, rfl, hc1, hcm1, by rw [List.drop_zero]; exact HSL.out, OwnS.nil_, (houses_start _).1, (houses_start _).2, fun h hh => by simp at hh, Nat.le_refl _, Below.refl _ _⟩
  case round =>
    obtain ⟨m, q, A', c', hs, hm, hm', rfl, hcl, hcm, HSR, HAT⟩ := hrel
    by_cases hlt : 0 < q
    · obtain ⟨hown, h1, h2, h3, h4, hbw⟩ := HAT.out
      have HOH := Lib.hid hown
      have HB := Lib.hid hbw
      have hrl : (js.drop m).length = q := by simp; omega
      have HSTEP0 := Lib.hid (fun n x A c pl fk q1 q2 q3 q4 q5 q6 q7 => group_step (n := n) HJO.out.1 HRT.out h1 h2 h3 h4 x A c pl fk q1 q2 q3 q4 q5 q6 q7)
      have HRR := Lib.hid (show ∀ r ∈ js.drop m, rightN r.v = true from fun r hr => HRT.out r (List.mem_of_mem_drop hr))
      obtain ⟨b, off, rfl, _, hbw1, hok, hcl0⟩ := HSR.out.get (j := 0) (by rw [hrl]; exact hlt)
      have hx0 : (js.drop m)[0]? = some ((js.drop m)[0]'(by rw [hrl]; exact hlt)) := List.getElem?_eq_getElem _
      generalize ((js.drop m)[0]'(by rw [hrl]; exact hlt)) = x at hx0 hcl0
      have HCE := Lib.hid (HSR.out.1 (fun e => by rw [e] at hrl; simp at hrl; omega))
      have y0 : wr.cell? ⟨b, off, none⟩ = some (.int .i64 x.v.house) := (hbw.cell (p := ⟨b, off, none⟩) hbw1).trans (by simpa using hcl0 0 _ rfl)
      have HX0 := Lib.hid hx0
      have hhs : hs.length ≤ 50000 := by omega
      clear hok hcl0 hown h1 h2 h3 h4 hx0
      have HMN := Lib.hid hrl
      clear HAT
      generalize hre : js.drop m = rest at *
      have HRE := Lib.hid hre
      have HRL := Lib.hid (show rest.length = q from HMN.out)
      have hr50 : q ≤ 50000 := by omega
      have hr1 : 1 ≤ q := by omega
      have hwb := hbw.size
      clear hre hbw hrl
      unfold maxLen at hcm
      go_wp2_with fail
      obtain ⟨wo, hwo⟩ : ∃ wo : World, wo = wr := ⟨_, rfl⟩
      rw [← hwo] at y0 HOH HB hwb
      go_loopw [5] (fun s5 wr => ∃ n : Nat, 1 ≤ n ∧ n ≤ q ∧ s5 = .int .i64 (n : Int) ∧ Hid (∀ (i : Nat) (z : NoteR), i < n → rest[i]? = some z → z.v.house = x.v.house) ∧ Hid (∃ q, wr = wo.drewN q)) (fun s5 _ => q - (intOf s5).toNat)
      case atStart => exact ⟨1, Nat.le_refl _, hr1, rfl, fun i z hi hz => by
        obtain rfl : i = 0 := by omega
        rw [HX0.out] at hz
        cases hz
        rfl, 0, hwo.symm⟩
      case round =>
        obtain ⟨n, hn1, hnr, rfl, HGE, HM⟩ := hrel
        have yr : wr.cell? ⟨b, off, none⟩ = some (.int .i64 x.v.house) := by obtain ⟨q, hq⟩ := HM.out; rw [hq]; exact y0
        have i0 : (0 : Int) < (q : Int) := by omega
        by_cases hlt2 : n < q
        · have hz : rest[n]? = some (rest[n]'(by rw [HRL.out]; exact hlt2)) := List.getElem?_eq_getElem _
          generalize rest[n]'(by rw [HRL.out]; exact hlt2) = z at hz
          have zr : wr.cell? ⟨b, off + n * 5, none⟩ = some (.int .i64 z.v.house) := by
            obtain ⟨q, hq⟩ := HM.out
            obtain ⟨b', off', e, _, hb', hc'⟩ := HCE.out
            injection e with e
            injection e with e1 e2
            subst e1 e2
            rw [hq]
            exact (HB.out.cell (p := ⟨b, off + n * 5, none⟩) hb').trans (hc' n z hz 0 _ rfl)
          have HZ := Lib.hid hz
          have i4 : (n : Int) < (q : Int) := by omega
          clear hz
          cases hq : (z.v.house == x.v.house) with
          | true =>
            have HGN := Lib.hid (show ∀ (i : Nat) (y : NoteR), i < n + 1 → rest[i]? = some y → y.v.house = x.v.house from fun i y hi hy => by
              rcases Nat.lt_or_ge i n with q | q
              · exact HGE.out i y q hy
              · obtain rfl : i = n := by omega
                rw [HZ.out] at hy
                cases hy
                exact beq_iff_eq.1 hq)
            go_wp2_with fail
            go_quiet (fail)
            go_wp2_with fail
            go_roundw
            case rel => exact ⟨n + 1, by omega, by omega, by go_num, HGN.out, by obtain ⟨q, hq⟩ := HM.out; exact ⟨q + nq, by rw [hq, World.drewN_drewN]⟩⟩
            case measure => simp [intOf]; omega
          | false =>
            have HNX := Lib.hid (show ∀ y, rest[n]? = some y → y.v.house ≠ x.v.house from fun y hy => by
              rw [HZ.out] at hy
              cases hy
              exact beq_eq_false_iff_ne.1 hq)
            go_wp2_with fail
            go_quiet (fail)
            obtain ⟨m2, hm2⟩ := HM.out
            obtain ⟨wa, hwa⟩ : ∃ wa : World, wa = wr.drewN nq := ⟨_, rfl⟩
            rw [← hwa]
            rw [hm2] at hwa
            have HWI := Lib.hid (show Below w1.heap.size w1 wa by rw [hwa]; exact below_dn (below_dn HB.out _) _)
            have HOI := Lib.hid (show OwnS houseD 79 w1.heap.size wa Any1 u4 hs by rw [hwa]; exact HOH.out)
            have hb2 : b < wa.heap.size := by have := HWI.out.size; omega
            have y0' : wa.cell? ⟨b, off, none⟩ = some (.int .i64 x.v.house) := by rw [hwa]; exact y0
            have hw1 := HWI.out.size
            clear hm2 HM hwa
            have HGH := Lib.hid (show ∀ r ∈ rest.take n, r.v.house = x.v.house from fun r hr => by
              obtain ⟨i, hi, e⟩ := List.getElem_of_mem hr
              have hin : i < n := by rw [List.length_take] at hi; omega
              refine HGE.out i r hin ?_
              have : (rest.take n)[i]? = some r := by rw [List.getElem?_eq_getElem hi, e]
              rw [List.getElem?_take, if_pos hin] at this
              exact this)
            have hln : (rest.take n).length = n := by rw [List.length_take, HRL.out]; omega
            have hpast := fun W (q : Below w1.heap.size w1 W) => gossip_past (rest.take n) (some ⟨b, off, none⟩) c' x.v.house W ((HSR.out.below q).take n) (fun r hr => HRR.out r (List.mem_of_mem_take hr)) HGH.out (by omega) (by omega) hcm (fun e => by rw [e] at hln; simp at hln; omega)
            unfold PastPost at hpast
            rw [hln] at hpast
            have hple : (past ((rest.take n).map NoteR.v)).length ≤ n := by have := (pastL_prefix ((rest.take n).map NoteR.v) 0 0).length_le; rw [List.length_map, hln] at this; exact this
            generalize hpl : (past ((rest.take n).map NoteR.v)).length = pl at hpast hple
            generalize hfk : fkB ((rest.take n).map NoteR.v) n = fk at hpast
            have HPA := Lib.hid hpast
            have HPL := Lib.hid hpl
            have HFK := Lib.hid hfk
            have HLN := Lib.hid hln
            clear hpast hln hpl hfk
            have hnc : n ≤ c' := by omega
            have hplc : pl ≤ c' := by omega
            have hil : (0 : Int) < (q : Int) := by omega
            go_wp2_with fail
            refine (HPA.out _ (HWI.out.alloc HWI.out.size _)).mono ?_
            rintro e w2 ⟨rfl, hb3⟩
            have p0 : w2.cell? ⟨wa.heap.size, 0, none⟩ = some (.int .i64 x.v.house) := (hb3.cell (p := ⟨wa.heap.size, 0, none⟩) (by simp)).trans (by simp [go_sem])
            have p1 : w2.cell? ⟨wa.heap.size, 1, none⟩ = some (.slice none 0 0) := (hb3.cell (p := ⟨wa.heap.size, 1, none⟩) (by simp)).trans (by simp [go_sem])
            have p2 : w2.cell? ⟨wa.heap.size, 2, none⟩ = some (.bool false) := (hb3.cell (p := ⟨wa.heap.size, 2, none⟩) (by simp)).trans (by simp [go_sem])
            have p3 : w2.cell? ⟨wa.heap.size, 3, none⟩ = some (.int .i64 0) := (hb3.cell (p := ⟨wa.heap.size, 3, none⟩) (by simp)).trans (by simp [go_sem])
            have f1 : w2.frozen? ⟨wa.heap.size, 1, none⟩ = false := (hb3.frozen (p := ⟨wa.heap.size, 1, none⟩) (by simp)).trans (by simp [go_sem])
            have f2 : w2.frozen? ⟨wa.heap.size, 2, none⟩ = false := (hb3.frozen (p := ⟨wa.heap.size, 2, none⟩) (by simp)).trans (by simp [go_sem])
            have HB3 := Lib.hid (show Below wa.heap.size wa w2 from ((Below.refl _ wa).alloc (Nat.le_refl _) _).trans (hb3.mono (by simp)))
            have hz2 : wa.heap.size < w2.heap.size := Nat.lt_of_lt_of_le (by simp) hb3.size
            clear hb3 y0'
            go_wp2_with fail
            generalize hW : (w2.setCell ⟨wa.heap.size, 1, none⟩ (.slice (some ⟨b, off, none⟩) pl c')).setCell ⟨wa.heap.size, 2, none⟩ (.bool fk) = W
            have q0 : W.cell? ⟨wa.heap.size, 0, none⟩ = some (.int .i64 x.v.house) := by rw [← hW]; simp [go_sem, p0, p1, p2]
            have q1 : W.cell? ⟨wa.heap.size, 1, none⟩ = some (.slice (some ⟨b, off, none⟩) pl c') := by rw [← hW]; simp [go_sem, p0, p1, p2]
            have q2 : W.cell? ⟨wa.heap.size, 2, none⟩ = some (.bool fk) := by rw [← hW]; simp [go_sem, p0, p1, p2]
            have q3 : W.cell? ⟨wa.heap.size, 3, none⟩ = some (.int .i64 0) := by rw [← hW]; simp [go_sem, p0, p1, p2, p3]
            have HBW := Lib.hid (show Below wa.heap.size wa W by rw [← hW]; exact (HB3.out.setCell (p := ⟨wa.heap.size, 1, none⟩) (Nat.le_refl _) _).setCell (p := ⟨wa.heap.size, 2, none⟩) (Nat.le_refl _) _)
            have hzW : wa.heap.size < W.heap.size := by rw [← hW]; simpa using hz2
            clear hW p0 p1 p2 p3 f1 f2
            have hbD : Below wa.heap.size wa (W.drew.alloc (.cells #[.int .i64 x.v.house, .slice (some ⟨b, off, none⟩) pl c', .bool fk, .int .i64 0] 79)) := HBW.out.drew.alloc (by show wa.heap.size ≤ W.heap.size; omega) _
            have HOD := Lib.hid (HOI.out.below hbD)
            have HBD := Lib.hid (HWI.out.trans (hbD.mono hw1))
            have HNW := Lib.hid (show Sl noteD (W.drew.alloc (.cells #[.int .i64 x.v.house, .slice (some ⟨b, off, none⟩) pl c', .bool fk, .int .i64 0] 79)) (fun b => Any1 b ∧ some b ≠ u4.ownBlock) (some ⟨b, off, none⟩) ((rest.take n).take pl) from (((sl_low HSR.out fun b hb => ⟨trivial, fun e => by have := (owns_lt HOI.out.1 b e.symm).1; omega⟩).below2 HWI.out hbD).take n).take pl)
            have HRD := Lib.hid (show Reads (W.drew.alloc (.cells #[.int .i64 x.v.house, .slice (some ⟨b, off, none⟩) pl c', .bool fk, .int .i64 0] 79)) (W.heap.size + 1) 4 (some ⟨W.heap.size, 0, none⟩) 1 [.int .i64 x.v.house, .slice (some ⟨b, off, none⟩) pl c', .bool fk, .int .i64 0] from reads_new W.drew [.int .i64 x.v.house, .slice (some ⟨b, off, none⟩) pl c', .bool fk, .int .i64 0] 79 1 4 rfl)
            have HON := Lib.hid (show ∀ u ∈ ([.int .i64 x.v.house, .slice (some ⟨b, off, none⟩) pl c', .bool fk, .int .i64 0] : List Value), u.oneCell' = true from fun u hu => by simp at hu; rcases hu with rfl | rfl | rfl | rfl <;> rfl)
            have HNV := Lib.hid (show ([.int .i64 x.v.house, .slice (some ⟨b, off, none⟩) pl c', .bool fk, .int .i64 0] : List Value) = ([⟨x.v.house, (rest.take n).take pl, some ⟨b, off, none⟩, c', fk, 0⟩] : List HouseT).flatMap houseD.cells by
              have e1 : ((rest.take n).take pl).length = pl := by rw [List.length_take, HLN.out]; omega
              simp [houseD, HouseT.cells, e1])
            have HNE := Lib.hid (show (some wa.heap.size : Option Nat) ≠ u4.ownBlock from fun e => by have := (owns_lt HOI.out.1 wa.heap.size e.symm).2; omega)
            have hhl : hs.length ≤ 100000 := by omega
            have HST := Lib.hid (HSTEP0.out n x (some ⟨b, off, none⟩) c' pl fk hn1 (by rw [HRL.out]; exact hnr) HGE.out HNX.out HPL.out HFK.out HLN.out)
            obtain ⟨i0, hi0, hz0, hz1, hz2'⟩ := info_parts Tryz.infoHouse
            clear hbD
            by_cases hcn : c' = n
            · have hcd : (c' = n) = True := eq_true hcn
              have hcn1 : c' ≤ n := by omega
              clear hcn
              go_region_held3 (fun w' => w'.cell? ⟨wa.heap.size, 0, none⟩ = some (.int .i64 x.v.house) ∧ w'.cell? ⟨wa.heap.size, 1, none⟩ = some (.slice (some ⟨b, off, none⟩) pl c') ∧ w'.cell? ⟨wa.heap.size, 2, none⟩ = some (.bool fk) ∧ w'.cell? ⟨wa.heap.size, 3, none⟩ = some (.int .i64 0)) (go_keep)
                (first
                 | (refine step_append_any _ (by rfl) (.tmp 44) (.tmp 46) 74 (by rfl) w1.heap.size 79 i0 _ 4 48 Tryz.underlying74 hi0 hz0 hz1 hz2' (by rfl) (by omega) u4 hs.length (hs.flatMap houseD.cells) (by rfl) HOD.out.1 (W.heap.size + 1) (some ⟨W.heap.size, 0, none⟩) 1 1 [.int .i64 x.v.house, .slice (some ⟨b, off, none⟩) pl c', .bool fk, .int .i64 0] (by rfl) HRD.out HON.out (by simp only [maxLen]; omega) (by omega) (by simp; omega) ?_; intro v9 w9 hown9 hg9 hat9; have HM9 := Lib.hid (OwnS.more (D := houseD) (S := Any1) (news := [⟨x.v.house, (rest.take n).take pl, some ⟨b, off, none⟩, c', fk, 0⟩]) (xs := hs) HOD.out.2 (fun y hy => by rw [List.mem_singleton.1 hy]; exact HNW.out) HNV.out rfl hown9 hg9 (by simpa using hat9)); have HB9 := Lib.hid (HBD.out.grown hg9 HBD.out.size (fun g hg => (owns_lt HOD.out.1 g hg).1)); have HG9 := Lib.hid hg9; have k0 : w9.cell? ⟨wa.heap.size, 0, none⟩ = some (.int .i64 x.v.house) := (hg9.cell_far ⟨wa.heap.size, 0, none⟩ (by simp; omega) HNE.out).trans (by simp [go_sem, q0, hzW]); have k1 : w9.cell? ⟨wa.heap.size, 1, none⟩ = some (.slice (some ⟨b, off, none⟩) pl c') := (hg9.cell_far ⟨wa.heap.size, 1, none⟩ (by simp; omega) HNE.out).trans (by simp [go_sem, q1, hzW]); have k2 : w9.cell? ⟨wa.heap.size, 2, none⟩ = some (.bool fk) := (hg9.cell_far ⟨wa.heap.size, 2, none⟩ (by simp; omega) HNE.out).trans (by simp [go_sem, q2, hzW]); have k3 : w9.cell? ⟨wa.heap.size, 3, none⟩ = some (.int .i64 0) := (hg9.cell_far ⟨wa.heap.size, 3, none⟩ (by simp; omega) HNE.out).trans (by simp [go_sem, q3, hzW]); clear hown9 hg9 hat9))
              go_wp2_with fail
              go_roundw
              case rel =>
                have hd : js.drop (m + n) = rest.drop n := by rw [← HRE.out, List.drop_drop]
                have hrl := HRL.out
                exact ⟨m + n, q - n, some ⟨b, off, none⟩, 0, hs ++ [⟨x.v.house, (rest.take n).take pl, some ⟨b, off, none⟩, c', fk, 0⟩], by omega, by omega, rfl, by omega, by unfold maxLen; omega, by rw [hd]; exact Sl.drop_nil HSR.out (by rw [HRL.out]; omega), HM9.out, HST.out.1.1, HST.out.1.2, HST.out.2.1, HST.out.2.2, HB9.out⟩
              case measure => simp [slLen]; omega
            · have hcd : (c' = n) = False := eq_false hcn
              go_region_held3 (fun w' => w'.cell? ⟨wa.heap.size, 0, none⟩ = some (.int .i64 x.v.house) ∧ w'.cell? ⟨wa.heap.size, 1, none⟩ = some (.slice (some ⟨b, off, none⟩) pl c') ∧ w'.cell? ⟨wa.heap.size, 2, none⟩ = some (.bool fk) ∧ w'.cell? ⟨wa.heap.size, 3, none⟩ = some (.int .i64 0)) (go_keep)
                (first
                 | (refine step_append_any _ (by rfl) (.tmp 44) (.tmp 46) 74 (by rfl) w1.heap.size 79 i0 _ 4 48 Tryz.underlying74 hi0 hz0 hz1 hz2' (by rfl) (by omega) u4 hs.length (hs.flatMap houseD.cells) (by rfl) HOD.out.1 (W.heap.size + 1) (some ⟨W.heap.size, 0, none⟩) 1 1 [.int .i64 x.v.house, .slice (some ⟨b, off, none⟩) pl c', .bool fk, .int .i64 0] (by rfl) HRD.out HON.out (by simp only [maxLen]; omega) (by omega) (by simp; omega) ?_; intro v9 w9 hown9 hg9 hat9; have HM9 := Lib.hid (OwnS.more (D := houseD) (S := Any1) (news := [⟨x.v.house, (rest.take n).take pl, some ⟨b, off, none⟩, c', fk, 0⟩]) (xs := hs) HOD.out.2 (fun y hy => by rw [List.mem_singleton.1 hy]; exact HNW.out) HNV.out rfl hown9 hg9 (by simpa using hat9)); have HB9 := Lib.hid (HBD.out.grown hg9 HBD.out.size (fun g hg => (owns_lt HOD.out.1 g hg).1)); have HG9 := Lib.hid hg9; have k0 : w9.cell? ⟨wa.heap.size, 0, none⟩ = some (.int .i64 x.v.house) := (hg9.cell_far ⟨wa.heap.size, 0, none⟩ (by simp; omega) HNE.out).trans (by simp [go_sem, q0, hzW]); have k1 : w9.cell? ⟨wa.heap.size, 1, none⟩ = some (.slice (some ⟨b, off, none⟩) pl c') := (hg9.cell_far ⟨wa.heap.size, 1, none⟩ (by simp; omega) HNE.out).trans (by simp [go_sem, q1, hzW]); have k2 : w9.cell? ⟨wa.heap.size, 2, none⟩ = some (.bool fk) := (hg9.cell_far ⟨wa.heap.size, 2, none⟩ (by simp; omega) HNE.out).trans (by simp [go_sem, q2, hzW]); have k3 : w9.cell? ⟨wa.heap.size, 3, none⟩ = some (.int .i64 0) := (hg9.cell_far ⟨wa.heap.size, 3, none⟩ (by simp; omega) HNE.out).trans (by simp [go_sem, q3, hzW]); clear hown9 hg9 hat9))
              go_wp2_with fail
              go_roundw
              case rel =>
                have hd : js.drop (m + n) = rest.drop n := by rw [← HRE.out, List.drop_drop]
                have hrl := HRL.out
                exact ⟨m + n, q - n, some ⟨b, off + n * 5, none⟩, c' - n, hs ++ [⟨x.v.house, (rest.take n).take pl, some ⟨b, off, none⟩, c', fk, 0⟩], by omega, by omega, rfl, by omega, by unfold maxLen; omega, by rw [hd]; exact HSR.out.drop n, HM9.out, HST.out.1.1, HST.out.1.2, HST.out.2.1, HST.out.2.2, HB9.out⟩
              case measure => simp [slLen]; omega

        · have HNX := Lib.hid (show ∀ y, rest[n]? = some y → y.v.house ≠ x.v.house from fun y hy => by
            have := (List.getElem?_eq_some_iff.1 hy).1
            rw [HRL.out] at this
            omega)
          go_wp2_with fail
          go_quiet (fail)
          obtain ⟨m2, hm2⟩ := HM.out
          obtain ⟨wa, hwa⟩ : ∃ wa : World, wa = wr.drewN nq := ⟨_, rfl⟩
          rw [← hwa]
          rw [hm2] at hwa
          have HWI := Lib.hid (show Below w1.heap.size w1 wa by rw [hwa]; exact below_dn (below_dn HB.out _) _)
          have HOI := Lib.hid (show OwnS houseD 79 w1.heap.size wa Any1 u4 hs by rw [hwa]; exact HOH.out)
          have hb2 : b < wa.heap.size := by have := HWI.out.size; omega
          have y0' : wa.cell? ⟨b, off, none⟩ = some (.int .i64 x.v.house) := by rw [hwa]; exact y0
          have hw1 := HWI.out.size
          clear hm2 HM hwa
          have HGH := Lib.hid (show ∀ r ∈ rest.take n, r.v.house = x.v.house from fun r hr => by
            obtain ⟨i, hi, e⟩ := List.getElem_of_mem hr
            have hin : i < n := by rw [List.length_take] at hi; omega
            refine HGE.out i r hin ?_
            have : (rest.take n)[i]? = some r := by rw [List.getElem?_eq_getElem hi, e]
            rw [List.getElem?_take, if_pos hin] at this
            exact this)
          have hln : (rest.take n).length = n := by rw [List.length_take, HRL.out]; omega
          have hpast := fun W (q : Below w1.heap.size w1 W) => gossip_past (rest.take n) (some ⟨b, off, none⟩) c' x.v.house W ((HSR.out.below q).take n) (fun r hr => HRR.out r (List.mem_of_mem_take hr)) HGH.out (by omega) (by omega) hcm (fun e => by rw [e] at hln; simp at hln; omega)
          unfold PastPost at hpast
          rw [hln] at hpast
          have hple : (past ((rest.take n).map NoteR.v)).length ≤ n := by have := (pastL_prefix ((rest.take n).map NoteR.v) 0 0).length_le; rw [List.length_map, hln] at this; exact this
          generalize hpl : (past ((rest.take n).map NoteR.v)).length = pl at hpast hple
          generalize hfk : fkB ((rest.take n).map NoteR.v) n = fk at hpast
          have HPA := Lib.hid hpast
          have HPL := Lib.hid hpl
          have HFK := Lib.hid hfk
          have HLN := Lib.hid hln
          clear hpast hln hpl hfk
          have hnc : n ≤ c' := by omega
          have hplc : pl ≤ c' := by omega
          have hil : (0 : Int) < (q : Int) := by omega
          go_wp2_with fail
          refine (HPA.out _ (HWI.out.alloc HWI.out.size _)).mono ?_
          rintro e w2 ⟨rfl, hb3⟩
          have p0 : w2.cell? ⟨wa.heap.size, 0, none⟩ = some (.int .i64 x.v.house) := (hb3.cell (p := ⟨wa.heap.size, 0, none⟩) (by simp)).trans (by simp [go_sem])
          have p1 : w2.cell? ⟨wa.heap.size, 1, none⟩ = some (.slice none 0 0) := (hb3.cell (p := ⟨wa.heap.size, 1, none⟩) (by simp)).trans (by simp [go_sem])
          have p2 : w2.cell? ⟨wa.heap.size, 2, none⟩ = some (.bool false) := (hb3.cell (p := ⟨wa.heap.size, 2, none⟩) (by simp)).trans (by simp [go_sem])
          have p3 : w2.cell? ⟨wa.heap.size, 3, none⟩ = some (.int .i64 0) := (hb3.cell (p := ⟨wa.heap.size, 3, none⟩) (by simp)).trans (by simp [go_sem])
          have f1 : w2.frozen? ⟨wa.heap.size, 1, none⟩ = false := (hb3.frozen (p := ⟨wa.heap.size, 1, none⟩) (by simp)).trans (by simp [go_sem])
          have f2 : w2.frozen? ⟨wa.heap.size, 2, none⟩ = false := (hb3.frozen (p := ⟨wa.heap.size, 2, none⟩) (by simp)).trans (by simp [go_sem])
          have HB3 := Lib.hid (show Below wa.heap.size wa w2 from ((Below.refl _ wa).alloc (Nat.le_refl _) _).trans (hb3.mono (by simp)))
          have hz2 : wa.heap.size < w2.heap.size := Nat.lt_of_lt_of_le (by simp) hb3.size
          clear hb3 y0'
          go_wp2_with fail
          generalize hW : (w2.setCell ⟨wa.heap.size, 1, none⟩ (.slice (some ⟨b, off, none⟩) pl c')).setCell ⟨wa.heap.size, 2, none⟩ (.bool fk) = W
          have q0 : W.cell? ⟨wa.heap.size, 0, none⟩ = some (.int .i64 x.v.house) := by rw [← hW]; simp [go_sem, p0, p1, p2]
          have q1 : W.cell? ⟨wa.heap.size, 1, none⟩ = some (.slice (some ⟨b, off, none⟩) pl c') := by rw [← hW]; simp [go_sem, p0, p1, p2]
          have q2 : W.cell? ⟨wa.heap.size, 2, none⟩ = some (.bool fk) := by rw [← hW]; simp [go_sem, p0, p1, p2]
          have q3 : W.cell? ⟨wa.heap.size, 3, none⟩ = some (.int .i64 0) := by rw [← hW]; simp [go_sem, p0, p1, p2, p3]
          have HBW := Lib.hid (show Below wa.heap.size wa W by rw [← hW]; exact (HB3.out.setCell (p := ⟨wa.heap.size, 1, none⟩) (Nat.le_refl _) _).setCell (p := ⟨wa.heap.size, 2, none⟩) (Nat.le_refl _) _)
          have hzW : wa.heap.size < W.heap.size := by rw [← hW]; simpa using hz2
          clear hW p0 p1 p2 p3 f1 f2
          have hbD : Below wa.heap.size wa (W.drew.alloc (.cells #[.int .i64 x.v.house, .slice (some ⟨b, off, none⟩) pl c', .bool fk, .int .i64 0] 79)) := HBW.out.drew.alloc (by show wa.heap.size ≤ W.heap.size; omega) _
          have HOD := Lib.hid (HOI.out.below hbD)
          have HBD := Lib.hid (HWI.out.trans (hbD.mono hw1))
          have HNW := Lib.hid (show Sl noteD (W.drew.alloc (.cells #[.int .i64 x.v.house, .slice (some ⟨b, off, none⟩) pl c', .bool fk, .int .i64 0] 79)) (fun b => Any1 b ∧ some b ≠ u4.ownBlock) (some ⟨b, off, none⟩) ((rest.take n).take pl) from (((sl_low HSR.out fun b hb => ⟨trivial, fun e => by have := (owns_lt HOI.out.1 b e.symm).1; omega⟩).below2 HWI.out hbD).take n).take pl)
          have HRD := Lib.hid (show Reads (W.drew.alloc (.cells #[.int .i64 x.v.house, .slice (some ⟨b, off, none⟩) pl c', .bool fk, .int .i64 0] 79)) (W.heap.size + 1) 4 (some ⟨W.heap.size, 0, none⟩) 1 [.int .i64 x.v.house, .slice (some ⟨b, off, none⟩) pl c', .bool fk, .int .i64 0] from reads_new W.drew [.int .i64 x.v.house, .slice (some ⟨b, off, none⟩) pl c', .bool fk, .int .i64 0] 79 1 4 rfl)
          have HON := Lib.hid (show ∀ u ∈ ([.int .i64 x.v.house, .slice (some ⟨b, off, none⟩) pl c', .bool fk, .int .i64 0] : List Value), u.oneCell' = true from fun u hu => by simp at hu; rcases hu with rfl | rfl | rfl | rfl <;> rfl)
          have HNV := Lib.hid (show ([.int .i64 x.v.house, .slice (some ⟨b, off, none⟩) pl c', .bool fk, .int .i64 0] : List Value) = ([⟨x.v.house, (rest.take n).take pl, some ⟨b, off, none⟩, c', fk, 0⟩] : List HouseT).flatMap houseD.cells by
            have e1 : ((rest.take n).take pl).length = pl := by rw [List.length_take, HLN.out]; omega
            simp [houseD, HouseT.cells, e1])
          have HNE := Lib.hid (show (some wa.heap.size : Option Nat) ≠ u4.ownBlock from fun e => by have := (owns_lt HOI.out.1 wa.heap.size e.symm).2; omega)
          have hhl : hs.length ≤ 100000 := by omega
          have HST := Lib.hid (HSTEP0.out n x (some ⟨b, off, none⟩) c' pl fk hn1 (by rw [HRL.out]; exact hnr) HGE.out HNX.out HPL.out HFK.out HLN.out)
          obtain ⟨i0, hi0, hz0, hz1, hz2'⟩ := info_parts Tryz.infoHouse
          clear hbD
          by_cases hcn : c' = n
          · have hcd : (c' = n) = True := eq_true hcn
            have hcn1 : c' ≤ n := by omega
            clear hcn
            go_region_held3 (fun w' => w'.cell? ⟨wa.heap.size, 0, none⟩ = some (.int .i64 x.v.house) ∧ w'.cell? ⟨wa.heap.size, 1, none⟩ = some (.slice (some ⟨b, off, none⟩) pl c') ∧ w'.cell? ⟨wa.heap.size, 2, none⟩ = some (.bool fk) ∧ w'.cell? ⟨wa.heap.size, 3, none⟩ = some (.int .i64 0)) (go_keep)
              (first
               | (refine step_append_any _ (by rfl) (.tmp 44) (.tmp 46) 74 (by rfl) w1.heap.size 79 i0 _ 4 48 Tryz.underlying74 hi0 hz0 hz1 hz2' (by rfl) (by omega) u4 hs.length (hs.flatMap houseD.cells) (by rfl) HOD.out.1 (W.heap.size + 1) (some ⟨W.heap.size, 0, none⟩) 1 1 [.int .i64 x.v.house, .slice (some ⟨b, off, none⟩) pl c', .bool fk, .int .i64 0] (by rfl) HRD.out HON.out (by simp only [maxLen]; omega) (by omega) (by simp; omega) ?_; intro v9 w9 hown9 hg9 hat9; have HM9 := Lib.hid (OwnS.more (D := houseD) (S := Any1) (news := [⟨x.v.house, (rest.take n).take pl, some ⟨b, off, none⟩, c', fk, 0⟩]) (xs := hs) HOD.out.2 (fun y hy => by rw [List.mem_singleton.1 hy]; exact HNW.out) HNV.out rfl hown9 hg9 (by simpa using hat9)); have HB9 := Lib.hid (HBD.out.grown hg9 HBD.out.size (fun g hg => (owns_lt HOD.out.1 g hg).1)); have HG9 := Lib.hid hg9; have k0 : w9.cell? ⟨wa.heap.size, 0, none⟩ = some (.int .i64 x.v.house) := (hg9.cell_far ⟨wa.heap.size, 0, none⟩ (by simp; omega) HNE.out).trans (by simp [go_sem, q0, hzW]); have k1 : w9.cell? ⟨wa.heap.size, 1, none⟩ = some (.slice (some ⟨b, off, none⟩) pl c') := (hg9.cell_far ⟨wa.heap.size, 1, none⟩ (by simp; omega) HNE.out).trans (by simp [go_sem, q1, hzW]); have k2 : w9.cell? ⟨wa.heap.size, 2, none⟩ = some (.bool fk) := (hg9.cell_far ⟨wa.heap.size, 2, none⟩ (by simp; omega) HNE.out).trans (by simp [go_sem, q2, hzW]); have k3 : w9.cell? ⟨wa.heap.size, 3, none⟩ = some (.int .i64 0) := (hg9.cell_far ⟨wa.heap.size, 3, none⟩ (by simp; omega) HNE.out).trans (by simp [go_sem, q3, hzW]); clear hown9 hg9 hat9))
            go_wp2_with fail
            go_roundw
            case rel =>
              have hd : js.drop (m + n) = rest.drop n := by rw [← HRE.out, List.drop_drop]
              have hrl := HRL.out
              exact ⟨m + n, q - n, some ⟨b, off, none⟩, 0, hs ++ [⟨x.v.house, (rest.take n).take pl, some ⟨b, off, none⟩, c', fk, 0⟩], by omega, by omega, rfl, by omega, by unfold maxLen; omega, by rw [hd]; exact Sl.drop_nil HSR.out (by rw [HRL.out]; omega), HM9.out, HST.out.1.1, HST.out.1.2, HST.out.2.1, HST.out.2.2, HB9.out⟩
            case measure => simp [slLen]; omega
          · have hcd : (c' = n) = False := eq_false hcn
            go_region_held3 (fun w' => w'.cell? ⟨wa.heap.size, 0, none⟩ = some (.int .i64 x.v.house) ∧ w'.cell? ⟨wa.heap.size, 1, none⟩ = some (.slice (some ⟨b, off, none⟩) pl c') ∧ w'.cell? ⟨wa.heap.size, 2, none⟩ = some (.bool fk) ∧ w'.cell? ⟨wa.heap.size, 3, none⟩ = some (.int .i64 0)) (go_keep)
              (first
               | (refine step_append_any _ (by rfl) (.tmp 44) (.tmp 46) 74 (by rfl) w1.heap.size 79 i0 _ 4 48 Tryz.underlying74 hi0 hz0 hz1 hz2' (by rfl) (by omega) u4 hs.length (hs.flatMap houseD.cells) (by rfl) HOD.out.1 (W.heap.size + 1) (some ⟨W.heap.size, 0, none⟩) 1 1 [.int .i64 x.v.house, .slice (some ⟨b, off, none⟩) pl c', .bool fk, .int .i64 0] (by rfl) HRD.out HON.out (by simp only [maxLen]; omega) (by omega) (by simp; omega) ?_; intro v9 w9 hown9 hg9 hat9; have HM9 := Lib.hid (OwnS.more (D := houseD) (S := Any1) (news := [⟨x.v.house, (rest.take n).take pl, some ⟨b, off, none⟩, c', fk, 0⟩]) (xs := hs) HOD.out.2 (fun y hy => by rw [List.mem_singleton.1 hy]; exact HNW.out) HNV.out rfl hown9 hg9 (by simpa using hat9)); have HB9 := Lib.hid (HBD.out.grown hg9 HBD.out.size (fun g hg => (owns_lt HOD.out.1 g hg).1)); have HG9 := Lib.hid hg9; have k0 : w9.cell? ⟨wa.heap.size, 0, none⟩ = some (.int .i64 x.v.house) := (hg9.cell_far ⟨wa.heap.size, 0, none⟩ (by simp; omega) HNE.out).trans (by simp [go_sem, q0, hzW]); have k1 : w9.cell? ⟨wa.heap.size, 1, none⟩ = some (.slice (some ⟨b, off, none⟩) pl c') := (hg9.cell_far ⟨wa.heap.size, 1, none⟩ (by simp; omega) HNE.out).trans (by simp [go_sem, q1, hzW]); have k2 : w9.cell? ⟨wa.heap.size, 2, none⟩ = some (.bool fk) := (hg9.cell_far ⟨wa.heap.size, 2, none⟩ (by simp; omega) HNE.out).trans (by simp [go_sem, q2, hzW]); have k3 : w9.cell? ⟨wa.heap.size, 3, none⟩ = some (.int .i64 0) := (hg9.cell_far ⟨wa.heap.size, 3, none⟩ (by simp; omega) HNE.out).trans (by simp [go_sem, q3, hzW]); clear hown9 hg9 hat9))
            go_wp2_with fail
            go_roundw
            case rel =>
              have hd : js.drop (m + n) = rest.drop n := by rw [← HRE.out, List.drop_drop]
              have hrl := HRL.out
              exact ⟨m + n, q - n, some ⟨b, off + n * 5, none⟩, c' - n, hs ++ [⟨x.v.house, (rest.take n).take pl, some ⟨b, off, none⟩, c', fk, 0⟩], by omega, by omega, rfl, by omega, by unfold maxLen; omega, by rw [hd]; exact HSR.out.drop n, HM9.out, HST.out.1.1, HST.out.1.2, HST.out.2.1, HST.out.2.2, HB9.out⟩
            case measure => simp [slLen]; omega

    · obtain rfl : q = 0 := by omega
      obtain rfl : m = js.length := by omega
      obtain ⟨hown, h1, h2, h3, h4, hbw⟩ := HAT.out
      obtain ⟨A4, c4, rfl, _⟩ := hown.slice
      rw [List.take_of_length_le (by simp)] at h1
      have HF := Lib.hid (show HousesPost (l.map NoteR.v) w (.returned (.slice A4 hs.length c4)) wr from ⟨A4, c4, hs, js.map NoteR.v, rfl, own_base hown HB1.out.size, HJO.out, h1, h3, Nat.le_trans h4 HLE.out, HB1.out.trans (hbw.mono HB1.out.size)⟩)
      clear hown h1 h2 h3 h4 hbw
      go_wp2_with fail
      go_ret
      exact HF.out

/-! ### Forks -/
def ForksPost (l : List NoteV) (w : World) (e : Ending) (w' : World) : Prop :=
  ∃ A c fs ys hs, e = .returned (.slice A (fs : List Int).length c) ∧ Sl intD w' Any1 A fs ∧ IsJoin l ys ∧ IsHouses ys hs ∧ fs = (hs.filter HouseS.forked).map HouseS.number ∧ fs.length ≤ l.length ∧ Below w.heap.size w w'
theorem forks_next {hs : List HouseT} {k : Nat} {x : HouseT} (h : hs[k]? = some x) : (((hs.take (k + 1)).map HouseT.s).filter HouseS.forked).map HouseS.number = (((hs.take k).map HouseT.s).filter HouseS.forked).map HouseS.number ++ (if x.forked then [x.number] else []) := by
  obtain ⟨hk, he⟩ := List.getElem?_eq_some_iff.1 h
  rw [List.take_succ_eq_append_getElem hk, he, List.map_append, List.filter_append, List.map_append]
  congr 1
  cases hq : x.forked <;> simp [HouseT.s, hq]
set_option maxRecDepth 100000 in
set_option maxHeartbeats 4000000 in
theorem gossip_forks (l : List NoteR) (A : Option Addr) (c : Nat) {B : Nat} (w : World) (ht : Tab B w) (hB : B ≤ w.heap.size) (h : Sl noteD w Any1 A l) (hsm : ∀ r ∈ l, SmN r.v) (hl : l.length ≤ 50000) :
    Calls Tryz.prog 18 #[.slice A l.length c] w (ForksPost (l.map NoteR.v) w) := by
  have HH := Lib.hid (gossip_houses l A c w ht hB h hsm hl)
  clear ht h hsm
  go_enter Tryz.func18, Tryz.ntmps18
  go_wp2_with fail
  refine HH.out.mono ?_
  rintro e w1 ⟨A1, c1, hs, ys, rfl, hown, hj, hih, h3, hle, hb1⟩
  have HSL := Lib.hid (hown.sl (fun _ _ _ => trivial))
  have HJ := Lib.hid hj
  have HIH := Lib.hid hih
  have HB1 := Lib.hid hb1
  have HLE := Lib.hid hle
  have hhl : hs.length ≤ 50000 := by rw [List.length_map] at hle; omega
  clear hown hj hih h3 hle hb1
  go_wp2_with fail
  go_loopw [3, 9] (fun t u wr => ∃ (k : Nat) (fs : List Int), k ≤ hs.length ∧ fs.length ≤ k ∧ u = .int .i64 (k : Int) ∧ Hid (fs = (((hs.take k).map HouseT.s).filter HouseS.forked).map HouseS.number) ∧ Hid (OwnS intD 3 w1.heap.size wr Any1 t fs) ∧ Hid (Below w1.heap.size w1 wr)) (fun _ u _ => hs.length - (intOf u).toNat)
  case atStart => exact ⟨0, [], Nat.zero_le _, Nat.le_refl _, rfl, rfl, OwnS.nil_, Below.refl _ _⟩
  case round =>
    obtain ⟨k, fs, hk, hfl, rfl, HF, HO, HW⟩ := hrel
    have hw1 := HW.out.size
    by_cases hlt : k < hs.length
    · obtain ⟨b, off, rfl, _, hbw, _, hcl⟩ := (HSL.out.below HW.out).get hlt
      have hx : hs[k]? = some hs[k] := List.getElem?_eq_getElem hlt
      generalize hs[k] = x at hx hcl
      have c0 : wr.cell? ⟨b, off + k * 4, none⟩ = some (.int .i64 x.number) := hcl 0 _ rfl
      have c1 : wr.cell? ⟨b, off + k * 4 + 1, none⟩ = some (.slice x.A x.rs.length x.c) := hcl 1 _ rfl
      have c2 : wr.cell? ⟨b, off + k * 4 + 2, none⟩ = some (.bool x.forked) := hcl 2 _ rfl
      have c3 : wr.cell? ⟨b, off + k * 4 + 3, none⟩ = some (.int .i64 (x.taken : Int)) := hcl 3 _ rfl
      have HN := Lib.hid (forks_next hx)
      clear hx hcl
      cases hq : x.forked with
      | true =>
        rw [hq] at c2
        have HNF := Lib.hid (show fs ++ [x.number] = (((hs.take (k + 1)).map HouseT.s).filter HouseS.forked).map HouseS.number by rw [HN.out, hq, ← HF.out]; rfl)
        obtain ⟨i0, hi0, hz0, hz1, hz2⟩ := info_parts Tryz.infoI
        have hbu : Below wr.heap.size wr ((wr.alloc (.cells #[.int .i64 x.number, .slice x.A x.rs.length x.c, .bool true, .int .i64 (x.taken : Int)] 79)).alloc (.cells #[.int .i64 x.number] 3)) := ((Below.refl _ _).alloc (Nat.le_refl _) _).alloc (by simp) _
        have HOB := Lib.hid (HO.out.below hbu)
        have HBU := Lib.hid hbu
        clear hbu hq
        go_wp2_with (at_builtin; refine wpList_append_any _ rfl (.tmp 15) (.tmp 18) _ rfl w1.heap.size 3 i0 _ 1 8 Tryz.underlying38 hi0 hz0 hz1 hz2 rfl (by omega) _ fs.length (fs.flatMap intD.cells) rfl HOB.out.1 (wr.heap.size + 1 + 1) (some ⟨wr.heap.size + 1, 0, none⟩) 1 1 [.int .i64 x.number] rfl ?c2 ?c6 ?c3 ?c4 ?c5 ?_)
        case c2 => simpa using reads_new (wr.alloc (.cells #[.int .i64 x.number, .slice x.A x.rs.length x.c, .bool true, .int .i64 (x.taken : Int)] 79)) [.int .i64 x.number] 3 1 1 rfl
        case c6 => intro u hu; simp at hu; rw [hu]; rfl
        case c3 => unfold maxLen; omega
        case c4 => omega
        case c5 => simp; omega
        intro v9 w9 hown9 hg9 hat9
        have HM9 := Lib.hid (OwnS.more (D := intD) (S := Any1) (news := [x.number]) (xs := fs) HOB.out.2 (fun _ _ => trivial) rfl rfl hown9 hg9 (by simpa using hat9))
        have HB9 := Lib.hid (show Below w1.heap.size w1 w9 from (HW.out.trans (HBU.out.mono hw1)).grown hg9 (Nat.le_trans hw1 HBU.out.size) (fun g hg => (owns_lt HOB.out.1 g hg).1))
        clear hown9 hg9 hat9
        go_wp2_with fail
        go_roundw
        case rel => exact ⟨k + 1, fs ++ [x.number], by omega, by simp; omega, by go_num, HNF.out, HM9.out, HB9.out⟩
        case measure => simp [intOf]; omega
      | false =>
        rw [hq] at c2
        have HNF := Lib.hid (show fs = (((hs.take (k + 1)).map HouseT.s).filter HouseS.forked).map HouseS.number by rw [HN.out, hq, ← HF.out]; simp)
        have hbu : Below wr.heap.size wr (wr.alloc (.cells #[.int .i64 x.number, .slice x.A x.rs.length x.c, .bool false, .int .i64 (x.taken : Int)] 79)) := (Below.refl _ _).alloc (Nat.le_refl _) _
        have HOB := Lib.hid (HO.out.below hbu)
        have HWB := Lib.hid (HW.out.trans (hbu.mono hw1))
        clear hbu hq
        go_wp2_with fail
        go_roundw
        case rel => exact ⟨k + 1, fs, by omega, by omega, by go_num, HNF.out, HOB.out, HWB.out⟩
        case measure => simp [intOf]; omega
    · obtain rfl : k = hs.length := by omega
      obtain ⟨A4, c4, rfl, _⟩ := HO.out.slice
      have HS := Lib.hid (HO.out.sl (fun _ _ _ => trivial))
      have HFF := Lib.hid (show fs = ((hs.map HouseT.s).filter HouseS.forked).map HouseS.number by have := HF.out; rw [List.take_of_length_le (Nat.le_refl _)] at this; exact this)
      go_wp2_with fail
      go_ret
      exact ⟨A4, c4, fs, ys, hs.map HouseT.s, rfl, HS.out, HJ.out, HIH.out, HFF.out, Nat.le_trans hfl HLE.out, HB1.out.trans (HW.out.mono HB1.out.size)⟩
end Go.Proofs.YtaojnjealccjiaaGreatDoor
