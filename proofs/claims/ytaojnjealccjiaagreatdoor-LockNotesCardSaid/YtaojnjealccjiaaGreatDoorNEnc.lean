/- The contract of seal.Encode at a right note. -/
import Derived.Test.YtaojnjealccjiaaGreatDoorNWire2
import Derived.Test.YtaojnjealccjiaaGreatDoorNSeal2
import Derived.Deep.RegionHeld3
import Derived.Deep.DeepCutAuto
namespace Go.Proofs.YtaojnjealccjiaaGreatDoor
open Go Go.RowKit Nt Go.Proofs
set_option linter.unusedVariables false
set_option linter.unusedSimpArgs false

theorem below_dl {w w' : World} (h : Below w.drew.heap.size w.drew w') : Below w.heap.size w w' := ⟨h.os, h.tape, h.output, h.size, h.block⟩
theorem reads_new (w : World) (cs : List Value) (t : TypeId) (n k : Nat) (hk : cs.length = n * k) : Reads (w.alloc (.cells cs.toArray t)) (w.heap.size + 1) k (some ⟨w.heap.size, 0, none⟩) n cs := by
  refine ⟨hk, fun _ => ⟨_, rfl, Nat.lt_succ_self _, fun j u hu => ?_⟩⟩
  have e : (w.alloc (.cells cs.toArray t)).cell? ⟨w.heap.size, j, none⟩ = some u := by
    unfold World.cell?
    rw [show (w.alloc (.cells cs.toArray t)).heap[(⟨w.heap.size, j, none⟩ : Addr).block]? = _ from heap_alloc_new w _]
    simpa using hu
  unfold Addr.add
  split
  · next h0 => subst h0; exact e
  · simp only [Nat.zero_add]; exact e
theorem Tryz.infoI : (Tryz.prog.info? 3).map (fun i => (i.zero, i.size, i.bytes)) = some (some (.int .i64 0), 1, 8) := by kernel_rfl
theorem flat_take {l : List RefV} {k : Nat} {x : RefV} (h : l[k]? = some x) : flat (l.take (k + 1)) = flat (l.take k) ++ [x.house, x.no] := by
  obtain ⟨hk, he⟩ := List.getElem?_eq_some_iff.1 h
  rw [List.take_succ_eq_append_getElem hk, he]
  simp [flat]
/-- the note x in its box -/
def BoxN (w wr : World) (v : NoteV) (A : Option Addr) (c : Nat) : Prop :=
  (wr.cell? ⟨w.heap.size, 0, none⟩ = some (.int .i64 v.house) ∧ wr.cell? ⟨w.heap.size, 1, none⟩ = some (.int .i64 v.no) ∧ wr.cell? ⟨w.heap.size, 2, none⟩ = some (.int .i64 v.day) ∧
  wr.cell? ⟨w.heap.size, 3, none⟩ = some (.slice A v.needs.length c) ∧ wr.cell? ⟨w.heap.size, 4, none⟩ = some (.string v.text)) ∧ w.heap.size < wr.heap.size ∧ Below w.heap.size w wr
theorem BoxN.below {w wr w' : World} {v : NoteV} {A : Option Addr} {c : Nat} (h : BoxN w wr v A c) (hb : Below (w.heap.size + 1) wr w') : BoxN w w' v A c := by
  obtain ⟨⟨h0, h1, h2, h3, h4⟩, hs, hB⟩ := h
  have hs' : w.heap.size < w.heap.size + 1 := by omega
  have hs' : w.heap.size < w.heap.size + 1 := by omega
  have hs' : w.heap.size < w.heap.size + 1 := by omega
  have hs' : w.heap.size < w.heap.size + 1 := by omega
  exact ⟨⟨(hb.cell (p := ⟨w.heap.size, 0, none⟩) hs').trans h0, (hb.cell (p := ⟨w.heap.size, 1, none⟩) hs').trans h1, (hb.cell (p := ⟨w.heap.size, 2, none⟩) hs').trans h2, (hb.cell (p := ⟨w.heap.size, 3, none⟩) hs').trans h3, (hb.cell (p := ⟨w.heap.size, 4, none⟩) hs').trans h4⟩, Nat.lt_of_lt_of_le hs hb.size, hB.trans (hb.mono (by omega))⟩
/-- what the loop keeps -/
def EncAt (w wr : World) (v : NoteV) (A : Option Addr) (c k : Nat) (t : Value) : Prop := OwnS intD 3 (w.heap.size + 1) wr Any1 t (flat (v.needs.take k)) ∧ BoxN w wr v A c
def EncPost (v : NoteV) (w : World) (e : Ending) (w' : World) : Prop := e = .returned (.tuple #[.string ⟨(encode v).toArray⟩, .bool true]) ∧ Below w.heap.size w w'

set_option maxRecDepth 100000 in
set_option maxHeartbeats 4000000 in
theorem seal_encode (v : NoteV) (A : Option Addr) (c : Nat) (S : Nat → Prop) {B : Nat} (w : World) (ht : Tab B w) (hB : B ≤ w.heap.size) (h : Sl refD w S A v.needs) (hr : rightN v = true) :
    Calls Tryz.prog 94 #[.agg #[.int .i64 v.house, .int .i64 v.no, .int .i64 v.day, .slice A v.needs.length c, .string v.text]] w (EncPost v w) := by
  have hd := headB_iff.1 (rightN_head hr)
  have HF := Lib.hid (flat_nn hr)
  have hright := fun W (q : Sl refD W S A v.needs) => seal_right v A c W S q (by omega) (by omega)
  rw [hr] at hright
  have HR := Lib.hid hright
  have HS := Lib.hid h
  have HT := Lib.hid ht
  obtain ⟨⟨d1, d2⟩, ⟨d3, d4⟩, ⟨d5, d6⟩, d7, d8⟩ := hd
  clear hright h ht hr
  go_enter Tryz.func94, Tryz.ntmps94
  go_wp2_with fail
  refine (HR.out _ (HS.out.below ((Below.refl _ _).alloc (Nat.le_refl _) _))).mono ?_
  rintro e w1 ⟨rfl, hb1⟩
  have HBx := Lib.hid (BoxN.below (w := w) (v := v) (A := A) (c := c) ⟨⟨by simp [go_sem], by simp [go_sem], by simp [go_sem], by simp [go_sem], by simp [go_sem]⟩, by simp, (Below.refl _ _).alloc (Nat.le_refl _) _⟩ (hb1.mono (by simp)))
  have q3 : w1.cell? ⟨w.heap.size, 3, none⟩ = some (.slice A v.needs.length c) := HBx.out.1.2.2.2.1
  clear hb1
  go_wp2_with fail
  go_loopw [4, 13] (fun t u wr => ∃ k : Nat, k ≤ v.needs.length ∧ u = .int .i64 (k : Int) ∧ EncAt w wr v A c k t) (fun _ u _ => v.needs.length - (intOf u).toNat)
  case atStart => exact ⟨0, Nat.zero_le _, rfl, OwnS.nil_, HBx.out⟩
  case round =>
    obtain ⟨k, hk, rfl, hown, hbox⟩ := hrel
    have HO := Lib.hid hown
    have HX := Lib.hid hbox
    have hw0 := hbox.2.1
    have hbl := hbox.2.2
    clear hown hbox
    by_cases hlt : k < v.needs.length
    · obtain ⟨b, off, rfl, _, hbw, _, hcl⟩ := HS.out.get hlt
      have hx : v.needs[k]? = some v.needs[k] := List.getElem?_eq_getElem hlt
      generalize v.needs[k] = x at hx hcl
      have c0 : wr.cell? ⟨b, off + k * 2, none⟩ = some (.int .i64 x.house) := (hbl.cell (p := ⟨b, off + k * 2, none⟩) hbw).trans (hcl 0 _ rfl)
      have c1 : wr.cell? ⟨b, off + k * 2 + 1, none⟩ = some (.int .i64 x.no) := (hbl.cell (p := ⟨b, off + k * 2 + 1, none⟩) hbw).trans (hcl 1 _ rfl)
      have HFT := Lib.hid (flat_take hx)
      have hbr : b < wr.heap.size := by omega
      obtain ⟨i0, hi0, hz0, hz1, hz2⟩ := info_parts Tryz.infoI
      have hfl : (flat (v.needs.take k)).length ≤ 80 := by
        rw [Nt.flat_length, List.length_take]; omega
      generalize hq : flat (v.needs.take k) = xs at *
      clear hcl hx hbl hq
      go_wp2_with (at_builtin; refine wpList_append_any _ rfl (.tmp 17) (.tmp 22) _ rfl (w.heap.size + 1) 3 i0 _ 1 8 Tryz.underlying38 hi0 hz0 hz1 hz2 rfl (by omega) _ xs.length (xs.flatMap intD.cells) rfl ?c1 (wr.heap.size + 1 + 1) (some ⟨wr.heap.size + 1, 0, none⟩) 2 2 [.int .i64 x.house, .int .i64 x.no] rfl ?c2 ?c6 ?c3 ?c4 ?c5 ?_)
      case c1 => exact owns_below HO.out.1 (((Below.refl _ _).alloc (Nat.le_refl _) _).alloc (by simp) _)
      case c2 => simpa using reads_new (wr.alloc (.cells #[.int .i64 x.house, .int .i64 x.no] 100)) [.int .i64 x.house, .int .i64 x.no] 3 2 1 rfl
      case c6 => intro u hu; simp at hu; rcases hu with rfl | rfl <;> rfl
      case c3 => unfold maxLen; omega
      case c4 => omega
      case c5 => simp; omega
      intro v9 w9 hown9 hg9 hat9
      have HM9 := Lib.hid (OwnS.more (D := intD) (S := Any1) (news := [x.house, x.no]) (xs := xs) (fun _ _ => trivial) (fun _ _ => trivial) rfl rfl hown9 hg9 (by simpa using hat9))
      have HX9 := Lib.hid (HX.out.below ((((Below.refl _ wr).alloc (by omega) _).alloc (by simp; omega) _).grown hg9 (by simp; omega) (fun g hg => (owns_lt HO.out.1 g hg).1)))
      clear hown9 hg9 hat9
      go_wp2_with fail
      go_roundw
      case rel => exact ⟨k + 1, by omega, by go_num, by rw [HFT.out]; exact HM9.out, HX9.out⟩
      case measure => simp [intOf]; omega
    · obtain rfl : k = v.needs.length := by omega
      have HL := Lib.hid (show v.needs.take v.needs.length = v.needs from List.take_of_length_le (Nat.le_refl _))
      obtain ⟨A4, c4, rfl, hc4, hm4⟩ := HO.out.slice
      have hsl : Sl intD wr Any1 A4 (flat v.needs) := by
        have := HO.out.sl (fun _ _ _ => trivial)
        rw [HL.out] at this
        exact this
      have HSL := Lib.hid hsl
      have e4 : (flat (v.needs.take v.needs.length)).length = (flat v.needs).length := by rw [HL.out]
      rw [e4]
      have hfl : (flat v.needs).length ≤ 80 := by rw [Nt.flat_length]; omega
      have n0 := fun W (q : Tab B W) => wire_num v.house d1 (by omega) W q
      have n1 := fun W (q : Tab B W) => wire_num v.no d3 (by omega) W q
      have n2 := fun W (q : Tab B W) => wire_num v.day d5 (by omega) W q
      have n3 := fun W (q : Tab B W) (hBW : B ≤ W.heap.size) (hs : Sl intD W Any1 A4 (flat v.needs)) => wire_Nums (flat v.needs) A4 c4 Any1 W q hBW hs (fun n hn => ⟨by have := (HF.out n hn).1; omega, by have := (HF.out n hn).2; omega⟩) (by omega)
      have n4 := fun W (q : Tab B W) => wire_text v.text (by omega) W q
      have N0 := Lib.hid n0
      have N1 := Lib.hid n1
      have N2 := Lib.hid n2
      have N3 := Lib.hid n3
      have N4 := Lib.hid n4
      have HB0 := Lib.hid hbl
      have hz0 := hw0
      obtain ⟨⟨v0q0, v0q1, v0q2, v0q3, v0q4⟩, _, _⟩ := HX.out
      have l0 := num_len v.house (by omega) (by omega)
      have l1 := num_len v.no (by omega) (by omega)
      have l2 := num_len v.day (by omega) (by omega)
      have l3 : (nums (flat v.needs)).length ≤ 2000 := by
        have h1 := nums_len (flat v.needs) (fun n hn => ⟨by have := (HF.out n hn).1; omega, by have := (HF.out n hn).2; omega⟩)
        have h2 := Lib.itoa_length_le ((flat v.needs).length : Int) (by omega) (by omega)
        unfold nums
        simp only [List.length_append, List.length_cons, List.length_nil]
        omega
      have l4 : (txt v.text).length ≤ 9000 := by
        have h2 := Lib.itoa_length_le (v.text.size : Int) (by omega) (by omega)
        have h3 : v.text.data.toList.length = v.text.size := rfl
        unfold txt
        simp only [List.length_append, List.length_cons, List.length_nil]
        omega
      have HE := Lib.hid (show encode v = num v.house ++ num v.no ++ num v.day ++ nums (flat v.needs) ++ txt v.text from rfl)
      clear n0 n1 n2 n3 n4 hbl hsl e4 v0q3
      generalize num v.house = b0 at *
      generalize num v.no = b1 at *
      generalize num v.day = b2 at *
      generalize nums (flat v.needs) = b3 at *
      generalize txt v.text = b4 at *
      have k1 : b0.length + b1.length ≤ 9223372036854775807 := by omega
      have k2 : b0.length + b1.length + b2.length ≤ 9223372036854775807 := by omega
      have k3 : b0.length + b1.length + b2.length + b3.length ≤ 9223372036854775807 := by omega
      have k4 : b0.length + b1.length + b2.length + b3.length + b4.length ≤ 9223372036854775807 := by omega
      have m1 : (9223372036854775807 < b0.length + b1.length) = False := eq_false (by omega)
      have m2 : (9223372036854775807 < b0.length + b1.length + b2.length) = False := eq_false (by omega)
      have m3 : (9223372036854775807 < b0.length + b1.length + b2.length + b3.length) = False := eq_false (by omega)
      have m4 : (9223372036854775807 < b0.length + b1.length + b2.length + b3.length + b4.length) = False := eq_false (by omega)
      go_wp2_with fail
      go_region_held3 (fun w' => w'.cell? ⟨w.heap.size, 0, none⟩ = some (.int .i64 v.house) ∧ w'.cell? ⟨w.heap.size, 1, none⟩ = some (.int .i64 v.no) ∧ w'.cell? ⟨w.heap.size, 2, none⟩ = some (.int .i64 v.day) ∧ w'.cell? ⟨w.heap.size, 4, none⟩ = some (.string v.text)) (go_keep)
        (first
         | (go_at_call 124; (with_reducible refine (N0.out _ (HT.out.on (HB0.out.drew.mono hB))).mono ?_); rintro e v1 ⟨rfl, hb1⟩; have HX1 := Lib.hid (below_dl hb1); have HB1 := Lib.hid (HB0.out.trans (HX1.out.mono HB0.out.size)); have v1q0 : v1.cell? ⟨w.heap.size, 0, none⟩ = some (.int .i64 v.house) := (HX1.out.cell (p := ⟨w.heap.size, 0, none⟩) (show w.heap.size < _ by omega)).trans v0q0; have v1q1 : v1.cell? ⟨w.heap.size, 1, none⟩ = some (.int .i64 v.no) := (HX1.out.cell (p := ⟨w.heap.size, 1, none⟩) (show w.heap.size < _ by omega)).trans v0q1; have v1q2 : v1.cell? ⟨w.heap.size, 2, none⟩ = some (.int .i64 v.day) := (HX1.out.cell (p := ⟨w.heap.size, 2, none⟩) (show w.heap.size < _ by omega)).trans v0q2; have v1q4 : v1.cell? ⟨w.heap.size, 4, none⟩ = some (.string v.text) := (HX1.out.cell (p := ⟨w.heap.size, 4, none⟩) (show w.heap.size < _ by omega)).trans v0q4; have hz1 : w.heap.size < v1.heap.size := Nat.lt_of_lt_of_le hz0 HX1.out.size; clear hb1)
         | (go_at_call 124; (with_reducible refine (N1.out _ (HT.out.on (HB1.out.mono hB))).mono ?_); rintro e v2 ⟨rfl, hb2⟩; have HX2 := Lib.hid (hb2); have HB2 := Lib.hid (HB1.out.trans (HX2.out.mono HB1.out.size)); have v2q0 : v2.cell? ⟨w.heap.size, 0, none⟩ = some (.int .i64 v.house) := (HX2.out.cell (p := ⟨w.heap.size, 0, none⟩) (show w.heap.size < _ by omega)).trans v1q0; have v2q1 : v2.cell? ⟨w.heap.size, 1, none⟩ = some (.int .i64 v.no) := (HX2.out.cell (p := ⟨w.heap.size, 1, none⟩) (show w.heap.size < _ by omega)).trans v1q1; have v2q2 : v2.cell? ⟨w.heap.size, 2, none⟩ = some (.int .i64 v.day) := (HX2.out.cell (p := ⟨w.heap.size, 2, none⟩) (show w.heap.size < _ by omega)).trans v1q2; have v2q4 : v2.cell? ⟨w.heap.size, 4, none⟩ = some (.string v.text) := (HX2.out.cell (p := ⟨w.heap.size, 4, none⟩) (show w.heap.size < _ by omega)).trans v1q4; have hz2 : w.heap.size < v2.heap.size := Nat.lt_of_lt_of_le hz1 HX2.out.size; clear hb2)
         | (go_at_call 124; (with_reducible refine (N2.out _ (HT.out.on (HB2.out.mono hB))).mono ?_); rintro e v3 ⟨rfl, hb3⟩; have HX3 := Lib.hid (hb3); have HB3 := Lib.hid (HB2.out.trans (HX3.out.mono HB2.out.size)); have v3q0 : v3.cell? ⟨w.heap.size, 0, none⟩ = some (.int .i64 v.house) := (HX3.out.cell (p := ⟨w.heap.size, 0, none⟩) (show w.heap.size < _ by omega)).trans v2q0; have v3q1 : v3.cell? ⟨w.heap.size, 1, none⟩ = some (.int .i64 v.no) := (HX3.out.cell (p := ⟨w.heap.size, 1, none⟩) (show w.heap.size < _ by omega)).trans v2q1; have v3q2 : v3.cell? ⟨w.heap.size, 2, none⟩ = some (.int .i64 v.day) := (HX3.out.cell (p := ⟨w.heap.size, 2, none⟩) (show w.heap.size < _ by omega)).trans v2q2; have v3q4 : v3.cell? ⟨w.heap.size, 4, none⟩ = some (.string v.text) := (HX3.out.cell (p := ⟨w.heap.size, 4, none⟩) (show w.heap.size < _ by omega)).trans v2q4; have hz3 : w.heap.size < v3.heap.size := Nat.lt_of_lt_of_le hz2 HX3.out.size; clear hb3)
         | (go_at_call 125; (with_reducible refine (N3.out _ (HT.out.on (HB3.out.mono hB)) (Nat.le_trans hB HB3.out.size) (((HSL.out.below HX1.out).below HX2.out).below HX3.out)).mono ?_); rintro e v4 ⟨rfl, hb4⟩; have HX4 := Lib.hid (hb4); have HB4 := Lib.hid (HB3.out.trans (HX4.out.mono HB3.out.size)); have v4q0 : v4.cell? ⟨w.heap.size, 0, none⟩ = some (.int .i64 v.house) := (HX4.out.cell (p := ⟨w.heap.size, 0, none⟩) (show w.heap.size < _ by omega)).trans v3q0; have v4q1 : v4.cell? ⟨w.heap.size, 1, none⟩ = some (.int .i64 v.no) := (HX4.out.cell (p := ⟨w.heap.size, 1, none⟩) (show w.heap.size < _ by omega)).trans v3q1; have v4q2 : v4.cell? ⟨w.heap.size, 2, none⟩ = some (.int .i64 v.day) := (HX4.out.cell (p := ⟨w.heap.size, 2, none⟩) (show w.heap.size < _ by omega)).trans v3q2; have v4q4 : v4.cell? ⟨w.heap.size, 4, none⟩ = some (.string v.text) := (HX4.out.cell (p := ⟨w.heap.size, 4, none⟩) (show w.heap.size < _ by omega)).trans v3q4; have hz4 : w.heap.size < v4.heap.size := Nat.lt_of_lt_of_le hz3 HX4.out.size; clear hb4)
         | (go_at_call 126; (with_reducible refine (N4.out _ (HT.out.on (HB4.out.mono hB))).mono ?_); rintro e v5 ⟨rfl, hb5⟩; have HX5 := Lib.hid (hb5); have HB5 := Lib.hid (HB4.out.trans (HX5.out.mono HB4.out.size)); have v5q0 : v5.cell? ⟨w.heap.size, 0, none⟩ = some (.int .i64 v.house) := (HX5.out.cell (p := ⟨w.heap.size, 0, none⟩) (show w.heap.size < _ by omega)).trans v4q0; have v5q1 : v5.cell? ⟨w.heap.size, 1, none⟩ = some (.int .i64 v.no) := (HX5.out.cell (p := ⟨w.heap.size, 1, none⟩) (show w.heap.size < _ by omega)).trans v4q1; have v5q2 : v5.cell? ⟨w.heap.size, 2, none⟩ = some (.int .i64 v.day) := (HX5.out.cell (p := ⟨w.heap.size, 2, none⟩) (show w.heap.size < _ by omega)).trans v4q2; have v5q4 : v5.cell? ⟨w.heap.size, 4, none⟩ = some (.string v.text) := (HX5.out.cell (p := ⟨w.heap.size, 4, none⟩) (show w.heap.size < _ by omega)).trans v4q4; have hz5 : w.heap.size < v5.heap.size := Nat.lt_of_lt_of_le hz4 HX5.out.size; clear hb5))
      go_wp2_with fail
      go_ret2
      refine ⟨?_, HB5.out⟩
      have e : (⟨b0.toArray⟩ ++ ⟨b1.toArray⟩ ++ ⟨b2.toArray⟩ ++ ⟨b3.toArray⟩ ++ ⟨b4.toArray⟩ : ByteArray) = ⟨(b0 ++ b1 ++ b2 ++ b3 ++ b4).toArray⟩ := by rw [str_app, str_app, str_app, str_app]
      rw [HE.out, ← e]
      rfl
end Go.Proofs.YtaojnjealccjiaaGreatDoor
