/- The contract of kitbaglaw48.seen. -/
import Derived.Test.YtaojnjealccjiaaGreatDoorAll
import Derived.Test.YtaojnjealccjiaaGreatDoorFewA
namespace Go.Proofs.YtaojnjealccjiaaGreatDoor
open Go Go.RowKit Go.Proofs
set_option linter.unusedVariables false

theorem av_old {M n : Nat} {w : World} {s : Int} {A : Option Addr} {b : Bg.BigV} {row : Option Nat} (h : IsBig M w s A n b) (hr : ∀ g, row = some g → w.heap.size ≤ g) (hn : b.dg ≠ []) : Av row A := by
  intro b' o e hh
  obtain ⟨b2, o2, e2, hlt, _⟩ := h.2.2.2 (by simpa using hn)
  rw [e2] at e
  injection e with e
  injection e with e
  have := hr b' hh.symm
  omega
theorem IsShown.av_old {M : Nat} {w : World} {r : Raw} {x : Bg.ShownV} {row : Option Nat} (h : IsShown M w r x) (hr : ∀ g, row = some g → w.heap.size ≤ g) : AvR row r x :=
  ⟨Go.Proofs.YtaojnjealccjiaaGreatDoor.av_old h.2.2.1.1 hr, Go.Proofs.YtaojnjealccjiaaGreatDoor.av_old h.2.2.1.2 hr, Go.Proofs.YtaojnjealccjiaaGreatDoor.av_old h.2.2.2.1 hr, Go.Proofs.YtaojnjealccjiaaGreatDoor.av_old h.2.2.2.2 hr⟩
/-- the figures that are not hidden on a day -/
def seenL (acts : List Kb.Akt) (day : Int) (l : List Bg.ShownV) : List Bg.ShownV := l.filter fun x => !Kb.hiddenB acts x.key.data.toList day

set_option maxRecDepth 100000 in
set_option maxHeartbeats 4000000 in
theorem law_seen {M : Nat} (acts : List Kb.Akt) (A0 : Option Addr) (c0 : Nat) (rs : List Raw) (l : List Bg.ShownV) (A : Option Addr) (c : Nat) (day : Int) (w : World) (ha : Lst aktV 4 w A0 acts) (hsm : Small acts) (h : Shs M w A rs l) (hl : l.length ≤ 1000000) :
    Calls Tryz.prog 9 #[.slice A0 acts.length c0, .slice A l.length c, .int .i64 day] w (AllPost M (seenL acts day l) w) := by
  have HA := Lib.hid ha
  have HSm := Lib.hid hsm
  have H := Lib.hid h
  clear h ha hsm
  go_enter Tryz.func9, Tryz.ntmps9
  go_wp2_with fail
  go_loopw [7, 8] (fun t u wr => ∃ k : Nat, k ≤ l.length ∧ u = .int .i64 (k : Int) ∧ RowIs M w wr t (seenL acts day (l.take k))) (fun _ u _ => l.length - (intOf u).toNat)
  case atStart =>
    exact ⟨0, Nat.zero_le _, rfl, [], ⟨rfl, .inr ⟨w.heap.size, 0, #[], rfl, Nat.le_refl _, heap_alloc_new w _, Nat.le_refl _, by unfold maxLen; omega, by simp, by simp⟩⟩, rfl, fun j r x hr => by simp at hr, (Below.refl _ _).alloc (Nat.le_refl _) _⟩
  case round =>
    obtain ⟨k, hk, rfl, hrow⟩ := hrel
    have HRW := Lib.hid hrow
    have hbw : Below w.heap.size w wr := by obtain ⟨_, _, _, _, hb⟩ := hrow; exact hb
    have HB := Lib.hid hbw
    clear hrow hbw
    by_cases hlt : k < l.length
    · obtain ⟨b, off, r, x, rfl, hbl, hr, hx, hsh, hks, hcl⟩ := (H.out.below HB.out).get hlt
      have HCL := Lib.hid hcl
      have hsh0 : IsShown M w r x := (H.out.2.2 k r x hr hx).1
      have HS0 := Lib.hid hsh0
      have HFT := Lib.hid (filter_take hx fun x => !Kb.hiddenB acts x.key.data.toList day)
      have hxk := hsh.1
      have hhid := fun W (q : Lst aktV 4 W A0 acts) => lock_hidden acts A0 c0 r.k day W q HSm.out (by omega)
      clear hcl hr hsh hx hsh0
      have a0 : wr.cell? ⟨b, off + k * 10, none⟩ = some (Value.string r.k) := HCL.out 0 _ rfl
      have a1 : wr.cell? ⟨b, off + k * 10 + 1, none⟩ = some (Value.int .i64 r.nt) := HCL.out 1 _ rfl
      have a2 : wr.cell? ⟨b, off + k * 10 + 2, none⟩ = some (Value.int .i64 r.s1) := HCL.out 2 _ rfl
      have a3 : wr.cell? ⟨b, off + k * 10 + 3, none⟩ = some (Value.slice r.A1 r.n1 r.c1) := HCL.out 3 _ rfl
      have a4 : wr.cell? ⟨b, off + k * 10 + 4, none⟩ = some (Value.int .i64 r.s2) := HCL.out 4 _ rfl
      have a5 : wr.cell? ⟨b, off + k * 10 + 5, none⟩ = some (Value.slice r.A2 r.n2 r.c2) := HCL.out 5 _ rfl
      have a6 : wr.cell? ⟨b, off + k * 10 + 6, none⟩ = some (Value.int .i64 r.s3) := HCL.out 6 _ rfl
      have a7 : wr.cell? ⟨b, off + k * 10 + 7, none⟩ = some (Value.slice r.A3 r.n3 r.c3) := HCL.out 7 _ rfl
      have a8 : wr.cell? ⟨b, off + k * 10 + 8, none⟩ = some (Value.int .i64 r.s4) := HCL.out 8 _ rfl
      have a9 : wr.cell? ⟨b, off + k * 10 + 9, none⟩ = some (Value.slice r.A4 r.n4 r.c4) := HCL.out 9 _ rfl
      have hw0 := HB.out.size
      have hlk : (seenL acts day (l.take k)).length ≤ 1000000 := Nat.le_trans (List.length_filter_le _ _) (by rw [List.length_take]; omega)
      cases hh : Kb.hiddenB acts r.k.data.toList day with
      | false =>
        have HFN := Lib.hid (show seenL acts day (l.take (k + 1)) = seenL acts day (l.take k) ++ [x] by unfold seenL; rw [HFT.out, hxk, hh]; rfl)
        rw [hh] at hhid
        have HH := Lib.hid hhid
        obtain ⟨i0, hi0, hz0, hz1, hz2⟩ := info_parts Tryz.infoShown
        clear hh hhid hxk
        go_wp2_with fail
        refine (HH.out _ (HA.out.below HB.out)).mono ?_
        rintro e w1 ⟨rfl, hb1⟩
        have c0 : w1.cell? ⟨b, off + k * 10, none⟩ = some (Value.string r.k) := (hb1.cell (p := ⟨b, off + k * 10, none⟩) hbl).trans a0
        have c1 : w1.cell? ⟨b, off + k * 10 + 1, none⟩ = some (Value.int .i64 r.nt) := (hb1.cell (p := ⟨b, off + k * 10 + 1, none⟩) hbl).trans a1
        have c2 : w1.cell? ⟨b, off + k * 10 + 2, none⟩ = some (Value.int .i64 r.s1) := (hb1.cell (p := ⟨b, off + k * 10 + 2, none⟩) hbl).trans a2
        have c3 : w1.cell? ⟨b, off + k * 10 + 3, none⟩ = some (Value.slice r.A1 r.n1 r.c1) := (hb1.cell (p := ⟨b, off + k * 10 + 3, none⟩) hbl).trans a3
        have c4 : w1.cell? ⟨b, off + k * 10 + 4, none⟩ = some (Value.int .i64 r.s2) := (hb1.cell (p := ⟨b, off + k * 10 + 4, none⟩) hbl).trans a4
        have c5 : w1.cell? ⟨b, off + k * 10 + 5, none⟩ = some (Value.slice r.A2 r.n2 r.c2) := (hb1.cell (p := ⟨b, off + k * 10 + 5, none⟩) hbl).trans a5
        have c6 : w1.cell? ⟨b, off + k * 10 + 6, none⟩ = some (Value.int .i64 r.s3) := (hb1.cell (p := ⟨b, off + k * 10 + 6, none⟩) hbl).trans a6
        have c7 : w1.cell? ⟨b, off + k * 10 + 7, none⟩ = some (Value.slice r.A3 r.n3 r.c3) := (hb1.cell (p := ⟨b, off + k * 10 + 7, none⟩) hbl).trans a7
        have c8 : w1.cell? ⟨b, off + k * 10 + 8, none⟩ = some (Value.int .i64 r.s4) := (hb1.cell (p := ⟨b, off + k * 10 + 8, none⟩) hbl).trans a8
        have c9 : w1.cell? ⟨b, off + k * 10 + 9, none⟩ = some (Value.slice r.A4 r.n4 r.c4) := (hb1.cell (p := ⟨b, off + k * 10 + 9, none⟩) hbl).trans a9
        have hr1 := HRW.out.below hb1
        have hr2 := hr1.below (w' := w1.alloc (.cells #[Value.string r.k, Value.int .i64 r.nt, Value.int .i64 r.s1, Value.slice r.A1 r.n1 r.c1, Value.int .i64 r.s2, Value.slice r.A2 r.n2 r.c2, Value.int .i64 r.s3, Value.slice r.A3 r.n3 r.c3, Value.int .i64 r.s4, Value.slice r.A4 r.n4 r.c4] 60)) ((Below.refl _ _).alloc (Nat.le_refl _) _)
        have hbs := hb1.size
        obtain ⟨rs0, o1, o2, o3, o4⟩ := hr2
        have HO1 := Lib.hid o1
        have HO2 := Lib.hid o2
        have HO3 := Lib.hid o3
        have HO4 := Lib.hid o4
        have hrl : rs0.length ≤ 1000000 := by omega
        have HLOW := Lib.hid (fun g hg => (own_lt o1 g hg).1)
        have HAV := Lib.hid (HS0.out.av_old HLOW.out)
        clear o1 o2 o3 o4 hlk hr1 hb1
        go_wp2_with (at_builtin; refine wpList_append_any _ rfl (.tmp 25) (.tmp 30) _ rfl w.heap.size 60 i0 _ 10 152 Tryz.underlying22 hi0 hz0 hz1 hz2 rfl (by omega) _ rs0.length (rs0.flatMap Raw.cells) rfl HO1.out (w1.heap.size + 1) (some ⟨w1.heap.size, 0, none⟩) 1 1 r.cells rfl ?c2 (raw_one r) ?c3 ?c4 ?c5 ?_)
        case c2 => exact reads_new w1 r.cells 60 10 rfl
        case c3 => unfold maxLen; omega
        case c4 => omega
        case c5 => simp; omega
        intro v9 w9 hown9 hg9 hat9
        have HM9 := Lib.hid (RowIs.more HO2.out HO3.out HO4.out (HS0.out.below HO4.out) hks HAV.out hown9 hg9 (by simpa using hat9) HLOW.out)
        clear hown9 hg9 hat9
        go_wp2_with fail
        go_roundw
        case rel => exact ⟨k + 1, by omega, by go_num, by rw [HFN.out]; exact HM9.out⟩
        case measure => simp [intOf]; omega
      | true =>
        have HFN := Lib.hid (show seenL acts day (l.take (k + 1)) = seenL acts day (l.take k) by unfold seenL; rw [HFT.out, hxk, hh]; rfl)
        rw [hh] at hhid
        have HH := Lib.hid hhid
        clear hh hhid hxk
        go_wp2_with fail
        refine (HH.out _ (HA.out.below HB.out)).mono ?_
        rintro e w1 ⟨rfl, hb1⟩
        have HR1 := Lib.hid (HRW.out.below hb1)
        clear hb1
        go_wp2_with fail
        go_roundw
        case rel => exact ⟨k + 1, by omega, by go_num, by rw [HFN.out]; exact HR1.out⟩
        case measure => simp [intOf]; omega
    · obtain rfl : k = l.length := by omega
      have HL := Lib.hid (show l.take l.length = l from List.take_of_length_le (Nat.le_refl _))
      go_wp2_with fail
      go_ret
      obtain ⟨A9, c9, rs9, hv9, hs9⟩ := HRW.out.shs
      rw [HL.out] at hv9 hs9
      exact ⟨A9, c9, rs9, congrArg Ending.returned hv9, hs9, HB.out⟩
end Go.Proofs.YtaojnjealccjiaaGreatDoor
