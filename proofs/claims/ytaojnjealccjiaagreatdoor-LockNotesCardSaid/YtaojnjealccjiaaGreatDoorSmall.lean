/- The law's own helpers: act, example, small. -/
import Derived.Test.YtaojnjealccjiaaGreatDoorJoin
namespace Go.Proofs.YtaojnjealccjiaaGreatDoor
open Go Go.RowKit Kb Go.Lib
set_option linter.unusedVariables false

theorem law_act (k p d : Int) (o : ByteArray) (w : World) :
    Calls Tryz.prog 24 #[.int .i64 k, .int .i64 p, .int .i64 d, .string o] w fun e w' => e = .returned (.agg #[.int .i64 k, .int .i64 p, .int .i64 d, .string o]) ∧ Below w.heap.size w w' := by
  go_enter Tryz.func24, Tryz.ntmps24
  go_wp2_with fail
  exact bodyPost_ret (v := .agg #[.int .i64 k, .int .i64 p, .int .i64 d, .string o]) (by simp [results, Tryz.results24, go_sem]) rfl ⟨rfl, (Below.refl _ _).alloc (Nat.le_refl _) _⟩

/-- the acts of the example; the third's person -/
def exL (p : Int) : List Akt := [⟨0, 1, 10, ⟨#[97, 47, 98]⟩⟩, ⟨1, 2, 12, ⟨#[97]⟩⟩, ⟨1, p, 15, ⟨#[97]⟩⟩, ⟨2, 4, 20, ⟨#[97, 47, 99]⟩⟩]

theorem exL_small (p : Int) : Small (exL p) := ⟨fun a ha => by
  simp [exL] at ha
  rcases ha with rfl | rfl | rfl | rfl
  · exact (by decide : (⟨#[97, 47, 98]⟩ : ByteArray).size < 4294967281)
  · exact (by decide : (⟨#[97]⟩ : ByteArray).size < 4294967281)
  · exact (by decide : (⟨#[97]⟩ : ByteArray).size < 4294967281)
  · exact (by decide : (⟨#[97, 47, 99]⟩ : ByteArray).size < 4294967281), by unfold maxLen; exact (by decide : 4 ≤ 2 ^ 63 - 1)⟩

/-- the example lies in block g -/
def Ex (B : Nat) (w : World) (g : Nat) (p : Int) : Prop := B ≤ g ∧ g < w.heap.size ∧ Row w g (exL p)
theorem Ex.below {B : Nat} {w w' : World} {g : Nat} {p : Int} (h : Ex B w g p) (hb : Below w.heap.size w w') : Ex B w' g p := ⟨h.1, Nat.lt_of_lt_of_le h.2.1 hb.size, h.2.2.below hb h.2.1⟩
theorem Ex.lst {B : Nat} {w : World} {g : Nat} {p : Int} (h : Ex B w g p) : Lst aktV 4 w (some ⟨g, 0, none⟩) (exL p) := OwnR.lst (B := B) (cap := 4) ⟨Nat.le_refl 4, by unfold maxLen; omega, fun _ => ⟨g, rfl, h.1, h.2.1, h.2.2⟩⟩
theorem Ex.set {B : Nat} {w : World} {g : Nat} {p : Int} (h : Ex B w g p) (q : Int) : Ex B (w.setCell ⟨g, 9, none⟩ (.int .i64 q)) g q := by
  refine ⟨h.1, by simpa using h.2.1, fun j a ha => ?_⟩
  have hj : j < 4 := (List.getElem?_eq_some_iff.1 ha).1
  have hr := h.2.2
  have ne : ∀ i, i ≠ 9 → (w.setCell ⟨g, 9, none⟩ (.int .i64 q)).cell? ⟨g, i, none⟩ = w.cell? ⟨g, i, none⟩ := fun i hi => World.cell?_setCell_other _ _ _ _ (fun e => by injection e with _ e; exact hi e.symm)
  have fr : ∀ i, (w.setCell ⟨g, 9, none⟩ (.int .i64 q)).frozen? ⟨g, i, none⟩ = w.frozen? ⟨g, i, none⟩ := fun i => World.frozen?_setCell _ _ _ _
  have r9 : (w.setCell ⟨g, 9, none⟩ (.int .i64 q)).cell? ⟨g, 9, none⟩ = some (.int .i64 q) := World.cell?_setCell_same _ _ _ (hr 2 _ rfl).1.2.1
  match j, hj, ha with
  | 0, _, ha =>
    cases ha
    obtain ⟨⟨c0, c1, c2, c3⟩, f0, f1, f2, f3⟩ := hr 0 _ rfl
    exact ⟨⟨(ne _ (by decide)).trans c0, (ne _ (by decide)).trans c1, (ne _ (by decide)).trans c2, (ne _ (by decide)).trans c3⟩, (fr _).trans f0, (fr _).trans f1, (fr _).trans f2, (fr _).trans f3⟩
  | 1, _, ha =>
    cases ha
    obtain ⟨⟨c0, c1, c2, c3⟩, f0, f1, f2, f3⟩ := hr 1 _ rfl
    exact ⟨⟨(ne _ (by decide)).trans c0, (ne _ (by decide)).trans c1, (ne _ (by decide)).trans c2, (ne _ (by decide)).trans c3⟩, (fr _).trans f0, (fr _).trans f1, (fr _).trans f2, (fr _).trans f3⟩
  | 2, _, ha =>
    cases ha
    obtain ⟨⟨c0, c1, c2, c3⟩, f0, f1, f2, f3⟩ := hr 2 _ rfl
    exact ⟨⟨(ne _ (by decide)).trans c0, r9, (ne _ (by decide)).trans c2, (ne _ (by decide)).trans c3⟩, (fr _).trans f0, (fr _).trans f1, (fr _).trans f2, (fr _).trans f3⟩
  | 3, _, ha =>
    cases ha
    obtain ⟨⟨c0, c1, c2, c3⟩, f0, f1, f2, f3⟩ := hr 3 _ rfl
    exact ⟨⟨(ne _ (by decide)).trans c0, (ne _ (by decide)).trans c1, (ne _ (by decide)).trans c2, (ne _ (by decide)).trans c3⟩, (fr _).trans f0, (fr _).trans f1, (fr _).trans f2, (fr _).trans f3⟩

theorem law_example (w : World) : Calls Tryz.prog 21 #[] w fun e w' => ∃ g, e = .returned (.slice (some ⟨g, 0, none⟩) 4 4) ∧ Ex w.heap.size w' g 3 ∧ Below w.heap.size w w' := by
  go_enter Tryz.func21, Tryz.ntmps21
  go_wp2_with fail
  refine (law_act _ _ _ _ _).mono ?_
  rintro e w1 ⟨rfl, hb1⟩
  go_wp2_with fail
  refine (law_act _ _ _ _ _).mono ?_
  rintro e w2 ⟨rfl, hb2⟩
  go_wp2_with fail
  refine (law_act _ _ _ _ _).mono ?_
  rintro e w3 ⟨rfl, hb3⟩
  go_wp2_with fail
  refine (law_act _ _ _ _ _).mono ?_
  rintro e w4 ⟨rfl, hb4⟩
  have hB : Below w.heap.size w w4 := ((hb1.trans (hb2.mono hb1.size)).trans (hb3.mono (Nat.le_trans hb1.size hb2.size))).trans (hb4.mono (Nat.le_trans hb1.size (Nat.le_trans hb2.size hb3.size)))
  have HB := Lib.hid hB
  clear hb1 hb2 hb3 hb4 hB
  go_wp2_with fail
  go_ret
  refine ⟨w4.heap.size, rfl, ⟨HB.out.size, by simp, fun j a ha => ?_⟩, HB.out.alloc HB.out.size _⟩
  have hj : j < 4 := (List.getElem?_eq_some_iff.1 ha).1
  match j, hj, ha with
  | 0, _, ha => cases ha; refine ⟨⟨?_, ?_, ?_, ?_⟩, ?_, ?_, ?_, ?_⟩ <;> simp
  | 1, _, ha => cases ha; refine ⟨⟨?_, ?_, ?_, ?_⟩, ?_, ?_, ?_, ?_⟩ <;> simp
  | 2, _, ha => cases ha; refine ⟨⟨?_, ?_, ?_, ?_⟩, ?_, ?_, ?_, ?_⟩ <;> simp
  | 3, _, ha => cases ha; refine ⟨⟨?_, ?_, ?_, ?_⟩, ?_, ?_, ?_, ?_⟩ <;> simp

section
variable {B g : Nat} {p : Int} {w : World}
theorem ex_locked (h : Ex B w g p) (name : ByteArray) (day : Int) (b : Bool) (hn : name.size < 4294967281) (hb : lockedB (exL p) name.data.toList day = b) :
    Calls Tryz.prog 15 #[.slice (some ⟨g, 0, none⟩) 4 4, .string name, .int .i64 day] w fun e w' => e = .returned (.bool b) ∧ Below w.heap.size w w' := by
  subst hb; exact lock_locked (exL p) _ 4 name day w h.lst (exL_small p) hn
theorem ex_hidden (h : Ex B w g p) (name : ByteArray) (day : Int) (b : Bool) (hn : name.size < 4294967281) (hb : hiddenB (exL p) name.data.toList day = b) :
    Calls Tryz.prog 11 #[.slice (some ⟨g, 0, none⟩) 4 4, .string name, .int .i64 day] w fun e w' => e = .returned (.bool b) ∧ Below w.heap.size w w' := by
  subst hb; exact lock_hidden (exL p) _ 4 name day w h.lst (exL_small p) hn
theorem ex_may (h : Ex B w g p) (name : ByteArray) (person day : Int) (b : Int) (hn : name.size < 4294967281) (hb : mayI 1 27 19 (exL p) name.data.toList person day = b) :
    Calls Tryz.prog 22 #[.slice (some ⟨g, 0, none⟩) 4 4, .string name, .int .i64 person, .int .i64 day] w fun e w' => e = .returned (.int .i64 b) ∧ Below w.heap.size w w' := by
  subst hb; exact lock_may (exL p) _ 4 name person day w h.lst (exL_small p) hn
theorem ex_join (h : Ex B w g 3) : Calls Tryz.prog 25 #[.slice (some ⟨g, 0, none⟩) 4 4, .slice (some ⟨g, 0, none⟩) 4 4] w fun e w' => ∃ A cap, e = .returned (.slice A 4 cap) ∧ Below w.heap.size w w' := by
  refine (lock_join (exL 3) (exL 3) _ _ 4 4 w h.lst h.lst (exL_small 3) (exL_small 3) (by decide)).mono ?_
  rintro e w' ⟨A, cap, j, rfl, hj, _, hb⟩
  have e1 : j = exL 3 := hj.unique ⟨by decide, fun x => by
    constructor
    · intro hx
      exact ⟨by revert x; decide, .inl hx⟩
    · rintro ⟨_, h | h⟩ <;> exact h⟩
  rw [e1]
  exact ⟨A, cap, rfl, hb⟩
end

set_option maxHeartbeats 8000000 in
set_option maxRecDepth 100000 in
theorem law_small (w : World) : Calls Tryz.prog 5 #[] w fun e w' => e = .returned (.bool true) ∧ Below w.heap.size w w' := by
  go_enter Tryz.func5, Tryz.ntmps5
  go_wp2_with fail
  refine (law_example _).mono ?_
  rintro e w1 ⟨g1, rfl, hex, hb⟩
  have HE1 : Hid (Ex w.heap.size w1 g1 3) := ⟨hex.1, hex.2⟩
  have hB : Below w.heap.size w w1 := hb
  have HB1 := Lib.hid hB
  clear hex hb hB
  go_wp2_with fail
  refine (ex_locked HE1.out ⟨#[97, 47, 98]⟩ 9 false (by decide) (by decide +kernel)).mono ?_
  rintro e w2 ⟨rfl, hb⟩
  have he := HE1.out.below hb
  have hB := HB1.out.trans (hb.mono HB1.out.size)
  have HE2 := Lib.hid he
  have HB2 := Lib.hid hB
  clear he hb hB HE1 HB1
  go_wp2_with fail
  refine (ex_locked HE2.out ⟨#[97, 47, 98]⟩ 10 true (by decide) (by decide +kernel)).mono ?_
  rintro e w3 ⟨rfl, hb⟩
  have he := HE2.out.below hb
  have hB := HB2.out.trans (hb.mono HB2.out.size)
  have HE3 := Lib.hid he
  have HB3 := Lib.hid hB
  clear he hb hB HE2 HB2
  go_wp2_with fail
  refine (ex_locked HE3.out ⟨#[97, 47, 98]⟩ 14 true (by decide) (by decide +kernel)).mono ?_
  rintro e w4 ⟨rfl, hb⟩
  have he := HE3.out.below hb
  have hB := HB3.out.trans (hb.mono HB3.out.size)
  have HE4 := Lib.hid he
  have HB4 := Lib.hid hB
  clear he hb hB HE3 HB3
  go_wp2_with fail
  refine (ex_locked HE4.out ⟨#[97, 47, 98]⟩ 15 false (by decide) (by decide +kernel)).mono ?_
  rintro e w5 ⟨rfl, hb⟩
  have he := HE4.out.below hb
  have hB := HB4.out.trans (hb.mono HB4.out.size)
  have HE5 := Lib.hid he
  have HB5 := Lib.hid hB
  clear he hb hB HE4 HB4
  go_wp2_with fail
  refine (ex_locked HE5.out ⟨#[97, 47, 98, 47, 120]⟩ 12 true (by decide) (by decide +kernel)).mono ?_
  rintro e w6 ⟨rfl, hb⟩
  have he := HE5.out.below hb
  have hB := HB5.out.trans (hb.mono HB5.out.size)
  have HE6 := Lib.hid he
  have HB6 := Lib.hid hB
  clear he hb hB HE5 HB5
  go_wp2_with fail
  refine (ex_locked HE6.out ⟨#[97]⟩ 12 false (by decide) (by decide +kernel)).mono ?_
  rintro e w7 ⟨rfl, hb⟩
  have he := HE6.out.below hb
  have hB := HB6.out.trans (hb.mono HB6.out.size)
  have HE7 := Lib.hid he
  have HB7 := Lib.hid hB
  clear he hb hB HE6 HB6
  go_wp2_with fail
  refine (ex_locked HE7.out ⟨#[97, 47, 98, 99]⟩ 12 false (by decide) (by decide +kernel)).mono ?_
  rintro e w8 ⟨rfl, hb⟩
  have he := HE7.out.below hb
  have hB := HB7.out.trans (hb.mono HB7.out.size)
  have HE8 := Lib.hid he
  have HB8 := Lib.hid hB
  clear he hb hB HE7 HB7
  obtain ⟨⟨_, c9, _, _⟩, _, f9, _, _⟩ := HE8.out.2.2.get (j := 2) (by decide)
  change w8.cell? ⟨g1, 9, none⟩ = some _ at c9
  change w8.frozen? ⟨g1, 9, none⟩ = false at f9
  have he := HE8.out.set 1
  have hB := HB8.out.setCell (p := ⟨g1, 9, none⟩) HE8.out.1 (.int .i64 1)
  have HE9 := Lib.hid he
  have HB9 := Lib.hid hB
  clear he hB HE8 HB8
  go_wp2_with fail
  clear c9 f9
  generalize w8.setCell ⟨g1, 9, none⟩ (.int .i64 1) = w9 at *
  go_wp2_with fail
  refine (ex_locked HE9.out ⟨#[97, 47, 98]⟩ 15 true (by decide) (by decide +kernel)).mono ?_
  rintro e w10 ⟨rfl, hb⟩
  have he := HE9.out.below hb
  have hB := HB9.out.trans (hb.mono HB9.out.size)
  have HE10 := Lib.hid he
  have HB10 := Lib.hid hB
  clear he hb hB HE9 HB9
  obtain ⟨⟨_, c9, _, _⟩, _, f9, _, _⟩ := HE10.out.2.2.get (j := 2) (by decide)
  change w10.cell? ⟨g1, 9, none⟩ = some _ at c9
  change w10.frozen? ⟨g1, 9, none⟩ = false at f9
  have he := HE10.out.set 2
  have hB := HB10.out.setCell (p := ⟨g1, 9, none⟩) HE10.out.1 (.int .i64 2)
  have HE11 := Lib.hid he
  have HB11 := Lib.hid hB
  clear he hB HE10 HB10
  go_wp2_with fail
  clear c9 f9
  generalize w10.setCell ⟨g1, 9, none⟩ (.int .i64 2) = w11 at *
  go_wp2_with fail
  refine (ex_locked HE11.out ⟨#[97, 47, 98]⟩ 15 true (by decide) (by decide +kernel)).mono ?_
  rintro e w12 ⟨rfl, hb⟩
  have he := HE11.out.below hb
  have hB := HB11.out.trans (hb.mono HB11.out.size)
  have HE12 := Lib.hid he
  have HB12 := Lib.hid hB
  clear he hb hB HE11 HB11
  go_wp2_with fail
  refine (ex_hidden HE12.out ⟨#[97, 47, 99, 47, 100]⟩ 19 true (by decide) (by decide +kernel)).mono ?_
  rintro e w13 ⟨rfl, hb⟩
  have he := HE12.out.below hb
  have hB := HB12.out.trans (hb.mono HB12.out.size)
  have HE13 := Lib.hid he
  have HB13 := Lib.hid hB
  clear he hb hB HE12 HB12
  go_wp2_with fail
  refine (ex_hidden HE13.out ⟨#[97, 47, 99, 47, 100]⟩ 20 false (by decide) (by decide +kernel)).mono ?_
  rintro e w14 ⟨rfl, hb⟩
  have he := HE13.out.below hb
  have hB := HB13.out.trans (hb.mono HB13.out.size)
  have HE14 := Lib.hid he
  have HB14 := Lib.hid hB
  clear he hb hB HE13 HB13
  go_wp2_with fail
  refine (ex_hidden HE14.out ⟨#[97]⟩ 19 false (by decide) (by decide +kernel)).mono ?_
  rintro e w15 ⟨rfl, hb⟩
  have he := HE14.out.below hb
  have hB := HB14.out.trans (hb.mono HB14.out.size)
  have HE15 := Lib.hid he
  have HB15 := Lib.hid hB
  clear he hb hB HE14 HB14
  go_wp2_with fail
  refine (law_example _).mono ?_
  rintro e w16 ⟨g16, rfl, hex, hb⟩
  have HE16 : Hid (Ex w.heap.size w16 g16 3) := ⟨Nat.le_trans HB15.out.size hex.1, hex.2⟩
  have hB : Below w.heap.size w w16 := HB15.out.trans (hb.mono HB15.out.size)
  have HB16 := Lib.hid hB
  clear hex hb hB HB15 HE15
  go_wp2_with fail
  refine (ex_may HE16.out ⟨#[97, 47, 98]⟩ 4 14 27 (by decide) (by decide +kernel)).mono ?_
  rintro e w17 ⟨rfl, hb⟩
  have he := HE16.out.below hb
  have hB := HB16.out.trans (hb.mono HB16.out.size)
  have HE17 := Lib.hid he
  have HB17 := Lib.hid hB
  clear he hb hB HE16 HB16
  go_wp2_with fail
  refine (ex_may HE17.out ⟨#[97, 47, 98]⟩ 4 15 0 (by decide) (by decide +kernel)).mono ?_
  rintro e w18 ⟨rfl, hb⟩
  have he := HE17.out.below hb
  have hB := HB17.out.trans (hb.mono HB17.out.size)
  have HE18 := Lib.hid he
  have HB18 := Lib.hid hB
  clear he hb hB HE17 HB17
  go_wp2_with fail
  refine (ex_may HE18.out ⟨#[97, 47, 98]⟩ 3 15 19 (by decide) (by decide +kernel)).mono ?_
  rintro e w19 ⟨rfl, hb⟩
  have he := HE18.out.below hb
  have hB := HB18.out.trans (hb.mono HB18.out.size)
  have HE19 := Lib.hid he
  have HB19 := Lib.hid hB
  clear he hb hB HE18 HB18
  obtain ⟨⟨c0, c1, c2, c3⟩, _⟩ := HE19.out.2.2.get (j := 0) (by decide)
  change w19.cell? ⟨g16, 0, none⟩ = some (.int .i64 0) at c0
  change w19.cell? ⟨g16, 1, none⟩ = some (.int .i64 1) at c1
  change w19.cell? ⟨g16, 2, none⟩ = some (.int .i64 10) at c2
  change w19.cell? ⟨g16, 3, none⟩ = some (.string ⟨#[97, 47, 98]⟩) at c3
  have hr1 := fun W => lock_right 0 1 10 ⟨#[97, 47, 98]⟩ W (by decide)
  rw [show rightB ⟨0, 1, 10, ⟨#[97, 47, 98]⟩⟩ = true by decide +kernel] at hr1
  have hr2 := fun W => lock_right 0 1 1 ⟨#[97, 47, 47, 98]⟩ W (by decide)
  rw [show rightB ⟨0, 1, 1, ⟨#[97, 47, 47, 98]⟩⟩ = false by decide +kernel] at hr2
  have HR1 := Lib.hid hr1
  have HR2 := Lib.hid hr2
  clear hr1 hr2
  go_wp2_with fail
  clear c0 c1 c2 c3
  refine (HR1.out _).mono ?_
  rintro e wa ⟨rfl, hba⟩
  go_wp2_with fail
  refine (law_act _ _ _ _ _).mono ?_
  rintro e wb ⟨rfl, hbb⟩
  go_wp2_with fail
  refine (HR2.out _).mono ?_
  rintro e wc ⟨rfl, hbc⟩
  have hbd := (hba.trans (hbb.mono hba.size)).trans (hbc.mono (Nat.le_trans hba.size hbb.size))
  have he := HE19.out.below hbd
  have hB := HB19.out.trans (hbd.mono HB19.out.size)
  have HEz := Lib.hid he
  have HBz := Lib.hid hB
  clear hba hbb hbc hbd he hB HE19 HB19 HR1 HR2
  go_wp2_with fail
  refine (ex_join HEz.out).mono ?_
  rintro e wd ⟨Aj, capj, rfl, hbj⟩
  go_wp2_with fail
  go_ret
  exact ⟨rfl, HBz.out.trans (hbj.mono HBz.out.size)⟩

end Go.Proofs.YtaojnjealccjiaaGreatDoor
