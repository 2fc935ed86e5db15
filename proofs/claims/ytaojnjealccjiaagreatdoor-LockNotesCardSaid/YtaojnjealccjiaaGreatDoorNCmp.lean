/- The contract of gossip.item.compare at right notes. -/
import Derived.Test.YtaojnjealccjiaaGreatDoorNEnc
import Derived.Test.YtaojnjealccjiaaGreatDoorCompare
import Derived.Test.YtaojnjealccjiaaGreatDoorSort
namespace Go.Proofs.YtaojnjealccjiaaGreatDoor
open Go Go.RowKit Nt Go.Proofs Go.Lib Go.Sort
set_option linter.unusedVariables false
set_option linter.unusedSimpArgs false

/-- what compare gives -/
def cmpN (a b : NoteV) : Int := orI [compareInt a.house b.house, compareInt a.no b.no, compareBytes (encode a) (encode b)]
theorem or3_early {x y z : Int} (h : orI [x, y] ≠ 0) : orI [x, y, z] = orI [x, y] := by
  unfold orI at *
  by_cases hx : x = 0
  · by_cases hy : y = 0
    · simp [hx, hy, orI] at h
    · simp [hx, hy, orI]
  · simp [hx]
theorem or3_late {x y z : Int} (h : orI [x, y] = 0) : orI [x, y, z] = z := by
  by_cases hx : x = 0
  · by_cases hy : y = 0
    · by_cases hz : z = 0 <;> simp [hx, hy, hz, orI]
    · simp [hx, hy, orI] at h
  · simp [hx, orI] at h
instance (a b : NoteV) : Decidable (ltN a b) := by unfold ltN; infer_instance
theorem cmpN_lt (a b : NoteV) : ltOf cmpN a b = decide (ltN a b) := by
  unfold ltOf
  rw [Bool.eq_iff_iff, decide_eq_true_eq, decide_eq_true_eq]
  unfold cmpN ltN
  rcases compareInt_cases a.house b.house with ⟨h, e⟩ | ⟨h, e⟩ | ⟨h, e⟩
  · simp only [orI, e]; simp [h]
  · rcases compareInt_cases a.no b.no with ⟨h2, e2⟩ | ⟨h2, e2⟩ | ⟨h2, e2⟩
    · simp only [orI, e, e2]; simp [h, h2]
    · rcases compareBytes_cases (encode a) (encode b) with ⟨h4, e4⟩ | ⟨h4, e4⟩ | ⟨h4, e4⟩
      · simp only [orI, e, e2, e4]; simp [h, h2, h4]
      · simp only [orI, e, e2, e4]; simp [h, h2, h4, List.lt_irrefl]
      · have : ¬ encode a < encode b := fun h5 => List.lt_irrefl _ (List.lt_trans h4 h5)
        simp only [orI, e, e2, e4]; simp [h, h2, this]
    · have n1 : ¬ a.no < b.no := by omega
      have n2 : ¬ a.no = b.no := by omega
      simp only [orI, e, e2]; simp [h, n1, n2]
  · have n1 : ¬ a.house < b.house := by omega
    have n2 : ¬ a.house = b.house := by omega
    simp only [orI, e]; simp [n1, n2]
theorem cmpN_zero {a b : NoteV} (ha : rightN a = true) (hb : rightN b = true) : cmpN a b = 0 ↔ a = b := by
  constructor
  · intro h
    unfold cmpN at h
    rcases compareInt_cases a.house b.house with ⟨h1, e⟩ | ⟨h1, e⟩ | ⟨h1, e⟩
    · simp only [orI, e] at h; simp at h
    · rcases compareInt_cases a.no b.no with ⟨h2, e2⟩ | ⟨h2, e2⟩ | ⟨h2, e2⟩
      · simp only [orI, e, e2] at h; simp at h
      · rcases compareBytes_cases (encode a) (encode b) with ⟨h4, e4⟩ | ⟨h4, e4⟩ | ⟨h4, e4⟩
        · simp only [orI, e, e2, e4] at h; simp at h
        · exact encode_inj ha hb h1 h2 h4
        · simp only [orI, e, e2, e4] at h; simp at h
      · simp only [orI, e, e2] at h; simp at h
    · simp only [orI, e] at h; simp at h
  · rintro rfl
    unfold cmpN
    rcases compareInt_cases a.house a.house with ⟨h1, e⟩ | ⟨h1, e⟩ | ⟨h1, e⟩
    · omega
    · rcases compareInt_cases a.no a.no with ⟨h2, e2⟩ | ⟨h2, e2⟩ | ⟨h2, e2⟩
      · omega
      · rcases compareBytes_cases (encode a) (encode a) with ⟨h4, e4⟩ | ⟨h4, e4⟩ | ⟨h4, e4⟩
        · exact absurd h4 (List.lt_irrefl _)
        · simp [orI, e, e2, e4]
        · exact absurd h4 (List.lt_irrefl _)
      · omega
    · omega
/-- 'not less' goes on too -/
theorem ltN_neg {a b c : NoteV} (h1 : ¬ ltN a b) (h2 : ¬ ltN b c) : ¬ ltN a c := by
  unfold ltN at *
  intro h3
  rcases Int.lt_trichotomy a.house b.house with q | q | q
  · exact h1 (.inl q)
  · rcases Int.lt_trichotomy a.no b.no with r | r | r
    · exact h1 (.inr ⟨q, .inl r⟩)
    · have k1 : ¬ encode a < encode b := fun h => h1 (.inr ⟨q, .inr ⟨r, h⟩⟩)
      rcases h3 with h3 | ⟨e3, h3⟩
      · exact h2 (.inl (by omega))
      · rcases h3 with h3 | ⟨f3, h3⟩
        · exact h2 (.inr ⟨by omega, .inl (by omega)⟩)
        · have k2 : ¬ encode b < encode c := fun h => h2 (.inr ⟨by omega, .inr ⟨by omega, h⟩⟩)
          exact k2 (List.lt_of_le_of_lt k1 h3)
    · rcases h3 with h3 | ⟨e3, h3 | ⟨f3, h3⟩⟩
      · exact h2 (.inl (by omega))
      · exact h2 (.inr ⟨by omega, .inl (by omega)⟩)
      · exact h2 (.inr ⟨by omega, .inl (by omega)⟩)
  · rcases h3 with h3 | ⟨e3, h3⟩
    · exact h2 (.inl (by omega))
    · exact h2 (.inl (by omega))
theorem ltN_swo' {α : Type} (f : α → NoteV) : SWO (ltOf fun a b : α => cmpN (f a) (f b)) where
  irrefl x := by
    show ltOf cmpN (f x) (f x) = false
    rw [cmpN_lt]; simp [ltN_irrefl]
  trans x y z h1 h2 := by
    have h1 : ltOf cmpN (f x) (f y) = true := h1
    have h2 : ltOf cmpN (f y) (f z) = true := h2
    show ltOf cmpN (f x) (f z) = true
    rw [cmpN_lt, decide_eq_true_eq] at *
    exact ltN_trans h1 h2
  ntrans x y z h1 h2 := by
    have h1 : ltOf cmpN (f x) (f y) = false := h1
    have h2 : ltOf cmpN (f y) (f z) = false := h2
    show ltOf cmpN (f x) (f z) = false
    rw [cmpN_lt, decide_eq_false_iff_not] at *
    exact ltN_neg h1 h2

set_option maxHeartbeats 400000 in
theorem cmp_str (a b : ByteArray) (w : World) : Calls Tryz.prog 95 #[.string a, .string b] w fun e w' => e = .returned (.int .i64 (compareBytes a.data.toList b.data.toList)) ∧ w = w' := by
  have hl : Op.bytesLess a.toList b.toList = decide (a.data.toList < b.data.toList) := by rw [bytesLess_eq, Lib.toList_data, Lib.toList_data]
  have heq : (a.toList == b.toList) = decide (a.data.toList = b.data.toList) := by rw [Lib.toList_data, Lib.toList_data, Bool.eq_iff_iff]; simp
  rcases compareBytes_cases a.data.toList b.data.toList with ⟨h, e⟩ | ⟨h, e⟩ | ⟨h, e⟩
  · rw [decide_eq_true h] at hl
    have E := Lib.hid e
    clear heq h e
    go_enter Tryz.func95, Tryz.ntmps95
    go_wp2
    go_ret
    exact ⟨retN_int E.out.symm, rfl⟩
  · rw [decide_eq_false (by rw [h]; exact List.lt_irrefl _)] at hl
    rw [decide_eq_true h] at heq
    have E := Lib.hid e
    clear h e
    go_enter Tryz.func95, Tryz.ntmps95
    go_wp2
    go_ret
    exact ⟨retN_int E.out.symm, rfl⟩
  · rw [decide_eq_false (fun q => List.lt_irrefl _ (List.lt_trans h q))] at hl
    rw [decide_eq_false (fun q => by rw [q] at h; exact List.lt_irrefl _ h)] at heq
    have E := Lib.hid e
    clear h e
    go_enter Tryz.func95, Tryz.ntmps95
    go_wp2
    go_ret
    exact ⟨retN_int E.out.symm, rfl⟩

def CmpPost (n : Int) (w : World) (e : Ending) (w' : World) : Prop := e = .returned (.int .i64 n) ∧ Below w.heap.size w w'
set_option maxHeartbeats 2000000 in
set_option maxRecDepth 100000 in
theorem item_compare (va vb : NoteV) (Aa Ab : Option Addr) (ca cb : Nat) (S : Nat → Prop) {B : Nat} (w : World) (ht : Tab B w) (hB : B ≤ w.heap.size) (ha : Sl refD w S Aa va.needs) (hb : Sl refD w S Ab vb.needs) (ra : rightN va = true) (rb : rightN vb = true) :
    Calls Tryz.prog 66 #[.agg #[.int .i64 va.house, .int .i64 va.no, .int .i64 va.day, .slice Aa va.needs.length ca, .string va.text], .agg #[.int .i64 vb.house, .int .i64 vb.no, .int .i64 vb.day, .slice Ab vb.needs.length cb, .string vb.text]] w (CmpPost (cmpN va vb) w) := by
  have hci := fun (x y : Int) (W : World) => Any.cmp_Compare_int Tryz.lays122 x y W
  change ∀ x y W, Calls Tryz.prog 74 _ _ _ at hci
  have hor := fun (x y : Int) (W : World) (g : Nat) (h0 : W.cell? ⟨g, 0, none⟩ = some (.int .i64 x)) (h1 : W.cell? ⟨g, 1, none⟩ = some (.int .i64 y)) (hg : g < W.heap.size) =>
    cmp_or [x, y] (some ⟨g, 0, none⟩) 2 W (fun _ => ⟨g, 0, rfl, hg, fun j v hv i u' hu => by
      match i, hu with
      | 0, hu =>
        cases hu
        match j, hv with
        | 0, hv => cases hv; exact h0
        | 1, hv => cases hv; exact h1
      | i + 1, hu => cases hu⟩) (by show 2 ≤ maxLen; unfold maxLen; omega)
  have HE := Lib.hid (fun (n : Int) (q : orI [compareInt va.house vb.house, compareInt va.no vb.no] = n) (hn : n ≠ 0) => show cmpN va vb = n from (or3_early (by rw [q]; exact hn)).trans q)
  have HL := Lib.hid (fun (q : orI [compareInt va.house vb.house, compareInt va.no vb.no] = 0) => show cmpN va vb = compareBytes (encode va) (encode vb) from or3_late q)
  have g0 := fun W => hci va.house vb.house W
  have g1 := fun W => hci va.no vb.no W
  have ea := fun W (h1 : Tab B W) (h2 : B ≤ W.heap.size) (h3 : Sl refD W S Aa va.needs) => seal_encode va Aa ca S W h1 h2 h3 ra
  have eb := fun W (h1 : Tab B W) (h2 : B ≤ W.heap.size) (h3 : Sl refD W S Ab vb.needs) => seal_encode vb Ab cb S W h1 h2 h3 rb
  have G0 := Lib.hid g0
  have G1 := Lib.hid g1
  have HO := Lib.hid hor
  have EA := Lib.hid ea
  have EB := Lib.hid eb
  have HT := Lib.hid ht
  have HA := Lib.hid ha
  have HBb := Lib.hid hb
  clear hci g0 g1 hor ea eb ht ha hb ra rb
  generalize compareInt va.house vb.house = x0 at *
  generalize compareInt va.no vb.no = x1 at *
  generalize hn : orI [x0, x1] = n at *
  have HN := Lib.hid hn
  clear hn
  go_enter Tryz.func66, Tryz.ntmps66
  go_wp2_with fail
  generalize hW : (w.alloc (.cells #[.int .i64 va.house, .int .i64 va.no, .int .i64 va.day, .slice Aa va.needs.length ca, .string va.text] 95)).alloc (.cells #[.int .i64 vb.house, .int .i64 vb.no, .int .i64 vb.day, .slice Ab vb.needs.length cb, .string vb.text] 95) = W
  have a0 : W.cell? ⟨w.heap.size, 0, none⟩ = some (.int .i64 va.house) := by rw [← hW]; simp
  have a1 : W.cell? ⟨w.heap.size, 1, none⟩ = some (.int .i64 va.no) := by rw [← hW]; simp
  have a2 : W.cell? ⟨w.heap.size, 2, none⟩ = some (.int .i64 va.day) := by rw [← hW]; simp
  have a3 : W.cell? ⟨w.heap.size, 3, none⟩ = some (.slice Aa va.needs.length ca) := by rw [← hW]; simp
  have a4 : W.cell? ⟨w.heap.size, 4, none⟩ = some (.string va.text) := by rw [← hW]; simp
  have b0 : W.cell? ⟨w.heap.size + 1, 0, none⟩ = some (.int .i64 vb.house) := by rw [← hW]; simp
  have b1 : W.cell? ⟨w.heap.size + 1, 1, none⟩ = some (.int .i64 vb.no) := by rw [← hW]; simp
  have b2 : W.cell? ⟨w.heap.size + 1, 2, none⟩ = some (.int .i64 vb.day) := by rw [← hW]; simp
  have b3 : W.cell? ⟨w.heap.size + 1, 3, none⟩ = some (.slice Ab vb.needs.length cb) := by rw [← hW]; simp
  have b4 : W.cell? ⟨w.heap.size + 1, 4, none⟩ = some (.string vb.text) := by rw [← hW]; simp
  have hbW : Below w.heap.size w W := by rw [← hW]; exact ((Below.refl _ _).alloc (Nat.le_refl _) _).alloc (by simp) _
  have hzW : w.heap.size + 1 < W.heap.size := by rw [← hW]; simp
  have HBW := Lib.hid hbW
  clear hW hbW
  refine wp_region_still_tail 10 (by kernel_rfl) (by kernel_rfl) ?_
  simp only [List.take_succ_cons, List.take_zero, List.drop_succ_cons, List.drop_zero]
  iterate 4 still_step
  still_call (G0.out _)
  iterate 4 still_step
  still_call (G1.out _)
  refine wpStill_nil ?_
  change wpList _ _ _ _ _ W.drew
  obtain ⟨D, hD⟩ : ∃ D, D = W.drew := ⟨_, rfl⟩
  rw [← hD]
  have HBD := Lib.hid (show Below w.heap.size w D by rw [hD]; exact HBW.out.drew)
  have hzD : w.heap.size + 1 < D.heap.size := by rw [hD]; exact hzW
  have da0 : D.cell? ⟨w.heap.size, 0, none⟩ = some (.int .i64 va.house) := by rw [hD]; exact a0
  have da1 : D.cell? ⟨w.heap.size, 1, none⟩ = some (.int .i64 va.no) := by rw [hD]; exact a1
  have da2 : D.cell? ⟨w.heap.size, 2, none⟩ = some (.int .i64 va.day) := by rw [hD]; exact a2
  have da3 : D.cell? ⟨w.heap.size, 3, none⟩ = some (.slice Aa va.needs.length ca) := by rw [hD]; exact a3
  have da4 : D.cell? ⟨w.heap.size, 4, none⟩ = some (.string va.text) := by rw [hD]; exact a4
  have db0 : D.cell? ⟨w.heap.size + 1, 0, none⟩ = some (.int .i64 vb.house) := by rw [hD]; exact b0
  have db1 : D.cell? ⟨w.heap.size + 1, 1, none⟩ = some (.int .i64 vb.no) := by rw [hD]; exact b1
  have db2 : D.cell? ⟨w.heap.size + 1, 2, none⟩ = some (.int .i64 vb.day) := by rw [hD]; exact b2
  have db3 : D.cell? ⟨w.heap.size + 1, 3, none⟩ = some (.slice Ab vb.needs.length cb) := by rw [hD]; exact b3
  have db4 : D.cell? ⟨w.heap.size + 1, 4, none⟩ = some (.string vb.text) := by rw [hD]; exact b4
  clear hD hzW a0 a1 a2 a3 a4 b0 b1 b2 b3 b4
  go_wp2_with fail
  refine (HO.out x0 x1 _ D.heap.size (by simp) (by simp) (by simp)).mono ?_
  rintro e w' ⟨rfl, rfl⟩
  rw [HN.out]
  have hs0 : w.heap.size < D.heap.size := by omega
  by_cases h0 : n = 0
  · have hne : (n != 0) = false := by simp [h0]
    have HL2 := Lib.hid (HL.out (h0 ▸ rfl))
    have hbE : Below w.heap.size w (D.alloc (.cells #[.int .i64 x0, .int .i64 x1] 3)) := HBD.out.alloc HBD.out.size _
    have HBE := Lib.hid hbE
    clear h0 hbE
    go_wp2_with fail
    refine (EA.out _ (HT.out.next hB HBE.out) (Nat.le_trans hB HBE.out.size) (HA.out.below HBE.out)).mono ?_
    rintro e w1 ⟨rfl, hb1⟩
    have HB1 := Lib.hid (HBE.out.trans (hb1.mono HBE.out.size))
    have HX1 := Lib.hid hb1
    have e0 : w1.cell? ⟨w.heap.size + 1, 0, none⟩ = some (.int .i64 vb.house) := (hb1.cell (p := ⟨w.heap.size + 1, 0, none⟩) (by simp; omega)).trans (by simp [go_sem, db0, hzD])
    have e1 : w1.cell? ⟨w.heap.size + 1, 1, none⟩ = some (.int .i64 vb.no) := (hb1.cell (p := ⟨w.heap.size + 1, 1, none⟩) (by simp; omega)).trans (by simp [go_sem, db1, hzD])
    have e2 : w1.cell? ⟨w.heap.size + 1, 2, none⟩ = some (.int .i64 vb.day) := (hb1.cell (p := ⟨w.heap.size + 1, 2, none⟩) (by simp; omega)).trans (by simp [go_sem, db2, hzD])
    have e3 : w1.cell? ⟨w.heap.size + 1, 3, none⟩ = some (.slice Ab vb.needs.length cb) := (hb1.cell (p := ⟨w.heap.size + 1, 3, none⟩) (by simp; omega)).trans (by simp [go_sem, db3, hzD])
    have e4 : w1.cell? ⟨w.heap.size + 1, 4, none⟩ = some (.string vb.text) := (hb1.cell (p := ⟨w.heap.size + 1, 4, none⟩) (by simp; omega)).trans (by simp [go_sem, db4, hzD])
    have hz1 : w.heap.size + 1 < w1.heap.size := Nat.lt_of_lt_of_le hzD (Nat.le_trans (by simp) hb1.size)
    clear hb1
    go_wp2_with fail
    refine (EB.out _ (HT.out.next hB HB1.out) (Nat.le_trans hB HB1.out.size) (HBb.out.below HB1.out)).mono ?_
    rintro e w2 ⟨rfl, hb2⟩
    have HB2 := Lib.hid (HB1.out.trans (hb2.mono HB1.out.size))
    clear hb2
    go_wp2_with fail
    refine (cmp_str _ _ _).mono ?_
    rintro e w3 ⟨rfl, rfl⟩
    go_wp2_with fail
    go_ret
    exact ⟨retN_int (by rw [HL2.out]), HB2.out⟩
  · have hne : (n != 0) = true := by simp [h0]
    have HE2 := Lib.hid (HE.out n rfl h0)
    have hbE : Below w.heap.size w (D.alloc (.cells #[.int .i64 x0, .int .i64 x1] 3)) := HBD.out.alloc HBD.out.size _
    have HBE := Lib.hid hbE
    clear h0 hbE
    go_wp2_with fail
    go_ret
    exact ⟨retN_int HE2.out.symm, HBE.out⟩
end Go.Proofs.YtaojnjealccjiaaGreatDoor
