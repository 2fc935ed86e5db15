/- kitbagref43.Few and what it calls; kitbagref43.SameSpan of equal values. -/
import Derived.Test.YtaojnjealccjiaaGreatDoorResRight
namespace Go.Proofs.YtaojnjealccjiaaGreatDoor
open Go Go.RowKit Bg Go.Proofs
set_option linter.unusedVariables false

theorem r05_few_ (s t : Int) (A B : Option Addr) (n c m d : Nat) (w : World) (q : Bool) (hq : (decide (n ≤ 3) && decide (m ≤ 3)) = q) : Calls Tryz.prog 49 #[.agg #[.int .i64 s, .slice A n c, .int .i64 t, .slice B m d], .int .i64 3] w (SaysB q w) := by
  have HQ := Lib.hid hq
  clear hq
  by_cases h1 : n ≤ 3
  · have H1 := Lib.hid h1
    go_enter Tryz.func49, Tryz.ntmps49
    go_wp2
    go_ret
    exact ⟨ret_bool (by rw [← HQ.out, decide_eq_true H1.out, Bool.true_and, decide_eq_decide]; omega), (Below.refl _ _).alloc (Nat.le_refl _) _⟩
  · have H1 := Lib.hid h1
    go_enter Tryz.func49, Tryz.ntmps49
    go_wp2
    go_ret
    exact ⟨ret_bool (by rw [← HQ.out, decide_eq_false H1.out]; rfl), (Below.refl _ _).alloc (Nat.le_refl _) _⟩
theorem r05_few (s t : Int) (A B : Option Addr) (n c m d : Nat) (w : World) : Calls Tryz.prog 49 #[.agg #[.int .i64 s, .slice A n c, .int .i64 t, .slice B m d], .int .i64 3] w (SaysB (decide (n ≤ 3) && decide (m ≤ 3)) w) := r05_few_ s t A B n c m d w _ rfl

def fewRaw (r : Raw) : Bool := (decide (r.n1 ≤ 3) && decide (r.n2 ≤ 3)) && (decide (r.n3 ≤ 3) && decide (r.n4 ≤ 3))
set_option maxHeartbeats 1000000 in
theorem r43_fewspan (r : Raw) (w : World) : Calls Tryz.prog 26 #[.agg #[Value.int .i64 r.s1, Value.slice r.A1 r.n1 r.c1, Value.int .i64 r.s2, Value.slice r.A2 r.n2 r.c2, Value.int .i64 r.s3, Value.slice r.A3 r.n3 r.c3, Value.int .i64 r.s4, Value.slice r.A4 r.n4 r.c4]] w (SaysB (fewRaw r) w) := by
  have h1 := fun W => r05_few r.s1 r.s2 r.A1 r.A2 r.n1 r.c1 r.n2 r.c2 W
  have h2 := fun W => r05_few r.s3 r.s4 r.A3 r.A4 r.n3 r.c3 r.n4 r.c4 W
  unfold fewRaw
  generalize (decide (r.n3 ≤ 3) && decide (r.n4 ≤ 3)) = q at *
  cases hq : (decide (r.n1 ≤ 3) && decide (r.n2 ≤ 3)) with
  | false =>
    rw [hq] at h1
    have H1 := Lib.hid h1
    clear h1 h2 hq
    go_enter Tryz.func26, Tryz.ntmps26
    go_wp2_with fail
    refine (H1.out _).mono ?_
    rintro e w1 ⟨rfl, hb1⟩
    have hbw : Below w.heap.size w w1 := ((Below.refl _ w).alloc (Nat.le_refl _) _).trans (hb1.mono (by simp))
    clear hb1
    go_wp2_with fail
    go_ret
    exact ⟨rfl, hbw⟩
  | true =>
    rw [hq] at h1
    have H1 := Lib.hid h1
    have H2 := Lib.hid h2
    clear h1 h2 hq
    go_enter Tryz.func26, Tryz.ntmps26
    go_wp2_with fail
    refine (H1.out _).mono ?_
    rintro e w1 ⟨rfl, hb1⟩
    have e4 : w1.cell? ⟨w.heap.size, 4, none⟩ = some (Value.int .i64 r.s3) := (hb1.cell (p := ⟨w.heap.size, 4, none⟩) (by simp)).trans (by simp [go_sem])
    have e5 : w1.cell? ⟨w.heap.size, 5, none⟩ = some (Value.slice r.A3 r.n3 r.c3) := (hb1.cell (p := ⟨w.heap.size, 5, none⟩) (by simp)).trans (by simp [go_sem])
    have e6 : w1.cell? ⟨w.heap.size, 6, none⟩ = some (Value.int .i64 r.s4) := (hb1.cell (p := ⟨w.heap.size, 6, none⟩) (by simp)).trans (by simp [go_sem])
    have e7 : w1.cell? ⟨w.heap.size, 7, none⟩ = some (Value.slice r.A4 r.n4 r.c4) := (hb1.cell (p := ⟨w.heap.size, 7, none⟩) (by simp)).trans (by simp [go_sem])
    have HB := Lib.hid (show Below w.heap.size w w1 from ((Below.refl _ w).alloc (Nat.le_refl _) _).trans (hb1.mono (by simp)))
    clear hb1
    go_wp2_with fail
    refine (H2.out _).mono ?_
    rintro e w2 ⟨rfl, hb2⟩
    have hbw : Below w.heap.size w w2 := HB.out.trans (hb2.mono HB.out.size)
    clear hb2
    go_wp2_with fail
    go_ret
    exact ⟨by cases q <;> rfl, hbw⟩

def fewR (r : Raw) : Bool := decide (r.k.size ≤ 70) && fewRaw r
def fewRs (rs : List Raw) : Bool := decide (rs.length ≤ 20) && rs.all fewR
theorem few_no {rs : List Raw} {k : Nat} {r : Raw} (h : rs[k]? = some r) (hf : fewR r = false) : fewRs rs = false := by
  unfold fewRs
  have : rs.all fewR = false := by
    rw [Bool.eq_false_iff]
    intro ha
    rw [List.all_eq_true.1 ha r (List.mem_of_getElem? h)] at hf
    cases hf
  rw [this, Bool.and_false]
theorem few_all {rs : List Raw} {k : Nat} (hp : ∀ i, i < k → ∀ r, rs[i]? = some r → fewR r = true) (hk : rs.length ≤ k) : rs.all fewR = true := by
  rw [List.all_eq_true]
  intro r hr
  obtain ⟨i, hi, he⟩ := List.getElem_of_mem hr
  exact hp i (by omega) r (by rw [List.getElem?_eq_getElem hi, he])
theorem few_next {rs : List Raw} {k : Nat} {r : Raw} (h : rs[k]? = some r) (hp : ∀ i, i < k → ∀ r, rs[i]? = some r → fewR r = true) (hf : fewR r = true) : ∀ i, i < k + 1 → ∀ r, rs[i]? = some r → fewR r = true := by
  intro i hi y hy
  rcases Nat.lt_or_ge i k with h1 | h1
  · exact hp i h1 y hy
  · obtain rfl : i = k := by omega
    rw [h] at hy
    obtain rfl := Option.some.inj hy
    exact hf

set_option maxRecDepth 100000 in
set_option maxHeartbeats 4000000 in
theorem r43_few (rs : List Raw) (A : Option Addr) (c : Nat) (w : World) (h : Lst Raw.cells 10 w A rs) (hl : rs.length ≤ maxLen) (hks : ∀ r ∈ rs, r.k.size ≤ maxLen) (hns : ∀ r ∈ rs, r.n1 ≤ maxLen ∧ r.n2 ≤ maxLen ∧ r.n3 ≤ maxLen ∧ r.n4 ≤ maxLen) :
    Calls Tryz.prog 6 #[.slice A rs.length c, .int .i64 20] w (SaysB (fewRs rs) w) := by
  have H := Lib.hid h
  have HKS := Lib.hid hks
  clear h hks hns
  unfold maxLen at hl
  go_enter Tryz.func6, Tryz.ntmps6
  go_wp2
  go_loopw [5] (fun t wr => ∃ k : Nat, k ≤ rs.length ∧ t = .int .i64 (k : Int) ∧ k ≤ 21 ∧ Hid ((∀ i, i < k → ∀ r, rs[i]? = some r → fewR r = true) ∧ Below w.heap.size w wr)) (fun t _ => rs.length - (intOf t).toNat)
  case atStart => exact ⟨0, Nat.zero_le _, rfl, by omega, fun i hi => absurd hi (Nat.not_lt_zero _), Below.refl _ _⟩
  case round =>
    obtain ⟨k, hk, rfl, hk21, HI⟩ := hrel
    by_cases hlt : k < rs.length
    · by_cases h20 : k ≤ 20
      · have hr : rs[k]? = some rs[k] := List.getElem?_eq_getElem hlt
        obtain ⟨b, off, rfl, hbl, hcl⟩ := (H.out.below HI.out.2) (fun e => by rw [e] at hlt; simp at hlt)
        have hcl := fun i v hv => hcl k _ hr i v hv
        have hks : rs[k].k.size ≤ maxLen := HKS.out _ (List.getElem_mem hlt)
        unfold maxLen at hks
        generalize rs[k] = r at *
        have HCL := Lib.hid hcl
        have HR := Lib.hid hr
        clear hcl hr
        have a0 : wr.cell? ⟨b, off + k * 10, none⟩ = some (Value.string r.k) := HCL.out 0 _ rfl
        have a1 : wr.cell? ⟨b, off + k * 10 + 1, none⟩ = some (Value.int .i64 r.nt) := HCL.out 1 _ rfl
        have a2 : wr.cell? ⟨b, off + k * 10 + 2, none⟩ = some (Value.int .i64 r.s1) := HCL.out 2 _ rfl
        have a3 : wr.cell? ⟨b, off + k * 10 + 3, none⟩ = some (Value.slice r.A1 r.n1 r.c1) := HCL.out 3 _ rfl
        have a4 : wr.cell? ⟨b, off + k * 10 + 4, none⟩ = some (Value.int .i64 r.s2) := HCL.out 4 _ rfl
        have a5 : wr.cell? ⟨b, off + k * 10 + 5, none⟩ = some (Value.slice r.A2 r.n2 r.c2) := HCL.out 5 _ rfl
        have a6 : wr.cell? ⟨b, off + k * 10 + 6, none⟩ = some (Value.int .i64 r.s3) := HCL.out 6 _ rfl
        have a7 : wr.cell? ⟨b, off + k * 10 + 7, none⟩ = some (Value.slice r.A3 r.n3 r.c3) := HCL.out 7 _ rfl
        have a8 : wr.cell? ⟨b, off + k * 10 + 8, none⟩ = some (Value.int .i64 r.s4) := HCL.out 8 _ rfl
        have a9 : wr.cell? ⟨b, off + k * 10 + 9, none⟩ = some (Value.slice r.A4 r.n4 r.c4) := HCL.out 9 _ rfl
        by_cases h70 : 70 < r.k.size
        · have HN := Lib.hid (few_no HR.out (show fewR r = false by simp [fewR]; intro; omega))
          go_wp2_with fail
          go_ret
          exact ⟨ret_bool HN.out.symm, HI.out.2⟩
        · have h70' : decide (70 < r.k.size) = false := by simpa using h70
          have hfs := fun W => r43_fewspan r W
          cases hfr : fewRaw r with
          | false =>
            have HN := Lib.hid (few_no HR.out (show fewR r = false by simp [fewR, hfr]))
            rw [hfr] at hfs
            have HF := Lib.hid hfs
            clear hfs hfr
            go_wp2_with fail
            refine (HF.out _).mono ?_
            rintro e w1 ⟨rfl, hb1⟩
            have hbb : Below w.heap.size w w1 := HI.out.2.trans (hb1.mono HI.out.2.size)
            clear hb1
            go_wp2_with fail
            go_ret
            exact ⟨ret_bool HN.out.symm, hbb⟩
          | true =>
            have HN := Lib.hid (few_next HR.out HI.out.1 (show fewR r = true by simp [fewR, hfr]; omega))
            rw [hfr] at hfs
            have HF := Lib.hid hfs
            clear hfs hfr
            go_wp2_with fail
            refine (HF.out _).mono ?_
            rintro e w1 ⟨rfl, hb1⟩
            have HBB := Lib.hid (show Below w.heap.size w w1 from HI.out.2.trans (hb1.mono HI.out.2.size))
            clear hb1
            go_wp2_with fail
            go_roundw
            case rel => exact ⟨k + 1, by omega, by go_num, by omega, HN.out, HBB.out⟩
            case measure => simp [intOf]; omega
      · have HN := Lib.hid (show fewRs rs = false by unfold fewRs; simp; intro; omega)
        have hd : decide (rs.length ≤ 20) = false := by simp; omega
        go_wp2_with fail
        go_ret
        exact ⟨ret_bool (by rw [HN.out] <;> simp <;> omega), HI.out.2⟩
    · obtain rfl : k = rs.length := by omega
      have HA := Lib.hid (few_all HI.out.1 (Nat.le_refl _))
      by_cases h20 : rs.length ≤ 20
      · have HN := Lib.hid (show fewRs rs = true by unfold fewRs; rw [HA.out]; simp; omega)
        go_wp2_with fail
        go_ret
        exact ⟨ret_bool (by rw [HN.out] <;> simp <;> omega), HI.out.2⟩
      · have HN := Lib.hid (show fewRs rs = false by unfold fewRs; simp; intro; omega)
        go_wp2_with fail
        go_ret
        exact ⟨ret_bool (by rw [HN.out] <;> simp <;> omega), HI.out.2⟩
end Go.Proofs.YtaojnjealccjiaaGreatDoor
