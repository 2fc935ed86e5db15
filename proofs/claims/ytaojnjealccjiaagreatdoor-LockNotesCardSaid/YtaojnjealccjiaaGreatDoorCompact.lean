/- slices.Compact over a row of acts of the call's own; lock.Join. -/
import Derived.Test.YtaojnjealccjiaaGreatDoorRow
import Derived.Laws.StructEq
import Derived.Deep.QuietTactic
import Derived.BigQuiet

namespace Go.Proofs.YtaojnjealccjiaaGreatDoor
open Go Go.RowKit Kb Go.Lib
set_option linter.unusedVariables false

/-- what Compact keeps of the first j -/
def cpt (xs : List Akt) : Nat → List Akt
  | 0 => []
  | j + 1 => cpt xs j ++ (if j = 0 ∨ xs[j]? ≠ xs[j - 1]? then xs[j]?.toList else [])

theorem cpt_keep {xs : List Akt} {j : Nat} (hj : j < xs.length) (h : j = 0 ∨ xs[j]? ≠ xs[j - 1]?) : cpt xs (j + 1) = cpt xs j ++ [xs[j]] := by
  rw [cpt, if_pos h, List.getElem?_eq_getElem hj]; rfl
theorem cpt_skip {xs : List Akt} {j : Nat} (h : ¬ (j = 0 ∨ xs[j]? ≠ xs[j - 1]?)) : cpt xs (j + 1) = cpt xs j := by
  rw [cpt, if_neg h]; simp
theorem cpt_all {xs : List Akt} : ∀ j, j ≤ xs.length → (∀ t, t < j → t = 0 ∨ xs[t]? ≠ xs[t - 1]?) → cpt xs j = xs.take j
  | 0, _, _ => by simp [cpt]
  | j + 1, h, hk => by
    rw [cpt_keep (by omega) (hk j (by omega)), cpt_all j (by omega) (fun t ht => hk t (by omega)), List.take_succ_eq_append_getElem (by omega)]

theorem cpt_mem {xs : List Akt} : ∀ j, j ≤ xs.length → ∀ x, x ∈ cpt xs j ↔ x ∈ xs.take j
  | 0, _, x => by simp [cpt]
  | j + 1, h, x => by
    have ih := cpt_mem (xs := xs) j (by omega) x
    rw [List.take_succ_eq_append_getElem (show j < xs.length by omega), List.mem_append, List.mem_singleton, ← ih]
    by_cases hk : j = 0 ∨ xs[j]? ≠ xs[j - 1]?
    · rw [cpt_keep (xs := xs) (j := j) (by omega) hk, List.mem_append, List.mem_singleton]
    · rw [cpt_skip hk]
      constructor
      · exact .inl
      · rintro (m | rfl)
        · exact m
        · rw [ih]
          simp only [not_or, ne_eq, Classical.not_not] at hk
          have hj1 : j - 1 < xs.length := by omega
          rw [List.getElem?_eq_getElem (by omega : j < xs.length), List.getElem?_eq_getElem hj1] at hk
          have := Option.some.inj hk.2
          rw [this]
          rw [List.mem_iff_getElem]
          exact ⟨j - 1, by simp; omega, by rw [List.getElem_take]⟩

theorem cpt_strict {xs : List Akt} (hs : xs.Pairwise (fun a b => ¬ ltAct b a)) : ∀ j, j ≤ xs.length → (cpt xs j).Pairwise ltAct
  | 0, _ => by simp [cpt]
  | j + 1, h => by
    have ih := cpt_strict hs j (by omega)
    by_cases hk : j = 0 ∨ xs[j]? ≠ xs[j - 1]?
    · rw [cpt_keep (by omega) hk, List.pairwise_append]
      refine ⟨ih, by simp, fun y hy z hz => ?_⟩
      rw [List.mem_singleton] at hz
      subst hz
      rw [cpt_mem j (by omega), List.mem_iff_getElem] at hy
      obtain ⟨t, ht, e⟩ := hy
      rw [List.getElem_take] at e
      have htj : t < j := by simp at ht; omega
      have hle : ∀ a b (ha : a < xs.length) (hb : b < xs.length), a < b → ¬ ltAct xs[b] xs[a] := fun a b ha hb hab => List.pairwise_iff_getElem.1 hs a b ha hb hab
      have h1 : ¬ ltAct xs[j] xs[t] := hle t j (by omega) (by omega) htj
      rw [← e]
      by_cases h2 : ltAct xs[t] xs[j]
      · exact h2
      · exfalso
        have e3 : xs[t] = xs[j] := ltAct_tri h2 h1
        rcases hk with rfl | hk
        · omega
        · apply hk
          rw [List.getElem?_eq_getElem (by omega : j < xs.length), List.getElem?_eq_getElem (by omega : j - 1 < xs.length)]
          congr 1
          by_cases h5 : t = j - 1
          · subst h5; exact e3.symm
          · have h6 : ¬ ltAct xs[j - 1] xs[t] := hle t (j - 1) (by omega) (by omega) (by omega)
            have h7 : ¬ ltAct xs[j] xs[j - 1] := hle (j - 1) j (by omega) (by omega) (by omega)
            rw [← e3] at h7
            rw [← e3]
            exact ltAct_tri h7 h6
    · rw [cpt_skip hk]; exact ih

def CInv (xs dk : List Akt) (i j : Nat) : Prop :=
  dk.length = xs.length ∧ 1 ≤ j ∧ j ≤ xs.length ∧ i < j ∧ dk.take i = cpt xs j ∧ ∀ t, j - 1 ≤ t → dk[t]? = xs[t]?

theorem CInv.start {xs : List Akt} {k : Nat} (hk : k < xs.length) (h1 : ∀ t, t < k → t = 0 ∨ xs[t]? ≠ xs[t - 1]?) (h2 : ¬ (k = 0 ∨ xs[k]? ≠ xs[k - 1]?)) : CInv xs xs k (k + 1) :=
  ⟨rfl, by omega, hk, by omega, by rw [cpt_skip h2, cpt_all k (by omega) h1], fun _ _ => rfl⟩
theorem CInv.keep {xs dk : List Akt} {i j : Nat} (h : CInv xs dk i j) (hj : j < xs.length) (hk : xs[j]? ≠ xs[j - 1]?) : CInv xs (dk.set i xs[j]) (i + 1) (j + 1) := by
  obtain ⟨hl, h1, hjl, hij, ht, hh⟩ := h
  refine ⟨by simpa using hl, by omega, hj, by omega, ?_, fun t htt => ?_⟩
  · have hs : (dk.take i).set i xs[j] = dk.take i := List.set_eq_of_length_le (by simp; omega)
    rw [List.take_succ_eq_append_getElem (by simp; omega), cpt_keep hj (.inr hk), ← ht]
    simp [List.take_set, hs]
  · rw [List.getElem?_set_ne (by omega)]
    exact hh t (by omega)
theorem CInv.skip {xs dk : List Akt} {i j : Nat} (h : CInv xs dk i j) (hj : j < xs.length) (hk : xs[j]? = xs[j - 1]?) : CInv xs dk i (j + 1) := by
  obtain ⟨hl, h1, hjl, hij, ht, hh⟩ := h
  exact ⟨hl, by omega, hj, by omega, by rw [cpt_skip (by rintro (h | h); omega; exact h hk), ht], fun t htt => hh t (by omega)⟩
theorem CInv.get {xs dk : List Akt} {i j t : Nat} (h : CInv xs dk i j) (h1 : j - 1 ≤ t) (ht : t < xs.length) : dk[t]'(by rw [h.1]; exact ht) = xs[t] := by
  have := h.2.2.2.2.2 t h1
  rw [List.getElem?_eq_getElem (by rw [h.1]; exact ht), List.getElem?_eq_getElem ht] at this
  exact Option.some.inj this
theorem CInv.done {xs dk : List Akt} {i : Nat} (h : CInv xs dk i xs.length) : dk.take i = cpt xs xs.length ∧ (cpt xs xs.length).length = i :=
  ⟨h.2.2.2.2.1, by rw [← h.2.2.2.2.1, List.length_take]; have := h.1; have := h.2.2.2.1; omega⟩

theorem eql_act (x y : Akt) (w : World) : (binOp .eql 47 (.agg #[.int .i64 x.kind, .int .i64 x.person, .int .i64 x.day, .string x.obj]) (.agg #[.int .i64 y.kind, .int .i64 y.person, .int .i64 y.day, .string y.obj])).run Tryz.prog w = .ok (.bool (decide (x = y))) w := by
  have u3 := Tryz.underlying3
  have u9 := Tryz.underlying9
  have hS : Tryz.prog.underlying 47 = some (.struct (Tryz.prog.fieldsOf 47)) := by kernel_rfl
  have hp : Tryz.prog.stoodInHeld 47 = false := by kernel_rfl
  rw [run_eql_struct, show (10000 : Nat) = 9999 + 1 from rfl, run_equalIn_agg w 9999 47 _ _ hS hp]
  simp only [Program.fieldsOf, Tryz.underlying47]
  have e : decide (x = y) = (x.kind == y.kind && (x.person == y.person && (x.day == y.day && x.obj.toList == y.obj.toList))) := by
    rw [Bool.eq_iff_iff, decide_eq_true_eq]
    simp only [Bool.and_eq_true, beq_iff_eq, Lib.toList_data]
    constructor
    · rintro rfl; exact ⟨rfl, rfl, rfl, rfl⟩
    · rintro ⟨h1, h2, h3, h4⟩; exact Akt.ext' h1 h2 h3 (o_inj h4)
  rw [e]
  go_simp
  by_cases h1 : x.kind = y.kind <;> by_cases h2 : x.person = y.person <;> by_cases h3 : x.day = y.day <;> by_cases h4 : x.obj.toList = y.obj.toList <;> simp [h1, h2, h3, h4]

theorem neq_act (x y : Akt) (w : World) : (binOp .neq 47 (.agg #[.int .i64 x.kind, .int .i64 x.person, .int .i64 x.day, .string x.obj]) (.agg #[.int .i64 y.kind, .int .i64 y.person, .int .i64 y.day, .string y.obj])).run Tryz.prog w = .ok (.bool (!decide (x = y))) w := by
  have h := eql_act x y w
  rw [run_eql_struct] at h
  rw [run_neq_struct]
  generalize (Op.equalIn 10000 47 (.agg #[.int .i64 x.kind, .int .i64 x.person, .int .i64 x.day, .string x.obj]) (.agg #[.int .i64 y.kind, .int .i64 y.person, .int .i64 y.day, .string y.obj])).run Tryz.prog w = r at *
  cases r with
  | ok b w' =>
    simp only [Result.andThen_ok] at h ⊢
    injection h with h1 h2
    injection h1 with h1
    rw [h1, h2]
  | _ => simp [Result.andThen] at h

set_option maxHeartbeats 4000000 in
set_option maxRecDepth 100000 in
theorem compact_acts (B : Nat) (A : Option Addr) (cap : Nat) (xs : List Akt) (w0 w : World) (hown : OwnR B w A cap xs) (hB : Below B w0 w) :
    Calls Tryz.prog 48 #[.slice A xs.length cap] w fun e w' => e = .returned (.slice A (cpt xs xs.length).length cap) ∧ OwnR B w' A cap (cpt xs xs.length) ∧ Below B w0 w' := by
  obtain ⟨hc1, hc2, hrow⟩ := hown
  unfold maxLen at hc2
  by_cases h2 : xs.length < 2
  · have e : cpt xs xs.length = xs := by
      rw [cpt_all _ (Nat.le_refl _) (fun t ht => .inl (by omega)), List.take_length]
    rw [e]
    clear e
    generalize hn : xs.length = n at *
    have HN := Lib.hid hn
    have HR := Lib.hid hrow
    clear hn hrow
    go_enter Tryz.func48, Tryz.ntmps48
    go_wp2_with fail
    go_ret
    exact ⟨rfl, ⟨by rw [HN.out]; exact hc1, by unfold maxLen; omega, HR.out⟩, hB⟩
  · obtain ⟨g, rfl, hgB, hgw, hr⟩ := hrow (fun h => by rw [h] at h2; simp at h2)
    have HR := Lib.hid hr
    clear hr hrow
    have fin0 : (∀ t, t < xs.length → t = 0 ∨ xs[t]? ≠ xs[t - 1]?) → cpt xs xs.length = xs := fun h => by rw [cpt_all _ (Nat.le_refl _) h, List.take_length]
    have HF := Lib.hid fin0
    clear fin0
    generalize hn : xs.length = n at *
    have HN := Lib.hid hn
    clear hn
    go_enter Tryz.func48, Tryz.ntmps48
    go_wp2_with fail
    go_loopw [3] (fun s3 wr => ∃ k : Nat, 1 ≤ k ∧ k ≤ n ∧ s3 = .int .i64 k ∧ Hid (∀ t, t < k → t = 0 ∨ xs[t]? ≠ xs[t - 1]?) ∧ Hid (Row wr g xs) ∧ Hid (Below B w0 wr) ∧ g < wr.heap.size) (fun s3 _ => n - (intOf s3).toNat)
    case atStart => exact ⟨1, Nat.le_refl _, by omega, rfl, fun t ht => .inl (by omega), HR.out, hB, hgw⟩
    case round =>
      obtain ⟨k, hk1, hkn, rfl, HK, HRw, HBl, hgr⟩ := hrel
      by_cases hlt : k < n
      · have hkx : k < xs.length := by rw [HN.out]; exact hlt
        have hk1x : k - 1 < xs.length := by omega
        obtain ⟨⟨c0, c1, c2, c3⟩, _⟩ := HRw.out.get hkx
        obtain ⟨⟨d0, d1, d2, d3⟩, _⟩ := HRw.out.get hk1x
        generalize hx : xs[k] = x at c0 c1 c2 c3
        generalize hy : xs[k - 1] = y at d0 d1 d2 d3
        have HX := Lib.hid hx
        have HY := Lib.hid hy
        clear hx hy
        have i1 : (0 : Int) ≤ (k : Int) - 1 := by omega
        have i2 : (k : Int) - 1 < (n : Int) := by omega
        have i3 : ((k : Int) - 1).toNat = k - 1 := by omega
        have i4 : (k : Int) < (n : Int) := by omega
        by_cases hxy : x = y
        · have heq : ∀ W, (binOp .eql 47 (.agg #[.int .i64 x.kind, .int .i64 x.person, .int .i64 x.day, .string x.obj]) (.agg #[.int .i64 y.kind, .int .i64 y.person, .int .i64 y.day, .string y.obj])).run Tryz.prog W = .ok (.bool true) W := fun W => by rw [eql_act, decide_eq_true hxy]
          have hC0 : CInv xs xs k (k + 1) := CInv.start hkx HK.out (by
            rintro (h | h)
            · omega
            · exact h (by rw [List.getElem?_eq_getElem hkx, List.getElem?_eq_getElem hk1x, HX.out, HY.out, hxy]))
          have HC0 := Lib.hid hC0
          clear hC0 hxy
          go_wp2_with fail
          go_quiet (fail)
          have hkc : k < cap := by omega
          go_wp2_with fail
          clear c0 c1 c2 c3 d0 d1 d2 d3 heq i1 i2 i3 i4
          obtain ⟨wo, rfl⟩ : ∃ wo : World, wo = wr := ⟨_, rfl⟩
          go_loopw [3, 5] (fun s3 s5 wr => ∃ (kk k2 : Nat) (dk : List Akt), 1 ≤ k2 ∧ k + k2 ≤ n ∧ kk < k + k2 ∧ s3 = .int .i64 kk ∧ s5 = .int .i64 k2 ∧ Hid (CInv xs dk kk (k + k2)) ∧ Hid (Row wr g dk) ∧ Hid (Below B w0 wr) ∧ g < wr.heap.size) (fun _ s5 _ => n - (intOf s5).toNat)
          case atStart => exact ⟨k, 1, xs, Nat.le_refl _, by omega, by omega, rfl, rfl, HC0.out, HRw.out, below_drewN HBl.out _, hgr⟩
          case round =>
            clear HK HRw HBl hgr HX HY HC0
            obtain ⟨kk, k2, dk, h1k, hkk2, hkk, rfl, rfl, HC, HRw, HBl, hgr⟩ := hrel
            by_cases hlt2 : k + k2 < n
            · have hjx : k + k2 < xs.length := by rw [HN.out]; exact hlt2
              have hj1x : k + k2 - 1 < xs.length := by omega
              have hdl := HC.out.1
              obtain ⟨⟨c0, c1, c2, c3⟩, _⟩ := HRw.out.get (j := k + k2) (by rw [hdl]; exact hjx)
              obtain ⟨⟨d0, d1, d2, d3⟩, _⟩ := HRw.out.get (j := k + k2 - 1) (by rw [hdl]; exact hj1x)
              obtain ⟨⟨o0, o1, o2, o3⟩, f0, f1, f2, f3⟩ := HRw.out.get (j := kk) (by rw [hdl]; omega)
              rw [HC.out.get (by omega) hjx, show (k + k2) * 4 = k * 4 + k2 * 4 by omega] at c0 c1 c2 c3
              rw [HC.out.get (by omega) hj1x, show (k + k2 - 1) * 4 = k * 4 + (k2 - 1) * 4 by omega] at d0 d1 d2 d3
              generalize hx : xs[k + k2] = x at c0 c1 c2 c3
              generalize hy : xs[k + k2 - 1] = y at d0 d1 d2 d3
              generalize dk[kk] = old at o0 o1 o2 o3
              have HX := Lib.hid hx
              have HY := Lib.hid hy
              have HDl := Lib.hid hdl
              clear hx hy hdl
              have i1 : (0 : Int) ≤ (k2 : Int) - 1 := by omega
              have i2 : (k2 : Int) - 1 < ((n - k : Nat) : Int) := by omega
              have i3 : ((k2 : Int) - 1).toNat = k2 - 1 := by omega
              have i4 : (k2 : Int) < ((n - k : Nat) : Int) := by omega
              have i5 : (kk : Int) < (n : Int) := by omega
              by_cases hxy : x = y
              · have heq : ∀ W, (binOp .neq 47 (.agg #[.int .i64 x.kind, .int .i64 x.person, .int .i64 x.day, .string x.obj]) (.agg #[.int .i64 y.kind, .int .i64 y.person, .int .i64 y.day, .string y.obj])).run Tryz.prog W = .ok (.bool false) W := fun W => by rw [neq_act, decide_eq_true hxy]; rfl
                have HXY := Lib.hid hxy
                clear hxy
                go_wp2_with fail
                go_quiet (fail)
                go_wp2_with fail
                go_roundw
                case rel => exact ⟨kk, k2 + 1, dk, by omega, by omega, by omega, rfl, by go_num, HC.out.skip hjx (by rw [List.getElem?_eq_getElem hjx, List.getElem?_eq_getElem hj1x, HX.out, HY.out, HXY.out]), HRw.out, below_drewN HBl.out _, hgr⟩
                case measure => simp [intOf]; omega
              · have heq : ∀ W, (binOp .neq 47 (.agg #[.int .i64 x.kind, .int .i64 x.person, .int .i64 x.day, .string x.obj]) (.agg #[.int .i64 y.kind, .int .i64 y.person, .int .i64 y.day, .string y.obj])).run Tryz.prog W = .ok (.bool true) W := fun W => by rw [neq_act, decide_eq_false hxy]; rfl
                have HXY := Lib.hid hxy
                clear hxy
                go_wp2_with fail
                go_quiet (fail)
                go_wp2_with fail
                go_roundw
                case rel =>
                  have hKk := HC.out.keep hjx (by rw [List.getElem?_eq_getElem hjx, List.getElem?_eq_getElem hj1x, HX.out, HY.out]; intro h; exact HXY.out (Option.some.inj h))
                  rw [HX.out] at hKk
                  exact ⟨kk + 1, k2 + 1, dk.set kk x, by omega, by omega, by omega, by go_num, by go_num, hKk, Row.store (w := wr.drewN nq) HRw.out (by rw [HDl.out, HN.out]; omega) x, below_put4 (below_drewN HBl.out _) hgB, by simp; exact hgr⟩
                case measure => simp [intOf]; omega
            · have hend : k + k2 = n := by omega
              obtain ⟨vs, hclr⟩ := run_clear_acts wr g kk (n - kk) (cap - kk) (by omega) (fun t ht => HRw.out.some_ (by rw [HC.out.1, HN.out]; omega))
              have hkc2 : kk < cap := by omega
              have HE := Lib.hid hend
              clear hend
              go_wp2_with fail
              go_ret
              have hK := HC.out
              rw [HE.out, ← HN.out] at hK
              obtain ⟨e1, e2⟩ := hK.done
              rw [HN.out] at e1 e2
              refine ⟨by rw [e2]; rfl, ⟨by rw [e2]; omega, by unfold maxLen; omega, fun _ => ⟨g, rfl, hgB, ?_, ?_⟩⟩, below_sets hgB _ _ HBl.out⟩
              · exact Nat.lt_of_lt_of_le hgr (below_sets (B := 0) (g := g) (Nat.zero_le _) vs (kk * 4) (Below.refl 0 wr)).size
              · rw [← e1]
                exact (HRw.out.take kk).cleared vs kk (by simp; omega)
        · have heq : ∀ W, (binOp .eql 47 (.agg #[.int .i64 x.kind, .int .i64 x.person, .int .i64 x.day, .string x.obj]) (.agg #[.int .i64 y.kind, .int .i64 y.person, .int .i64 y.day, .string y.obj])).run Tryz.prog W = .ok (.bool false) W := fun W => by rw [eql_act, decide_eq_false hxy]
          have HXY := Lib.hid hxy
          clear hxy
          go_wp2_with fail
          go_quiet (fail)
          go_wp2_with fail
          go_roundw
          case rel =>
            refine ⟨k + 1, by omega, by omega, by go_num, fun t ht => ?_, HRw.out, below_drewN HBl.out _, hgr⟩
            by_cases e : t = k
            · subst e
              exact .inr (by rw [List.getElem?_eq_getElem hkx, List.getElem?_eq_getElem hk1x, HX.out, HY.out]; intro h; exact HXY.out (Option.some.inj h))
            · exact HK.out t (by omega)
          case measure => simp [intOf]; omega
      · have hkn2 : k = n := by omega
        have HE := Lib.hid hkn2
        clear hkn2
        go_wp2_with fail
        go_ret
        have e := HF.out (fun t ht => HK.out t (by rw [HE.out]; exact ht))
        rw [e]
        exact ⟨by rw [HN.out]; rfl, ⟨by rw [HN.out]; exact hc1, by unfold maxLen; omega, fun _ => ⟨g, rfl, hgB, hgr, HRw.out⟩⟩, HBl.out⟩

end Go.Proofs.YtaojnjealccjiaaGreatDoor
