/- The reference's Few, Same, Has at notes; the law's told and free. -/
import Derived.Test.YtaojnjealccjiaaGreatDoorNRun
import Derived.Test.YtaojnjealccjiaaGreatDoorFewA
namespace Go.Proofs.YtaojnjealccjiaaGreatDoor
open Go Go.RowKit Nt Go.Proofs Go.Lib
set_option linter.unusedVariables false
set_option linter.unusedSimpArgs false

def SaysQ (P : Prop) (w : World) (e : Ending) (w' : World) : Prop := ∃ b, e = .returned (.bool b) ∧ (b = true ↔ P) ∧ w = w'
def FewN (l : List NoteR) : Prop := l.length ≤ 20 ∧ ∀ r ∈ l, SmN r.v
set_option maxRecDepth 100000 in
set_option maxHeartbeats 2000000 in
theorem ref_fewN (l : List NoteR) (A : Option Addr) (c : Nat) (w : World) (h : Sl noteD w Any1 A l) (hl : l.length ≤ maxLen) :
    Calls Tryz.prog 13 #[.slice A l.length c, .int .i64 20] w (SaysQ (FewN l) w) := by
  have H := Lib.hid h
  clear h
  unfold maxLen at hl
  generalize hn : l.length = n at *
  have HN := Lib.hid hn
  clear hn
  go_enter Tryz.func13, Tryz.ntmps13
  go_wp2_with fail
  go_loop [5] (fun i => ∃ k : Nat, k ≤ n ∧ k ≤ 21 ∧ i = .int .i64 (k : Int) ∧ Hid (∀ (j : Nat) (r : NoteR), j < k → l[j]? = some r → SmN r.v)) (fun i => n - (intOf i).toNat)
  case atStart => exact ⟨0, Nat.zero_le _, Nat.zero_le _, rfl, fun j _ h => absurd h (Nat.not_lt_zero _)⟩
  case round =>
    obtain ⟨k, hk, hk21, rfl, HAll⟩ := hrel
    by_cases hlt : k < n
    · by_cases h20 : k ≤ 20
      · have hkx : k < l.length := by rw [HN.out]; exact hlt
        obtain ⟨b, off, rfl, _, hbl, _, hcl⟩ := H.out.get hkx
        have hx : l[k]? = some l[k] := List.getElem?_eq_getElem hkx
        generalize l[k] = r at hx hcl
        have c3 : w.cell? ⟨b, off + k * 5 + 3, none⟩ = some (.slice r.A r.v.needs.length r.c) := hcl 3 _ rfl
        have c4 : w.cell? ⟨b, off + k * 5 + 4, none⟩ = some (.string r.v.text) := hcl 4 _ rfl
        have HX := Lib.hid hx
        clear hx hcl
        by_cases h45 : 45 < r.v.needs.length
        · have HNO := Lib.hid (show ¬ FewN l from fun q => by have := (q.2 r (List.mem_of_getElem? HX.out)).1; omega)
          go_wp2_with fail
          go_ret
          exact ⟨false, rfl, ⟨fun q => (by cases q), fun q => absurd q HNO.out⟩, rfl⟩
        · by_cases h200 : 200 < r.v.text.size
          · have HNO := Lib.hid (show ¬ FewN l from fun q => by have := (q.2 r (List.mem_of_getElem? HX.out)).2; omega)
            go_wp2_with fail
            go_ret
            exact ⟨false, rfl, ⟨fun q => (by cases q), fun q => absurd q HNO.out⟩, rfl⟩
          · have HNX := Lib.hid (show ∀ (j : Nat) (z : NoteR), j < k + 1 → l[j]? = some z → SmN z.v from fun j z hj hz => by
              rcases Nat.lt_or_ge j k with q | q
              · exact HAll.out j z q hz
              · obtain rfl : j = k := by omega
                rw [HX.out] at hz
                cases hz
                exact ⟨by omega, by omega⟩)
            go_wp2_with fail
            go_round
            case rel => exact ⟨k + 1, by omega, by omega, by go_num, HNX.out⟩
            case measure => simp [intOf]; omega
      · have hn20 : ¬ n ≤ 20 := by omega
        have hn20' : decide (n ≤ 20) = false := by simp; omega
        have HNO := Lib.hid (show ¬ FewN l from fun q => by have := q.1; have := HN.out; omega)
        go_wp2_with fail
        go_ret
        exact ⟨false, retN_bool (by simp; omega), ⟨fun q => (by cases q), fun q => absurd q HNO.out⟩, rfl⟩
    · obtain rfl : k = n := by omega
      have HYES := Lib.hid (show FewN l ↔ k ≤ 20 from ⟨fun q => by have := q.1; have := HN.out; omega, fun q => ⟨by rw [HN.out]; exact q, fun r hr => by
        obtain ⟨j, hj, e⟩ := List.getElem_of_mem hr
        exact HAll.out j r (by rw [← HN.out]; exact hj) (by rw [List.getElem?_eq_getElem hj, e])⟩⟩)
      go_wp2_with fail
      go_ret
      exact ⟨decide (k ≤ 20), retN_bool (by rw [decide_eq_decide]; omega), by rw [decide_eq_true_eq]; exact HYES.out.symm, rfl⟩

theorem eql_ref (x y : RefV) (w : World) : (binOp .eql 100 (.agg #[.int .i64 x.house, .int .i64 x.no]) (.agg #[.int .i64 y.house, .int .i64 y.no])).run Tryz.prog w = .ok (.bool (decide (x = y))) w := by
  have u3 := Tryz.underlying3
  have hS : Tryz.prog.underlying 100 = some (.struct (Tryz.prog.fieldsOf 100)) := by kernel_rfl
  have hp : Tryz.prog.stoodInHeld 100 = false := by kernel_rfl
  rw [run_eql_struct, show (10000 : Nat) = 9999 + 1 from rfl, run_equalIn_agg w 9999 100 _ _ hS hp]
  simp only [Program.fieldsOf, Tryz.underlying100]
  have e : decide (x = y) = (x.house == y.house && x.no == y.no) := by
    rw [Bool.eq_iff_iff, decide_eq_true_eq]
    simp only [Bool.and_eq_true, beq_iff_eq]
    constructor
    · rintro rfl; exact ⟨rfl, rfl⟩
    · rintro ⟨h1, h2⟩; cases x; cases y; simp at h1 h2; rw [h1, h2]
  rw [e]
  go_simp
  by_cases h1 : x.house = y.house <;> by_cases h2 : x.no = y.no <;> simp [h1, h2]
theorem neq_ref (x y : RefV) (w : World) : (binOp .neq 100 (.agg #[.int .i64 x.house, .int .i64 x.no]) (.agg #[.int .i64 y.house, .int .i64 y.no])).run Tryz.prog w = .ok (.bool (!decide (x = y))) w := by
  have h := eql_ref x y w
  rw [run_eql_struct] at h
  rw [run_neq_struct]
  generalize (Op.equalIn 10000 100 (.agg #[.int .i64 x.house, .int .i64 x.no]) (.agg #[.int .i64 y.house, .int .i64 y.no])).run Tryz.prog w = r at *
  cases r with
  | ok b w' =>
    simp only [Result.andThen_ok] at h ⊢
    injection h with h1 h2
    injection h1 with h1
    rw [h1, h2]
  | _ => simp [Result.andThen] at h
def SaysP (P : Prop) (w : World) (e : Ending) (w' : World) : Prop := ∃ b, e = .returned (.bool b) ∧ (b = true ↔ P) ∧ Below w.heap.size w w'
set_option maxRecDepth 100000 in
set_option maxHeartbeats 2000000 in
theorem ref_samerefs (xs ys : List RefV) (A A' : Option Addr) (c c' : Nat) (w : World) (h : Sl refD w Any1 A xs) (h' : Sl refD w Any1 A' ys) (hx : xs.length ≤ 100000) (hy : ys.length ≤ 100000) :
    Calls Tryz.prog 69 #[.slice A xs.length c, .slice A' ys.length c'] w (SaysP (xs = ys) w) := by
  have H := Lib.hid h
  have H' := Lib.hid h'
  clear h h'
  by_cases hn : xs.length = ys.length
  · have HN := Lib.hid hn
    rw [← hn]
    clear hn
    generalize hm : xs.length = n at *
    have HM := Lib.hid hm
    clear hm
    go_enter Tryz.func69, Tryz.ntmps69
    go_wp2_with fail
    go_loopw [5] (fun s5 wr => ∃ k : Nat, k ≤ n ∧ s5 = .int .i64 (k : Int) ∧ Hid (∀ j, j < k → xs[j]? = ys[j]?) ∧ Hid (Below w.heap.size w wr)) (fun s5 _ => n - (intOf s5).toNat)
    case atStart => exact ⟨0, Nat.zero_le _, rfl, fun j hj => absurd hj (Nat.not_lt_zero _), Below.refl _ _⟩
    case round =>
      obtain ⟨k, hk, rfl, HE, HB⟩ := hrel
      by_cases hlt : k < n
      · have hkx : k < xs.length := by rw [HM.out]; exact hlt
        have hky : k < ys.length := by rw [← HN.out]; exact hlt
        obtain ⟨b, off, rfl, _, hbl, _, hcl⟩ := (H.out.below HB.out).get hkx
        obtain ⟨b', off', rfl, _, hbl', _, hcl'⟩ := (H'.out.below HB.out).get hky
        have hx : xs[k]? = some xs[k] := List.getElem?_eq_getElem hkx
        have hy : ys[k]? = some ys[k] := List.getElem?_eq_getElem hky
        generalize xs[k] = x at hx hcl
        generalize ys[k] = y at hy hcl'
        have c0 : wr.cell? ⟨b, off + k * 2, none⟩ = some (.int .i64 x.house) := hcl 0 _ rfl
        have c1 : wr.cell? ⟨b, off + k * 2 + 1, none⟩ = some (.int .i64 x.no) := hcl 1 _ rfl
        have d0 : wr.cell? ⟨b', off' + k * 2, none⟩ = some (.int .i64 y.house) := hcl' 0 _ rfl
        have d1 : wr.cell? ⟨b', off' + k * 2 + 1, none⟩ = some (.int .i64 y.no) := hcl' 1 _ rfl
        have HX := Lib.hid hx
        have HY := Lib.hid hy
        have i4 : (k : Int) < (n : Int) := by omega
        clear hx hy hcl hcl'
        by_cases hxy : x = y
        · have heq : ∀ W, (binOp .neq 100 (.agg #[.int .i64 x.house, .int .i64 x.no]) (.agg #[.int .i64 y.house, .int .i64 y.no])).run Tryz.prog W = .ok (.bool false) W := fun W => by rw [neq_ref, decide_eq_true hxy]; rfl
          have HXY := Lib.hid hxy
          clear hxy
          go_wp2_with fail
          go_quiet (fail)
          go_wp2_with fail
          go_roundw
          case rel => exact ⟨k + 1, by omega, by go_num, fun j hj => by
            rcases Nat.lt_or_ge j k with q | q
            · exact HE.out j q
            · obtain rfl : j = k := by omega
              rw [HX.out, HY.out, HXY.out], below_dn HB.out _⟩
          case measure => simp [intOf]; omega
        · have heq : ∀ W, (binOp .neq 100 (.agg #[.int .i64 x.house, .int .i64 x.no]) (.agg #[.int .i64 y.house, .int .i64 y.no])).run Tryz.prog W = .ok (.bool true) W := fun W => by rw [neq_ref, decide_eq_false hxy]; rfl
          have HXY := Lib.hid hxy
          clear hxy
          go_wp2_with fail
          go_quiet (fail)
          go_wp2_with fail
          go_ret
          exact ⟨false, rfl, ⟨fun q => (by cases q), fun q => by
            have h1 := HX.out
            rw [q, HY.out] at h1
            exact absurd (Option.some.inj h1).symm HXY.out⟩, below_dn HB.out _⟩
      · obtain rfl : k = n := by omega
        have HQ := Lib.hid (show xs = ys from List.ext_getElem? fun j => by
          rcases Nat.lt_or_ge j k with q | q
          · exact HE.out j q
          · rw [List.getElem?_eq_none (by rw [HM.out]; exact q), List.getElem?_eq_none (by rw [← HN.out]; exact q)])
        go_wp2_with fail
        go_ret
        exact ⟨true, rfl, ⟨fun _ => HQ.out, fun _ => rfl⟩, HB.out⟩
  · have HNE := Lib.hid (show xs ≠ ys from fun e => hn (by rw [e]))
    have hne : ((xs.length : Int) == (ys.length : Int)) = false := by rw [beq_eq_false_iff_ne]; omega
    go_enter Tryz.func69, Tryz.ntmps69
    go_wp2_with fail
    go_ret
    exact ⟨false, rfl, ⟨fun q => (by cases q), fun q => absurd q HNE.out⟩, Below.refl _ _⟩
set_option maxRecDepth 100000 in
set_option maxHeartbeats 4000000 in
theorem ref_sameN (x y : NoteR) (w : World) (h : Sl refD w Any1 x.A x.v.needs) (h' : Sl refD w Any1 y.A y.v.needs) (hx : x.v.needs.length ≤ 100000) (hy : y.v.needs.length ≤ 100000) :
    Calls Tryz.prog 41 #[.agg #[.int .i64 x.v.house, .int .i64 x.v.no, .int .i64 x.v.day, .slice x.A x.v.needs.length x.c, .string x.v.text], .agg #[.int .i64 y.v.house, .int .i64 y.v.no, .int .i64 y.v.day, .slice y.A y.v.needs.length y.c, .string y.v.text]] w (SaysP (x.v = y.v) w) := by
  have hsr := fun W (q : Below w.heap.size w W) => ref_samerefs x.v.needs y.v.needs x.A y.A x.c y.c W (h.below q) (h'.below q) hx hy
  have HSR := Lib.hid hsr
  clear hsr h h'
  by_cases h1 : x.v.house = y.v.house
  · by_cases h2 : x.v.no = y.v.no
    · by_cases h3 : x.v.day = y.v.day
      · by_cases h4 : x.v.text = y.v.text
        · have g0 : (x.v.house == y.v.house) = true := by rw [h1]; simp
          have g1 : (x.v.no == y.v.no) = true := by rw [h2]; simp
          have g2 : (x.v.day == y.v.day) = true := by rw [h3]; simp
          have g3 : (x.v.text.toList == y.v.text.toList) = true := by rw [h4]; simp
          have HEQ := Lib.hid (show x.v.needs = y.v.needs ↔ x.v = y.v from ⟨fun e => NoteV.ext' h1 h2 h3 e h4, fun e => by rw [e]⟩)
          clear h1 h2 h3 h4
          go_enter Tryz.func41, Tryz.ntmps41
          go_wp2_with (go_at_call 69; refine (HSR.out _ (((Below.refl _ _).alloc (Nat.le_refl _) _).alloc (by simp) _)).mono ?_; rintro e w1 ⟨bb, rfl, hbb, hb1⟩)
          have HBB := Lib.hid hbb
          have HB1 := Lib.hid (show Below w.heap.size w w1 from (((Below.refl _ _).alloc (Nat.le_refl _) _).alloc (by simp) _).trans (hb1.mono (by simp; omega)))
          clear hbb hb1
          go_ret
          exact ⟨bb, rfl, HBB.out.trans HEQ.out, HB1.out⟩
        · have g0 : (x.v.house == y.v.house) = true := by rw [h1]; simp
          have g1 : (x.v.no == y.v.no) = true := by rw [h2]; simp
          have g2 : (x.v.day == y.v.day) = true := by rw [h3]; simp
          have g3 : (x.v.text.toList == y.v.text.toList) = false := by rw [beq_eq_false_iff_ne, Lib.toList_data]; exact fun e => h4 (ByteArray.ext (by simpa [Lib.toList_data] using e))
          have HNE := Lib.hid (show x.v ≠ y.v from fun e => h4 (by rw [e]))
          clear h1 h2 h3 h4
          go_enter Tryz.func41, Tryz.ntmps41
          go_wp2_with fail
          go_ret
          exact ⟨false, rfl, ⟨fun q => (by cases q), fun q => absurd q HNE.out⟩, ((Below.refl _ _).alloc (Nat.le_refl _) _).alloc (by simp) _⟩
      · have g0 : (x.v.house == y.v.house) = true := by rw [h1]; simp
        have g1 : (x.v.no == y.v.no) = true := by rw [h2]; simp
        have g2 : (x.v.day == y.v.day) = false := by rw [beq_eq_false_iff_ne]; exact h3
        have HNE := Lib.hid (show x.v ≠ y.v from fun e => h3 (by rw [e]))
        clear h1 h2 h3
        go_enter Tryz.func41, Tryz.ntmps41
        go_wp2_with fail
        go_ret
        exact ⟨false, rfl, ⟨fun q => (by cases q), fun q => absurd q HNE.out⟩, ((Below.refl _ _).alloc (Nat.le_refl _) _).alloc (by simp) _⟩
    · have g0 : (x.v.house == y.v.house) = true := by rw [h1]; simp
      have g1 : (x.v.no == y.v.no) = false := by rw [beq_eq_false_iff_ne]; exact h2
      have HNE := Lib.hid (show x.v ≠ y.v from fun e => h2 (by rw [e]))
      clear h1 h2
      go_enter Tryz.func41, Tryz.ntmps41
      go_wp2_with fail
      go_ret
      exact ⟨false, rfl, ⟨fun q => (by cases q), fun q => absurd q HNE.out⟩, ((Below.refl _ _).alloc (Nat.le_refl _) _).alloc (by simp) _⟩
  · have g0 : (x.v.house == y.v.house) = false := by rw [beq_eq_false_iff_ne]; exact h1
    have HNE := Lib.hid (show x.v ≠ y.v from fun e => h1 (by rw [e]))
    clear h1 
    go_enter Tryz.func41, Tryz.ntmps41
    go_wp2_with fail
    go_ret
    exact ⟨false, rfl, ⟨fun q => (by cases q), fun q => absurd q HNE.out⟩, ((Below.refl _ _).alloc (Nat.le_refl _) _).alloc (by simp) _⟩
set_option maxRecDepth 100000 in
set_option maxHeartbeats 4000000 in
theorem ref_has (l : List NoteR) (y : NoteR) (A : Option Addr) (c : Nat) (w : World) (h : Sl noteD w Any1 A l) (hl : l.length ≤ 1000000) (hy : Sl refD w Any1 y.A y.v.needs) (hsm : ∀ r ∈ l, r.v.needs.length ≤ 100000) (hys : y.v.needs.length ≤ 100000) :
    Calls Tryz.prog 20 #[.slice A l.length c, .agg #[.int .i64 y.v.house, .int .i64 y.v.no, .int .i64 y.v.day, .slice y.A y.v.needs.length y.c, .string y.v.text]] w (SaysP (y.v ∈ l.map NoteR.v) w) := by
  have H := Lib.hid h
  have HY := Lib.hid hy
  have HSM := Lib.hid hsm
  clear h hy hsm
  go_enter Tryz.func20, Tryz.ntmps20
  go_wp2_with fail
  go_loopw [5] (fun s5 wr => ∃ k : Nat, k ≤ l.length ∧ s5 = .int .i64 (k : Int) ∧ Hid (∀ (j : Nat) (r : NoteR), j < k → l[j]? = some r → r.v ≠ y.v) ∧ Hid (Below (w.heap.size + 1) (w.alloc (.cells #[.int .i64 y.v.house, .int .i64 y.v.no, .int .i64 y.v.day, .slice y.A y.v.needs.length y.c, .string y.v.text] 42)) wr)) (fun s5 _ => l.length - (intOf s5).toNat)
  case atStart => exact ⟨0, Nat.zero_le _, rfl, fun j r hj => absurd hj (Nat.not_lt_zero _), Below.refl _ _⟩
  case round =>
    obtain ⟨k, hk, rfl, HE, HB0⟩ := hrel
    have HB := Lib.hid (show Below w.heap.size w wr from ((Below.refl _ w).alloc (Nat.le_refl _) _).trans (HB0.out.mono (by omega)))
    have hws := HB.out.size
    have hws1 : w.heap.size < wr.heap.size := by have := HB0.out.size; simp at this; omega
    by_cases hlt : k < l.length
    · obtain ⟨b, off, rfl, _, hbl, hok, hcl⟩ := (H.out.below HB.out).get hlt
      have hx : l[k]? = some l[k] := List.getElem?_eq_getElem hlt
      generalize l[k] = x at hx hcl hok
      have hxm := HSM.out x (List.mem_of_getElem? hx)
      have c0 : wr.cell? ⟨b, off + k * 5, none⟩ = some (.int .i64 x.v.house) := hcl 0 _ rfl
      have c1 : wr.cell? ⟨b, off + k * 5 + 1, none⟩ = some (.int .i64 x.v.no) := hcl 1 _ rfl
      have c2 : wr.cell? ⟨b, off + k * 5 + 2, none⟩ = some (.int .i64 x.v.day) := hcl 2 _ rfl
      have c3 : wr.cell? ⟨b, off + k * 5 + 3, none⟩ = some (.slice x.A x.v.needs.length x.c) := hcl 3 _ rfl
      have c4 : wr.cell? ⟨b, off + k * 5 + 4, none⟩ = some (.string x.v.text) := hcl 4 _ rfl
      have d0 : wr.cell? ⟨w.heap.size, 0, none⟩ = some (.int .i64 y.v.house) := (HB0.out.cell (p := ⟨w.heap.size, 0, none⟩) (by simp)).trans (by simp [go_sem])
      have d1 : wr.cell? ⟨w.heap.size, 1, none⟩ = some (.int .i64 y.v.no) := (HB0.out.cell (p := ⟨w.heap.size, 1, none⟩) (by simp)).trans (by simp [go_sem])
      have d2 : wr.cell? ⟨w.heap.size, 2, none⟩ = some (.int .i64 y.v.day) := (HB0.out.cell (p := ⟨w.heap.size, 2, none⟩) (by simp)).trans (by simp [go_sem])
      have d3 : wr.cell? ⟨w.heap.size, 3, none⟩ = some (.slice y.A y.v.needs.length y.c) := (HB0.out.cell (p := ⟨w.heap.size, 3, none⟩) (by simp)).trans (by simp [go_sem])
      have d4 : wr.cell? ⟨w.heap.size, 4, none⟩ = some (.string y.v.text) := (HB0.out.cell (p := ⟨w.heap.size, 4, none⟩) (by simp)).trans (by simp [go_sem])
      have HX := Lib.hid hx
      have i4 : (k : Int) < (l.length : Int) := by omega
      have hsa := fun W (q : Below wr.heap.size wr W) => ref_sameN x y W ((show Sl refD wr Any1 x.A x.v.needs from hok).below q) ((HY.out.below HB.out).below q) hxm hys
      have HSA := Lib.hid hsa
      have HCD := Lib.hid (show ∀ W, Below wr.heap.size wr W → W.cell? ⟨b, off + k * 5, none⟩ = some (.int .i64 x.v.house) ∧ W.cell? ⟨b, off + k * 5 + 1, none⟩ = some (.int .i64 x.v.no) ∧ W.cell? ⟨b, off + k * 5 + 2, none⟩ = some (.int .i64 x.v.day) ∧ W.cell? ⟨b, off + k * 5 + 3, none⟩ = some (.slice x.A x.v.needs.length x.c) ∧ W.cell? ⟨b, off + k * 5 + 4, none⟩ = some (.string x.v.text) ∧ W.cell? ⟨w.heap.size, 0, none⟩ = some (.int .i64 y.v.house) ∧ W.cell? ⟨w.heap.size, 1, none⟩ = some (.int .i64 y.v.no) ∧ W.cell? ⟨w.heap.size, 2, none⟩ = some (.int .i64 y.v.day) ∧ W.cell? ⟨w.heap.size, 3, none⟩ = some (.slice y.A y.v.needs.length y.c) ∧ W.cell? ⟨w.heap.size, 4, none⟩ = some (.string y.v.text) from fun W q => ⟨(q.cell (p := ⟨b, off + k * 5, none⟩) hbl).trans c0, (q.cell (p := ⟨b, off + k * 5 + 1, none⟩) hbl).trans c1, (q.cell (p := ⟨b, off + k * 5 + 2, none⟩) hbl).trans c2, (q.cell (p := ⟨b, off + k * 5 + 3, none⟩) hbl).trans c3, (q.cell (p := ⟨b, off + k * 5 + 4, none⟩) hbl).trans c4, (q.cell (p := ⟨w.heap.size, 0, none⟩) hws1).trans d0, (q.cell (p := ⟨w.heap.size, 1, none⟩) hws1).trans d1, (q.cell (p := ⟨w.heap.size, 2, none⟩) hws1).trans d2, (q.cell (p := ⟨w.heap.size, 3, none⟩) hws1).trans d3, (q.cell (p := ⟨w.heap.size, 4, none⟩) hws1).trans d4⟩)
      clear hx hcl hok hsa
      go_wp2_with fail
      go_region_held3 (fun w' => w'.cell? ⟨b, off + k * 5, none⟩ = some (.int .i64 x.v.house) ∧ w'.cell? ⟨b, off + k * 5 + 1, none⟩ = some (.int .i64 x.v.no) ∧ w'.cell? ⟨b, off + k * 5 + 2, none⟩ = some (.int .i64 x.v.day) ∧ w'.cell? ⟨b, off + k * 5 + 3, none⟩ = some (.slice x.A x.v.needs.length x.c) ∧ w'.cell? ⟨b, off + k * 5 + 4, none⟩ = some (.string x.v.text) ∧ w'.cell? ⟨w.heap.size, 0, none⟩ = some (.int .i64 y.v.house) ∧ w'.cell? ⟨w.heap.size, 1, none⟩ = some (.int .i64 y.v.no) ∧ w'.cell? ⟨w.heap.size, 2, none⟩ = some (.int .i64 y.v.day) ∧ w'.cell? ⟨w.heap.size, 3, none⟩ = some (.slice y.A y.v.needs.length y.c) ∧ w'.cell? ⟨w.heap.size, 4, none⟩ = some (.string y.v.text)) (go_keep)
        (first
         | (go_at_call 41; refine (HSA.out _ ((Below.refl _ wr).drew)).mono ?_; rintro e w1 ⟨bb, rfl, hbb, hb1⟩; have HBB := Lib.hid hbb; have HB1 := Lib.hid (show Below wr.heap.size wr w1 from ((Below.refl _ wr).drew).trans (hb1.mono (by simp))); clear hbb hb1; obtain ⟨q0, q1, q2, q3, q4, q5, q6, q7, q8, q9⟩ := HCD.out w1 HB1.out))
      cases bb with
      | true =>
        have HM := Lib.hid (show y.v ∈ l.map NoteR.v from List.mem_map.2 ⟨x, List.mem_of_getElem? HX.out, HBB.out.1 rfl⟩)
        go_wp2_with fail
        go_ret
        exact ⟨true, rfl, ⟨fun _ => by first | exact HM.out | exact List.mem_map.1 HM.out, fun _ => rfl⟩, HB.out.trans (HB1.out.mono hws)⟩
      | false =>
        have HNE := Lib.hid (show x.v ≠ y.v from fun e => by cases HBB.out.2 e)
        go_wp2_with fail
        go_roundw
        case rel => exact ⟨k + 1, by omega, by go_num, fun j r hj hr => by
          rcases Nat.lt_or_ge j k with q | q
          · exact HE.out j r q hr
          · obtain rfl : j = k := by omega
            rw [HX.out] at hr
            cases hr
            exact HNE.out, HB0.out.trans (HB1.out.mono (by omega))⟩
        case measure => simp [intOf]; omega
    · obtain rfl : k = l.length := by omega
      have HNM := Lib.hid (show y.v ∉ l.map NoteR.v from fun q => by
        obtain ⟨r, hr, e⟩ := List.mem_map.1 q
        obtain ⟨j, hj, ej⟩ := List.getElem_of_mem hr
        exact HE.out j r hj (by rw [List.getElem?_eq_getElem hj, ej]) e)
      go_wp2_with fail
      go_ret
      exact ⟨false, rfl, ⟨fun q => (by cases q), fun q => absurd q HNM.out⟩, HB.out⟩
end Go.Proofs.YtaojnjealccjiaaGreatDoor
