/- kitbagref43.Same and what it calls, of equal values. -/
import Derived.Test.YtaojnjealccjiaaGreatDoorFewS
namespace Go.Proofs.YtaojnjealccjiaaGreatDoor
open Go Go.RowKit Bg Go.Proofs
set_option linter.unusedVariables false

set_option maxRecDepth 100000 in
set_option maxHeartbeats 2000000 in
theorem r05_samebig {M n n' : Nat} {s s' : Int} {A A' : Option Addr} {a : BigV} (c c' : Nat) (w : World) (h : IsBig M w s A n a) (h' : IsBig M w s' A' n' a) (hM : M ≤ 1000000) :
    Calls Tryz.prog 87 #[.agg #[.int .i64 s, .slice A n c], .agg #[.int .i64 s', .slice A' n' c']] w (SaysB true w) := by
  obtain ⟨rfl, rfl, h3, h4⟩ := h
  obtain ⟨rfl, rfl, h3', h4'⟩ := h'
  generalize a.sign = s at *
  generalize a.dg = xs at *
  have hs : (s != s) = false := by simp
  have hn : ((xs.length : Int) != (xs.length : Int)) = false := by simp
  go_enter Tryz.func87, Tryz.ntmps87
  go_wp2_with fail
  have hbw : Below w.heap.size w ((w.alloc (.cells #[.int .i64 s, .slice A xs.length c] 54)).alloc (.cells #[.int .i64 s, .slice A' xs.length c'] 54)) := ((Below.refl _ _).alloc (Nat.le_refl _) _).alloc (by simp) _
  have e1 : ((w.alloc (.cells #[.int .i64 s, .slice A xs.length c] 54)).alloc (.cells #[.int .i64 s, .slice A' xs.length c'] 54)).cell? ⟨w.heap.size, 1, none⟩ = some (.slice A xs.length c) := by simp [go_sem]
  have e2 : ((w.alloc (.cells #[.int .i64 s, .slice A xs.length c] 54)).alloc (.cells #[.int .i64 s, .slice A' xs.length c'] 54)).cell? ⟨w.heap.size + 1, 1, none⟩ = some (.slice A' xs.length c') := by simp [go_sem]
  generalize ((w.alloc (.cells #[.int .i64 s, .slice A xs.length c] 54)).alloc (.cells #[.int .i64 s, .slice A' xs.length c'] 54)) = w0 at *
  have HA := Lib.hid (h4.below hbw)
  have HA' := Lib.hid (h4'.below hbw)
  clear h4 h4'
  go_loopw [5] (fun u wr => ∃ k n : Nat, k ≤ xs.length ∧ u = .int .i64 (k : Int) ∧ wr = w0.drewN n) (fun u _ => xs.length - (intOf u).toNat)
  case atStart => exact ⟨0, 0, Nat.zero_le _, rfl, rfl⟩
  case round =>
    obtain ⟨k, nd, hk, rfl, rfl⟩ := hrel
    by_cases hlt : k < xs.length
    · obtain ⟨b1, off1, rfl, hlt1, hcell1⟩ := HA.out.int hlt
      obtain ⟨b2, off2, rfl, hlt2, hcell2⟩ := HA'.out.int hlt
      generalize xs.getD k 0 = x at hcell1 hcell2
      have hi1 : (k : Int) < (xs.length : Int) := by omega
      have hne : (x != x) = false := by simp
      go_wp2_with fail
      go_quiet (fail)
      go_wp2_with fail
      go_roundw
      case rel => exact ⟨k + 1, nd + nq, by omega, by go_num, rfl⟩
      case measure => simp [intOf]; omega
    · go_wp2_with fail
      go_ret
      exact ⟨rfl, below_drewN hbw nd⟩

set_option maxRecDepth 100000 in
set_option maxHeartbeats 2000000 in
theorem r05_same {M n m n' m' : Nat} {s t s' t' : Int} {A B A' B' : Option Addr} {a : FracV} (c d c' d' : Nat) (w : World) (h : IsFrac M w s A n t B m a) (h' : IsFrac M w s' A' n' t' B' m' a) (hM : M ≤ 1000000) :
    Calls Tryz.prog 61 #[.agg #[Value.int .i64 s, Value.slice A n c, Value.int .i64 t, Value.slice B m d], .agg #[Value.int .i64 s', Value.slice A' n' c', Value.int .i64 t', Value.slice B' m' d']] w (SaysB true w) := by
  have H1 := Lib.hid (fun W (k : IsFrac M W s A n t B m a) (k' : IsFrac M W s' A' n' t' B' m' a) => r05_samebig c c' W k.1 k'.1 hM)
  have H2 := Lib.hid (fun W (k : IsFrac M W s A n t B m a) (k' : IsFrac M W s' A' n' t' B' m' a) => r05_samebig d d' W k.2 k'.2 hM)
  have H := Lib.hid h
  have H' := Lib.hid h'
  clear h h'
  go_enter Tryz.func61, Tryz.ntmps61
  go_wp2_with fail
  refine (H1.out _ ((H.out.alloc _).alloc _) ((H'.out.alloc _).alloc _)).mono ?_
  rintro e w1 ⟨rfl, hb1⟩
  have hbw : Below w.heap.size w w1 := (((Below.refl _ w).alloc (Nat.le_refl _) _).alloc (by simp <;> omega) _).trans (hb1.mono (by simp <;> omega))
  have e02 : w1.cell? ⟨w.heap.size, 2, none⟩ = some (Value.int .i64 t) := (hb1.cell (p := ⟨w.heap.size, 2, none⟩) (by simp <;> omega)).trans (by simp [go_sem])
  have e03 : w1.cell? ⟨w.heap.size, 3, none⟩ = some (Value.slice B m d) := (hb1.cell (p := ⟨w.heap.size, 3, none⟩) (by simp <;> omega)).trans (by simp [go_sem])
  have e12 : w1.cell? ⟨w.heap.size + 1, 2, none⟩ = some (Value.int .i64 t') := (hb1.cell (p := ⟨w.heap.size + 1, 2, none⟩) (by simp <;> omega)).trans (by simp [go_sem])
  have e13 : w1.cell? ⟨w.heap.size + 1, 3, none⟩ = some (Value.slice B' m' d') := (hb1.cell (p := ⟨w.heap.size + 1, 3, none⟩) (by simp <;> omega)).trans (by simp [go_sem])
  have HB := Lib.hid hbw
  clear hb1 hbw
  go_wp2_with fail
  refine (H2.out _ (H.out.below HB.out) (H'.out.below HB.out)).mono ?_
  rintro e w2 ⟨rfl, hb2⟩
  have hbw : Below w.heap.size w w2 := HB.out.trans (hb2.mono HB.out.size)
  clear hb2
  go_wp2_with fail
  go_ret
  exact ⟨rfl, hbw⟩

set_option maxRecDepth 100000 in
set_option maxHeartbeats 2000000 in
theorem r43_samespan {M : Nat} {r r' : Raw} {x : ShownV} (w : World) (h : IsShown M w r x) (h' : IsShown M w r' x) (hM : M ≤ 1000000) :
    Calls Tryz.prog 34 #[.agg #[Value.int .i64 r.s1, Value.slice r.A1 r.n1 r.c1, Value.int .i64 r.s2, Value.slice r.A2 r.n2 r.c2, Value.int .i64 r.s3, Value.slice r.A3 r.n3 r.c3, Value.int .i64 r.s4, Value.slice r.A4 r.n4 r.c4], .agg #[Value.int .i64 r'.s1, Value.slice r'.A1 r'.n1 r'.c1, Value.int .i64 r'.s2, Value.slice r'.A2 r'.n2 r'.c2, Value.int .i64 r'.s3, Value.slice r'.A3 r'.n3 r'.c3, Value.int .i64 r'.s4, Value.slice r'.A4 r'.n4 r'.c4]] w (SaysB true w) := by
  have H1 := Lib.hid (fun W (k : IsShown M W r x) (k' : IsShown M W r' x) => r05_same r.c1 r.c2 r'.c1 r'.c2 W k.2.2.1 k'.2.2.1 hM)
  have H2 := Lib.hid (fun W (k : IsShown M W r x) (k' : IsShown M W r' x) => r05_same r.c3 r.c4 r'.c3 r'.c4 W k.2.2.2 k'.2.2.2 hM)
  have H := Lib.hid h
  have H' := Lib.hid h'
  clear h h'
  go_enter Tryz.func34, Tryz.ntmps34
  go_wp2_with fail
  refine (H1.out _ ((H.out.alloc _).alloc _) ((H'.out.alloc _).alloc _)).mono ?_
  rintro e w1 ⟨rfl, hb1⟩
  have hbw : Below w.heap.size w w1 := (((Below.refl _ w).alloc (Nat.le_refl _) _).alloc (by simp <;> omega) _).trans (hb1.mono (by simp <;> omega))
  have e04 : w1.cell? ⟨w.heap.size, 4, none⟩ = some (Value.int .i64 r.s3) := (hb1.cell (p := ⟨w.heap.size, 4, none⟩) (by simp <;> omega)).trans (by simp [go_sem])
  have e05 : w1.cell? ⟨w.heap.size, 5, none⟩ = some (Value.slice r.A3 r.n3 r.c3) := (hb1.cell (p := ⟨w.heap.size, 5, none⟩) (by simp <;> omega)).trans (by simp [go_sem])
  have e06 : w1.cell? ⟨w.heap.size, 6, none⟩ = some (Value.int .i64 r.s4) := (hb1.cell (p := ⟨w.heap.size, 6, none⟩) (by simp <;> omega)).trans (by simp [go_sem])
  have e07 : w1.cell? ⟨w.heap.size, 7, none⟩ = some (Value.slice r.A4 r.n4 r.c4) := (hb1.cell (p := ⟨w.heap.size, 7, none⟩) (by simp <;> omega)).trans (by simp [go_sem])
  have e14 : w1.cell? ⟨w.heap.size + 1, 4, none⟩ = some (Value.int .i64 r'.s3) := (hb1.cell (p := ⟨w.heap.size + 1, 4, none⟩) (by simp <;> omega)).trans (by simp [go_sem])
  have e15 : w1.cell? ⟨w.heap.size + 1, 5, none⟩ = some (Value.slice r'.A3 r'.n3 r'.c3) := (hb1.cell (p := ⟨w.heap.size + 1, 5, none⟩) (by simp <;> omega)).trans (by simp [go_sem])
  have e16 : w1.cell? ⟨w.heap.size + 1, 6, none⟩ = some (Value.int .i64 r'.s4) := (hb1.cell (p := ⟨w.heap.size + 1, 6, none⟩) (by simp <;> omega)).trans (by simp [go_sem])
  have e17 : w1.cell? ⟨w.heap.size + 1, 7, none⟩ = some (Value.slice r'.A4 r'.n4 r'.c4) := (hb1.cell (p := ⟨w.heap.size + 1, 7, none⟩) (by simp <;> omega)).trans (by simp [go_sem])
  have HB := Lib.hid hbw
  clear hb1 hbw
  go_wp2_with fail
  refine (H2.out _ (H.out.below HB.out) (H'.out.below HB.out)).mono ?_
  rintro e w2 ⟨rfl, hb2⟩
  have hbw : Below w.heap.size w w2 := HB.out.trans (hb2.mono HB.out.size)
  clear hb2
  go_wp2_with fail
  go_ret
  exact ⟨rfl, hbw⟩

set_option maxRecDepth 100000 in
set_option maxHeartbeats 4000000 in
/-- two lists that read alike -/
theorem r43_same {M : Nat} (rs rs' : List Raw) (l : List ShownV) (A A' : Option Addr) (c c' : Nat) (w : World) (h : Shs M w A rs l) (h' : Shs M w A' rs' l) (hM : M ≤ 1000000) (hl : l.length ≤ 1000000) :
    Calls Tryz.prog 12 #[.slice A l.length c, .slice A' l.length c'] w (SaysB true w) := by
  have H := Lib.hid h
  have H' := Lib.hid h'
  clear h h'
  have hn : ((l.length : Int) != (l.length : Int)) = false := by simp
  go_enter Tryz.func12, Tryz.ntmps12
  go_wp2_with fail
  go_loopw [5] (fun t wr => ∃ k : Nat, k ≤ l.length ∧ t = .int .i64 (k : Int) ∧ Hid (Below w.heap.size w wr)) (fun t _ => l.length - (intOf t).toNat)
  case atStart => exact ⟨0, Nat.zero_le _, rfl, Below.refl _ _⟩
  case round =>
    obtain ⟨k, hk, rfl, HB⟩ := hrel
    by_cases hlt : k < l.length
    · obtain ⟨b, off, r, x, rfl, hbl, hr, hx, hsh, hks, hcl⟩ := (H.out.below HB.out).get hlt
      obtain ⟨b2, off2, r', x', rfl, hbl2, hr', hx', hsh', hks', hcl2⟩ := (H'.out.below HB.out).get hlt
      obtain rfl : x = x' := by rw [hx] at hx'; exact Option.some.inj hx'
      have hkk : r.k = r'.k := by rw [← hsh.1, ← hsh'.1]
      have hnn : r.nt = r'.nt := by rw [← hsh.2.1, ← hsh'.2.1]
      have hn1 : (r.nt != r.nt) = false := by simp
      have HCL := Lib.hid hcl
      have HCL2 := Lib.hid hcl2
      have HS := Lib.hid hsh
      have HS' := Lib.hid hsh'
      clear hcl hcl2 hr hr' hx hx' hsh hsh'
      have a0 : wr.cell? ⟨b, off + k * 10, none⟩ = some (Value.string r.k) := HCL.out 0 _ rfl
      have a1 : wr.cell? ⟨b, off + k * 10 + 1, none⟩ = some (Value.int .i64 r.nt) := HCL.out 1 _ rfl
      have a2 : wr.cell? ⟨b, off + k * 10 + 2, none⟩ = some (Value.int .i64 r.s1) := HCL.out 2 _ rfl
      have a3 : wr.cell? ⟨b, off + k * 10 + 3, none⟩ = some (Value.slice r.A1 r.n1 r.c1) := HCL.out 3 _ rfl
      have a4 : wr.cell? ⟨b, off + k * 10 + 4, none⟩ = some (Value.int .i64 r.s2) := HCL.out 4 _ rfl
      have a5 : wr.cell? ⟨b, off + k * 10 + 5, none⟩ = some (Value.slice r.A2 r.n2 r.c2) := HCL.out 5 _ rfl
      have a6 : wr.cell? ⟨b, off + k * 10 + 6, none⟩ = some (Value.int .i64 r.s3) := HCL.out 6 _ rfl
      have a7 : wr.cell? ⟨b, off + k * 10 + 7, none⟩ = some (Value.slice r.A3 r.n3 r.c3) := HCL.out 7 _ rfl
      have a8 : wr.cell? ⟨b, off + k * 10 + 8, none⟩ = some (Value.int .i64 r.s4) := HCL.out 8 _ rfl
      have a9 : wr.cell? ⟨b, off + k * 10 + 9, none⟩ = some (Value.slice r.A4 r.n4 r.c4) := HCL.out 9 _ rfl
      have q0 : wr.cell? ⟨b2, off2 + k * 10, none⟩ = some (Value.string r.k) := by rw [hkk]; exact HCL2.out 0 _ rfl
      have q1 : wr.cell? ⟨b2, off2 + k * 10 + 1, none⟩ = some (Value.int .i64 r.nt) := by rw [hnn]; exact HCL2.out 1 _ rfl
      have q2 : wr.cell? ⟨b2, off2 + k * 10 + 2, none⟩ = some (Value.int .i64 r'.s1) := HCL2.out 2 _ rfl
      have q3 : wr.cell? ⟨b2, off2 + k * 10 + 3, none⟩ = some (Value.slice r'.A1 r'.n1 r'.c1) := HCL2.out 3 _ rfl
      have q4 : wr.cell? ⟨b2, off2 + k * 10 + 4, none⟩ = some (Value.int .i64 r'.s2) := HCL2.out 4 _ rfl
      have q5 : wr.cell? ⟨b2, off2 + k * 10 + 5, none⟩ = some (Value.slice r'.A2 r'.n2 r'.c2) := HCL2.out 5 _ rfl
      have q6 : wr.cell? ⟨b2, off2 + k * 10 + 6, none⟩ = some (Value.int .i64 r'.s3) := HCL2.out 6 _ rfl
      have q7 : wr.cell? ⟨b2, off2 + k * 10 + 7, none⟩ = some (Value.slice r'.A3 r'.n3 r'.c3) := HCL2.out 7 _ rfl
      have q8 : wr.cell? ⟨b2, off2 + k * 10 + 8, none⟩ = some (Value.int .i64 r'.s4) := HCL2.out 8 _ rfl
      have q9 : wr.cell? ⟨b2, off2 + k * 10 + 9, none⟩ = some (Value.slice r'.A4 r'.n4 r'.c4) := HCL2.out 9 _ rfl
      clear hkk hnn
      have hi1 : (k : Int) < (l.length : Int) := by omega
      go_wp2_with fail
      go_region_held3 (fun w' => w'.cell? ⟨b, off + k * 10, none⟩ = some (Value.string r.k) ∧ w'.cell? ⟨b, off + k * 10 + 1, none⟩ = some (Value.int .i64 r.nt) ∧ w'.cell? ⟨b, off + k * 10 + 2, none⟩ = some (Value.int .i64 r.s1) ∧ w'.cell? ⟨b, off + k * 10 + 3, none⟩ = some (Value.slice r.A1 r.n1 r.c1) ∧ w'.cell? ⟨b, off + k * 10 + 4, none⟩ = some (Value.int .i64 r.s2) ∧ w'.cell? ⟨b, off + k * 10 + 5, none⟩ = some (Value.slice r.A2 r.n2 r.c2) ∧ w'.cell? ⟨b, off + k * 10 + 6, none⟩ = some (Value.int .i64 r.s3) ∧ w'.cell? ⟨b, off + k * 10 + 7, none⟩ = some (Value.slice r.A3 r.n3 r.c3) ∧ w'.cell? ⟨b, off + k * 10 + 8, none⟩ = some (Value.int .i64 r.s4) ∧ w'.cell? ⟨b, off + k * 10 + 9, none⟩ = some (Value.slice r.A4 r.n4 r.c4) ∧ w'.cell? ⟨b2, off2 + k * 10, none⟩ = some (Value.string r.k) ∧ w'.cell? ⟨b2, off2 + k * 10 + 1, none⟩ = some (Value.int .i64 r.nt) ∧ w'.cell? ⟨b2, off2 + k * 10 + 2, none⟩ = some (Value.int .i64 r'.s1) ∧ w'.cell? ⟨b2, off2 + k * 10 + 3, none⟩ = some (Value.slice r'.A1 r'.n1 r'.c1) ∧ w'.cell? ⟨b2, off2 + k * 10 + 4, none⟩ = some (Value.int .i64 r'.s2) ∧ w'.cell? ⟨b2, off2 + k * 10 + 5, none⟩ = some (Value.slice r'.A2 r'.n2 r'.c2) ∧ w'.cell? ⟨b2, off2 + k * 10 + 6, none⟩ = some (Value.int .i64 r'.s3) ∧ w'.cell? ⟨b2, off2 + k * 10 + 7, none⟩ = some (Value.slice r'.A3 r'.n3 r'.c3) ∧ w'.cell? ⟨b2, off2 + k * 10 + 8, none⟩ = some (Value.int .i64 r'.s4) ∧ w'.cell? ⟨b2, off2 + k * 10 + 9, none⟩ = some (Value.slice r'.A4 r'.n4 r'.c4)) (go_keep)
        (first
         | (go_at_call 34; (with_reducible refine (r43_samespan _ HS.out.drew HS'.out.drew hM).mono ?_); rintro e w1 ⟨rfl, hb1⟩; have HX1 := Lib.hid (below_dl hb1); have c0 : w1.cell? ⟨b, off + k * 10, none⟩ = some (Value.string r.k) := (HX1.out.cell (p := ⟨b, off + k * 10, none⟩) hbl).trans a0; have c1 : w1.cell? ⟨b, off + k * 10 + 1, none⟩ = some (Value.int .i64 r.nt) := (HX1.out.cell (p := ⟨b, off + k * 10 + 1, none⟩) hbl).trans a1; have c2 : w1.cell? ⟨b, off + k * 10 + 2, none⟩ = some (Value.int .i64 r.s1) := (HX1.out.cell (p := ⟨b, off + k * 10 + 2, none⟩) hbl).trans a2; have c3 : w1.cell? ⟨b, off + k * 10 + 3, none⟩ = some (Value.slice r.A1 r.n1 r.c1) := (HX1.out.cell (p := ⟨b, off + k * 10 + 3, none⟩) hbl).trans a3; have c4 : w1.cell? ⟨b, off + k * 10 + 4, none⟩ = some (Value.int .i64 r.s2) := (HX1.out.cell (p := ⟨b, off + k * 10 + 4, none⟩) hbl).trans a4; have c5 : w1.cell? ⟨b, off + k * 10 + 5, none⟩ = some (Value.slice r.A2 r.n2 r.c2) := (HX1.out.cell (p := ⟨b, off + k * 10 + 5, none⟩) hbl).trans a5; have c6 : w1.cell? ⟨b, off + k * 10 + 6, none⟩ = some (Value.int .i64 r.s3) := (HX1.out.cell (p := ⟨b, off + k * 10 + 6, none⟩) hbl).trans a6; have c7 : w1.cell? ⟨b, off + k * 10 + 7, none⟩ = some (Value.slice r.A3 r.n3 r.c3) := (HX1.out.cell (p := ⟨b, off + k * 10 + 7, none⟩) hbl).trans a7; have c8 : w1.cell? ⟨b, off + k * 10 + 8, none⟩ = some (Value.int .i64 r.s4) := (HX1.out.cell (p := ⟨b, off + k * 10 + 8, none⟩) hbl).trans a8; have c9 : w1.cell? ⟨b, off + k * 10 + 9, none⟩ = some (Value.slice r.A4 r.n4 r.c4) := (HX1.out.cell (p := ⟨b, off + k * 10 + 9, none⟩) hbl).trans a9; have d0 : w1.cell? ⟨b2, off2 + k * 10, none⟩ = some (Value.string r.k) := (HX1.out.cell (p := ⟨b2, off2 + k * 10, none⟩) hbl2).trans q0; have d1 : w1.cell? ⟨b2, off2 + k * 10 + 1, none⟩ = some (Value.int .i64 r.nt) := (HX1.out.cell (p := ⟨b2, off2 + k * 10 + 1, none⟩) hbl2).trans q1; have d2 : w1.cell? ⟨b2, off2 + k * 10 + 2, none⟩ = some (Value.int .i64 r'.s1) := (HX1.out.cell (p := ⟨b2, off2 + k * 10 + 2, none⟩) hbl2).trans q2; have d3 : w1.cell? ⟨b2, off2 + k * 10 + 3, none⟩ = some (Value.slice r'.A1 r'.n1 r'.c1) := (HX1.out.cell (p := ⟨b2, off2 + k * 10 + 3, none⟩) hbl2).trans q3; have d4 : w1.cell? ⟨b2, off2 + k * 10 + 4, none⟩ = some (Value.int .i64 r'.s2) := (HX1.out.cell (p := ⟨b2, off2 + k * 10 + 4, none⟩) hbl2).trans q4; have d5 : w1.cell? ⟨b2, off2 + k * 10 + 5, none⟩ = some (Value.slice r'.A2 r'.n2 r'.c2) := (HX1.out.cell (p := ⟨b2, off2 + k * 10 + 5, none⟩) hbl2).trans q5; have d6 : w1.cell? ⟨b2, off2 + k * 10 + 6, none⟩ = some (Value.int .i64 r'.s3) := (HX1.out.cell (p := ⟨b2, off2 + k * 10 + 6, none⟩) hbl2).trans q6; have d7 : w1.cell? ⟨b2, off2 + k * 10 + 7, none⟩ = some (Value.slice r'.A3 r'.n3 r'.c3) := (HX1.out.cell (p := ⟨b2, off2 + k * 10 + 7, none⟩) hbl2).trans q7; have d8 : w1.cell? ⟨b2, off2 + k * 10 + 8, none⟩ = some (Value.int .i64 r'.s4) := (HX1.out.cell (p := ⟨b2, off2 + k * 10 + 8, none⟩) hbl2).trans q8; have d9 : w1.cell? ⟨b2, off2 + k * 10 + 9, none⟩ = some (Value.slice r'.A4 r'.n4 r'.c4) := (HX1.out.cell (p := ⟨b2, off2 + k * 10 + 9, none⟩) hbl2).trans q9; clear hb1))
      go_wp2_with fail
      go_roundw
      case rel => exact ⟨k + 1, by omega, by go_num, HB.out.trans (HX1.out.mono HB.out.size)⟩
      case measure => simp [intOf]; omega
    · go_wp2_with fail
      go_ret
      exact ⟨rfl, HB.out⟩
end Go.Proofs.YtaojnjealccjiaaGreatDoor
