/- The contracts of big.signed, big.checked, big.Neg. -/
import Derived.Test.YtaojnjealccjiaaGreatDoorBigRight
import Derived.Test.YtaojnjealccjiaaGreatDoorBigLong
import Derived.Deep.RegionHeld3
import Derived.IntWalk
namespace Go.Proofs.YtaojnjealccjiaaGreatDoor
open Go Go.RowKit Bg Go.Proofs
set_option linter.unusedVariables false

/-- the cells of an integer read as b: sign s, digits at A, n of them, at most M -/
def IsBig (M : Nat) (w : World) (s : Int) (A : Option Addr) (n : Nat) (b : BigV) : Prop := b.sign = s ∧ b.dg.length = n ∧ n ≤ M ∧ Arr w A (b.dg.map iv)
section
variable {M M' n : Nat} {w w' : World} {s : Int} {A : Option Addr} {b : BigV}
theorem IsBig.below (h : IsBig M w s A n b) (hb : Below w.heap.size w w') : IsBig M w' s A n b := ⟨h.1, h.2.1, h.2.2.1, h.2.2.2.below hb⟩
theorem IsBig.alloc (h : IsBig M w s A n b) (o : Obj) : IsBig M (w.alloc o) s A n b := ⟨h.1, h.2.1, h.2.2.1, h.2.2.2.alloc o⟩
theorem IsBig.drew (h : IsBig M w s A n b) : IsBig M w.drew s A n b := h
theorem IsBig.drewN (h : IsBig M w s A n b) (k : Nat) : IsBig M (w.drewN k) s A n b := h
theorem IsBig.up (h : IsBig M w s A n b) (hM : M ≤ M') : IsBig M' w s A n b := ⟨h.1, h.2.1, Nat.le_trans h.2.2.1 hM, h.2.2.2⟩
theorem IsBig.le (h : IsBig M w s A n b) : n ≤ M := h.2.2.1
theorem isBig_zero (M : Nat) (w : World) : IsBig M w 0 none 0 zeroB := ⟨rfl, rfl, Nat.zero_le _, Arr.nil⟩
end
/-- the memory at A is from block B on -/
def Fresh (B : Nat) (A : Option Addr) : Prop := ∀ b o, A = some ⟨b, o, none⟩ → B ≤ b
theorem Fresh.none_ (B : Nat) : Fresh B none := fun b o h => by cases h
theorem Fresh.low {B B' : Nat} {A : Option Addr} (h : Fresh B A) (hB : B' ≤ B) : Fresh B' A := fun b o e => Nat.le_trans hB (h b o e)
theorem Arr.set_far {w : World} {A : Option Addr} {xs : List Value} {B g i : Nat} (h : Arr w A xs) (hf : Fresh B A) (hg : g < B) (u : Value) : Arr (w.setCell ⟨g, i, none⟩ u) A xs :=
  h.grown (grown_set (World.grownBy.refl w (some g)) i u) (fun b o e h => by injection h with h; have := hf b o e; omega)
theorem IsBig.set_far {M n : Nat} {w : World} {s : Int} {A : Option Addr} {b : BigV} {B g i : Nat} (h : IsBig M w s A n b) (hf : Fresh B A) (hg : g < B) (u : Value) : IsBig M (w.setCell ⟨g, i, none⟩ u) s A n b := ⟨h.1, h.2.1, h.2.2.1, h.2.2.2.set_far hf hg u⟩
/-- what is said of a call that gives an integer of its own -/
def GivesB (M : Nat) (b : BigV) (w : World) (e : Ending) (w' : World) : Prop := ∃ s A n c, e = .returned (.agg #[.int .i64 s, .slice A n c]) ∧ IsBig M w' s A n b ∧ Fresh w.heap.size A ∧ Below w.heap.size w w'
/-- .. or one that lies where an argument lies -/
def GivesS (M : Nat) (A0 : Option Addr) (b : BigV) (w : World) (e : Ending) (w' : World) : Prop := ∃ s A n c, e = .returned (.agg #[.int .i64 s, .slice A n c]) ∧ IsBig M w' s A n b ∧ (A = none ∨ A = A0) ∧ Below w.heap.size w w'
theorem fresh_or {B : Nat} {A A0 : Option Addr} (h : A = none ∨ A = A0) (h0 : Fresh B A0) : Fresh B A := by
  rcases h with h | h
  · rw [h]; exact Fresh.none_ B
  · rw [h]; exact h0
theorem right_of {M n : Nat} {w : World} {s : Int} {A : Option Addr} {b : BigV} (c : Nat) (h : IsBig M w s A n b) (hM : M ≤ 1000000) : Calls Tryz.prog 111 #[.agg #[.int .i64 s, .slice A n c]] w (SaysB (rightB b) w) := by
  obtain ⟨rfl, rfl, h3, h4⟩ := h
  exact big_right b A c w h4 (by omega)
theorem iv_of (l : List Nat) : (l.map Int.ofNat).map iv = l.map nv := by
  rw [List.map_map]; rfl

theorem bcell {W w1 : World} (hb : Below W.heap.size W w1) : (∀ b o, b < W.heap.size → w1.cell? ⟨b, o, none⟩ = W.cell? ⟨b, o, none⟩) ∧ (∀ b o, b < W.heap.size → w1.frozen? ⟨b, o, none⟩ = W.frozen? ⟨b, o, none⟩) :=
  ⟨fun b o h => hb.cell (p := ⟨b, o, none⟩) h, fun b o h => hb.frozen (p := ⟨b, o, none⟩) h⟩
theorem isBig_ofZ {M : Nat} {w : World} {s : Int} {A : Option Addr} {xs : List Nat} (hd : Dig xs) (ha : Arr w A (xs.map nv)) (hn : xs.length ≤ M) (h0 : val xs ≠ 0) : IsBig M w s A (dig (val xs)).length (ofZ s (val xs)) := by
  have := dig_len hd
  refine ⟨by unfold ofZ; rw [if_neg h0], by simp [ofZ], by omega, ?_⟩
  show Arr w A (((dig (val xs)).map Int.ofNat).map iv)
  rw [iv_of]
  have := ha.take_ (dig (val xs)).length
  rwa [← List.map_take, ← dig_take hd] at this

set_option maxHeartbeats 400000 in
theorem big_signed {n : Nat} (M : Nat) (s : Int) (xs : List Nat) (A : Option Addr) (c : Nat) (w : World) (hn : xs.length = n) (hd : Dig xs) (ha : Arr w A (xs.map nv)) (hc : n ≤ c) (hl : n ≤ M) (hM : M ≤ 1000000) :
    Calls Tryz.prog 139 #[.int .i64 s, .slice A n c] w (GivesS M A (ofZ s (val xs)) w) := by
  subst hn
  have ht := fun W (h : Arr W A (xs.map nv)) => big_trim xs A c W hd h hc (by omega)
  have HT := Lib.hid (ht _ (ha.alloc (.cells #[.int .i64 0, .slice none 0 0] 54)))
  clear ht
  have hb : Below w.heap.size w (w.alloc (.cells #[.int .i64 0, .slice none 0 0] 54)) := (Below.refl _ _).alloc (Nat.le_refl _) _
  by_cases h0 : val xs = 0
  · have HZ := Lib.hid (show (dig (val xs)).length = 0 by rw [h0, dig_zero]; rfl)
    have HO := Lib.hid (show ofZ s (val xs) = zeroB by rw [h0]; exact ofZ_zero s)
    clear h0
    have hz : (((dig (val xs)).length : Int) == 0) = true := by rw [HZ.out]; rfl
    go_enter Tryz.func139, Tryz.ntmps139
    go_wp2_with (go_at_call 160; refine HT.out.mono ?_; rintro e w' ⟨rfl, rfl⟩)
    rw [HO.out]
    exact bodyPost_ret (v := .agg #[.int .i64 0, .slice none 0 0]) (by simp [results, Tryz.results139, go_sem]) rfl ⟨0, none, 0, 0, rfl, isBig_zero _ _, .inl rfl, hb⟩
  · have hnz : (dig (val xs)).length ≠ 0 := fun h => h0 ((dig_nil_iff _).1 (List.eq_nil_of_length_eq_zero h))
    have hz : (((dig (val xs)).length : Int) == 0) = false := by simpa using hnz
    have HO := Lib.hid (fun W (h : Arr W A (xs.map nv)) => isBig_ofZ (s := s) hd h hl h0)
    clear h0 hnz
    go_enter Tryz.func139, Tryz.ntmps139
    go_wp2_with (go_at_call 160; refine HT.out.mono ?_; rintro e w' ⟨rfl, rfl⟩)
    exact bodyPost_ret (v := .agg #[.int .i64 s, .slice A (dig (val xs)).length c]) (by simp [results, Tryz.results139, go_sem]) rfl ⟨s, A, _, c, rfl, HO.out _ (ha.below ((Below.refl _ _).alloc (Nat.le_refl _) _)), .inr rfl, (Below.refl _ _).alloc (Nat.le_refl _) _⟩

def GivesSE (M : Nat) (A0 : Option Addr) (b : BigV) (m : Int) (w : World) (e : Ending) (w' : World) : Prop := ∃ s A n c, e = .returned (.tuple #[.agg #[.int .i64 s, .slice A n c], .int .i64 m]) ∧ IsBig M w' s A n b ∧ (A = none ∨ A = A0) ∧ Below w.heap.size w w'
def GivesBE (M : Nat) (b : BigV) (m : Int) (w : World) (e : Ending) (w' : World) : Prop := ∃ s A n c, e = .returned (.tuple #[.agg #[.int .i64 s, .slice A n c], .int .i64 m]) ∧ IsBig M w' s A n b ∧ Fresh w.heap.size A ∧ Below w.heap.size w w'
set_option maxHeartbeats 400000 in
theorem big_checked {M n : Nat} {s : Int} {A : Option Addr} {b : BigV} (r : Bool) (c : Nat) (w : World) (h : IsBig M w s A n b) :
    Calls Tryz.prog 136 #[.bool r, .agg #[.int .i64 s, .slice A n c]] w (GivesSE M A (if r then b else zeroB) (if r then 0 else 1) w) := by
  have hb : ∀ o1 o2, Below w.heap.size w ((w.alloc o1).alloc o2) := fun o1 o2 => ((Below.refl _ _).alloc (Nat.le_refl _) _).alloc (by simp) _
  have H := Lib.hid h
  clear h
  cases r with
  | true =>
    go_enter Tryz.func136, Tryz.ntmps136
    go_wp2
    exact bodyPost_ret (v := .tuple #[.agg #[.int .i64 s, .slice A n c], .int .i64 0]) (by simp [results, Tryz.results136, go_sem]) rfl ⟨s, A, n, c, rfl, (H.out.alloc _).alloc _, .inr rfl, hb _ _⟩
  | false =>
    go_enter Tryz.func136, Tryz.ntmps136
    go_wp2
    exact bodyPost_ret (v := .tuple #[.agg #[.int .i64 0, .slice none 0 0], .int .i64 1]) (by simp [results, Tryz.results136, go_sem]) rfl ⟨0, none, 0, 0, rfl, isBig_zero _ _, .inl rfl, hb _ _⟩

def CloneN (l : List Nat) (n : Nat) (w : World) (e : Ending) (w' : World) : Prop := ∃ A' c', e = .returned (.slice A' n c') ∧ Arr w' A' (l.map nv) ∧ n ≤ c' ∧ Fresh w.heap.size A' ∧ Below w.heap.size w w'
theorem clone_n {n : Nat} (l : List Nat) (A : Option Addr) (c : Nat) (w : World) (hn : l.length = n) (ha : Arr w A (l.map nv)) (hl : n ≤ 1000000) : Calls Tryz.prog 137 #[.slice A n c] w (CloneN l n w) := by
  subst hn
  have := int_clone (l.map nv) A c w (one_nv l) ha (by simpa using hl)
  rw [List.length_map] at this
  refine this.mono ?_
  rintro e w' ⟨A', c', h1, h2, h3, h4, h5⟩
  rw [List.length_map] at h1 h3
  exact ⟨A', c', h1, h2, h3, h4, h5⟩
theorem below_drew_left {B : Nat} {w w' : World} (h : Below B w.drew w') : Below B w w' := ⟨h.os, h.tape, h.output, h.size, h.block⟩
theorem six_below {w w' : World} {g : Nat} {v0 v1 v2 v3 : Value} (h : Below w.heap.size w w') (hg : g + 1 < w.heap.size) (h0 : w.cell? ⟨g, 0, none⟩ = some v0) (h1 : w.cell? ⟨g, 1, none⟩ = some v1) (h2 : w.cell? ⟨g + 1, 0, none⟩ = some v2) (h3 : w.cell? ⟨g + 1, 1, none⟩ = some v3)
    (f0 : w.frozen? ⟨g + 1, 0, none⟩ = false) (f1 : w.frozen? ⟨g + 1, 1, none⟩ = false) : w'.cell? ⟨g, 0, none⟩ = some v0 ∧ w'.cell? ⟨g, 1, none⟩ = some v1 ∧ w'.cell? ⟨g + 1, 0, none⟩ = some v2 ∧ w'.cell? ⟨g + 1, 1, none⟩ = some v3 ∧ w'.frozen? ⟨g + 1, 0, none⟩ = false ∧ w'.frozen? ⟨g + 1, 1, none⟩ = false :=
  ⟨(h.cell (p := ⟨g, 0, none⟩) (show g < _ by omega)).trans h0, (h.cell (p := ⟨g, 1, none⟩) (show g < _ by omega)).trans h1, (h.cell (p := ⟨g + 1, 0, none⟩) hg).trans h2, (h.cell (p := ⟨g + 1, 1, none⟩) hg).trans h3, (h.frozen (p := ⟨g + 1, 0, none⟩) hg).trans f0, (h.frozen (p := ⟨g + 1, 1, none⟩) hg).trans f1⟩

/-- what is known of a right integer -/
theorem isBig_nat {M n : Nat} {w : World} {s : Int} {A : Option Addr} {b : BigV} (h : IsBig M w s A n b) (hr : rightB b = true) : (natD b.dg).length = n ∧ Canon (natD b.dg) ∧ Arr w A ((natD b.dg).map nv) ∧ -1 ≤ s ∧ s ≤ 1 ∧ (s = 0 ↔ val (natD b.dg) = 0) := by
  obtain ⟨rfl, rfl, h3, h4⟩ := h
  have hs := rightB_sign hr
  refine ⟨by simp [natD], rightB_canon hr, by rw [← iv_of, natD_back (rightB_dig hr)]; exact h4, by omega, by omega, (rightB_zero hr).symm⟩

set_option maxRecDepth 100000 in
set_option maxHeartbeats 1000000 in
theorem big_neg {M n : Nat} {s : Int} {A : Option Addr} {b : BigV} (c : Nat) (w : World) (h : IsBig M w s A n b) (hM : M ≤ 1000000) :
    Calls Tryz.prog 117 #[.agg #[.int .i64 s, .slice A n c]] w (GivesB M (negB b) w) := by
  have hr := fun W (h : IsBig M W s A n b) => right_of c h hM
  have H := Lib.hid h
  have hle := h.le
  cases hb : rightB b with
  | false =>
    have HN := Lib.hid (show negB b = zeroB by unfold negB; rw [hb]; rfl)
    rw [hb] at hr
    have HR := Lib.hid hr
    clear hr hb h
    go_enter Tryz.func117, Tryz.ntmps117
    go_wp2_with fail
    refine (HR.out _ ((H.out.alloc _).alloc _)).mono ?_
    rintro e w1 ⟨rfl, hb1⟩
    have hbw : Below w.heap.size w w1 := (((Below.refl _ w).alloc (Nat.le_refl _) _).alloc (by simp) _).trans (hb1.mono (by simp <;> omega))
    obtain ⟨hc1, hf1⟩ := bcell hb1
    have hz1 : w.heap.size + 1 < w1.heap.size := by have := hb1.size; simp at this; omega
    clear hb1
    go_wp2
    rw [HN.out]
    exact bodyPost_ret (v := .agg #[.int .i64 0, .slice none 0 0]) (by simp [results, Tryz.results117, go_sem, hc1, hz1]) rfl ⟨0, none, 0, 0, rfl, isBig_zero _ _, Fresh.none_ _, (hbw.setCell (by simp) _).setCell (by simp) _⟩
  | true =>
    obtain ⟨p1, p2, p3, p4, p5, p6⟩ := isBig_nat h hb
    have HN := Lib.hid (show negB b = ofZ (-s) (val (natD b.dg)) by rw [negB_of hb, h.1]; rfl)
    rw [hb] at hr
    have HR := Lib.hid hr
    have HK := Lib.hid (fun W (h : Arr W A ((natD b.dg).map nv)) => clone_n (n := n) (natD b.dg) A c W p1 h (by omega))
    have HSg := Lib.hid (fun W A' c' (h : Arr W A' ((natD b.dg).map nv)) (hc : n ≤ c') => big_signed (n := n) M (-s) (natD b.dg) A' c' W p1 p2.1 h hc hle hM)
    have HP := Lib.hid p3
    clear hr hb h p1 p2 p3 p6
    go_enter Tryz.func117, Tryz.ntmps117
    go_wp2_with fail
    refine (HR.out _ ((H.out.alloc _).alloc _)).mono ?_
    rintro e w1 ⟨rfl, hb1⟩
    have hbw : Below w.heap.size w w1 := (((Below.refl _ w).alloc (Nat.le_refl _) _).alloc (by simp) _).trans (hb1.mono (by simp <;> omega))
    obtain ⟨hc1, hf1⟩ := bcell hb1
    have hz1 : w.heap.size + 1 < w1.heap.size := by have := hb1.size; simp at this; omega
    have e0 : w1.cell? ⟨w.heap.size, 0, none⟩ = some (.int .i64 s) := by rw [hc1 _ _ (by simp <;> omega)]; simp
    have e1 : w1.cell? ⟨w.heap.size, 1, none⟩ = some (.slice A n c) := by rw [hc1 _ _ (by simp <;> omega)]; simp
    have e2 : w1.cell? ⟨w.heap.size + 1, 0, none⟩ = some (.int .i64 0) := by rw [hc1 _ _ (by simp)]; simp
    have e3 : w1.cell? ⟨w.heap.size + 1, 1, none⟩ = some (.slice none 0 0) := by rw [hc1 _ _ (by simp)]; simp
    have g2 : w1.frozen? ⟨w.heap.size + 1, 0, none⟩ = false := by rw [hf1 _ _ (by simp)]; simp
    have g3 : w1.frozen? ⟨w.heap.size + 1, 1, none⟩ = false := by rw [hf1 _ _ (by simp)]; simp
    have ha1 := Lib.hid (HP.out.below hbw)
    have HB := Lib.hid hbw
    have hw1 : IntKind.i64.wrap (-s) = -s := IntWalk.i64_in _ (by omega)
    clear hb1 hc1 hf1 hbw HR
    go_wp2_with fail
    go_region_held3 (fun w' => w'.cell? ⟨w.heap.size, 0, none⟩ = some (.int .i64 s) ∧ w'.cell? ⟨w.heap.size, 1, none⟩ = some (.slice A n c)) (go_keep)
      (first
       | (go_at_call 137; (with_reducible refine (HK.out _ (ha1.out.drew)).mono ?_); rintro e w2 ⟨A2, c2, rfl, hA2, hl2, hf2, hb2⟩; have HF2 := Lib.hid hf2; clear hf2; have HB2 := Lib.hid (HB.out.trans (below_drew_left hb2 |>.mono HB.out.size)); obtain ⟨k0, k1, k2, k3, k4, k5⟩ := six_below (below_drew_left hb2) hz1 e0 e1 e2 e3 g2 g3; have hz2 : w.heap.size + 1 < w2.heap.size := Nat.lt_of_lt_of_le hz1 (below_drew_left hb2).size; clear hb2)
       | (go_at_call 139; (with_reducible refine (HSg.out _ _ _ hA2 hl2).mono ?_); rintro e w3 ⟨s3, A3, n3, c3, rfl, hA3, hf3, hb3⟩; have HA3 := Lib.hid hA3; have HF3 := Lib.hid (fresh_or hf3 HF2.out); clear hf3; have HB3 := Lib.hid (HB2.out.trans (hb3.mono HB2.out.size)); obtain ⟨m0, m1, m2, m3, m4, m5⟩ := six_below hb3 hz2 k0 k1 k2 k3 k4 k5; have hz3 : w.heap.size + 1 < w3.heap.size := Nat.lt_of_lt_of_le hz2 hb3.size; clear hb3 hA3))
    clear hw1
    go_wp2
    rw [HN.out]
    have hf : Fresh w1.heap.size A3 := HF3.out
    exact bodyPost_ret (v := .agg #[.int .i64 s3, .slice A3 n3 c3]) (by simp [results, Tryz.results117, go_sem, m2, m3]) rfl ⟨s3, A3, n3, c3, rfl, (HA3.out.set_far hf hz1 _).set_far hf hz1 _, hf.low HB.out.size, (HB3.out.setCell (by simp) _).setCell (by simp) _⟩
end Go.Proofs.YtaojnjealccjiaaGreatDoor
