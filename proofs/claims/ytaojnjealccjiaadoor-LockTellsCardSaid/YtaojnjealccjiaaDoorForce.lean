/- The reference's Force. -/
import Derived.Test.YtaojnjealccjiaaDoorRefs3
namespace Go.Proofs.YtaojnjealccjiaaDoor
open Go Go.RowKit Kb Go.Lib
set_option linter.unusedVariables false

set_option maxHeartbeats 8000000 in
set_option maxRecDepth 100000 in
theorem ref_force (acts : List Akt) (A : Option Addr) (c : Nat) (l : Akt) (day : Int) (w : World) (hl : Lst aktV 4 w A acts) (hsm : Small acts) (hlo : l.obj.size < 4294967281) :
    Calls Tryd.prog 40 #[.slice A acts.length c, .agg #[.int .i64 l.kind, .int .i64 l.person, .int .i64 l.day, .string l.obj], .int .i64 day] w fun e w' =>
      e = .returned (.bool (forceB acts l day)) ∧ Below w.heap.size w w' := by
  obtain ⟨hs, hbig⟩ := hsm
  unfold maxLen at hbig
  obtain ⟨lk, lp, ld, lo⟩ := l
  simp only at hlo ⊢
  have hfin : ∀ W, Below (w.alloc (boxO lk lp ld lo)).heap.size (w.alloc (boxO lk lp ld lo)) W → Below w.heap.size w W := fun W h => ((Below.refl _ w).alloc (Nat.le_refl _) _).trans (h.mono (by simp))
  have HFin := Lib.hid hfin
  clear hfin
  by_cases hd : ld ≤ day
  · have e0 : forceB acts ⟨lk, lp, ld, lo⟩ day = !twoB acts ⟨lk, lp, ld, lo⟩ day := by unfold forceB; simp [hd]
    rw [e0]
    clear e0
    have hyes : ∀ x y, x ∈ acts → y ∈ acts → freesB x ⟨lk, lp, ld, lo⟩ day = true → freesB y ⟨lk, lp, ld, lo⟩ day = true → x.person ≠ y.person → twoB acts ⟨lk, lp, ld, lo⟩ day = true := fun x y hx hy h1 h2 h3 => twoB_iff.2 ⟨x, hx, y, hy, h1, h2, h3⟩
    have hno := @NP.two acts ⟨lk, lp, ld, lo⟩ day
    have hfr := fun (x : Akt) (hx : x.obj.size < 4294967281) (W : World) => ref_frees x ⟨lk, lp, ld, lo⟩ day W hx hlo
    simp only at hfr
    generalize twoB acts ⟨lk, lp, ld, lo⟩ day = two at hyes hno ⊢
    have HYes := Lib.hid hyes
    have HNo := Lib.hid hno
    have HFr := Lib.hid hfr
    have HS := Lib.hid hs
    have hl1 : Lst aktV 4 (w.alloc (boxO lk lp ld lo)) A acts := hl.alloc _
    have HL := Lib.hid hl1
    clear hyes hno hfr hs hl hl1
    generalize hn : acts.length = n at *
    have HN := Lib.hid hn
    clear hn
    go_enter Tryd.func40, Tryd.ntmps40
    go_wp2_with fail
    go_loopw [7, 8] (fun s7 s8 wr => ∃ (i : Nat) (v8 : Value), i ≤ n ∧ s7 = .int .i64 i ∧ s8 = v8 ∧ Hid (∀ i', i' < i → ∀ k, k < i' → NP acts ⟨lk, lp, ld, lo⟩ day i' k) ∧ Hid (Below (w.alloc (boxO lk lp ld lo)).heap.size (w.alloc (boxO lk lp ld lo)) wr)) (fun s7 _ _ => n - (intOf s7).toNat)
    case atStart => exact ⟨0, _, Nat.zero_le _, rfl, rfl, fun i' h => absurd h (Nat.not_lt_zero _), Below.refl _ _⟩
    case round =>
      obtain ⟨i, v8, hi, rfl, rfl, HQ, HB⟩ := hrel
      by_cases hlt : i < n
      · go_wp2_with fail
        go_loopw [8] (fun s8 wr2 => ∃ (k : Nat), k ≤ i ∧ s8 = .int .i64 k ∧ Hid (∀ k', k' < k → NP acts ⟨lk, lp, ld, lo⟩ day i k') ∧ Hid (Below (w.alloc (boxO lk lp ld lo)).heap.size (w.alloc (boxO lk lp ld lo)) wr2)) (fun s8 _ => i - (intOf s8).toNat)
        case atStart => exact ⟨0, Nat.zero_le _, rfl, fun k' h => absurd h (Nat.not_lt_zero _), HB.out⟩
        case round =>
          obtain ⟨k, hk, rfl, HQ2, HB2⟩ := hrel
          by_cases hlt2 : k < i
          · have hil : i < acts.length := by rw [HN.out]; exact hlt
            have hkl : k < acts.length := by rw [HN.out]; omega
            obtain ⟨b, off, rfl, hbl, hx4⟩ := at4_of HL.out hil
            obtain ⟨b', off', hbe, hbl', hy4⟩ := at4_of HL.out hkl
            obtain ⟨rfl, rfl⟩ : b = b' ∧ off = off' := by simpa using hbe
            have hfx := HFr.out acts[i] (HS.out _ (List.getElem_mem hil))
            have hfy := HFr.out acts[k] (HS.out _ (List.getElem_mem hkl))
            have hys := HYes.out acts[i] acts[k] (List.getElem_mem hil) (List.getElem_mem hkl)
            have hnp : freesB acts[i] ⟨lk, lp, ld, lo⟩ day = false ∨ freesB acts[k] ⟨lk, lp, ld, lo⟩ day = false ∨ acts[i].person = acts[k].person → ∀ k', k' < k + 1 → NP acts ⟨lk, lp, ld, lo⟩ day i k' := fun h k' hk' => by
              by_cases e : k' = k
              · subst e
                intro x y hx hy ⟨h1, h2, h3⟩
                rw [List.getElem?_eq_getElem hil] at hx
                rw [List.getElem?_eq_getElem hkl] at hy
                cases hx; cases hy
                rcases h with h | h | h
                · rw [h] at h1; cases h1
                · rw [h] at h2; cases h2
                · exact h3 h
              · exact HQ2.out k' (by omega)
            have hall : ∀ W, Below wr.heap.size wr W → At4 W b (off + i * 4) acts[i] ∧ At4 W b (off + k * 4) acts[k] ∧ At4 W w.heap.size 0 ⟨lk, lp, ld, lo⟩ := fun W h => by
              have h2 : Below (w.alloc (boxO lk lp ld lo)).heap.size (w.alloc (boxO lk lp ld lo)) W := HB2.out.trans (h.mono HB2.out.size)
              refine ⟨hx4.below h2 hbl, hy4.below h2 hbl, ?_⟩
              have h0 : At4 (w.alloc (boxO lk lp ld lo)) w.heap.size 0 ⟨lk, lp, ld, lo⟩ := ⟨by simp, by simp, by simp, by simp⟩
              exact h0.below h2 (by simp)
            generalize acts[i] = x at hfx hys hnp hall
            generalize acts[k] = y at hfy hys hnp hall
            obtain ⟨xk, xp, xd, xo⟩ := x
            obtain ⟨yk, yp, yd, yo⟩ := y
            simp only at hfx hfy
            generalize freesB ⟨xk, xp, xd, xo⟩ ⟨lk, lp, ld, lo⟩ day = fx at hfx hys hnp
            generalize freesB ⟨yk, yp, yd, yo⟩ ⟨lk, lp, ld, lo⟩ day = fy at hfy hys hnp
            have HFx := Lib.hid hfx
            have HFy := Lib.hid hfy
            have HYs := Lib.hid hys
            have HNp := Lib.hid hnp
            have HAll := Lib.hid hall
            clear hfx hfy hys hnp hall hx4 hy4 HYes HNo HFr
            have j1 : (i : Int) < (n : Int) := by omega
            have j2 : (k : Int) < (n : Int) := by omega
            have j3 : (0 : Int) ≤ (i : Int) := by omega
            have j4 : (0 : Int) ≤ (k : Int) := by omega
            have j5 : (k : Int) < (i : Int) := by omega
            obtain ⟨⟨c0, c1, c2, c3⟩, ⟨d0, d1, d2, d3⟩, ⟨f0, f1, f2, f3⟩⟩ := HAll.out _ (Below.refl _ _)
            cases fx with
            | false =>
              go_wp2_with fail
              refine wp_region_noPanic ?_
              refine wp_region_held_drew (S := (fun w' => w'.cell? ⟨b, off + i * 4, none⟩ = some (.int .i64 xk) ∧ w'.cell? ⟨b, off + i * 4 + 1, none⟩ = some (.int .i64 xp) ∧ w'.cell? ⟨b, off + i * 4 + 2, none⟩ = some (.int .i64 xd) ∧ w'.cell? ⟨b, off + i * 4 + 3, none⟩ = some (.string xo) ∧ w'.cell? ⟨b, off + k * 4, none⟩ = some (.int .i64 yk) ∧ w'.cell? ⟨b, off + k * 4 + 1, none⟩ = some (.int .i64 yp) ∧ w'.cell? ⟨b, off + k * 4 + 2, none⟩ = some (.int .i64 yd) ∧ w'.cell? ⟨b, off + k * 4 + 3, none⟩ = some (.string yo) ∧ w'.cell? ⟨w.heap.size, 0, none⟩ = some (.int .i64 lk) ∧ w'.cell? ⟨w.heap.size, 1, none⟩ = some (.int .i64 lp) ∧ w'.cell? ⟨w.heap.size, 2, none⟩ = some (.int .i64 ld) ∧ w'.cell? ⟨w.heap.size, 3, none⟩ = some (.string lo))) (by kernel_rfl) (⟨c0, c1, c2, c3, d0, d1, d2, d3, f0, f1, f2, f3⟩) (fun hHeld => ?_)
              refine wpAnyH_take (i := 0) (oi := ⟨some 24, _, _, _, _, _⟩) (v := ?_) rfl (by kernel_rfl) (by kernel_rfl) (by kernel_rfl) (fun _ _ _ h => h) (Or.inl ⟨by kernel_rfl, ?_⟩) (by assumption) ?_
              rotate_left
              · (intro wq hSw; (try dsimp only at hSw); first | (go_simp; done) | (go_simp; with_reducible rfl))
              try simp only [Act.put, List.setIfInBounds_toArray, List.set_cons_zero, List.set_cons_succ]
              refine wpAnyH_take (i := 1) (oi := ⟨some 25, _, _, _, _, _⟩) (v := ?_) rfl (by kernel_rfl) (by kernel_rfl) (by kernel_rfl) (fun _ _ _ h => h) (Or.inl ⟨by kernel_rfl, ?_⟩) (by assumption) ?_
              rotate_left
              · (intro wq hSw; (try dsimp only at hSw); first | (go_simp; done) | (go_simp; with_reducible rfl))
              try simp only [Act.put, List.setIfInBounds_toArray, List.set_cons_zero, List.set_cons_succ]
              refine wpAnyH_take (i := 2) (oi := ⟨some 26, _, _, _, _, _⟩) (v := ?_) rfl (by kernel_rfl) (by kernel_rfl) (by kernel_rfl) (fun _ _ _ h => h) (Or.inl ⟨by kernel_rfl, ?_⟩) (by assumption) ?_
              rotate_left
              · (intro wq hSw; (try dsimp only at hSw); first | (go_simp; done) | (go_simp; with_reducible rfl))
              try simp only [Act.put, List.setIfInBounds_toArray, List.set_cons_zero, List.set_cons_succ]
              refine wpAnyH_take (i := 3) (oi := ⟨some 27, _, _, _, _, _⟩) (v := ?_) rfl (by kernel_rfl) (by kernel_rfl) (by kernel_rfl) (fun _ _ _ h => h) (Or.inl ⟨by kernel_rfl, ?_⟩) (by assumption) ?_
              rotate_left
              · (intro wq hSw; (try dsimp only at hSw); first | (go_simp; done) | (go_simp; with_reducible rfl))
              try simp only [Act.put, List.setIfInBounds_toArray, List.set_cons_zero, List.set_cons_succ]
              refine wpAnyH_take (i := 4) (oi := ⟨some 28, _, _, _, _, _⟩) (v := ?_) rfl (by kernel_rfl) (by kernel_rfl) (by kernel_rfl) (fun _ _ _ h => h) (Or.inl ⟨by kernel_rfl, ?_⟩) (by assumption) ?_
              rotate_left
              · (intro wq hSw; (try dsimp only at hSw); first | (go_simp; done) | (go_simp; with_reducible rfl))
              try simp only [Act.put, List.setIfInBounds_toArray, List.set_cons_zero, List.set_cons_succ]
              refine wpAnyH_take (i := 5) (oi := ⟨some 29, _, _, _, _, _⟩) (v := ?_) rfl (by kernel_rfl) (by kernel_rfl) (by kernel_rfl) (fun _ _ _ h => h) (Or.inl ⟨by kernel_rfl, ?_⟩) (by assumption) ?_
              rotate_left
              · (intro wq hSw; (try dsimp only at hSw); first | (go_simp; done) | (go_simp; with_reducible rfl))
              try simp only [Act.put, List.setIfInBounds_toArray, List.set_cons_zero, List.set_cons_succ]
              refine wpAnyH_ready (rs := [6]) (by kernel_rfl) (by simp) ?_
              refine AllReadyH.cons (o := ⟨some 30, _, _, _, _, _⟩) rfl (fun K hK => ?_) AllReadyH.nil
              go_simp
              refine (HFx.out _).mono ?_
              rintro e wa ⟨rfl, hba⟩
              have HBa : Hid (Below wr.heap.size wr wa) := ((Below.refl _ wr).drew).trans (hba.mono (by simp))
              clear hba
              obtain ⟨⟨ca0, ca1, ca2, ca3⟩, ⟨da0, da1, da2, da3⟩, ⟨fa0, fa1, fa2, fa3⟩⟩ := HAll.out _ HBa.out
              refine hK.out _ _ (⟨ca0, ca1, ca2, ca3, da0, da1, da2, da3, fa0, fa1, fa2, fa3⟩) (fun hHeld => ?_)
              clear hK K
              try simp only [Act.put, List.setIfInBounds_toArray, List.set_cons_zero, List.set_cons_succ]
              refine wpAnyH_take (i := 7) (oi := ⟨some 31, _, _, _, _, _⟩) (v := ?_) rfl (by kernel_rfl) (by kernel_rfl) (by kernel_rfl) (fun _ _ _ h => h) (Or.inl ⟨by kernel_rfl, ?_⟩) (by assumption) ?_
              rotate_left
              · (intro wq hSw; (try dsimp only at hSw); first | (go_simp; done) | (go_simp; with_reducible rfl))
              try simp only [Act.put, List.setIfInBounds_toArray, List.set_cons_zero, List.set_cons_succ]
              refine wpAnyH_take (i := 8) (oi := ⟨some 32, _, _, _, _, _⟩) (v := undef) rfl (by kernel_rfl) (by kernel_rfl) (by kernel_rfl) (fun _ _ _ h => h) (Or.inr ⟨by kernel_rfl, rfl⟩) (by assumption) ?_
              try simp only [Act.put, List.setIfInBounds_toArray, List.set_cons_zero, List.set_cons_succ]
              refine wpAnyH_take (i := 9) (oi := ⟨some 33, _, _, _, _, _⟩) (v := undef) rfl (by kernel_rfl) (by kernel_rfl) (by kernel_rfl) (fun _ _ _ h => h) (Or.inr ⟨by kernel_rfl, rfl⟩) (by assumption) ?_
              try simp only [Act.put, List.setIfInBounds_toArray, List.set_cons_zero, List.set_cons_succ]
              refine wpAnyH_take (i := 10) (oi := ⟨some 34, _, _, _, _, _⟩) (v := undef) rfl (by kernel_rfl) (by kernel_rfl) (by kernel_rfl) (fun _ _ _ h => h) (Or.inr ⟨by kernel_rfl, rfl⟩) (by assumption) ?_
              try simp only [Act.put, List.setIfInBounds_toArray, List.set_cons_zero, List.set_cons_succ]
              refine wpAnyH_take (i := 11) (oi := ⟨some 35, _, _, _, _, _⟩) (v := undef) rfl (by kernel_rfl) (by kernel_rfl) (by kernel_rfl) (fun _ _ _ h => h) (Or.inr ⟨by kernel_rfl, rfl⟩) (by assumption) ?_
              try simp only [Act.put, List.setIfInBounds_toArray, List.set_cons_zero, List.set_cons_succ]
              refine wpAnyH_take (i := 12) (oi := ⟨some 36, _, _, _, _, _⟩) (v := undef) rfl (by kernel_rfl) (by kernel_rfl) (by kernel_rfl) (fun _ _ _ h => h) (Or.inr ⟨by kernel_rfl, rfl⟩) (by assumption) ?_
              try simp only [Act.put, List.setIfInBounds_toArray, List.set_cons_zero, List.set_cons_succ]
              refine wpAnyH_take (i := 13) (oi := ⟨some 37, _, _, _, _, _⟩) (v := undef) rfl (by kernel_rfl) (by kernel_rfl) (by kernel_rfl) (fun _ _ _ h => h) (Or.inr ⟨by kernel_rfl, rfl⟩) (by assumption) ?_
              try simp only [Act.put, List.setIfInBounds_toArray, List.set_cons_zero, List.set_cons_succ]
              refine wpAnyH_take (i := 14) (oi := ⟨some 38, _, _, _, _, _⟩) (v := undef) rfl (by kernel_rfl) (by kernel_rfl) (by kernel_rfl) (fun _ _ _ h => h) (Or.inr ⟨by kernel_rfl, rfl⟩) (by assumption) ?_
              try simp only [Act.put, List.setIfInBounds_toArray, List.set_cons_zero, List.set_cons_succ]
              refine wpAnyH_take (i := 15) (oi := ⟨some 39, _, _, _, _, _⟩) (v := ?_) rfl (by kernel_rfl) (by kernel_rfl) (by kernel_rfl) (fun _ _ _ h => h) (Or.inl ⟨by kernel_rfl, ?_⟩) (by assumption) ?_
              rotate_left
              · (intro wq hSw; (try dsimp only at hSw); first | (go_simp; done) | (go_simp; with_reducible rfl))
              try simp only [Act.put, List.setIfInBounds_toArray, List.set_cons_zero, List.set_cons_succ]
              refine wpAnyH_take (i := 16) (oi := ⟨some 40, _, _, _, _, _⟩) (v := ?_) rfl (by kernel_rfl) (by kernel_rfl) (by kernel_rfl) (fun _ _ _ h => h) (Or.inl ⟨by kernel_rfl, ?_⟩) (by assumption) ?_
              rotate_left
              · (intro wq hSw; (try dsimp only at hSw); first | (go_simp; done) | (go_simp; with_reducible rfl))
              try simp only [Act.put, List.setIfInBounds_toArray, List.set_cons_zero, List.set_cons_succ]
              refine wpAnyH_take (i := 17) (oi := ⟨some 41, _, _, _, _, _⟩) (v := undef) rfl (by kernel_rfl) (by kernel_rfl) (by kernel_rfl) (fun _ _ _ h => h) (Or.inr ⟨by kernel_rfl, rfl⟩) (by assumption) ?_
              try simp only [Act.put, List.setIfInBounds_toArray, List.set_cons_zero, List.set_cons_succ]
              refine wpAnyH_take (i := 18) (oi := ⟨some 42, _, _, _, _, _⟩) (v := undef) rfl (by kernel_rfl) (by kernel_rfl) (by kernel_rfl) (fun _ _ _ h => h) (Or.inr ⟨by kernel_rfl, rfl⟩) (by assumption) ?_
              try simp only [Act.put, List.setIfInBounds_toArray, List.set_cons_zero, List.set_cons_succ]
              refine wpAnyH_take (i := 19) (oi := ⟨some 43, _, _, _, _, _⟩) (v := undef) rfl (by kernel_rfl) (by kernel_rfl) (by kernel_rfl) (fun _ _ _ h => h) (Or.inr ⟨by kernel_rfl, rfl⟩) (by assumption) ?_
              try simp only [Act.put, List.setIfInBounds_toArray, List.set_cons_zero, List.set_cons_succ]
              refine wpAnyH_take (i := 20) (oi := ⟨some 44, _, _, _, _, _⟩) (v := undef) rfl (by kernel_rfl) (by kernel_rfl) (by kernel_rfl) (fun _ _ _ h => h) (Or.inr ⟨by kernel_rfl, rfl⟩) (by assumption) ?_
              try simp only [Act.put, List.setIfInBounds_toArray, List.set_cons_zero, List.set_cons_succ]
              refine wpAnyH_take (i := 21) (oi := ⟨some 45, _, _, _, _, _⟩) (v := undef) rfl (by kernel_rfl) (by kernel_rfl) (by kernel_rfl) (fun _ _ _ h => h) (Or.inr ⟨by kernel_rfl, rfl⟩) (by assumption) ?_
              try simp only [Act.put, List.setIfInBounds_toArray, List.set_cons_zero, List.set_cons_succ]
              refine wpAnyH_take (i := 22) (oi := ⟨some 46, _, _, _, _, _⟩) (v := undef) rfl (by kernel_rfl) (by kernel_rfl) (by kernel_rfl) (fun _ _ _ h => h) (Or.inr ⟨by kernel_rfl, rfl⟩) (by assumption) ?_
              try simp only [Act.put, List.setIfInBounds_toArray, List.set_cons_zero, List.set_cons_succ]
              refine wpAnyH_take (i := 23) (oi := ⟨some 47, _, _, _, _, _⟩) (v := undef) rfl (by kernel_rfl) (by kernel_rfl) (by kernel_rfl) (fun _ _ _ h => h) (Or.inr ⟨by kernel_rfl, rfl⟩) (by assumption) ?_
              try simp only [Act.put, List.setIfInBounds_toArray, List.set_cons_zero, List.set_cons_succ]
              refine wpAnyH_take (i := 24) (oi := ⟨some 48, _, _, _, _, _⟩) (v := undef) rfl (by kernel_rfl) (by kernel_rfl) (by kernel_rfl) (fun _ _ _ h => h) (Or.inr ⟨by kernel_rfl, rfl⟩) (by assumption) ?_
              try simp only [Act.put, List.setIfInBounds_toArray, List.set_cons_zero, List.set_cons_succ]
              refine wpAnyH_take (i := 25) (oi := ⟨some 49, _, _, _, _, _⟩) (v := undef) rfl (by kernel_rfl) (by kernel_rfl) (by kernel_rfl) (fun _ _ _ h => h) (Or.inr ⟨by kernel_rfl, rfl⟩) (by assumption) ?_
              try simp only [Act.put, List.setIfInBounds_toArray, List.set_cons_zero, List.set_cons_succ]
              refine wpAnyH_take (i := 26) (oi := ⟨some 50, _, _, _, _, _⟩) (v := undef) rfl (by kernel_rfl) (by kernel_rfl) (by kernel_rfl) (fun _ _ _ h => h) (Or.inr ⟨by kernel_rfl, rfl⟩) (by assumption) ?_
              try simp only [Act.put, List.setIfInBounds_toArray, List.set_cons_zero, List.set_cons_succ]
              refine wpAnyH_take (i := 27) (oi := ⟨some 51, _, _, _, _, _⟩) (v := undef) rfl (by kernel_rfl) (by kernel_rfl) (by kernel_rfl) (fun _ _ _ h => h) (Or.inr ⟨by kernel_rfl, rfl⟩) (by assumption) ?_
              try simp only [Act.put, List.setIfInBounds_toArray, List.set_cons_zero, List.set_cons_succ]
              refine wpAnyH_take (i := 28) (oi := ⟨some 52, _, _, _, _, _⟩) (v := ?_) rfl (by kernel_rfl) (by kernel_rfl) (by kernel_rfl) (fun _ _ _ h => h) (Or.inl ⟨by kernel_rfl, ?_⟩) (by assumption) ?_
              rotate_left
              · (intro wq hSw; (try dsimp only at hSw); first | (go_simp; done) | (go_simp; with_reducible rfl))
              try simp only [Act.put, List.setIfInBounds_toArray, List.set_cons_zero, List.set_cons_succ]
              refine wpAnyH_done (by kernel_rfl) ?_ _
              refine NoPanic.normal ?_
              all_goals
                (go_wp2_with fail
                 go_roundw
                 case rel => exact ⟨k + 1, by omega, by go_num, HNp.out (by simp), HB2.out.trans (HBa.out.mono HB2.out.size)⟩
                 case measure => simp [intOf]; omega)
            | true =>
              cases fy with
              | false =>
                go_wp2_with fail
                refine wp_region_noPanic ?_
                refine wp_region_held_drew (S := (fun w' => w'.cell? ⟨b, off + i * 4, none⟩ = some (.int .i64 xk) ∧ w'.cell? ⟨b, off + i * 4 + 1, none⟩ = some (.int .i64 xp) ∧ w'.cell? ⟨b, off + i * 4 + 2, none⟩ = some (.int .i64 xd) ∧ w'.cell? ⟨b, off + i * 4 + 3, none⟩ = some (.string xo) ∧ w'.cell? ⟨b, off + k * 4, none⟩ = some (.int .i64 yk) ∧ w'.cell? ⟨b, off + k * 4 + 1, none⟩ = some (.int .i64 yp) ∧ w'.cell? ⟨b, off + k * 4 + 2, none⟩ = some (.int .i64 yd) ∧ w'.cell? ⟨b, off + k * 4 + 3, none⟩ = some (.string yo) ∧ w'.cell? ⟨w.heap.size, 0, none⟩ = some (.int .i64 lk) ∧ w'.cell? ⟨w.heap.size, 1, none⟩ = some (.int .i64 lp) ∧ w'.cell? ⟨w.heap.size, 2, none⟩ = some (.int .i64 ld) ∧ w'.cell? ⟨w.heap.size, 3, none⟩ = some (.string lo))) (by kernel_rfl) (⟨c0, c1, c2, c3, d0, d1, d2, d3, f0, f1, f2, f3⟩) (fun hHeld => ?_)
                refine wpAnyH_take (i := 0) (oi := ⟨some 24, _, _, _, _, _⟩) (v := ?_) rfl (by kernel_rfl) (by kernel_rfl) (by kernel_rfl) (fun _ _ _ h => h) (Or.inl ⟨by kernel_rfl, ?_⟩) (by assumption) ?_
                rotate_left
                · (intro wq hSw; (try dsimp only at hSw); first | (go_simp; done) | (go_simp; with_reducible rfl))
                try simp only [Act.put, List.setIfInBounds_toArray, List.set_cons_zero, List.set_cons_succ]
                refine wpAnyH_take (i := 1) (oi := ⟨some 25, _, _, _, _, _⟩) (v := ?_) rfl (by kernel_rfl) (by kernel_rfl) (by kernel_rfl) (fun _ _ _ h => h) (Or.inl ⟨by kernel_rfl, ?_⟩) (by assumption) ?_
                rotate_left
                · (intro wq hSw; (try dsimp only at hSw); first | (go_simp; done) | (go_simp; with_reducible rfl))
                try simp only [Act.put, List.setIfInBounds_toArray, List.set_cons_zero, List.set_cons_succ]
                refine wpAnyH_take (i := 2) (oi := ⟨some 26, _, _, _, _, _⟩) (v := ?_) rfl (by kernel_rfl) (by kernel_rfl) (by kernel_rfl) (fun _ _ _ h => h) (Or.inl ⟨by kernel_rfl, ?_⟩) (by assumption) ?_
                rotate_left
                · (intro wq hSw; (try dsimp only at hSw); first | (go_simp; done) | (go_simp; with_reducible rfl))
                try simp only [Act.put, List.setIfInBounds_toArray, List.set_cons_zero, List.set_cons_succ]
                refine wpAnyH_take (i := 3) (oi := ⟨some 27, _, _, _, _, _⟩) (v := ?_) rfl (by kernel_rfl) (by kernel_rfl) (by kernel_rfl) (fun _ _ _ h => h) (Or.inl ⟨by kernel_rfl, ?_⟩) (by assumption) ?_
                rotate_left
                · (intro wq hSw; (try dsimp only at hSw); first | (go_simp; done) | (go_simp; with_reducible rfl))
                try simp only [Act.put, List.setIfInBounds_toArray, List.set_cons_zero, List.set_cons_succ]
                refine wpAnyH_take (i := 4) (oi := ⟨some 28, _, _, _, _, _⟩) (v := ?_) rfl (by kernel_rfl) (by kernel_rfl) (by kernel_rfl) (fun _ _ _ h => h) (Or.inl ⟨by kernel_rfl, ?_⟩) (by assumption) ?_
                rotate_left
                · (intro wq hSw; (try dsimp only at hSw); first | (go_simp; done) | (go_simp; with_reducible rfl))
                try simp only [Act.put, List.setIfInBounds_toArray, List.set_cons_zero, List.set_cons_succ]
                refine wpAnyH_take (i := 5) (oi := ⟨some 29, _, _, _, _, _⟩) (v := ?_) rfl (by kernel_rfl) (by kernel_rfl) (by kernel_rfl) (fun _ _ _ h => h) (Or.inl ⟨by kernel_rfl, ?_⟩) (by assumption) ?_
                rotate_left
                · (intro wq hSw; (try dsimp only at hSw); first | (go_simp; done) | (go_simp; with_reducible rfl))
                try simp only [Act.put, List.setIfInBounds_toArray, List.set_cons_zero, List.set_cons_succ]
                refine wpAnyH_ready (rs := [6]) (by kernel_rfl) (by simp) ?_
                refine AllReadyH.cons (o := ⟨some 30, _, _, _, _, _⟩) rfl (fun K hK => ?_) AllReadyH.nil
                go_simp
                refine (HFx.out _).mono ?_
                rintro e wa ⟨rfl, hba⟩
                have HBa : Hid (Below wr.heap.size wr wa) := ((Below.refl _ wr).drew).trans (hba.mono (by simp))
                clear hba
                obtain ⟨⟨ca0, ca1, ca2, ca3⟩, ⟨da0, da1, da2, da3⟩, ⟨fa0, fa1, fa2, fa3⟩⟩ := HAll.out _ HBa.out
                refine hK.out _ _ (⟨ca0, ca1, ca2, ca3, da0, da1, da2, da3, fa0, fa1, fa2, fa3⟩) (fun hHeld => ?_)
                clear hK K
                try simp only [Act.put, List.setIfInBounds_toArray, List.set_cons_zero, List.set_cons_succ]
                refine wpAnyH_take (i := 7) (oi := ⟨some 31, _, _, _, _, _⟩) (v := ?_) rfl (by kernel_rfl) (by kernel_rfl) (by kernel_rfl) (fun _ _ _ h => h) (Or.inl ⟨by kernel_rfl, ?_⟩) (by assumption) ?_
                rotate_left
                · (intro wq hSw; (try dsimp only at hSw); first | (go_simp; done) | (go_simp; with_reducible rfl))
                try simp only [Act.put, List.setIfInBounds_toArray, List.set_cons_zero, List.set_cons_succ]
                refine wpAnyH_take (i := 8) (oi := ⟨some 32, _, _, _, _, _⟩) (v := ?_) rfl (by kernel_rfl) (by kernel_rfl) (by kernel_rfl) (fun _ _ _ h => h) (Or.inl ⟨by kernel_rfl, ?_⟩) (by assumption) ?_
                rotate_left
                · (intro wq hSw; (try dsimp only at hSw); first | (go_simp; done) | (go_simp; with_reducible rfl))
                try simp only [Act.put, List.setIfInBounds_toArray, List.set_cons_zero, List.set_cons_succ]
                refine wpAnyH_take (i := 9) (oi := ⟨some 33, _, _, _, _, _⟩) (v := ?_) rfl (by kernel_rfl) (by kernel_rfl) (by kernel_rfl) (fun _ _ _ h => h) (Or.inl ⟨by kernel_rfl, ?_⟩) (by assumption) ?_
                rotate_left
                · (intro wq hSw; (try dsimp only at hSw); first | (go_simp; done) | (go_simp; with_reducible rfl))
                try simp only [Act.put, List.setIfInBounds_toArray, List.set_cons_zero, List.set_cons_succ]
                refine wpAnyH_take (i := 10) (oi := ⟨some 34, _, _, _, _, _⟩) (v := ?_) rfl (by kernel_rfl) (by kernel_rfl) (by kernel_rfl) (fun _ _ _ h => h) (Or.inl ⟨by kernel_rfl, ?_⟩) (by assumption) ?_
                rotate_left
                · (intro wq hSw; (try dsimp only at hSw); first | (go_simp; done) | (go_simp; with_reducible rfl))
                try simp only [Act.put, List.setIfInBounds_toArray, List.set_cons_zero, List.set_cons_succ]
                refine wpAnyH_take (i := 11) (oi := ⟨some 35, _, _, _, _, _⟩) (v := ?_) rfl (by kernel_rfl) (by kernel_rfl) (by kernel_rfl) (fun _ _ _ h => h) (Or.inl ⟨by kernel_rfl, ?_⟩) (by assumption) ?_
                rotate_left
                · (intro wq hSw; (try dsimp only at hSw); first | (go_simp; done) | (go_simp; with_reducible rfl))
                try simp only [Act.put, List.setIfInBounds_toArray, List.set_cons_zero, List.set_cons_succ]
                refine wpAnyH_take (i := 12) (oi := ⟨some 36, _, _, _, _, _⟩) (v := ?_) rfl (by kernel_rfl) (by kernel_rfl) (by kernel_rfl) (fun _ _ _ h => h) (Or.inl ⟨by kernel_rfl, ?_⟩) (by assumption) ?_
                rotate_left
                · (intro wq hSw; (try dsimp only at hSw); first | (go_simp; done) | (go_simp; with_reducible rfl))
                try simp only [Act.put, List.setIfInBounds_toArray, List.set_cons_zero, List.set_cons_succ]
                refine wpAnyH_take (i := 13) (oi := ⟨some 37, _, _, _, _, _⟩) (v := ?_) rfl (by kernel_rfl) (by kernel_rfl) (by kernel_rfl) (fun _ _ _ h => h) (Or.inl ⟨by kernel_rfl, ?_⟩) (by assumption) ?_
                rotate_left
                · (intro wq hSw; (try dsimp only at hSw); first | (go_simp; done) | (go_simp; with_reducible rfl))
                try simp only [Act.put, List.setIfInBounds_toArray, List.set_cons_zero, List.set_cons_succ]
                refine wpAnyH_ready (rs := [14]) (by kernel_rfl) (by simp) ?_
                refine AllReadyH.cons (o := ⟨some 38, _, _, _, _, _⟩) rfl (fun K hK => ?_) AllReadyH.nil
                go_simp
                refine (HFy.out _).mono ?_
                rintro e wb ⟨rfl, hbb⟩
                have HBb : Hid (Below wr.heap.size wr wb) := HBa.out.trans (hbb.mono HBa.out.size)
                clear hbb
                obtain ⟨⟨cb0, cb1, cb2, cb3⟩, ⟨db0, db1, db2, db3⟩, ⟨fb0, fb1, fb2, fb3⟩⟩ := HAll.out _ HBb.out
                refine hK.out _ _ (⟨cb0, cb1, cb2, cb3, db0, db1, db2, db3, fb0, fb1, fb2, fb3⟩) (fun hHeld => ?_)
                clear hK K
                try simp only [Act.put, List.setIfInBounds_toArray, List.set_cons_zero, List.set_cons_succ]
                refine wpAnyH_take (i := 15) (oi := ⟨some 39, _, _, _, _, _⟩) (v := ?_) rfl (by kernel_rfl) (by kernel_rfl) (by kernel_rfl) (fun _ _ _ h => h) (Or.inl ⟨by kernel_rfl, ?_⟩) (by assumption) ?_
                rotate_left
                · (intro wq hSw; (try dsimp only at hSw); first | (go_simp; done) | (go_simp; with_reducible rfl))
                try simp only [Act.put, List.setIfInBounds_toArray, List.set_cons_zero, List.set_cons_succ]
                refine wpAnyH_take (i := 16) (oi := ⟨some 40, _, _, _, _, _⟩) (v := ?_) rfl (by kernel_rfl) (by kernel_rfl) (by kernel_rfl) (fun _ _ _ h => h) (Or.inl ⟨by kernel_rfl, ?_⟩) (by assumption) ?_
                rotate_left
                · (intro wq hSw; (try dsimp only at hSw); first | (go_simp; done) | (go_simp; with_reducible rfl))
                try simp only [Act.put, List.setIfInBounds_toArray, List.set_cons_zero, List.set_cons_succ]
                refine wpAnyH_take (i := 17) (oi := ⟨some 41, _, _, _, _, _⟩) (v := undef) rfl (by kernel_rfl) (by kernel_rfl) (by kernel_rfl) (fun _ _ _ h => h) (Or.inr ⟨by kernel_rfl, rfl⟩) (by assumption) ?_
                try simp only [Act.put, List.setIfInBounds_toArray, List.set_cons_zero, List.set_cons_succ]
                refine wpAnyH_take (i := 18) (oi := ⟨some 42, _, _, _, _, _⟩) (v := undef) rfl (by kernel_rfl) (by kernel_rfl) (by kernel_rfl) (fun _ _ _ h => h) (Or.inr ⟨by kernel_rfl, rfl⟩) (by assumption) ?_
                try simp only [Act.put, List.setIfInBounds_toArray, List.set_cons_zero, List.set_cons_succ]
                refine wpAnyH_take (i := 19) (oi := ⟨some 43, _, _, _, _, _⟩) (v := undef) rfl (by kernel_rfl) (by kernel_rfl) (by kernel_rfl) (fun _ _ _ h => h) (Or.inr ⟨by kernel_rfl, rfl⟩) (by assumption) ?_
                try simp only [Act.put, List.setIfInBounds_toArray, List.set_cons_zero, List.set_cons_succ]
                refine wpAnyH_take (i := 20) (oi := ⟨some 44, _, _, _, _, _⟩) (v := undef) rfl (by kernel_rfl) (by kernel_rfl) (by kernel_rfl) (fun _ _ _ h => h) (Or.inr ⟨by kernel_rfl, rfl⟩) (by assumption) ?_
                try simp only [Act.put, List.setIfInBounds_toArray, List.set_cons_zero, List.set_cons_succ]
                refine wpAnyH_take (i := 21) (oi := ⟨some 45, _, _, _, _, _⟩) (v := undef) rfl (by kernel_rfl) (by kernel_rfl) (by kernel_rfl) (fun _ _ _ h => h) (Or.inr ⟨by kernel_rfl, rfl⟩) (by assumption) ?_
                try simp only [Act.put, List.setIfInBounds_toArray, List.set_cons_zero, List.set_cons_succ]
                refine wpAnyH_take (i := 22) (oi := ⟨some 46, _, _, _, _, _⟩) (v := undef) rfl (by kernel_rfl) (by kernel_rfl) (by kernel_rfl) (fun _ _ _ h => h) (Or.inr ⟨by kernel_rfl, rfl⟩) (by assumption) ?_
                try simp only [Act.put, List.setIfInBounds_toArray, List.set_cons_zero, List.set_cons_succ]
                refine wpAnyH_take (i := 23) (oi := ⟨some 47, _, _, _, _, _⟩) (v := undef) rfl (by kernel_rfl) (by kernel_rfl) (by kernel_rfl) (fun _ _ _ h => h) (Or.inr ⟨by kernel_rfl, rfl⟩) (by assumption) ?_
                try simp only [Act.put, List.setIfInBounds_toArray, List.set_cons_zero, List.set_cons_succ]
                refine wpAnyH_take (i := 24) (oi := ⟨some 48, _, _, _, _, _⟩) (v := undef) rfl (by kernel_rfl) (by kernel_rfl) (by kernel_rfl) (fun _ _ _ h => h) (Or.inr ⟨by kernel_rfl, rfl⟩) (by assumption) ?_
                try simp only [Act.put, List.setIfInBounds_toArray, List.set_cons_zero, List.set_cons_succ]
                refine wpAnyH_take (i := 25) (oi := ⟨some 49, _, _, _, _, _⟩) (v := undef) rfl (by kernel_rfl) (by kernel_rfl) (by kernel_rfl) (fun _ _ _ h => h) (Or.inr ⟨by kernel_rfl, rfl⟩) (by assumption) ?_
                try simp only [Act.put, List.setIfInBounds_toArray, List.set_cons_zero, List.set_cons_succ]
                refine wpAnyH_take (i := 26) (oi := ⟨some 50, _, _, _, _, _⟩) (v := undef) rfl (by kernel_rfl) (by kernel_rfl) (by kernel_rfl) (fun _ _ _ h => h) (Or.inr ⟨by kernel_rfl, rfl⟩) (by assumption) ?_
                try simp only [Act.put, List.setIfInBounds_toArray, List.set_cons_zero, List.set_cons_succ]
                refine wpAnyH_take (i := 27) (oi := ⟨some 51, _, _, _, _, _⟩) (v := undef) rfl (by kernel_rfl) (by kernel_rfl) (by kernel_rfl) (fun _ _ _ h => h) (Or.inr ⟨by kernel_rfl, rfl⟩) (by assumption) ?_
                try simp only [Act.put, List.setIfInBounds_toArray, List.set_cons_zero, List.set_cons_succ]
                refine wpAnyH_take (i := 28) (oi := ⟨some 52, _, _, _, _, _⟩) (v := ?_) rfl (by kernel_rfl) (by kernel_rfl) (by kernel_rfl) (fun _ _ _ h => h) (Or.inl ⟨by kernel_rfl, ?_⟩) (by assumption) ?_
                rotate_left
                · (intro wq hSw; (try dsimp only at hSw); first | (go_simp; done) | (go_simp; with_reducible rfl))
                try simp only [Act.put, List.setIfInBounds_toArray, List.set_cons_zero, List.set_cons_succ]
                refine wpAnyH_done (by kernel_rfl) ?_ _
                refine NoPanic.normal ?_
                all_goals
                  (go_wp2_with fail
                   go_roundw
                   case rel => exact ⟨k + 1, by omega, by go_num, HNp.out (by simp), HB2.out.trans (HBb.out.mono HB2.out.size)⟩
                   case measure => simp [intOf]; omega)
              | true =>
                cases hp : (xp != yp) with
                | false =>
                  have HP := Lib.hid hp
                  go_wp2_with fail
                  go_region_held3 (fun w' => w'.cell? ⟨b, off + i * 4, none⟩ = some (.int .i64 xk) ∧ w'.cell? ⟨b, off + i * 4 + 1, none⟩ = some (.int .i64 xp) ∧ w'.cell? ⟨b, off + i * 4 + 2, none⟩ = some (.int .i64 xd) ∧ w'.cell? ⟨b, off + i * 4 + 3, none⟩ = some (.string xo) ∧ w'.cell? ⟨b, off + k * 4, none⟩ = some (.int .i64 yk) ∧ w'.cell? ⟨b, off + k * 4 + 1, none⟩ = some (.int .i64 yp) ∧ w'.cell? ⟨b, off + k * 4 + 2, none⟩ = some (.int .i64 yd) ∧ w'.cell? ⟨b, off + k * 4 + 3, none⟩ = some (.string yo) ∧ w'.cell? ⟨w.heap.size, 0, none⟩ = some (.int .i64 lk) ∧ w'.cell? ⟨w.heap.size, 1, none⟩ = some (.int .i64 lp) ∧ w'.cell? ⟨w.heap.size, 2, none⟩ = some (.int .i64 ld) ∧ w'.cell? ⟨w.heap.size, 3, none⟩ = some (.string lo)) (go_keep)
                    (first
                     | (go_at_call_of 58 (Value.agg #[.int .i64 xk, .int .i64 xp, .int .i64 xd, .string xo]); refine (HFx.out _).mono ?_; rintro e wa ⟨rfl, hba⟩; have HBa : Hid (Below wr.heap.size wr wa) := ((Below.refl _ wr).drew).trans (hba.mono (by simp)); clear hba; obtain ⟨⟨ca0, ca1, ca2, ca3⟩, ⟨da0, da1, da2, da3⟩, ⟨fa0, fa1, fa2, fa3⟩⟩ := HAll.out _ HBa.out)
                     | (go_at_call_of 58 (Value.agg #[.int .i64 yk, .int .i64 yp, .int .i64 yd, .string yo]); refine (HFy.out _).mono ?_; rintro e wb ⟨rfl, hbb⟩; have HBb : Hid (Below wr.heap.size wr wb) := HBa.out.trans (hbb.mono HBa.out.size); clear hbb; obtain ⟨⟨cb0, cb1, cb2, cb3⟩, ⟨db0, db1, db2, db3⟩, ⟨fb0, fb1, fb2, fb3⟩⟩ := HAll.out _ HBb.out))
                  all_goals
                    (go_wp2_with fail
                     go_roundw
                     case rel => exact ⟨k + 1, by omega, by go_num, HNp.out (.inr (.inr (by simpa using HP.out))), HB2.out.trans (HBb.out.mono HB2.out.size)⟩
                     case measure => simp [intOf]; omega)
                | true =>
                  have ht := HYs.out rfl rfl (by simpa using hp)
                  subst ht
                  go_wp2_with fail
                  go_region_held3 (fun w' => w'.cell? ⟨b, off + i * 4, none⟩ = some (.int .i64 xk) ∧ w'.cell? ⟨b, off + i * 4 + 1, none⟩ = some (.int .i64 xp) ∧ w'.cell? ⟨b, off + i * 4 + 2, none⟩ = some (.int .i64 xd) ∧ w'.cell? ⟨b, off + i * 4 + 3, none⟩ = some (.string xo) ∧ w'.cell? ⟨b, off + k * 4, none⟩ = some (.int .i64 yk) ∧ w'.cell? ⟨b, off + k * 4 + 1, none⟩ = some (.int .i64 yp) ∧ w'.cell? ⟨b, off + k * 4 + 2, none⟩ = some (.int .i64 yd) ∧ w'.cell? ⟨b, off + k * 4 + 3, none⟩ = some (.string yo) ∧ w'.cell? ⟨w.heap.size, 0, none⟩ = some (.int .i64 lk) ∧ w'.cell? ⟨w.heap.size, 1, none⟩ = some (.int .i64 lp) ∧ w'.cell? ⟨w.heap.size, 2, none⟩ = some (.int .i64 ld) ∧ w'.cell? ⟨w.heap.size, 3, none⟩ = some (.string lo)) (go_keep)
                    (first
                     | (go_at_call_of 58 (Value.agg #[.int .i64 xk, .int .i64 xp, .int .i64 xd, .string xo]); refine (HFx.out _).mono ?_; rintro e wa ⟨rfl, hba⟩; have HBa : Hid (Below wr.heap.size wr wa) := ((Below.refl _ wr).drew).trans (hba.mono (by simp)); clear hba; obtain ⟨⟨ca0, ca1, ca2, ca3⟩, ⟨da0, da1, da2, da3⟩, ⟨fa0, fa1, fa2, fa3⟩⟩ := HAll.out _ HBa.out)
                     | (go_at_call_of 58 (Value.agg #[.int .i64 yk, .int .i64 yp, .int .i64 yd, .string yo]); refine (HFy.out _).mono ?_; rintro e wb ⟨rfl, hbb⟩; have HBb : Hid (Below wr.heap.size wr wb) := HBa.out.trans (hbb.mono HBa.out.size); clear hbb; obtain ⟨⟨cb0, cb1, cb2, cb3⟩, ⟨db0, db1, db2, db3⟩, ⟨fb0, fb1, fb2, fb3⟩⟩ := HAll.out _ HBb.out))
                  all_goals
                    (go_wp2_with fail
                     go_ret
                     exact ⟨rfl, HFin.out _ (HB2.out.trans (HBb.out.mono HB2.out.size))⟩)
          · have hki : k = i := by omega
            subst hki
            have j5 : ¬ (k : Int) < (k : Int) := by omega
            go_wp2_with fail
            go_roundw
            case rel => exact ⟨k + 1, _, by omega, by go_num, rfl, fun i' hi' => (by
              by_cases e : i' = k
              · subst e; exact HQ2.out
              · exact HQ.out i' (by omega)), HB2.out⟩
            case measure => simp [intOf]; omega
      · have hin : i = n := by omega
        subst hin
        have ht := HNo.out HQ.out
        subst ht
        go_wp2_with fail
        go_ret
        exact ⟨rfl, HFin.out _ HB.out⟩
  · have e0 : forceB acts ⟨lk, lp, ld, lo⟩ day = false := by unfold forceB; simp [hd]
    rw [e0]
    clear e0 hl hs
    generalize acts.length = n at *
    go_enter Tryd.func40, Tryd.ntmps40
    go_wp2_with fail
    go_ret
    exact ⟨rfl, (Below.refl _ w).alloc (Nat.le_refl _) _⟩

end Go.Proofs.YtaojnjealccjiaaDoor
