/- The reference's Put. -/
import Derived.Test.YtaojnjealccjiaaDoorRefs6
import Derived.Test.YtaojnjealccjiaaDoorSame
import Derived.Test.YtaojnjealccjiaaDoorMore
import Derived.Test.YtaojnjealccjiaaDoorPut
import Derived.Deep.RegionHeld3
import Derived.BigQuiet
namespace Go.Proofs.YtaojnjealccjiaaDoor
open Go Go.RowKit Kb Go.Lib
set_option linter.unusedVariables false

theorem own_dN {w : World} {B e size n : Nat} {v : Value} {xs : List Value} (h : w.ownsRow B e size v n xs) (q : Nat) : (w.drewN q).ownsRow B e size v n xs := h
theorem own_d1 {w : World} {B e size n : Nat} {v : Value} {xs : List Value} (h : w.ownsRow B e size v n xs) : (w.drew).ownsRow B e size v n xs := h
theorem put_fin {w : World} {v : Value} {W : World} {m : Nat} {L R : List Akt} {B : Nat} {o : Obj} (hm : m = L.length) (hR : L = R) (how : W.ownsRow B 30 4 v m (L.flatMap aktV)) (hb : Below (w.heap.size + 1) (w.alloc o) W) : TurnPost w R (.returned v) W := by
  subst hR
  obtain ⟨A', c', e, h⟩ := own_lst hm how
  exact ⟨A', c', by rw [e, hm], h, ((Below.refl _ w).alloc (Nat.le_refl _) o).trans (hb.mono (by omega))⟩

set_option maxHeartbeats 4000000 in
set_option maxRecDepth 100000 in
theorem ref_put (l : List Akt) (A : Option Addr) (c : Nat) (a : Akt) (w : World) (hl : Lst aktV 4 w A l) (hbig : l.length ≤ 1000) (hao : a.obj.size < 4294967281) :
    Calls Tryd.prog 33 #[.slice A l.length c, .agg #[.int .i64 a.kind, .int .i64 a.person, .int .i64 a.day, .string a.obj]] w (TurnPost w (putL l a)) := by
  obtain ⟨i0, hi0, hz0, hz1, hz2⟩ := info_parts Tryd.infoAct
  obtain ⟨ak, ap, ad, ao⟩ := a
  simp only at hao ⊢
  have hri := fun W => ref_right ak ap ad ao W hao
  have hbe := fun (x : Akt) (W : World) => ref_before x ⟨ak, ap, ad, ao⟩ W
  have hR' : ∀ R, putL l ⟨ak, ap, ad, ao⟩ = R → [] ++ putGo (!rightB ⟨ak, ap, ad, ao⟩) (l.drop 0) ⟨ak, ap, ad, ao⟩ = R := fun R h => by rw [← h]; rfl
  have hR2 := hR' _ rfl
  clear hR'
  generalize putL l ⟨ak, ap, ad, ao⟩ = R at hR2 ⊢
  generalize rightB ⟨ak, ap, ad, ao⟩ = ri at hri hR2
  have HRi := Lib.hid hri
  have HBeA := Lib.hid hbe
  have HR := Lib.hid hR2
  have HL := Lib.hid hl
  clear hl hri hbe hR2
  generalize hn : l.length = n at *
  have HN := Lib.hid hn
  clear hn
  go_enter Tryd.func33, Tryd.ntmps33
  go_wp2_with (go_at_call 19; refine (HRi.out _).mono ?_; rintro e w1 ⟨rfl, hb1⟩; have HB1 := Lib.hid hb1; clear hb1)
  go_loopw [5, 6, 7] (fun s5 s6 s7 wr => ∃ (k m : Nat) (d : Bool) (v5 : Value) (L : List Akt), k ≤ n ∧ m ≤ 2 * k ∧ s7 = .int .i64 k ∧ s6 = .bool d ∧ v5 = s5 ∧ Hid (m = L.length) ∧ Hid (wr.ownsRow (w.heap.size + 1) 30 4 v5 m (L.flatMap aktV)) ∧ Hid (L ++ putGo d (l.drop k) ⟨ak, ap, ad, ao⟩ = R) ∧ Hid (Below (w.heap.size + 1) (w.alloc (.cells #[.int .i64 ak, .int .i64 ap, .int .i64 ad, .string ao] 30)) wr)) (fun _ _ s7 _ => n - (intOf s7).toNat)
  case atStart => exact ⟨0, 0, !ri, _, [], Nat.zero_le _, Nat.zero_le _, rfl, rfl, rfl, Lib.hid rfl, Lib.hid (own_below (made_at (W := (w.alloc (.cells #[.int .i64 ak, .int .i64 ap, .int .i64 ad, .string ao] 30))) (by simp) (by omega)) HB1.out), HR, Lib.hid (((Below.refl _ (w.alloc (.cells #[.int .i64 ak, .int .i64 ap, .int .i64 ad, .string ao] 30))).alloc (by simp) _).trans (HB1.out.mono (by simp)))⟩
  case round =>
    obtain ⟨k, m, d, v5, L, hk, hm, rfl, rfl, rfl, HM, HOw, HQ, HB⟩ := hrel
    clear HB1
    have HBs : (w.heap.size + 1) ≤ wr.heap.size := by have := HB.out.size; simp at this; exact this
    have HBsz : (w.heap.size + 1) ≤ wr.heap.size := HBs
    by_cases hlt : k < n
    · have hkl : k < l.length := by rw [HN.out]; exact hlt
      obtain ⟨b, off, rfl, hbl, h4⟩ := at4_of HL.out hkl
      have hall : ∀ W, Below (w.heap.size + 1) (w.alloc (.cells #[.int .i64 ak, .int .i64 ap, .int .i64 ad, .string ao] 30)) W → At4 W b (off + k * 4) l[k] ∧ At4 W w.heap.size 0 ⟨ak, ap, ad, ao⟩ := fun W h =>
        ⟨(h4.alloc hbl _).below h (by omega), At4.below (w := (w.alloc (.cells #[.int .i64 ak, .int .i64 ap, .int .i64 ad, .string ao] 30))) ⟨by simp, by simp, by simp, by simp⟩ h (by omega)⟩
      have hdr : l.drop k = l[k] :: l.drop (k + 1) := List.drop_eq_getElem_cons hkl
      have hq := HQ.out
      rw [hdr] at hq
      clear hdr HQ
      have hbe := HBeA.out l[k]
      generalize l[k] = x at hall hq hbe
      clear h4
      obtain ⟨xk, xp, xd, xo⟩ := x
      obtain ⟨⟨c0, c1, c2, c3⟩, ⟨f0, f1, f2, f3⟩⟩ := hall _ HB.out
      simp only at c0 c1 c2 c3 f0 f1 f2 f3 hbe
      have HAll := Lib.hid hall
      have HBe := Lib.hid hbe
      clear hall hbe
      have j1 : (k : Int) < (n : Int) := by omega
      have j3 : (0 : Int) ≤ (k : Int) := by omega
      cases d with
      | true =>
        rw [putGo_done] at hq
        have HQ := Lib.hid hq
        clear hq
        go_wp2_with fail
        go_quiet (fail)
        have HBa : Hid (Below wr.heap.size wr (wr.drewN nq)) := below_drewN (Below.refl _ wr) _
        generalize wr.drewN nq = wa at HBa ⊢
        have HOa := Lib.hid (own_below HOw.out HBa.out)
        have HB3 := Lib.hid (HB.out.trans (HBa.out.mono HBsz))
        have HBs3 : (w.heap.size + 1) ≤ wa.heap.size := by have := HB3.out.size; simp at this; exact this
        obtain ⟨⟨ca0, ca1, ca2, ca3⟩, ⟨fa0, fa1, fa2, fa3⟩⟩ := HAll.out _ HB3.out
        simp only at ca0 ca1 ca2 ca3 fa0 fa1 fa2 fa3
        go_wp2_with (at_builtin; (refine wpList_append_any _ rfl (.tmp 39) (.tmp 44) _ rfl (w.heap.size + 1) 30 i0 _ 4 40 Tryd.underlying22 hi0 hz0 hz1 hz2 rfl (by omega) _ m _ rfl (World.ownsRow.alloc (HOa.out) _) (wa.heap.size + 1) (some ⟨wa.heap.size, 0, none⟩) 1 1 (aktV ⟨xk, xp, xd, xo⟩) rfl (reads_one ⟨by simp, by simp, by simp, by simp⟩ (by omega)) (one_akt _) (by simp only [maxLen]; omega) (by omega) (by first | omega | (simp; omega)) ?_; intro v2 w2 hown2 hg2 hat2; have hbw2 : Below (w.heap.size + 1) (w.alloc (.cells #[.int .i64 ak, .int .i64 ap, .int .i64 ad, .string ao] 30)) w2 := (Below.alloc (HB3.out) (by first | omega | (simp; omega)) _).grown hg2 (by first | omega | (simp; omega)) (fun j hj => (World.ownsRow.lt (HOa.out) j hj).1); have HO2 := Lib.hid hown2; have HB2 := Lib.hid hbw2; clear hown2 hg2 hat2 hbw2))
        go_roundw
        case rel => exact ⟨k + 1, (m + 1), true, _, (L ++ [⟨xk, xp, xd, xo⟩]), by omega, by omega, by go_num, rfl, rfl, Lib.hid (by have h8 := HM.out; simp; omega), Lib.hid (by have h9 := HO2.out; simpa using h9), Lib.hid (by rw [putGo_done]; have h9 := HQ.out; simpa using h9), HB2.out⟩
        case measure => simp [intOf]; omega
      | false =>
        cases hlx : decide (ltAct ⟨xk, xp, xd, xo⟩ ⟨ak, ap, ad, ao⟩) with
        | true =>
          rw [putGo_lt (of_decide_eq_true hlx)] at hq
          have HQ := Lib.hid hq
          have hbe := HBe.out
          rw [hlx] at hbe
          have HBe := Lib.hid hbe
          clear hq hbe hlx
          go_wp2_with fail
          go_region_held3 (fun w' => w'.cell? ⟨b, off + k * 4, none⟩ = some (.int .i64 xk) ∧ w'.cell? ⟨b, off + k * 4 + 1, none⟩ = some (.int .i64 xp) ∧ w'.cell? ⟨b, off + k * 4 + 2, none⟩ = some (.int .i64 xd) ∧ w'.cell? ⟨b, off + k * 4 + 3, none⟩ = some (.string xo) ∧ w'.cell? ⟨w.heap.size, 0, none⟩ = some (.int .i64 ak) ∧ w'.cell? ⟨w.heap.size, 1, none⟩ = some (.int .i64 ap) ∧ w'.cell? ⟨w.heap.size, 2, none⟩ = some (.int .i64 ad) ∧ w'.cell? ⟨w.heap.size, 3, none⟩ = some (.string ao)) (go_keep)
            (first | (go_at_call 51; refine (HBe.out _).mono ?_; rintro e wa ⟨rfl, hba⟩; have HBa : Hid (Below wr.heap.size wr wa) := ((Below.refl _ wr).drew).trans (hba.mono (by simp)); clear hba; obtain ⟨⟨ca0, ca1, ca2, ca3⟩, ⟨fa0, fa1, fa2, fa3⟩⟩ := HAll.out _ (HB.out.trans (HBa.out.mono HBsz))))
          all_goals
            (have HOa := Lib.hid (own_below HOw.out HBa.out)
             have HB3 := Lib.hid (HB.out.trans (HBa.out.mono HBsz))
             have HBs3 : (w.heap.size + 1) ≤ wa.heap.size := by have := HB3.out.size; simp at this; exact this
             go_wp2_with (at_builtin; (refine wpList_append_any _ rfl (.tmp 39) (.tmp 44) _ rfl (w.heap.size + 1) 30 i0 _ 4 40 Tryd.underlying22 hi0 hz0 hz1 hz2 rfl (by omega) _ m _ rfl (World.ownsRow.alloc (HOa.out) _) (wa.heap.size + 1) (some ⟨wa.heap.size, 0, none⟩) 1 1 (aktV ⟨xk, xp, xd, xo⟩) rfl (reads_one ⟨by simp, by simp, by simp, by simp⟩ (by omega)) (one_akt _) (by simp only [maxLen]; omega) (by omega) (by first | omega | (simp; omega)) ?_; intro v2 w2 hown2 hg2 hat2; have hbw2 : Below (w.heap.size + 1) (w.alloc (.cells #[.int .i64 ak, .int .i64 ap, .int .i64 ad, .string ao] 30)) w2 := (Below.alloc (HB3.out) (by first | omega | (simp; omega)) _).grown hg2 (by first | omega | (simp; omega)) (fun j hj => (World.ownsRow.lt (HOa.out) j hj).1); have HO2 := Lib.hid hown2; have HB2 := Lib.hid hbw2; clear hown2 hg2 hat2 hbw2))
             go_roundw
             case rel => exact ⟨k + 1, (m + 1), false, _, (L ++ [⟨xk, xp, xd, xo⟩]), by omega, by omega, by go_num, rfl, rfl, Lib.hid (by have h8 := HM.out; simp; omega), Lib.hid (by have h9 := HO2.out; simpa using h9), Lib.hid (by have h9 := HQ.out; simpa using h9), HB2.out⟩
             case measure => simp [intOf]; omega)
        | false =>
          have hbe := HBe.out
          rw [hlx] at hbe
          have HBe := Lib.hid hbe
          clear hbe
          cases hex : decide (⟨xk, xp, xd, xo⟩ = (⟨ak, ap, ad, ao⟩ : Akt)) with
          | true =>
            rw [putGo_eq (of_decide_eq_false hlx) (of_decide_eq_true hex)] at hq
            have HQ := Lib.hid hq
            have hneq : ∀ W, (binOp .neq 30 (.agg #[.int .i64 xk, .int .i64 xp, .int .i64 xd, .string xo]) (.agg #[.int .i64 ak, .int .i64 ap, .int .i64 ad, .string ao])).run Tryd.prog W = .ok (.bool false) W := fun W => (neq_act ⟨xk, xp, xd, xo⟩ ⟨ak, ap, ad, ao⟩ W).trans (by rw [hex]; rfl)
            clear hq hlx hex
            go_wp2_with fail
            go_region_held3 (fun w' => w'.cell? ⟨b, off + k * 4, none⟩ = some (.int .i64 xk) ∧ w'.cell? ⟨b, off + k * 4 + 1, none⟩ = some (.int .i64 xp) ∧ w'.cell? ⟨b, off + k * 4 + 2, none⟩ = some (.int .i64 xd) ∧ w'.cell? ⟨b, off + k * 4 + 3, none⟩ = some (.string xo) ∧ w'.cell? ⟨w.heap.size, 0, none⟩ = some (.int .i64 ak) ∧ w'.cell? ⟨w.heap.size, 1, none⟩ = some (.int .i64 ap) ∧ w'.cell? ⟨w.heap.size, 2, none⟩ = some (.int .i64 ad) ∧ w'.cell? ⟨w.heap.size, 3, none⟩ = some (.string ao)) (go_keep)
              (first | (go_at_call 51; refine (HBe.out _).mono ?_; rintro e wa ⟨rfl, hba⟩; have HBa : Hid (Below wr.heap.size wr wa) := ((Below.refl _ wr).drew).trans (hba.mono (by simp)); clear hba; obtain ⟨⟨ca0, ca1, ca2, ca3⟩, ⟨fa0, fa1, fa2, fa3⟩⟩ := HAll.out _ (HB.out.trans (HBa.out.mono HBsz))))
            all_goals
              (go_wp2_with fail
               go_quiet (fail)
               have HBb : Hid (Below wr.heap.size wr (wa.drewN nq)) := below_drewN HBa.out _
               generalize wa.drewN nq = wb at HBb ⊢
               have HOa := Lib.hid (own_below HOw.out HBb.out)
               have HB3 := Lib.hid (HB.out.trans (HBb.out.mono HBsz))
               have HBs3 : (w.heap.size + 1) ≤ wb.heap.size := by have := HB3.out.size; simp at this; exact this
               obtain ⟨⟨cb0, cb1, cb2, cb3⟩, ⟨fb0, fb1, fb2, fb3⟩⟩ := HAll.out _ HB3.out
               simp only at cb0 cb1 cb2 cb3 fb0 fb1 fb2 fb3
               go_wp2_with (at_builtin; (refine wpList_append_any _ rfl (.tmp 39) (.tmp 44) _ rfl (w.heap.size + 1) 30 i0 _ 4 40 Tryd.underlying22 hi0 hz0 hz1 hz2 rfl (by omega) _ m _ rfl (World.ownsRow.alloc (HOa.out) _) (wb.heap.size + 1) (some ⟨wb.heap.size, 0, none⟩) 1 1 (aktV ⟨xk, xp, xd, xo⟩) rfl (reads_one ⟨by simp, by simp, by simp, by simp⟩ (by omega)) (one_akt _) (by simp only [maxLen]; omega) (by omega) (by first | omega | (simp; omega)) ?_; intro v2 w2 hown2 hg2 hat2; have hbw2 : Below (w.heap.size + 1) (w.alloc (.cells #[.int .i64 ak, .int .i64 ap, .int .i64 ad, .string ao] 30)) w2 := (Below.alloc (HB3.out) (by first | omega | (simp; omega)) _).grown hg2 (by first | omega | (simp; omega)) (fun j hj => (World.ownsRow.lt (HOa.out) j hj).1); have HO2 := Lib.hid hown2; have HB2 := Lib.hid hbw2; clear hown2 hg2 hat2 hbw2))
               go_roundw
               case rel => exact ⟨k + 1, (m + 1), true, _, (L ++ [⟨xk, xp, xd, xo⟩]), by omega, by omega, by go_num, rfl, rfl, Lib.hid (by have h8 := HM.out; simp; omega), Lib.hid (by have h9 := HO2.out; simpa using h9), Lib.hid (by rw [putGo_done]; have h9 := HQ.out; simpa using h9), HB2.out⟩
               case measure => simp [intOf]; omega)
          | false =>
            rw [putGo_ne (of_decide_eq_false hlx) (of_decide_eq_false hex)] at hq
            have HQ := Lib.hid hq
            have hneq : ∀ W, (binOp .neq 30 (.agg #[.int .i64 xk, .int .i64 xp, .int .i64 xd, .string xo]) (.agg #[.int .i64 ak, .int .i64 ap, .int .i64 ad, .string ao])).run Tryd.prog W = .ok (.bool true) W := fun W => (neq_act ⟨xk, xp, xd, xo⟩ ⟨ak, ap, ad, ao⟩ W).trans (by rw [hex]; rfl)
            clear hq hlx hex
            go_wp2_with fail
            go_region_held3 (fun w' => w'.cell? ⟨b, off + k * 4, none⟩ = some (.int .i64 xk) ∧ w'.cell? ⟨b, off + k * 4 + 1, none⟩ = some (.int .i64 xp) ∧ w'.cell? ⟨b, off + k * 4 + 2, none⟩ = some (.int .i64 xd) ∧ w'.cell? ⟨b, off + k * 4 + 3, none⟩ = some (.string xo) ∧ w'.cell? ⟨w.heap.size, 0, none⟩ = some (.int .i64 ak) ∧ w'.cell? ⟨w.heap.size, 1, none⟩ = some (.int .i64 ap) ∧ w'.cell? ⟨w.heap.size, 2, none⟩ = some (.int .i64 ad) ∧ w'.cell? ⟨w.heap.size, 3, none⟩ = some (.string ao)) (go_keep)
              (first | (go_at_call 51; refine (HBe.out _).mono ?_; rintro e wa ⟨rfl, hba⟩; have HBa : Hid (Below wr.heap.size wr wa) := ((Below.refl _ wr).drew).trans (hba.mono (by simp)); clear hba; obtain ⟨⟨ca0, ca1, ca2, ca3⟩, ⟨fa0, fa1, fa2, fa3⟩⟩ := HAll.out _ (HB.out.trans (HBa.out.mono HBsz))))
            all_goals
              (go_wp2_with fail
               go_quiet (fail)
               have HBb : Hid (Below wr.heap.size wr (wa.drewN nq)) := below_drewN HBa.out _
               generalize wa.drewN nq = wb at HBb ⊢
               have HOa := Lib.hid (own_below HOw.out HBb.out)
               have HB3 := Lib.hid (HB.out.trans (HBb.out.mono HBsz))
               have HBs3 : (w.heap.size + 1) ≤ wb.heap.size := by have := HB3.out.size; simp at this; exact this
               obtain ⟨⟨cb0, cb1, cb2, cb3⟩, ⟨fb0, fb1, fb2, fb3⟩⟩ := HAll.out _ HB3.out
               simp only at cb0 cb1 cb2 cb3 fb0 fb1 fb2 fb3
               go_wp2_with (first | (at_builtin; (refine wpList_append_any _ rfl (.tmp 35) (.tmp 37) _ rfl (w.heap.size + 1) 30 i0 _ 4 40 Tryd.underlying22 hi0 hz0 hz1 hz2 rfl (by omega) _ m _ rfl (World.ownsRow.alloc (HOa.out) _) (wb.heap.size + 1) (some ⟨wb.heap.size, 0, none⟩) 1 1 (aktV ⟨ak, ap, ad, ao⟩) rfl (reads_one ⟨by simp, by simp, by simp, by simp⟩ (by omega)) (one_akt _) (by simp only [maxLen]; omega) (by omega) (by first | omega | (simp; omega)) ?_; intro v2 w2 hown2 hg2 hat2; have hbw2 : Below (w.heap.size + 1) (w.alloc (.cells #[.int .i64 ak, .int .i64 ap, .int .i64 ad, .string ao] 30)) w2 := (Below.alloc (HB3.out) (by first | omega | (simp; omega)) _).grown hg2 (by first | omega | (simp; omega)) (fun j hj => (World.ownsRow.lt (HOa.out) j hj).1); have HO2 := Lib.hid hown2; have HB2 := Lib.hid hbw2; clear hown2 hg2 hat2 hbw2); obtain ⟨⟨cd0, cd1, cd2, cd3⟩, ⟨fd0, fd1, fd2, fd3⟩⟩ := HAll.out _ HB2.out; simp only at cd0 cd1 cd2 cd3; have HBs4 : (w.heap.size + 1) ≤ w2.heap.size := (by have := HB2.out.size; simp at this; exact this)) | (at_builtin; (refine wpList_append_any _ rfl (.tmp 39) (.tmp 44) _ rfl (w.heap.size + 1) 30 i0 _ 4 40 Tryd.underlying22 hi0 hz0 hz1 hz2 rfl (by omega) _ (m + 1) _ rfl (World.ownsRow.alloc (HO2.out) _) (w2.heap.size + 1) (some ⟨w2.heap.size, 0, none⟩) 1 1 (aktV ⟨xk, xp, xd, xo⟩) rfl (reads_one ⟨by simp, by simp, by simp, by simp⟩ (by omega)) (one_akt _) (by simp only [maxLen]; omega) (by omega) (by first | omega | (simp; omega)) ?_; intro v3 w3 hown3 hg3 hat3; have hbw3 : Below (w.heap.size + 1) (w.alloc (.cells #[.int .i64 ak, .int .i64 ap, .int .i64 ad, .string ao] 30)) w3 := (Below.alloc (HB2.out) (by first | omega | (simp; omega)) _).grown hg3 (by first | omega | (simp; omega)) (fun j hj => (World.ownsRow.lt (HO2.out) j hj).1); have HO3 := Lib.hid hown3; have HB3 := Lib.hid hbw3; clear hown3 hg3 hat3 hbw3)))
               go_roundw
               case rel => exact ⟨k + 1, m + 2, true, _, L ++ [⟨ak, ap, ad, ao⟩, ⟨xk, xp, xd, xo⟩], by omega, by omega, by go_num, rfl, rfl, Lib.hid (by have h8 := HM.out; simp; omega), Lib.hid (by have h9 := HO3.out; simpa using h9), Lib.hid (by rw [putGo_done]; have h9 := HQ.out; simpa using h9), HB3.out⟩
               case measure => simp [intOf]; omega)
    · obtain rfl : k = n := by omega
      have hd0 : l.drop k = [] := List.drop_eq_nil_of_le (by rw [HN.out]; exact Nat.le_refl _)
      have hq := HQ.out
      rw [hd0] at hq
      clear hd0 HQ
      have j1 : ¬ (k : Int) < (k : Int) := by omega
      cases d with
      | true =>
        rw [putGo_done] at hq
        have HQ := Lib.hid hq
        clear hq
        go_wp2_with fail
        go_ret
        exact put_fin HM.out (by have h9 := HQ.out; simpa using h9) HOw.out HB.out
      | false =>
        have HQ := Lib.hid hq
        clear hq
        obtain ⟨f0, f1, f2, f3⟩ : At4 wr w.heap.size 0 ⟨ak, ap, ad, ao⟩ := At4.below (w := (w.alloc (.cells #[.int .i64 ak, .int .i64 ap, .int .i64 ad, .string ao] 30))) ⟨by simp, by simp, by simp, by simp⟩ HB.out (by omega)
        simp only at f0 f1 f2 f3
        go_wp2_with (at_builtin; (refine wpList_append_any _ rfl (.tmp 48) (.tmp 50) _ rfl (w.heap.size + 1) 30 i0 _ 4 40 Tryd.underlying22 hi0 hz0 hz1 hz2 rfl (by omega) _ m _ rfl (World.ownsRow.alloc (HOw.out) _) (wr.heap.size + 1) (some ⟨wr.heap.size, 0, none⟩) 1 1 (aktV ⟨ak, ap, ad, ao⟩) rfl (reads_one ⟨by simp, by simp, by simp, by simp⟩ (by omega)) (one_akt _) (by simp only [maxLen]; omega) (by omega) (by first | omega | (simp; omega)) ?_; intro v2 w2 hown2 hg2 hat2; have hbw2 : Below (w.heap.size + 1) (w.alloc (.cells #[.int .i64 ak, .int .i64 ap, .int .i64 ad, .string ao] 30)) w2 := (Below.alloc (HB.out) (by first | omega | (simp; omega)) _).grown hg2 (by first | omega | (simp; omega)) (fun j hj => (World.ownsRow.lt (HOw.out) j hj).1); have HO2 := Lib.hid hown2; have HB2 := Lib.hid hbw2; clear hown2 hg2 hat2 hbw2))
        go_ret
        exact put_fin (m := m + 1) (L := L ++ [⟨ak, ap, ad, ao⟩]) (by have h8 := HM.out; simp; omega) (by have h9 := HQ.out; simpa [putGo] using h9) (by have h9 := HO2.out; simpa using h9) HB2.out

end Go.Proofs.YtaojnjealccjiaaDoor
