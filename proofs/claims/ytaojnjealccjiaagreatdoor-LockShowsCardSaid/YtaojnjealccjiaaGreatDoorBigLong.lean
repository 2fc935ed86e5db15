/- The contract of big.div, second part: long division. -/
import Derived.Test.YtaojnjealccjiaaGreatDoorBigDiv
import Derived.Test.YtaojnjealccjiaaGreatDoorBigPack
namespace Go.Proofs.YtaojnjealccjiaaGreatDoor
open Go Go.RowKit Bg Go.Proofs
set_option linter.unusedVariables false

theorem OwnD.row {w : World} {g cc n base : Nat} (h : OwnD w g cc n) (hc : cc ≤ maxLen) (hb : base ≤ g) : w.ownsRow base 3 1 (.slice (some ⟨g, 0, none⟩) (dig n).length cc) (dig n).length ((dig n).map nv) := by
  obtain ⟨k, hk, hB⟩ := h
  refine ⟨by simp, .inr ⟨g, cc, _, rfl, hb, hB, by omega, hc, by simp; omega, ?_⟩⟩
  simp
/-- a row of the call's own, as a block -/
theorem row_blk {w : World} {base n : Nat} {v : Value} {xs : List Value} (h : w.ownsRow base 3 1 v n xs) (hn : 0 < n) : ∃ g cap rest, v = .slice (some ⟨g, 0, none⟩) n cap ∧ base ≤ g ∧ n ≤ cap ∧ Blk w g 3 (xs ++ rest) := by
  obtain ⟨h0, h1⟩ := h
  rcases h1 with ⟨h1, h2⟩ | ⟨g, cap, cur, h1, h2, h3, h4, h5, h6, h7⟩
  · omega
  · refine ⟨g, cap, cur.toList.drop (n * 1), h1, h2, h4, ?_⟩
    rw [← h7, List.take_append_drop]
    unfold Blk
    rw [h3]

theorem Blk.udg {w : World} {g : Nat} {u : List Nat} {rest : List Value} (h : Blk w g 3 (u.map nv ++ rest)) (hd : Dig u) {i : Nat} (hi : i < u.length) : ∃ d : Nat, w.cell? ⟨g, i, none⟩ = some (.int .i64 (d : Int)) ∧ d < 1048576 ∧ Hid (u.getD i 0 = d) := by
  refine ⟨u.getD i 0, ?_, hd.get i, rfl⟩
  rw [h.cell, List.getElem?_append_left (by simpa using hi)]
  simp [nv, hi]
/-- what the main loop keeps: the digits from k on are divided -/
def DivAt (v : List Nat) (T m gu gv gq : Nat) (rest : List Value) (w wr : World) (k : Nat) : Prop :=
  ∃ u q : List Nat, u.length = m + v.length ∧ q.length = m ∧ Dig u ∧ Dig q ∧ Blk wr gu 3 (u.map nv ++ rest) ∧ Blk wr gq 3 (q.map nv) ∧ Arr wr (some ⟨gv, 0, none⟩) (v.map nv) ∧
    val u + val v * (1048576 ^ k * val (q.drop k)) = T ∧ val (u.drop k) < val v ∧ Below w.heap.size w wr

/-- the window of the digits that settle is handed -/
theorem div_settle {v u : List Nat} {gu gv cu cv j n' g N : Nat} {rest : List Value} {wo : World} (hwin : Win u v j n') (hBu : Blk wo gu 3 (u.map nv ++ rest)) (hAv : Arr wo (some ⟨gv, 0, none⟩) (v.map nv)) (hne : gu < gv) (hl : u.length ≤ 400002)
    (hgl : g < 1048576) (hx : (g - 1) * val v ≤ val (u.drop j)) :
    Calls Tryz.prog 162 #[.slice (some ⟨gu, j, none⟩) (v.length + 1) (cu - j), .slice (some ⟨gv, 0, none⟩) v.length cv, .int .i64 (g : Int)] (wo.drewN N)
      (SettlePost ((u.take j).map nv) ((u.drop (j + (n' + 3))).map nv ++ rest) ((u.drop j).take (n' + 3)) v g gu (wo.drewN N)) := by
  have hn := hwin.hn
  have hj := hwin.hj
  have hlw : ((u.drop j).take (n' + 3)).length = v.length + 1 := by simp; omega
  have hlp : ((u.take j).map nv).length = j := by simp; omega
  have hset := big_settle ((u.take j).map nv) ((u.drop (j + (n' + 3))).map nv ++ rest) ((u.drop j).take (n' + 3)) v g gu (cu - j) (some ⟨gv, 0, none⟩) cv (wo.drewN N)
    ((hwin.hu.drop_ j).take_ _) hwin.hv (by omega) (by omega) hgl (by
      show Blk (wo.drewN N) gu 3 _
      have e : (u.take j).map nv ++ (((u.drop j).take (n' + 3)).map nv ++ ((u.drop (j + (n' + 3))).map nv ++ rest)) = u.map nv ++ rest := by
        rw [← List.append_assoc, ← List.append_assoc, ← List.map_append, ← List.map_append]
        congr 2
        rw [List.append_assoc]
        conv => rhs; rw [← List.take_append_drop j u]
        congr 1
        rw [← List.drop_drop]
        exact List.take_append_drop _ _
      rw [e]
      exact hBu) (hAv.drewN N) (fun b o e h => by injection e with e; injection e with e; omega) (.inr (by rw [hwin.val_]; exact hx))
  rw [hlp, hlw] at hset
  exact hset
theorem div_round {v u q : List Nat} {T m gu gv gq j n' g N : Nat} {rest : List Value} {w wo w1 : World} {e : Ending} (hwin : Win u v j n') (hlu : u.length = m + v.length) (hlq : q.length = m) (hjm : j < m) (hdq : Dig q) (hBq : Blk wo gq 3 (q.map nv)) (hAv : Arr wo (some ⟨gv, 0, none⟩) (v.map nv))
    (hval : val u + val v * (1048576 ^ (j + 1) * val (q.drop (j + 1))) = T) (hbw : Below w.heap.size w wo) (h1 : w.heap.size ≤ gu) (h2 : gu < gv) (h3 : gv < gq) (hq : val (u.drop j) / val v ≤ g) (hx : (g - 1) * val v ≤ val (u.drop j))
    (hs : SettlePost ((u.take j).map nv) ((u.drop (j + (n' + 3))).map nv ++ rest) ((u.drop j).take (n' + 3)) v g gu (wo.drewN N) e w1) :
    ∃ d : Nat, e = .returned (.int .i64 (d : Int)) ∧ Blk w1 gq 3 (q.map nv) ∧ DivAt v T m gu gv gq rest w (w1.setCell ⟨gq, j, none⟩ (.int .i64 (d : Int))) j := by
  obtain ⟨u', k1, k2, k3, k4, k5, k6⟩ := hs
  have hn := hwin.hn
  have hj := hwin.hj
  rw [hwin.val_, settle_is g _ _ hwin.pos hq (.inr hx)] at k3 k4
  have hlw : ((u.drop j).take (n' + 3)).length = n' + 3 := by simp; omega
  rw [hlw] at k1
  have hB1 : Blk w1 gq 3 (q.map nv) := (k6.block gq (by have := hBq.lt; simpa using this) (fun h => by injection h with h; omega)).trans hBq
  have hnx := hwin.next (q := q) k1 k3 (by omega)
  have hgr : (wo.drewN N).grownBy w1 (some gu) := k6
  refine ⟨_, k4, hB1, swap u j (n' + 3) u', q.set j (val (u.drop j) / val v), ?_, by simpa using hlq, swap_dig hwin.hu k2, hdq.set_ _ hwin.quot, ?_, hB1.nset _ _, ?_, ?_, hnx.1, ?_⟩
  · rw [swap_len k1 (by omega)]; exact hlu
  · have hw' : Blk w1 gu 3 ((swap u j (n' + 3) u').map nv ++ rest) := by
      have : Blk w1 gu 3 _ := k5
      unfold swap
      simpa using this
    exact (Below.heap_setCell w1 ⟨gq, j, none⟩ _ gu (fun e => by simp at e; omega)).trans hw'
  · have a1 := (hAv.drewN N).grown hgr (fun b o e h => by injection e with e; injection e with e; injection h with h; omega)
    exact a1.grown (grown_set (World.grownBy.refl w1 (some gq)) j _) (fun b o e h => by injection e with e; injection e with e; injection h with h; omega)
  · rw [hnx.2]; exact hval
  · have b1 : Below w.heap.size w (wo.drewN N) := below_drewN hbw N
    have b2 := b1.grown hgr (by have := hbw.size; simpa using this) (fun k hk => by injection hk with hk; omega)
    exact b2.setCell (p := ⟨gq, j, none⟩) (show w.heap.size ≤ gq by omega) _

set_option maxRecDepth 100000 in
set_option maxHeartbeats 4000000 in
theorem big_div_long (a b : List Nat) (A A' : Option Addr) (c c' : Nat) (w : World) (hca : Canon a) (hcb : Canon b) (ha : Arr w A (a.map nv)) (hb : Arr w A' (b.map nv)) (hl : a.length ≤ 400000) (hl' : b.length ≤ 400000) (h2 : 2 ≤ b.length) (hle : val b ≤ val a) :
    Calls Tryz.prog 138 #[.slice A a.length c, .slice A' b.length c'] w (DivPost (val a) (val b) w) := by
  have hcmp := big_compare a b A A' c c' w hca hcb ha hb (by omega) (by omega)
  have hge : ¬ cmpN (val a) (val b) < 0 := by
    rcases Nat.lt_or_ge (val b) (val a) with h | h
    · rw [cmpN_gt h]; omega
    · rw [cmpN_eq (by omega)]; omega
  have HC := Lib.hid hcmp
  have HG := Lib.hid hge
  clear hcmp hge
  obtain ⟨b1, off1, y, rfl, hlt1, hcell1, hyl, HY⟩ := hb.dg hcb.1 (k := b.length - 1) (by omega)
  have hy0 : 0 < y := by
    have := hcb.2 (fun e => by subst e; simp at h2)
    rw [List.getLast_eq_getElem, ← getD_lt, HY.out] at this
    omega
  have hb1n : ((b.length : Int) == 1) = false := by simp; omega
  go_enter Tryz.func138, Tryz.ntmps138
  go_wp2_with fail
  refine HC.out.mono ?_
  rintro e w' ⟨rfl, n, rfl⟩
  have hge := HG.out
  generalize cmpN (val a) (val b) = z at hge
  clear HC HG
  have hge2 : decide (z < 0) = false := by simpa using hge
  go_wp2_with fail
  go_loop [8] (fun t => ∃ s : Nat, 0 < s ∧ s < 1048576 ∧ t = .int .i64 (s : Int)) (fun t => 1048576 - (intOf t).toNat)
  case atStart => exact ⟨1, by omega, by omega, rfl⟩
  case round =>
    obtain ⟨s, hs0, hs, rfl⟩ := hrel
    have hp1 : (y : Int) * (s : Int) ≤ 1099509530625 := by
      have : y * s ≤ 1048575 * 1048575 := Nat.mul_le_mul (by omega) (by omega)
      have e : (y : Int) * (s : Int) = ((y * s : Nat) : Int) := by simp
      omega
    have hp0 : 0 ≤ (y : Int) * (s : Int) := Int.mul_nonneg (by omega) (by omega)
    cases hq : decide ((y : Int) * (s : Int) < 524288) with
    | true =>
      have hs2 : s < 524288 := by
        have h1 : (y : Int) * (s : Int) < 524288 := by simpa using hq
        have h3 : 1 * s ≤ y * s := Nat.mul_le_mul_right s hy0
        have e : (y : Int) * (s : Int) = ((y * s : Nat) : Int) := by simp
        omega
      go_wp2
      go_round
      case rel => exact ⟨s * 2, by omega, by omega, int_eq (by omega)⟩
      case measure => simp [intOf]; omega
    | false =>
      have hv1 : val [s] = s := by simp [val]
      have hds : Dig [s] := Dig.cons hs Dig.nil
      have hm1 := big_mul a [s] A (some ⟨w.heap.size, 0, none⟩) c 1 ((w.drewN n).alloc (.cells #[.int .i64 (s : Int)] 3)) hca.1 hds ((ha.drewN n).alloc _) (Blk.arr (t := 3) (heap_alloc_new (w.drewN n) _)) (by simp; omega)
      rw [hv1] at hm1
      have HM := Lib.hid hm1
      clear hm1
      go_wp2_with fail
      refine HM.out.mono ?_
      have e0 : ((w.drewN n).alloc (.cells #[.int .i64 (s : Int)] 3)).heap.size = w.heap.size + 1 := by simp
      rw [e0]
      clear e0
      rintro e w1 ⟨cc, rfl, hcc, hcm, hown, hb1⟩
      clear HM
      have hbw : Below w.heap.size w w1 := (below_drewN_left ((Below.refl w.heap.size (w.drewN n)).alloc (Nat.le_refl _) _)).trans (hb1.mono (by simp))
      have hg1 : w.heap.size + 1 < w1.heap.size := hown.lt
      have hrow := hown.row (base := w.heap.size) (by unfold maxLen; omega) (by omega)
      have hlen1 : (dig (val a * s)).length ≤ a.length + 1 := dig_len_of_lt (by
        rw [Nat.pow_succ]
        exact Nat.mul_lt_mul'' (val_lt hca.1) hs)
      obtain ⟨i0, hi0, hz0, hz1, hz2⟩ := info_parts Tryz.infoI
      clear hown
      go_wp2_with (at_builtin; refine wpList_append_any _ rfl (.tmp 54) (.tmp 55) _ rfl w.heap.size 3 i0 _ 1 8 Tryz.underlying38 hi0 hz0 hz1 hz2 rfl (by omega) _ (dig (val a * s)).length ((dig (val a * s)).map nv) rfl ?c1 (w1.heap.size + 1) (some ⟨w1.heap.size, 0, none⟩) 1 1 [nv 0] rfl ?c2 ?c3 ?c4 ?c5 ?c6 ?_)
      case c1 => exact hrow.alloc _
      case c2 => exact ⟨rfl, fun _ => ⟨_, rfl, by simp, fun j u hu => by
        rcases j with _ | j
        · obtain rfl : u = nv 0 := by simpa using hu.symm
          exact (Blk.cell (t := 3) (cs := [nv 0]) (heap_alloc_new w1 _) 0)
        · simp at hu⟩⟩
      case c3 => exact fun u hu => by obtain rfl : u = nv 0 := by simpa using hu
                                      rfl
      case c4 => unfold maxLen; omega
      case c5 => omega
      case c6 => simp; omega
      intro vu w2 hown2 hg2 hat2
      have hbw2 : Below w.heap.size w w2 := (hbw.alloc (by omega) _).grown hg2 (by simp; omega) (by simp [Value.ownBlock])
      obtain ⟨gu, cu, rest, rfl, hgub, hlcu, hBu⟩ := row_blk hown2 (by omega)
      have hgu := hBu.lt
      clear hrow hown2 hg2 hat2 hi0 hz0 hz1 hz2
      have hm2 := big_mul b [s] (some ⟨b1, off1, none⟩) (some ⟨w2.heap.size, 0, none⟩) c' 1 (w2.alloc (.cells #[.int .i64 (s : Int)] 3)) hcb.1 hds ((hb.below hbw2).alloc _) (Blk.arr (t := 3) (heap_alloc_new w2 _)) (by simp; omega)
      rw [hv1] at hm2
      have HM := Lib.hid hm2
      clear hm2
      go_wp2_with fail
      refine HM.out.mono ?_
      have e0 : (w2.alloc (.cells #[.int .i64 (s : Int)] 3)).heap.size = w2.heap.size + 1 := by simp
      rw [e0]
      clear e0
      rintro e w3 ⟨cv, rfl, hcv, hcvm, hownv, hb3⟩
      clear HM
      have hBu3 := (hBu.alloc (.cells #[.int .i64 (s : Int)] 3)).below hb3 (by omega)
      have hbw3 : Below w.heap.size w w3 := (hbw2.alloc (by omega) _).trans (hb3.mono (by omega))
      have hlb : a.length ≤ (dig (val a * s)).length := by
        have := dig_len_mono (m := val a) (n := val a * s) (Nat.le_mul_of_pos_right _ hs0)
        rwa [← canon_eq hca] at this
      have hlb2 : b.length ≤ (dig (val b * s)).length := by
        have := dig_len_mono (m := val b) (n := val b * s) (Nat.le_mul_of_pos_right _ hs0)
        rwa [← canon_eq hcb] at this
      have hlb3 : (dig (val b * s)).length ≤ (dig (val a * s)).length := dig_len_mono (Nat.mul_le_mul_right s hle)
      have hT : 0 < val b * s := Nat.mul_pos (by
        have := canon_lower hcb (fun e => by subst e; simp at h2)
        have := pos_pow (b.length - 1)
        omega) hs0
      obtain ⟨v, hv⟩ : ∃ v, v = dig (val b * s) := ⟨_, rfl⟩
      have hcan : Canon v := by rw [hv]; exact canon_dig _
      have hvv : val v = val b * s := by rw [hv, val_dig]
      rw [← hv] at hlb2 hlb3 hcv
      obtain ⟨m, hm⟩ : ∃ m, (dig (val a * s)).length + 1 = m + v.length := ⟨(dig (val a * s)).length + 1 - v.length, by omega⟩
      have hst : DivAt v (val a * s) m gu (w2.heap.size + 1) w3.heap.size rest w (w3.alloc (.cells ((List.replicate m (.int .i64 0)).toArray) 3)) m := by
        have hdu : Dig (dig (val a * s) ++ [0]) := (Dig_dig _).app (Dig.cons (by omega) Dig.nil)
        have hlu : (dig (val a * s) ++ [0]).length = m + v.length := by simp; omega
        refine ⟨dig (val a * s) ++ [0], List.replicate m 0, hlu, by simp, hdu, Dig.zeros _, ?_, ?_, ?_, ?_, ?_, hbw3.alloc hbw3.size _⟩
        · have := hBu3.alloc (.cells ((List.replicate m (Value.int .i64 0)).toArray) 3)
          simpa using this
        · have := heap_alloc_new w3 (.cells ((List.replicate m (Value.int .i64 0)).toArray) 3)
          unfold Blk
          rw [List.map_replicate]
          exact this
        · rw [hv]; exact hownv.arr.alloc _
        · rw [List.drop_of_length_le (by simp)]
          simp [val, val_app, val_dig]
        · -- the top digit is 0
          have hlow := canon_lower hcan (fun e => by rw [e] at hlb2; simp only [List.length_nil] at hlb2; omega)
          have hd : (dig (val a * s) ++ [0]).drop m = ((dig (val a * s)).drop m) ++ [0] := by rw [List.drop_append_of_le_length (by omega)]
          rw [hd, val_app]
          have := val_lt ((Dig_dig (val a * s)).drop_ m)
          rw [List.length_drop, show (dig (val a * s)).length - m = v.length - 1 by omega] at this
          simp [val]
          omega
      have HST := Lib.hid hst
      have HVV := Lib.hid hvv
      have hne1 : (((m : Int) + (v.length : Int)) == (a.length : Int)) = false := by simp; omega
      have hmk : ∀ W : World, (Instr.makeSlice 38 (.int .i64 (m : Int)) (.int .i64 (m : Int))).run Tryz.prog W = .ok (.slice (some ⟨W.heap.size, 0, none⟩) m m) (W.alloc (.cells ((List.replicate m (.int .i64 0)).toArray) 3)) := fun W => by
        have := run_make_row' (P := Tryz.prog) 38 3 (.int .i64 0) 8 Tryz.underlying38 Tryz.infoI rfl .i64 .i64 m (by omega) (by omega) W
        rw [made_list] at this
        exact this
      have hml : m + v.length ≤ 400002 := by omega
      have hcu : m + v.length ≤ cu := by omega
      have hv2 : 2 ≤ v.length := by omega
      have hm1 : 1 ≤ m := by omega
      have hgne : gu < w2.heap.size + 1 := by omega
      have hgv : w2.heap.size + 1 < w3.heap.size := hownv.lt
      rw [← hv, hm]
      clear hst hvv hBu3 hBu hlcu hownv hb3 hbw2 hbw hb1 hg1 hlen1 hlb hlb2 hlb3 hm hv hT hcv
      go_wp2_with fail
      clear hmk
      generalize hgqd : w3.heap.size = gq at *
      clear ha hb hlt1 hcell1 hyl HY hy0 hb1n hge hge2 hq hp1 hp0 hca hcb h2 hle hds hv1 hl hl' hcm hcvm hcc hbw3 hgu hne1
      generalize (w2.heap.size + 1) = gv at *
      go_loopw [13] (fun t wr => ∃ k : Nat, k ≤ m ∧ t = .int .i64 ((k : Int) - 1) ∧ DivAt v (val a * s) m gu gv gq rest w wr k) (fun t _ => (intOf t + 1).toNat)
      case atStart => exact ⟨m, Nat.le_refl _, rfl, HST.out⟩
      case round =>
        clear hgqd HST
        obtain ⟨k, hk, rfl, u, q, hlu, hlq, hdu, hdq, hBu, hBq, hAv, hval, hlow, hbw⟩ := hrel
        by_cases h0 : k = 0
        · subst h0
          have hval2 : val u + val b * s * val q = val a * s := by
            rw [← hval, HVV.out]; simp
          rw [List.drop_zero, HVV.out] at hlow
          have HE := Lib.hid (div_end (val a) (val b) s (val u) (val q) hs0 hval2 hlow)
          have hAu : Arr wr (some ⟨gu, 0, none⟩) (u.map nv) := by
            have := hBu.arr.take_ (u.map nv).length
            rwa [List.take_left' rfl] at this
          have ht1 := big_trim u (some ⟨gu, 0, none⟩) cu wr hdu hAu (by omega) (by omega)
          rw [hlu] at ht1
          have hAd : Arr wr (some ⟨gu, 0, none⟩) ((dig (val u)).map nv) := by
            have := hAu.take_ (dig (val u)).length
            rwa [← List.map_take, ← dig_take hdu] at this
          have hsh := big_short (dig (val u)) s (some ⟨gu, 0, none⟩) cu wr (Dig_dig _) hs0 (by omega) hAd (by have := dig_len hdu; omega)
          rw [val_dig] at hsh
          have HT1 := Lib.hid ht1
          have HSH := Lib.hid hsh
          have HLQ := Lib.hid hlq
          clear ht1 hsh hval hval2 hlu hlq
          go_wp2_with fail
          refine HT1.out.mono ?_
          rintro e w1 ⟨rfl, rfl⟩
          go_wp2_with fail
          refine HSH.out.mono ?_
          rintro e w1 ⟨cc, rfl, hcc, hcm, hown, hb1⟩
          clear HSH HT1
          have hBq1 := hBq.below hb1 hBq.lt
          have ht2 := big_trim q (some ⟨gq, 0, none⟩) m w1 hdq hBq1.arr (by have := HLQ.out; omega) (by have := HLQ.out; omega)
          rw [HLQ.out] at ht2
          have HT2 := Lib.hid ht2
          clear ht2
          go_wp2_with fail
          refine HT2.out.mono ?_
          rintro e w2 ⟨rfl, rfl⟩
          go_wp2
          go_ret2
          refine ⟨_, _, rfl, ?_, ?_, hbw.trans (hb1.mono hbw.size)⟩
          · rw [← HE.out.1]
            refine ⟨_, m, rfl, ?_, ?_⟩
            · have := dig_len hdq; have := HLQ.out; omega
            · have := hBq1.arr.take_ (dig (val q)).length
              rwa [← List.map_take, ← dig_take hdq] at this
          · rw [← HE.out.2]
            exact ⟨_, cc, rfl, hcc, hown.arr⟩
        · obtain ⟨j, rfl⟩ : ∃ j, k = j + 1 := ⟨k - 1, by omega⟩
          have e5 : (((j + 1 : Nat) : Int) - 1) = (j : Int) := by omega
          rw [e5]
          clear e5
          obtain ⟨n', hn'⟩ : ∃ n', v.length = n' + 2 := ⟨v.length - 2, by omega⟩
          obtain ⟨t2, hc2, ht2, HT2⟩ := hBu.udg hdu (i := j + v.length) (by omega)
          obtain ⟨t1, hc1, ht1, HT1⟩ := hBu.udg hdu (i := j + v.length - 1) (by omega)
          obtain ⟨t0, hc0, ht0, HT0⟩ := hBu.udg hdu (i := j + v.length - 2) (by omega)
          obtain ⟨_, _, v1, e1, _, hcv1, hv1l, HV1⟩ := hAv.dg hcan.1 (k := v.length - 1) (by omega)
          injection e1 with e1
          injection e1 with e1 e2
          subst e1 e2
          obtain ⟨_, _, v0, e1, _, hcv0, hv0l, HV0⟩ := hAv.dg hcan.1 (k := v.length - 2) (by omega)
          injection e1 with e1
          injection e1 with e1 e2
          subst e1 e2
          simp only [Nat.zero_add] at hcv1 hcv0
          have hv10 : 0 < v1 := by
            have := hcan.2 (fun e => by rw [e] at hv2; simp at hv2)
            rw [List.getLast_eq_getElem, ← getD_lt, HV1.out] at this
            omega
          obtain ⟨top, htop⟩ : ∃ top : Nat, top = t2 * 1048576 + t1 := ⟨_, rfl⟩
          have hwin : Win u v j n' := ⟨hdu, hcan.1, hn', by omega, by rw [show n' + 1 = v.length - 1 by omega, HV1.out]; exact hv10, hlow⟩
          have HW := Lib.hid hwin
          have HPK := Lib.hid (hwin.pack HT2.out HT1.out HT0.out HV1.out HV0.out htop)
          have htl : (top : Int) < 1099511627776 := by omega
          have HTOP := Lib.hid htop
          clear htop
          have HLU := Lib.hid hlu
          have HLQ := Lib.hid hlq
          have HVAL := Lib.hid hval
          have HNN := Lib.hid hn'
          clear hlu hlq hval hn' hwin
          have hju : j + v.length < m + v.length := by omega
          have f1 : ((j : Int) + (v.length : Int)).toNat = j + v.length := by omega
          have f2 : ((j : Int) + (v.length : Int) - 1).toNat = j + v.length - 1 := by omega
          have f3 : ((v.length : Int) - 1).toNat = v.length - 1 := by omega
          have hor := or_top t2 t1 top HTOP.out ht2 ht1
          clear hju hlow
          go_wp2_with fail
          go_quiet (fail)
          generalize (t2 : Int) * 1048576 = x89
          clear hor
          go_wp2_with fail
          go_quiet (fail)
          obtain ⟨wo, rfl⟩ : ∃ wo : World, wo = wr := ⟨_, rfl⟩
          have hgd : (top : Int) / (v1 : Int) = ((top / v1 : Nat) : Int) := by rw [Int.natCast_ediv]
          have hgm : (top : Int) % (v1 : Int) = ((top % v1 : Nat) : Int) := by rw [Int.natCast_emod]
          have hwr : wrap64 ((top / v1 : Nat) : Int) = ((top / v1 : Nat) : Int) := by
            have := Nat.div_le_self top v1
            generalize top / v1 = g0 at *
            exact IntWalk.wrap64_in _ ⟨by omega, by omega⟩
          rw [hgd, hgm, hwr]
          clear hgd hgm hwr
          go_wp2_with fail
          go_loopw [15, 16] (fun t r wq => ∃ g rs nd : Nat, t = .int .i64 (g : Int) ∧ r = .int .i64 (rs : Int) ∧ g ≤ 1099511627776 ∧ rs ≤ 1099511627776 ∧ wq = wo.drewN nd ∧ Hid (g * v1 + rs = top ∧ val (u.drop j) / val v ≤ g)) (fun t _ _ => (intOf t).toNat)
          case atStart =>
            have h1 := HPK.out.first hv10
            have h2 := h1.2.2
            generalize top / v1 = g0 at *
            generalize top % v1 = r0 at *
            exact ⟨g0, r0, _, rfl, rfl, by omega, by omega, by rw [World.drewN_drewN], h1.1, h1.2.1⟩
          case round =>
            obtain ⟨g, rs, nd, rfl, rfl, hgb, hrb, rfl, HG⟩ := hrel
            have f4 : ((v.length : Int) - 2).toNat = v.length - 2 := by omega
            have f5 : ((j : Int) + (v.length : Int) - 2).toNat = j + v.length - 2 := by omega
            by_cases hga : 1048576 ≤ g
            · have hA : decide ((1048576 : Int) ≤ (g : Int)) = true := by simp; omega
              have HD := Lib.hid (HPK.out.dec HG.out.1 HG.out.2 (.inl hga))
              have hrs2 : rs + v1 ≤ top := HD.out.2.2.2
              have hg0 : 0 < g := by omega
              go_wp2_with fail
              go_quiet (fail)
              go_wp2_with fail
              go_roundw
              case rel => exact ⟨g - 1, rs + v1, nd + nq, int_eq (by omega), int_eq (by omega), by omega, by omega, rfl, HD.out.2.1, HD.out.2.2.1⟩
              case measure => simp [intOf]; omega
            · have hA : decide ((1048576 : Int) ≤ (g : Int)) = false := by simp; omega
              have hgl : g < 1048576 := by omega
              by_cases hrb2 : 1048576 ≤ rs
              · have hB : decide ((rs : Int) < 1048576) = false := by simp; omega
                have HX := Lib.hid (HPK.out.stop g rs HG.out.1 hgl (.inl hrb2))
                go_wp2_with fail
                go_quiet (fail)
                go_wp2_with fail
                rw [show j + v.length + 1 - j = v.length + 1 by omega]
                refine (div_settle (cu := cu) (cv := cv) HW.out hBu hAv hgne (by have := HLU.out; omega) hgl HX.out).mono ?_
                intro e w1 hpost
                obtain ⟨d, rfl, hBq1, hAt⟩ := div_round HW.out HLU.out HLQ.out (by omega) hdq hBq hAv HVAL.out hbw hgub hgne hgv HG.out.2 HX.out hpost
                clear hpost
                have hcq : w1.cell? ⟨gq, j, none⟩ = some (.int .i64 ((q.getD j 0 : Nat) : Int)) := hBq1.nat (by have := HLQ.out; omega)
                generalize q.getD j 0 = qj at hcq
                have hfq := hBq1.frozen j
                have HAT := Lib.hid hAt
                clear hAt
                go_wp2_with fail
                go_roundw
                case rel => exact ⟨j, by omega, rfl, HAT.out⟩
                case measure => simp [intOf]
              · have hB : decide ((rs : Int) < 1048576) = true := by simp; omega
                have hrl : rs < 1048576 := by omega
                obtain ⟨x, hx⟩ : ∃ x : Nat, x = rs * 1048576 + t0 := ⟨_, rfl⟩
                have hxl : x < 1099511627776 := by omega
                have hp1 : (g : Int) * (v0 : Int) ≤ 1099509530625 := by
                  have : g * v0 ≤ 1048575 * 1048575 := Nat.mul_le_mul (by omega) (by omega)
                  have e : (g : Int) * (v0 : Int) = ((g * v0 : Nat) : Int) := by simp
                  omega
                have hp0 : 0 ≤ (g : Int) * (v0 : Int) := Int.mul_nonneg (by omega) (by omega)
                by_cases hgt : x < g * v0
                · have hC : decide ((x : Int) < (g : Int) * (v0 : Int)) = true := by
                    have e : (g : Int) * (v0 : Int) = ((g * v0 : Nat) : Int) := by simp
                    rw [e]; simp; omega
                  have HD := Lib.hid (HPK.out.dec HG.out.1 HG.out.2 (.inr (by rw [← hx]; exact hgt)))
                  have hrs2 : rs + v1 ≤ top := HD.out.2.2.2
                  have hg0 : 0 < g := HD.out.1
                  have HX2 := Lib.hid hx
                  clear hx
                  have hor := or_top rs t0 x HX2.out hrl ht0
                  go_wp2_with fail
                  go_quiet (fail)
                  generalize (rs : Int) * 1048576 = x126
                  clear hor
                  go_wp2_with fail
                  go_roundw
                  case rel => exact ⟨g - 1, rs + v1, nd + nq, int_eq (by omega), int_eq (by omega), by omega, by omega, rfl, HD.out.2.1, HD.out.2.2.1⟩
                  case measure => simp [intOf]; omega
                · have hC : decide ((x : Int) < (g : Int) * (v0 : Int)) = false := by
                    have e : (g : Int) * (v0 : Int) = ((g * v0 : Nat) : Int) := by simp
                    rw [e]; simp; omega
                  have HX := Lib.hid (HPK.out.stop g rs HG.out.1 hgl (.inr (by rw [← hx]; omega)))
                  have HX2 := Lib.hid hx
                  clear hx
                  have hor := or_top rs t0 x HX2.out hrl ht0
                  go_wp2_with fail
                  go_quiet (fail)
                  generalize (rs : Int) * 1048576 = x126
                  clear hor
                  go_wp2_with fail
                  rw [show j + v.length + 1 - j = v.length + 1 by omega]
                  refine (div_settle (cu := cu) (cv := cv) HW.out hBu hAv hgne (by have := HLU.out; omega) hgl HX.out).mono ?_
                  intro e w1 hpost
                  obtain ⟨d, rfl, hBq1, hAt⟩ := div_round HW.out HLU.out HLQ.out (by omega) hdq hBq hAv HVAL.out hbw hgub hgne hgv HG.out.2 HX.out hpost
                  clear hpost
                  have hcq : w1.cell? ⟨gq, j, none⟩ = some (.int .i64 ((q.getD j 0 : Nat) : Int)) := hBq1.nat (by have := HLQ.out; omega)
                  generalize q.getD j 0 = qj at hcq
                  have hfq := hBq1.frozen j
                  have HAT := Lib.hid hAt
                  clear hAt
                  go_wp2_with fail
                  go_roundw
                  case rel => exact ⟨j, by omega, rfl, HAT.out⟩
                  case measure => simp [intOf]

/-- big.div of two right numbers, the second one not 0 -/
theorem big_div (a b : List Nat) (A A' : Option Addr) (c c' : Nat) (w : World) (hca : Canon a) (hcb : Canon b) (ha : Arr w A (a.map nv)) (hb : Arr w A' (b.map nv)) (hl : a.length ≤ 400000) (hl' : b.length ≤ 400000) (hne : b ≠ []) :
    Calls Tryz.prog 138 #[.slice A a.length c, .slice A' b.length c'] w (DivPost (val a) (val b) w) := by
  rcases Nat.lt_or_ge (val a) (val b) with hlt | hge
  · exact big_div_less a b A A' c c' w hca hcb ha hb (by omega) (by omega) hlt
  · rcases b with _ | ⟨d, _ | ⟨d2, r⟩⟩
    · exact absurd rfl hne
    · have hv : val [d] = d := by simp [val]
      have h0 : 0 < d := by
        have := hcb.2 (by simp)
        simp at this
        omega
      rw [hv] at hge ⊢
      exact big_div_one a d A A' c c' w hca h0 (hcb.1 d (by simp)) ha hb (by omega) hge
    · exact big_div_long a (d :: d2 :: r) A A' c c' w hca hcb ha hb hl hl' (by simp) hge
end Go.Proofs.YtaojnjealccjiaaGreatDoor
