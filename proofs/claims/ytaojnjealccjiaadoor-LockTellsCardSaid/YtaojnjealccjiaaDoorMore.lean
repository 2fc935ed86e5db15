/- LockMore's walk. -/
import Derived.Test.YtaojnjealccjiaaDoorFour
import Derived.Deep.RegionHeld3
import Derived.Deep.DeepCutAuto
namespace Go.Proofs.YtaojnjealccjiaaDoor
open Go Go.RowKit Kb Go.Lib
set_option linter.unusedVariables false

abbrev boxO (xk xp xd : Int) (xo : ByteArray) : Obj := .cells #[.int .i64 xk, .int .i64 xp, .int .i64 xd, .string xo] 30

theorem own_lst {B : Nat} {v : Value} {W : World} {m : Nat} {l : List Akt} (hm : m = l.length) (how : W.ownsRow B 30 4 v m (l.flatMap aktV)) : ∃ A' c', v = .slice A' m c' ∧ Lst aktV 4 W A' l := by
  subst hm
  rcases how.2 with ⟨e1, e2⟩ | ⟨g, cap', cur, e1, _⟩
  · rw [e1, e2]
    exact ⟨none, 0, rfl, by rw [List.eq_nil_of_length_eq_zero e2]; exact Lst.nil⟩
  · rw [e1] at how ⊢
    exact ⟨_, _, rfl, lst_of_owns (fun _ => rfl) how⟩
theorem flat_one (l : List Akt) : ∀ u ∈ l.flatMap aktV, u.oneCell' = true := fun u hu => by
  obtain ⟨a, _, h⟩ := List.mem_flatMap.1 hu
  exact one_akt a u h
theorem made_at {W : World} {H base : Nat} (hH : W.heap.size = H) (hb : base ≤ H) : (W.alloc (.cells #[] 30)).ownsRow base 30 4 (.slice (some ⟨H, 0, none⟩) 0 0) 0 [] := by
  subst hH
  exact World.ownsRow_made W #[] 0 hb (Nat.zero_le _) rfl
theorem at4_grown {W W' : World} {r : Option Nat} {g : Nat} {a : Akt} (h : At4 W g 0 a) (hg : W.grownBy W' r) (hlt : g < W.heap.size) (hne : some g ≠ r) : At4 W' g 0 a := by
  obtain ⟨c0, c1, c2, c3⟩ := h
  have := fun o => World.cell?_of_block (a := ⟨g, o, none⟩) (hg.block g hlt hne)
  exact ⟨(this _).trans c0, (this _).trans c1, (this _).trans c2, (this _).trans c3⟩

set_option maxHeartbeats 8000000 in
set_option maxRecDepth 100000 in
theorem walk_more (acts : List Akt) (A : Option Addr) (c : Nat) (ob : ByteArray) (person day : Int) (xk xp xd : Int) (xo : ByteArray) (w : World) (hl : Lst aktV 4 w A acts) (hbig : acts.length ≤ maxLen)
    (hob : ob.size ≤ maxLen) (hxo : xo.size ≤ maxLen) :
    Calls Tryd.prog 8 #[.slice A acts.length c, .string ob, .int .i64 person, .int .i64 day, .agg #[.int .i64 xk, .int .i64 xp, .int .i64 xd, .string xo]] w fun e w' => e = .returned (.bool true) ∧ Below w.heap.size w w' := by
  have hl1 : Lst aktV 4 (w.alloc (boxO xk xp xd xo)) A acts := hl.alloc _
  have hfa := fun (W : World) (h : Below (w.alloc (boxO xk xp xd xo)).heap.size (w.alloc (boxO xk xp xd xo)) W) => ref_few acts A c W (hl1.below h) hbig
  have hfin : ∀ W, Below (w.alloc (boxO xk xp xd xo)).heap.size (w.alloc (boxO xk xp xd xo)) W → Below w.heap.size w W := fun W h => ((Below.refl _ w).alloc (Nat.le_refl _) _).trans (h.mono (by simp))
  have HFin := Lib.hid hfin
  have HL1 := Lib.hid hl1
  clear hfin hl hl1
  unfold maxLen at hob hbig hxo
  cases ha : fewB acts with
  | false =>
    rw [ha] at hfa
    have HFa := Lib.hid hfa
    clear hfa ha
    generalize acts.length = n at *
    go_enter Tryd.func8, Tryd.ntmps8
    go_wp2_with fail
    refine (law_small _).mono ?_
    rintro e w1 ⟨rfl, hb⟩
    have HB1 : Hid (Below (w.alloc (boxO xk xp xd xo)).heap.size (w.alloc (boxO xk xp xd xo)) w1) := hb
    clear hb
    go_wp2_with fail
    refine (HFa.out _ HB1.out).mono ?_
    rintro e w2 ⟨rfl, hw⟩
    have HB2 : Hid (Below (w.alloc (boxO xk xp xd xo)).heap.size (w.alloc (boxO xk xp xd xo)) w2) := hw ▸ HB1.out
    clear hw HB1
    go_wp2_with fail
    go_ret
    exact ⟨rfl, HFin.out _ HB2.out⟩
  | true =>
    obtain ⟨hsa, ha40⟩ := few_small ha
    rw [ha] at hfa
    have HFa := Lib.hid hfa
    clear hfa ha
    by_cases h39 : 39 < acts.length
    · generalize acts.length = n at *
      go_enter Tryd.func8, Tryd.ntmps8
      go_wp2_with fail
      refine (law_small _).mono ?_
      rintro e w1 ⟨rfl, hb⟩
      have HB1 : Hid (Below (w.alloc (boxO xk xp xd xo)).heap.size (w.alloc (boxO xk xp xd xo)) w1) := hb
      clear hb
      go_wp2_with fail
      refine (HFa.out _ HB1.out).mono ?_
      rintro e w2 ⟨rfl, hw⟩
      have HB2 : Hid (Below (w.alloc (boxO xk xp xd xo)).heap.size (w.alloc (boxO xk xp xd xo)) w2) := hw ▸ HB1.out
      clear hw HB1
      go_wp2_with fail
      go_ret
      exact ⟨rfl, HFin.out _ HB2.out⟩
    · by_cases h100 : 100 < ob.size
      · generalize acts.length = n at *
        go_enter Tryd.func8, Tryd.ntmps8
        go_wp2_with fail
        refine (law_small _).mono ?_
        rintro e w1 ⟨rfl, hb⟩
        have HB1 : Hid (Below (w.alloc (boxO xk xp xd xo)).heap.size (w.alloc (boxO xk xp xd xo)) w1) := hb
        clear hb
        go_wp2_with fail
        refine (HFa.out _ HB1.out).mono ?_
        rintro e w2 ⟨rfl, hw⟩
        have HB2 : Hid (Below (w.alloc (boxO xk xp xd xo)).heap.size (w.alloc (boxO xk xp xd xo)) w2) := hw ▸ HB1.out
        clear hw HB1
        go_wp2_with fail
        go_ret
        exact ⟨rfl, HFin.out _ HB2.out⟩
      · by_cases hx100 : 100 < xo.size
        · generalize acts.length = n at *
          go_enter Tryd.func8, Tryd.ntmps8
          go_wp2_with fail
          refine (law_small _).mono ?_
          rintro e w1 ⟨rfl, hb⟩
          have HB1 : Hid (Below (w.alloc (boxO xk xp xd xo)).heap.size (w.alloc (boxO xk xp xd xo)) w1) := hb
          clear hb
          go_wp2_with fail
          refine (HFa.out _ HB1.out).mono ?_
          rintro e w2 ⟨rfl, hw⟩
          have HB2 : Hid (Below (w.alloc (boxO xk xp xd xo)).heap.size (w.alloc (boxO xk xp xd xo)) w2) := hw ▸ HB1.out
          clear hw HB1
          have b0 : w2.cell? ⟨w.heap.size, 0, none⟩ = some (.int .i64 xk) := (HB2.out.cell (p := ⟨w.heap.size, 0, none⟩) (by simp)).trans (by simp)
          have b1 : w2.cell? ⟨w.heap.size, 1, none⟩ = some (.int .i64 xp) := (HB2.out.cell (p := ⟨w.heap.size, 1, none⟩) (by simp)).trans (by simp)
          have b2 : w2.cell? ⟨w.heap.size, 2, none⟩ = some (.int .i64 xd) := (HB2.out.cell (p := ⟨w.heap.size, 2, none⟩) (by simp)).trans (by simp)
          have b3 : w2.cell? ⟨w.heap.size, 3, none⟩ = some (.string xo) := (HB2.out.cell (p := ⟨w.heap.size, 3, none⟩) (by simp)).trans (by simp)
          go_wp2_with fail
          go_ret
          exact ⟨rfl, HFin.out _ HB2.out⟩
        · have HSa := Lib.hid hsa
          clear hsa
          generalize hn : acts.length = n at *
          have HN := Lib.hid hn
          clear hn
          go_enter Tryd.func8, Tryd.ntmps8
          go_wp2_with fail
          refine (law_small _).mono ?_
          rintro e w1 ⟨rfl, hb⟩
          have HB1 : Hid (Below (w.alloc (boxO xk xp xd xo)).heap.size (w.alloc (boxO xk xp xd xo)) w1) := hb
          clear hb
          go_wp2_with fail
          refine (HFa.out _ HB1.out).mono ?_
          rintro e w2 ⟨rfl, hw⟩
          have HB2 : Hid (Below (w.alloc (boxO xk xp xd xo)).heap.size (w.alloc (boxO xk xp xd xo)) w2) := hw ▸ HB1.out
          clear hw HB1
          have b0 : w2.cell? ⟨w.heap.size, 0, none⟩ = some (.int .i64 xk) := (HB2.out.cell (p := ⟨w.heap.size, 0, none⟩) (by simp)).trans (by simp)
          have b1 : w2.cell? ⟨w.heap.size, 1, none⟩ = some (.int .i64 xp) := (HB2.out.cell (p := ⟨w.heap.size, 1, none⟩) (by simp)).trans (by simp)
          have b2 : w2.cell? ⟨w.heap.size, 2, none⟩ = some (.int .i64 xd) := (HB2.out.cell (p := ⟨w.heap.size, 2, none⟩) (by simp)).trans (by simp)
          have b3 : w2.cell? ⟨w.heap.size, 3, none⟩ = some (.string xo) := (HB2.out.cell (p := ⟨w.heap.size, 3, none⟩) (by simp)).trans (by simp)
          go_upto_region 4 with fail
          go_cut [12] (fun s12 wx => ∃ (A' : Option Addr) (c' : Nat), s12 = .slice A' (n + 1) c' ∧ Hid (Lst aktV 4 wx A' (acts ++ [⟨xk, xp, xd, xo⟩])) ∧ Hid (Below (w.alloc (boxO xk xp xd xo)).heap.size (w.alloc (boxO xk xp xd xo)) wx))
          case first =>
            have hBs : w.heap.size + 1 ≤ w2.heap.size := by have := HB2.out.size; simpa using this
            have hne : w.heap.size ≠ w2.heap.size := by omega
            obtain ⟨i0, hi0, hz0, hz1, hz2⟩ := info_parts Tryd.infoAct
            have hs : ∀ W, Below w2.heap.size w2 W → W.cell? ⟨w.heap.size, 0, none⟩ = some (.int .i64 xk) ∧ W.cell? ⟨w.heap.size, 1, none⟩ = some (.int .i64 xp) ∧ W.cell? ⟨w.heap.size, 2, none⟩ = some (.int .i64 xd) ∧ W.cell? ⟨w.heap.size, 3, none⟩ = some (.string xo) := fun W h =>
              ⟨(h.cell (p := ⟨w.heap.size, 0, none⟩) hBs).trans b0, (h.cell (p := ⟨w.heap.size, 1, none⟩) hBs).trans b1, (h.cell (p := ⟨w.heap.size, 2, none⟩) hBs).trans b2, (h.cell (p := ⟨w.heap.size, 3, none⟩) hBs).trans b3⟩
            have hr : ∀ W, Below w2.heap.size w2 W → Reads W w2.heap.size 4 A n (acts.flatMap aktV) := fun W h => by
              have := lst_reads (enc := aktV) (k := 4) (fun _ => rfl) (HL1.out.below HB2.out)
              rw [HN.out] at this
              exact this.below h
            have HS := Lib.hid hs
            have HR := Lib.hid hr
            clear hs hr
            go_region_held3 (fun w' => w'.cell? ⟨w.heap.size, 0, none⟩ = some (.int .i64 xk) ∧ w'.cell? ⟨w.heap.size, 1, none⟩ = some (.int .i64 xp) ∧ w'.cell? ⟨w.heap.size, 2, none⟩ = some (.int .i64 xd) ∧ w'.cell? ⟨w.heap.size, 3, none⟩ = some (.string xo)) (go_keep)
             (first
              | (refine step_append_any _ (by rfl) (.tmp 37) (.tmp 38) 22 (by rfl) w2.heap.size 30 i0 _ 4 40 Tryd.underlying22 hi0 hz0 hz1 hz2 (by rfl) (by omega) (.slice (some ⟨w2.heap.size, 0, none⟩) 0 0) 0 [] (by rfl) (made_at (by simp) (by omega)) w2.heap.size A n c (acts.flatMap aktV) (by rfl) (HR.out _ (((Below.refl _ w2).drew.alloc (by simp) _))) (flat_one acts) (by simp only [maxLen]; omega) (by omega) (by simp <;> omega) ?_; intro v3 w3 hown3 hg3 hat3; have hbw3 : Below w2.heap.size w2 w3 := Below.grown (((Below.refl _ w2).drew.alloc (by simp) _)) hg3 (by simp <;> omega) (fun j hj => by simp [Value.ownBlock] at hj; omega); have HO3 := Lib.hid hown3; have HB3 := Lib.hid hbw3; have HLt3 := Lib.hid (fun j hj => hown3.lt j hj); have hk3 := HS.out _ hbw3; obtain ⟨e0, e1, e2, e3⟩ := hk3; clear hown3 hg3 hat3 hbw3)
              | (refine step_append_any _ (by rfl) (.tmp 37) (.tmp 38) 22 (by rfl) w2.heap.size 30 i0 _ 4 40 Tryd.underlying22 hi0 hz0 hz1 hz2 (by rfl) (by omega) (.slice (some ⟨w2.heap.size, 0, none⟩) 0 0) 0 [] (by rfl) (World.ownsRow.alloc (made_at (by simp) (by omega)) _) w2.heap.size A n c (acts.flatMap aktV) (by rfl) (HR.out _ (((Below.refl _ w2).drew.alloc (by simp) _).alloc (by simp) _)) (flat_one acts) (by simp only [maxLen]; omega) (by omega) (by simp <;> omega) ?_; intro v3 w3 hown3 hg3 hat3; have hbw3 : Below w2.heap.size w2 w3 := Below.grown (((Below.refl _ w2).drew.alloc (by simp) _).alloc (by simp) _) hg3 (by simp <;> omega) (fun j hj => by simp [Value.ownBlock] at hj; omega); have hx3 : At4 w3 (w2.heap.size + 1) 0 ⟨xk, xp, xd, xo⟩ := at4_grown ⟨by simp, by simp, by simp, by simp⟩ hg3 (by simp) (by simp [Value.ownBlock]); have HX3 := Lib.hid hx3; clear hx3; have HO3 := Lib.hid hown3; have HB3 := Lib.hid hbw3; have HLt3 := Lib.hid (fun j hj => hown3.lt j hj); have hk3 := HS.out _ hbw3; obtain ⟨e0, e1, e2, e3⟩ := hk3; clear hown3 hg3 hat3 hbw3)
              | (refine step_append_any _ (by rfl) (.tmp 37) (.tmp 38) 22 (by rfl) w2.heap.size 30 i0 _ 4 40 Tryd.underlying22 hi0 hz0 hz1 hz2 (by rfl) (by omega) (.slice (some ⟨w2.heap.size + 1, 0, none⟩) 0 0) 0 [] (by rfl) (made_at (by simp) (by omega)) w2.heap.size A n c (acts.flatMap aktV) (by rfl) (HR.out _ (((Below.refl _ w2).drew.alloc (by simp) _).alloc (by simp) _)) (flat_one acts) (by simp only [maxLen]; omega) (by omega) (by simp <;> omega) ?_; intro v3 w3 hown3 hg3 hat3; have hbw3 : Below w2.heap.size w2 w3 := Below.grown (((Below.refl _ w2).drew.alloc (by simp) _).alloc (by simp) _) hg3 (by simp <;> omega) (fun j hj => by simp [Value.ownBlock] at hj; omega); have hx3 : At4 w3 w2.heap.size 0 ⟨xk, xp, xd, xo⟩ := at4_grown ⟨by simp, by simp, by simp, by simp⟩ hg3 (by simp <;> omega) (by simp [Value.ownBlock]); have HX3 := Lib.hid hx3; clear hx3; have HO3 := Lib.hid hown3; have HB3 := Lib.hid hbw3; have HLt3 := Lib.hid (fun j hj => hown3.lt j hj); have hk3 := HS.out _ hbw3; obtain ⟨e0, e1, e2, e3⟩ := hk3; clear hown3 hg3 hat3 hbw3)
              | (refine step_append_any _ (by rfl) (.tmp 39) (.tmp 41) 22 (by rfl) w2.heap.size 30 i0 _ 4 40 Tryd.underlying22 hi0 hz0 hz1 hz2 (by rfl) (by omega) v3 (0 + n) ([] ++ acts.flatMap aktV) (by rfl) (HO3.out.alloc _) (w3.heap.size + 1) (some ⟨w3.heap.size, 0, none⟩) 1 1 (aktV ⟨xk, xp, xd, xo⟩) (by rfl) (reads_one (⟨by simp, by simp, by simp, by simp⟩) (by omega)) (one_akt _) (by simp only [maxLen]; omega) (by omega) (by have := HB3.out.size; simp <;> omega) ?_; intro v4 w4 hown4 hg4 hat4; have hbw4 : Below w2.heap.size w2 w4 := Below.grown (HB3.out.alloc HB3.out.size _) hg4 (by have := HB3.out.size; simp <;> omega) (fun j hj => (HLt3.out j hj).1); have HO4 := Lib.hid hown4; have HB4 := Lib.hid hbw4; have hk4 := HS.out _ hbw4; obtain ⟨f0, f1, f2, f3⟩ := hk4; clear hown4 hg4 hat4 hbw4)
              | (refine step_append_any _ (by rfl) (.tmp 39) (.tmp 41) 22 (by rfl) w2.heap.size 30 i0 _ 4 40 Tryd.underlying22 hi0 hz0 hz1 hz2 (by rfl) (by omega) v3 (0 + n) ([] ++ acts.flatMap aktV) (by rfl) (HO3.out) ((w2.heap.size + 1) + 1) (some ⟨(w2.heap.size + 1), 0, none⟩) 1 1 (aktV ⟨xk, xp, xd, xo⟩) (by rfl) (reads_one (HX3.out) (by omega)) (one_akt _) (by simp only [maxLen]; omega) (by omega) (by have := HB3.out.size; simp <;> omega) ?_; intro v4 w4 hown4 hg4 hat4; have hbw4 : Below w2.heap.size w2 w4 := Below.grown (HB3.out) hg4 (by have := HB3.out.size; simp <;> omega) (fun j hj => (HLt3.out j hj).1); have HO4 := Lib.hid hown4; have HB4 := Lib.hid hbw4; have hk4 := HS.out _ hbw4; obtain ⟨f0, f1, f2, f3⟩ := hk4; clear hown4 hg4 hat4 hbw4)
              | (refine step_append_any _ (by rfl) (.tmp 39) (.tmp 41) 22 (by rfl) w2.heap.size 30 i0 _ 4 40 Tryd.underlying22 hi0 hz0 hz1 hz2 (by rfl) (by omega) v3 (0 + n) ([] ++ acts.flatMap aktV) (by rfl) (HO3.out) (w2.heap.size + 1) (some ⟨w2.heap.size, 0, none⟩) 1 1 (aktV ⟨xk, xp, xd, xo⟩) (by rfl) (reads_one (HX3.out) (by omega)) (one_akt _) (by simp only [maxLen]; omega) (by omega) (by have := HB3.out.size; simp <;> omega) ?_; intro v4 w4 hown4 hg4 hat4; have hbw4 : Below w2.heap.size w2 w4 := Below.grown (HB3.out) hg4 (by have := HB3.out.size; simp <;> omega) (fun j hj => (HLt3.out j hj).1); have HO4 := Lib.hid hown4; have HB4 := Lib.hid hbw4; have hk4 := HS.out _ hbw4; obtain ⟨f0, f1, f2, f3⟩ := hk4; clear hown4 hg4 hat4 hbw4))
            all_goals
              (go_wp2_with fail
               go_meet
               obtain ⟨A4, c4, hv4, hl4⟩ := own_lst (m := n + 1) (l := acts ++ [⟨xk, xp, xd, xo⟩]) (by have := HN.out; simp; omega) (by have := HO4.out; simpa [Nat.add_comm] using this)
               exact ⟨A4, c4, hv4, hl4, HB2.out.trans (HB4.out.mono HB2.out.size)⟩)
          case rest =>
            obtain ⟨A', c', rfl, HLm, HB3⟩ := hcut
            clear b0 b1 b2 b3 HB2 HFa
            have b0 : wc.cell? ⟨w.heap.size, 0, none⟩ = some (.int .i64 xk) := (HB3.out.cell (p := ⟨w.heap.size, 0, none⟩) (by simp)).trans (by simp)
            have b1 : wc.cell? ⟨w.heap.size, 1, none⟩ = some (.int .i64 xp) := (HB3.out.cell (p := ⟨w.heap.size, 1, none⟩) (by simp)).trans (by simp)
            have b2 : wc.cell? ⟨w.heap.size, 2, none⟩ = some (.int .i64 xd) := (HB3.out.cell (p := ⟨w.heap.size, 2, none⟩) (by simp)).trans (by simp)
            have b3 : wc.cell? ⟨w.heap.size, 3, none⟩ = some (.string xo) := (HB3.out.cell (p := ⟨w.heap.size, 3, none⟩) (by simp)).trans (by simp)
            have hsx : Small (acts ++ [⟨xk, xp, xd, xo⟩]) := ⟨fun a ha => by
              rcases List.mem_append.1 ha with m | m
              · exact HSa.out.1 a m
              · rw [List.mem_singleton] at m; subst m; show xo.size < _; omega, by have := HN.out; simp [maxLen]; omega⟩
            have hlen : (acts ++ [(⟨xk, xp, xd, xo⟩ : Akt)]).length = n + 1 := by have := HN.out; simp; omega
            have hla := fun (W : World) (h : Below (w.alloc (boxO xk xp xd xo)).heap.size (w.alloc (boxO xk xp xd xo)) W) => lock_locked acts A c ob day W (HL1.out.below h) HSa.out (by omega)
            have hma := fun (W : World) (h : Below (w.alloc (boxO xk xp xd xo)).heap.size (w.alloc (boxO xk xp xd xo)) W) => lock_may acts A c ob person day W (HL1.out.below h) HSa.out (by omega)
            have hlm := fun (W : World) (h : Below wc.heap.size wc W) => lock_locked (acts ++ [⟨xk, xp, xd, xo⟩]) A' c' ob day W (HLm.out.below h) hsx (by omega)
            have hmm := fun (W : World) (h : Below wc.heap.size wc W) => lock_may (acts ++ [⟨xk, xp, xd, xo⟩]) A' c' ob person day W (HLm.out.below h) hsx (by omega)
            have hri := fun W => lock_right xk xp xd xo W (by omega)
            have hab := fun W => ref_above xo ob W (by unfold maxLen; omega) (by unfold maxLen; omega)
            have p1 : lockedB acts ob.data.toList day = true → lockedB (acts ++ [⟨xk, xp, xd, xo⟩]) ob.data.toList day = false → xk = 1 ∧ rightB ⟨xk, xp, xd, xo⟩ = true ∧ xd ≤ day ∧ aboveB xo.data.toList ob.data.toList = true := fun h1 h2 => more_locked h1 h2
            have p2 : xk ≠ 1 → mayI 1 27 19 acts ob.data.toList person day ≠ 0 → mayI 1 27 19 (acts ++ [⟨xk, xp, xd, xo⟩]) ob.data.toList person day ≠ 0 := fun hk hb => more_may (by decide) (by decide) (by decide) hk hb
            rw [hlen] at hlm hmm
            rw [HN.out] at hla hma
            clear hlen hsx
            generalize lockedB acts ob.data.toList day = bL at *
            generalize lockedB (acts ++ [⟨xk, xp, xd, xo⟩]) ob.data.toList day = bM at *
            generalize mayI 1 27 19 acts ob.data.toList person day = mA at *
            generalize mayI 1 27 19 (acts ++ [⟨xk, xp, xd, xo⟩]) ob.data.toList person day = mB at *
            generalize rightB ⟨xk, xp, xd, xo⟩ = ri at *
            generalize aboveB xo.data.toList ob.data.toList = ab at *
            have HLa := Lib.hid hla
            have HMa := Lib.hid hma
            have HLm2 := Lib.hid hlm
            have HMm := Lib.hid hmm
            have HRi := Lib.hid hri
            have HAb := Lib.hid hab
            have P1 := Lib.hid p1
            have P2 := Lib.hid p2
            have hj0 : Below wc.heap.size wc wc := Below.refl _ _
            have HJ3 := Lib.hid hj0
            clear hla hma hlm hmm hri hab p1 p2 hj0
            cases bL with
            | false =>
              go_wp2_with fail
              refine (HLa.out _ HB3.out).mono ?_
              rintro e w4 ⟨rfl, hb⟩
              have HB4 := Lib.hid (HB3.out.trans (hb.mono HB3.out.size))
              have HJ4 := Lib.hid (HJ3.out.trans (hb.mono HJ3.out.size))
              clear hb
              cases hfr : (xk == 1) with
              | true =>
                have HFr := Lib.hid hfr
                go_wp2_with fail
                refine (HMa.out _ HB4.out).mono ?_
                rintro e w8 ⟨rfl, hb⟩
                have HB8 := Lib.hid (HB4.out.trans (hb.mono HB4.out.size))
                have HJ8 := Lib.hid (HJ4.out.trans (hb.mono HJ4.out.size))
                clear hb
                go_wp2_with fail
                refine (HMm.out _ HJ8.out).mono ?_
                rintro e w9 ⟨rfl, hb⟩
                have HB9 := Lib.hid (HB8.out.trans (hb.mono HB8.out.size))
                have HJ9 := Lib.hid (HJ8.out.trans (hb.mono HJ8.out.size))
                clear hb
                go_wp2_with fail
                go_ret
                exact ⟨rfl, HFin.out _ HB9.out⟩
              | false =>
                have hne : xk ≠ 1 := by simpa using hfr
                cases hbe : (mA == 0) with
                | true =>
                  go_wp2_with fail
                  refine (HMa.out _ HB4.out).mono ?_
                  rintro e w8 ⟨rfl, hb⟩
                  have HB8 := Lib.hid (HB4.out.trans (hb.mono HB4.out.size))
                  have HJ8 := Lib.hid (HJ4.out.trans (hb.mono HJ4.out.size))
                  clear hb
                  go_wp2_with fail
                  refine (HMm.out _ HJ8.out).mono ?_
                  rintro e w9 ⟨rfl, hb⟩
                  have HB9 := Lib.hid (HB8.out.trans (hb.mono HB8.out.size))
                  have HJ9 := Lib.hid (HJ8.out.trans (hb.mono HJ8.out.size))
                  clear hb
                  go_wp2_with fail
                  go_ret
                  exact ⟨rfl, HFin.out _ HB9.out⟩
                | false =>
                  have haf : (mB != 0) = true := by simpa using P2.out hne (by simpa using hbe)
                  clear hne
                  go_wp2_with fail
                  refine (HMa.out _ HB4.out).mono ?_
                  rintro e w8 ⟨rfl, hb⟩
                  have HB8 := Lib.hid (HB4.out.trans (hb.mono HB4.out.size))
                  have HJ8 := Lib.hid (HJ4.out.trans (hb.mono HJ4.out.size))
                  clear hb
                  go_wp2_with fail
                  refine (HMm.out _ HJ8.out).mono ?_
                  rintro e w9 ⟨rfl, hb⟩
                  have HB9 := Lib.hid (HB8.out.trans (hb.mono HB8.out.size))
                  have HJ9 := Lib.hid (HJ8.out.trans (hb.mono HJ8.out.size))
                  clear hb
                  go_wp2_with fail
                  go_ret
                  exact ⟨rfl, HFin.out _ HB9.out⟩
            | true =>
              cases bM with
              | true =>
                go_wp2_with fail
                refine (HLa.out _ HB3.out).mono ?_
                rintro e w4 ⟨rfl, hb⟩
                have HB4 := Lib.hid (HB3.out.trans (hb.mono HB3.out.size))
                have HJ4 := Lib.hid (HJ3.out.trans (hb.mono HJ3.out.size))
                clear hb
                go_wp2_with fail
                refine (HLm2.out _ HJ4.out).mono ?_
                rintro e w5 ⟨rfl, hb⟩
                have HB5 := Lib.hid (HB4.out.trans (hb.mono HB4.out.size))
                have HJ5 := Lib.hid (HJ4.out.trans (hb.mono HJ4.out.size))
                clear hb
                cases hfr : (xk == 1) with
                | true =>
                  have HFr := Lib.hid hfr
                  go_wp2_with fail
                  refine (HMa.out _ HB5.out).mono ?_
                  rintro e w8 ⟨rfl, hb⟩
                  have HB8 := Lib.hid (HB5.out.trans (hb.mono HB5.out.size))
                  have HJ8 := Lib.hid (HJ5.out.trans (hb.mono HJ5.out.size))
                  clear hb
                  go_wp2_with fail
                  refine (HMm.out _ HJ8.out).mono ?_
                  rintro e w9 ⟨rfl, hb⟩
                  have HB9 := Lib.hid (HB8.out.trans (hb.mono HB8.out.size))
                  have HJ9 := Lib.hid (HJ8.out.trans (hb.mono HJ8.out.size))
                  clear hb
                  go_wp2_with fail
                  go_ret
                  exact ⟨rfl, HFin.out _ HB9.out⟩
                | false =>
                  have hne : xk ≠ 1 := by simpa using hfr
                  cases hbe : (mA == 0) with
                  | true =>
                    go_wp2_with fail
                    refine (HMa.out _ HB5.out).mono ?_
                    rintro e w8 ⟨rfl, hb⟩
                    have HB8 := Lib.hid (HB5.out.trans (hb.mono HB5.out.size))
                    have HJ8 := Lib.hid (HJ5.out.trans (hb.mono HJ5.out.size))
                    clear hb
                    go_wp2_with fail
                    refine (HMm.out _ HJ8.out).mono ?_
                    rintro e w9 ⟨rfl, hb⟩
                    have HB9 := Lib.hid (HB8.out.trans (hb.mono HB8.out.size))
                    have HJ9 := Lib.hid (HJ8.out.trans (hb.mono HJ8.out.size))
                    clear hb
                    go_wp2_with fail
                    go_ret
                    exact ⟨rfl, HFin.out _ HB9.out⟩
                  | false =>
                    have haf : (mB != 0) = true := by simpa using P2.out hne (by simpa using hbe)
                    clear hne
                    go_wp2_with fail
                    refine (HMa.out _ HB5.out).mono ?_
                    rintro e w8 ⟨rfl, hb⟩
                    have HB8 := Lib.hid (HB5.out.trans (hb.mono HB5.out.size))
                    have HJ8 := Lib.hid (HJ5.out.trans (hb.mono HJ5.out.size))
                    clear hb
                    go_wp2_with fail
                    refine (HMm.out _ HJ8.out).mono ?_
                    rintro e w9 ⟨rfl, hb⟩
                    have HB9 := Lib.hid (HB8.out.trans (hb.mono HB8.out.size))
                    have HJ9 := Lib.hid (HJ8.out.trans (hb.mono HJ8.out.size))
                    clear hb
                    go_wp2_with fail
                    go_ret
                    exact ⟨rfl, HFin.out _ HB9.out⟩
              | false =>
                obtain ⟨hk1, rfl, hd, rfl⟩ := P1.out rfl rfl
                have hk2 : (xk == 1) = true := by rw [hk1]; rfl
                have hd2 : decide (day < xd) = false := by simp; omega
                clear hk1 P1 P2
                go_wp2_with fail
                refine (HLa.out _ HB3.out).mono ?_
                rintro e w4 ⟨rfl, hb⟩
                have HB4 := Lib.hid (HB3.out.trans (hb.mono HB3.out.size))
                have HJ4 := Lib.hid (HJ3.out.trans (hb.mono HJ3.out.size))
                clear hb
                go_wp2_with fail
                refine (HLm2.out _ HJ4.out).mono ?_
                rintro e w5 ⟨rfl, hb⟩
                have HB5 := Lib.hid (HB4.out.trans (hb.mono HB4.out.size))
                have HJ5 := Lib.hid (HJ4.out.trans (hb.mono HJ4.out.size))
                clear hb
                have d50 : w5.cell? ⟨w.heap.size, 0, none⟩ = some (.int .i64 xk) := (HB5.out.cell (p := ⟨w.heap.size, 0, none⟩) (by simp)).trans (by simp)
                have d51 : w5.cell? ⟨w.heap.size, 1, none⟩ = some (.int .i64 xp) := (HB5.out.cell (p := ⟨w.heap.size, 1, none⟩) (by simp)).trans (by simp)
                have d52 : w5.cell? ⟨w.heap.size, 2, none⟩ = some (.int .i64 xd) := (HB5.out.cell (p := ⟨w.heap.size, 2, none⟩) (by simp)).trans (by simp)
                have d53 : w5.cell? ⟨w.heap.size, 3, none⟩ = some (.string xo) := (HB5.out.cell (p := ⟨w.heap.size, 3, none⟩) (by simp)).trans (by simp)
                go_wp2_with fail
                refine (HRi.out _).mono ?_
                rintro e w6 ⟨rfl, hb⟩
                have HB6 := Lib.hid (HB5.out.trans (hb.mono HB5.out.size))
                have HJ6 := Lib.hid (HJ5.out.trans (hb.mono HJ5.out.size))
                clear hb
                have d60 : w6.cell? ⟨w.heap.size, 0, none⟩ = some (.int .i64 xk) := (HB6.out.cell (p := ⟨w.heap.size, 0, none⟩) (by simp)).trans (by simp)
                have d61 : w6.cell? ⟨w.heap.size, 1, none⟩ = some (.int .i64 xp) := (HB6.out.cell (p := ⟨w.heap.size, 1, none⟩) (by simp)).trans (by simp)
                have d62 : w6.cell? ⟨w.heap.size, 2, none⟩ = some (.int .i64 xd) := (HB6.out.cell (p := ⟨w.heap.size, 2, none⟩) (by simp)).trans (by simp)
                have d63 : w6.cell? ⟨w.heap.size, 3, none⟩ = some (.string xo) := (HB6.out.cell (p := ⟨w.heap.size, 3, none⟩) (by simp)).trans (by simp)
                go_wp2_with fail
                refine (HAb.out _).mono ?_
                rintro e w7 ⟨rfl, hw⟩
                subst hw
                go_wp2_with fail
                refine (HMa.out _ HB6.out).mono ?_
                rintro e w8 ⟨rfl, hb⟩
                have HB8 := Lib.hid (HB6.out.trans (hb.mono HB6.out.size))
                have HJ8 := Lib.hid (HJ6.out.trans (hb.mono HJ6.out.size))
                clear hb
                go_wp2_with fail
                refine (HMm.out _ HJ8.out).mono ?_
                rintro e w9 ⟨rfl, hb⟩
                have HB9 := Lib.hid (HB8.out.trans (hb.mono HB8.out.size))
                have HJ9 := Lib.hid (HJ8.out.trans (hb.mono HJ8.out.size))
                clear hb
                go_wp2_with fail
                go_ret
                exact ⟨rfl, HFin.out _ HB9.out⟩

end Go.Proofs.YtaojnjealccjiaaDoor
