/- slices.Grow at nil, slices.Concat of two lists of acts. -/
import Derived.Test.YtaojnjealccjiaaGreatDoorRow
import Derived.Test.YtaojnjealccjiaaGreatDoorAppend

namespace Go.Proofs.YtaojnjealccjiaaGreatDoor
open Go Go.RowKit Kb Go.Lib
set_option linter.unusedVariables false

theorem Tryz.infoAct : (Tryz.prog.info? 47).map (fun i => (i.zero, i.size, i.bytes)) = some (some (.agg #[.int .i64 0, .int .i64 0, .int .i64 0, .string ⟨#[]⟩]), 4, 40) := by kernel_rfl

theorem grow_nil (n : Nat) (w : World) (hn : n ≤ 1000000) :
    Calls Tryz.prog 70 #[.slice none 0 0, .int .i64 n] w fun e w' => ∃ v, e = .returned v ∧ w'.ownsRow w.heap.size 47 4 v 0 [] ∧ Below w.heap.size w w' := by
  by_cases h0 : n = 0
  · subst h0
    refine (Any8.slices_Grow_room Tryz.laysGrow none 0 0 0 w (Nat.le_refl _) (by decide) (by decide) (Nat.le_refl _)).mono fun e w' ⟨he, hw⟩ => ?_
    subst hw
    exact ⟨_, he, World.ownsRow_nil _ _ _ _, Below.refl _ _⟩
  · obtain ⟨i0, hi0, hz0, hz1, hz2⟩ := info_parts Tryz.infoAct
    have h := Any8.slices_Grow_grow Tryz.laysGrow i0 _ hi0 hz0 (by rw [hz1]; decide) none 0 0 n [] w (Nat.le_refl _) (by omega) (by rw [hz2]; omega) (by omega) (by simp) (fun _ => rfl) (fun a ha => by cases ha)
    refine h.mono fun e w' ⟨he, hw⟩ => ⟨_, he, ?_, ?_⟩
    · rw [hw]
      have hge := grownCap_ge w (0 + n) 0 (Tryz.laysGrow_ren.t 25)
      have hle := grownCap_le_maxLen w (0 + n) 0 (Tryz.laysGrow_ren.t 25) (by unfold maxLen; omega)
      refine World.ownsRow_made w.drew _ _ (Nat.le_refl _) hle ?_
      have hz4 : (Value.agg #[.int .i64 0, .int .i64 0, .int .i64 0, .string ⟨#[]⟩]).cells.size = 4 := rfl
      simp only [Builtin.zeroCells, hz4, Array.size_append, Array.size_map, Array.size_range, List.size_toArray, List.length_nil]
      omega
    · rw [hw]
      exact (Below.refl _ w).drew.alloc (Nat.le_refl _) _

theorem own_of_owns {w : World} {B cap : Nat} {A : Option Addr} {xs : List Akt} (h : w.ownsRow B 47 4 (.slice A xs.length cap) xs.length (xs.flatMap aktV)) : OwnR B w A cap xs := by
  have hk : ∀ x : Akt, (aktV x).length = 4 := fun _ => rfl
  refine ⟨?_, ?_, fun hn => ?_⟩
  · rcases h.2 with ⟨h1, h2⟩ | ⟨g, cap', cur, h1, _, _, h2, h3, _⟩
    · rw [h2]; exact Nat.zero_le _
    · injection h1 with _ _ h4; omega
  · rcases h.2 with ⟨h1, h2⟩ | ⟨g, cap', cur, h1, _, _, h2, h3, _⟩
    · injection h1 with _ _ h4; rw [h4]; exact Nat.zero_le _
    · injection h1 with _ _ h4; omega
  · have hl : 0 < xs.length := by cases xs with
      | nil => exact absurd rfl hn
      | cons x l => simp
    obtain ⟨g, cap', hv, hg1, hg2⟩ := h.form hl
    have hA : A = some ⟨g, 0, none⟩ := by injection hv
    subst hA
    refine ⟨g, rfl, hg1, hg2, fun j a ha => ?_⟩
    have hc := fun c u (hu : (aktV a)[c]? = some u) => h.cells (g := g) rfl (j * 4 + c) u (flat_at hk xs j c a u ha hu)
    simp only [Addr.add_lit, Nat.zero_add] at hc
    exact ⟨⟨hc 0 _ rfl, hc 1 _ rfl, hc 2 _ rfl, hc 3 _ rfl⟩, h.frozenAt _, h.frozenAt _, h.frozenAt _, h.frozenAt _⟩

set_option maxHeartbeats 4000000 in
set_option maxRecDepth 100000 in
theorem concat_acts (a b : List Akt) (Aa Ab : Option Addr) (ca cb g : Nat) (w : World) (h0 : w.cell? ⟨g, 0, none⟩ = some (.slice Aa a.length ca)) (h1 : w.cell? ⟨g, 1, none⟩ = some (.slice Ab b.length cb)) (hg : g < w.heap.size)
    (hla : Lst aktV 4 w Aa a) (hlb : Lst aktV 4 w Ab b) (hn : a.length + b.length ≤ 1000000) :
    Calls Tryz.prog 44 #[.slice (some ⟨g, 0, none⟩) 2 2] w fun e w' => ∃ A cap, e = .returned (.slice A (a ++ b).length cap) ∧ OwnR w.heap.size w' A cap (a ++ b) ∧ Below w.heap.size w w' := by
  have hk : ∀ x : Akt, (aktV x).length = 4 := fun _ => rfl
  have ra := lst_reads hk hla
  have rb := lst_reads hk hlb
  have one : ∀ xs : List Akt, ∀ u ∈ xs.flatMap aktV, u.oneCell' = true := fun xs u hu => by
    obtain ⟨x, _, hx⟩ := List.mem_flatMap.1 hu
    simp [aktV] at hx
    rcases hx with rfl | rfl | rfl | rfl <;> rfl
  have hfl : (a ++ b).flatMap aktV = a.flatMap aktV ++ b.flatMap aktV := by simp
  have hgr := fun W => grow_nil (a.length + b.length) W hn
  simp only [Int.natCast_add] at hgr
  have fin : ∀ (v : Value) (W : World), W.ownsRow w.heap.size 47 4 v (a.length + b.length) (a.flatMap aktV ++ b.flatMap aktV) → ∃ A cap, v = .slice A (a ++ b).length cap ∧ OwnR w.heap.size W A cap (a ++ b) := fun v W h => by
    rw [← hfl, ← List.length_append] at h
    rcases h.2 with ⟨h1, h2⟩ | ⟨g, cap', cur, h1, _⟩
    · refine ⟨none, 0, by rw [h1, h2], own_of_owns ?_⟩
      rw [h1, ← h2] at h; simpa [h2] using h
    · refine ⟨_, cap', h1, own_of_owns ?_⟩
      rw [h1] at h; exact h
  obtain ⟨i0, hi0, hz0, hz1, hz2⟩ := info_parts Tryz.infoAct
  have hca := one a
  have hcb := one b
  generalize hna : a.length = na at *
  generalize hnb : b.length = nb at *
  generalize a.flatMap aktV = fa at *
  generalize b.flatMap aktV = fb at *
  have HF := Lib.hid fin
  have HG := Lib.hid hgr
  have RA := Lib.hid ra
  have RB := Lib.hid rb
  have O1 := Lib.hid hca
  have O2 := Lib.hid hcb
  clear fin hgr ra rb hca hcb one hfl hna hnb hla hlb hk
  go_enter Tryz.func44, Tryz.ntmps44
  go_wp2_with fail
  go_loop [3, 11] (fun s i => Hid ((s = .int .i64 0 ∧ i = .int .i64 0) ∨ (s = .int .i64 na ∧ i = .int .i64 1) ∨ (s = .int .i64 ((na : Int) + (nb : Int)) ∧ i = .int .i64 2))) (fun _ i => 2 - (intOf i).toNat)
  case atStart => exact .inl ⟨rfl, rfl⟩
  case round =>
    rcases hrel.out with ⟨rfl, rfl⟩ | ⟨rfl, rfl⟩ | ⟨rfl, rfl⟩
    · clear hrel
      go_wp2_with fail
      go_round
      case rel => exact .inr (.inl ⟨rfl, rfl⟩)
      case measure => simp [intOf]
    · clear hrel
      go_wp2_with fail
      go_round
      case rel => exact .inr (.inr ⟨rfl, rfl⟩)
      case measure => simp [intOf]
    · clear hrel
      go_wp2_with (go_at_call 70; refine (HG.out _).mono ?_; rintro e w1 ⟨v, rfl, hown, hb1⟩)
      go_loopw [6, 27] (fun s i wr => ∃ v6 : Value, v6 = s ∧ Hid (Below w.heap.size w wr) ∧ Hid ((i = .int .i64 0 ∧ wr.ownsRow w.heap.size 47 4 v6 0 []) ∨ (i = .int .i64 1 ∧ wr.ownsRow w.heap.size 47 4 v6 na fa) ∨ (i = .int .i64 2 ∧ wr.ownsRow w.heap.size 47 4 v6 (na + nb) (fa ++ fb)))) (fun _ i _ => 2 - (intOf i).toNat)
      case atStart => exact ⟨_, rfl, hb1, .inl ⟨rfl, hown⟩⟩
      case round =>
        clear hown hb1
        obtain ⟨v6, rfl, HB, hrel⟩ := hrel
        have q0 : wr.cell? ⟨g, 0, none⟩ = some (.slice Aa na ca) := (HB.out.cell (p := ⟨g, 0, none⟩) hg).trans h0
        have q1 : wr.cell? ⟨g, 1, none⟩ = some (.slice Ab nb cb) := (HB.out.cell (p := ⟨g, 1, none⟩) hg).trans h1
        rcases hrel.out with ⟨rfl, hown⟩ | ⟨rfl, hown⟩ | ⟨rfl, hown⟩
        · clear hrel
          have HOw := Lib.hid hown
          clear hown
          go_wp2_with (at_builtin; refine wpList_append_any _ rfl (.tmp 31) (.tmp 32) _ rfl w.heap.size 47 i0 _ 4 40 Tryz.underlying23 hi0 hz0 hz1 hz2 rfl (by omega) v6 0 [] rfl HOw.out w.heap.size Aa na ca fa rfl (RA.out.below HB.out) O1.out (by simp only [maxLen]; omega) (by omega) HB.out.size ?_; intro v2 w2 hown2 hg2 hat2)
          have hb2 : Below w.heap.size w w2 := HB.out.grown hg2 HB.out.size (fun k hk => (HOw.out.lt k hk).1)
          (try simp only [Nat.zero_add, List.nil_append] at hown2)
          have HO2 := Lib.hid hown2
          have HB2 := Lib.hid hb2
          clear hown2 hg2 hat2 hb2
          go_roundw
          case rel => exact ⟨_, rfl, HB2.out, .inr (.inl ⟨rfl, HO2.out⟩)⟩
          case measure => simp [intOf]
        · clear hrel
          have HOw := Lib.hid hown
          clear hown
          go_wp2_with (at_builtin; refine wpList_append_any _ rfl (.tmp 31) (.tmp 32) _ rfl w.heap.size 47 i0 _ 4 40 Tryz.underlying23 hi0 hz0 hz1 hz2 rfl (by omega) v6 na fa rfl HOw.out w.heap.size Ab nb cb fb rfl (RB.out.below HB.out) O2.out (by simp only [maxLen]; omega) (by omega) HB.out.size ?_; intro v2 w2 hown2 hg2 hat2)
          have hb2 : Below w.heap.size w w2 := HB.out.grown hg2 HB.out.size (fun k hk => (HOw.out.lt k hk).1)
          (try simp only [Nat.zero_add, List.nil_append] at hown2)
          have HO2 := Lib.hid hown2
          have HB2 := Lib.hid hb2
          clear hown2 hg2 hat2 hb2
          go_roundw
          case rel => exact ⟨_, rfl, HB2.out, .inr (.inr ⟨rfl, HO2.out⟩)⟩
          case measure => simp [intOf]
        · clear hrel
          obtain ⟨A, cap, hv, hO⟩ := HF.out v6 wr hown
          have HOr := Lib.hid hO
          clear hown hO
          rw [hv]
          clear hv
          go_wp2_with fail
          go_ret
          exact ⟨A, cap, rfl, HOr.out, HB.out⟩

end Go.Proofs.YtaojnjealccjiaaGreatDoor
