/- ModuleLaws: for every input of bulk at most 1048576 the law returns true and leaves its arguments as they were. Conditions: those of the given row alone (its bound, and its listed variables, tied by the given card). -/
import Derived.Test.YtkfofnjfihfgkaaGreatDoorModuleLawsFacts
import Derived.Test.YtkfofnjfihfgkaaGreatDoorTie
import Derived.Test.YtkfofnjfihfgkaaGreatDoorCards
import Derived.WalkKit
import Derived.ProofKit
import Derived.OpenShut
import Derived.Deep.DeepHandedRow
import Derived.Lib.LaidTab
import Derived.JoinedCond
import Derived.Test.YtkfofnjfihfgkaaGreatDoorPzB
import Derived.Test.YtkfofnjfihfgkaaGreatDoorPz33
namespace Go.Proofs.YtkfofnjfihfgkaaGreatDoor.moduleLaws
open Go Go.ChangeShapes Go.WideShapes Go.ChangeAt Go.RowKit Go.Proofs Sh Kb
open Go.ChangeMaps (open_string shut_string)
set_option linter.unusedVariables false
set_option linter.unusedSimpArgs false
theorem own : ownKnob Tryz.prog.godebug = none := by kernel_rfl
theorem laidOut : laidOutB Tryz.prog = true := by kernel_rfl
theorem cells_of {l : List cL} (h : (l.map JA).sum ≤ 1048576) : (∀ c ∈ l, vt c) ∧ (∀ c ∈ l, cU c.iY ≤ 1000000) ∧ l.length ≤ 10000000 := by
 have h1 : ∀ c ∈ l, JA c ≤ 1048576 := fun c hc => by have := mem_sum (f := JA) hc; omega
 have h2 := len_sum (f := JA) (fun x => by unfold JA; omega) l
 exact ⟨fun c hc => sm_cell (h1 c hc), fun c hc => by have := nodes_mE c.iY; have := h1 c hc; unfold JA at this; omega, by omega⟩
theorem tab_laid {W : World} (h : laidMetH Tryz.prog Rows.moduleLawsUptoRow.laid W) : FW W.heap.size W := by
 rw [MakeChecks.laidMetH_plain _ _ _ (by kernel_rfl)] at h
 obtain ⟨ps, ⟨_, _, _, _, _, q1, _, _, _, _, ⟨_, _, _, _, _, q2, _, _, _, _, ⟨g, t, cs, fuel, p, q, hg, ht, hvar, hd, _, _⟩, _⟩, _⟩, _⟩ := h
 have hg' : Tryz.prog.globalNamed QU = some g := hg
 have hvar' : W.var? Tryz.prog QU = some cs := hvar
 have e0 : (Tryz.prog.globalNamed QU).bind (fun g => (Tryz.prog.globals[g]?).map (·.type)) = some 321 := by kernel_rfl
 rw [hg'] at e0
 obtain rfl : 321 = t := Option.some.inj (e0.symm.trans ht)
 refine Lib.tabBelow_of_tabIs ?_
 unfold Lib.TabIs
 rw [hvar', ← Lib.cells_of_tab (n := 20) (zs := Lib.pow10Tab) Tryz.underlying321 Tryz.underlying259 (by kernel_rfl) (by kernel_rfl) hd]
theorem reads (os : Os) {H : Type} (enc : TypeId × Value → H) : ∃ places, DataW.whole enc Tryz.prog ((World.laidAll Tryz.prog os Rows.moduleLawsUptoRow.laid).forCall (fun _ _ => 0) ⟨#[], #[.agg #[.string ⟨#[]⟩, .slice none 0 0, .slice none 0 0, .slice none 0 0, .slice none 0 0, .slice none 0 0, .slice none 0 0, .slice none 0 0, .slice none 0 0], .agg #[.string ⟨#[]⟩, .slice none 0 0, .slice none 0 0, .slice none 0 0, .slice none 0 0, .slice none 0 0, .slice none 0 0, .slice none 0 0, .slice none 0 0], .agg #[.string ⟨#[]⟩, .slice none 0 0, .slice none 0 0, .slice none 0 0, .slice none 0 0, .slice none 0 0, .slice none 0 0, .slice none 0 0, .slice none 0 0], .string ⟨#[]⟩], []⟩).memory Tryz.f4.params.toList Rows.moduleLawsSpec.vars false (#[.agg #[.string ⟨#[]⟩, .slice none 0 0, .slice none 0 0, .slice none 0 0, .slice none 0 0, .slice none 0 0, .slice none 0 0, .slice none 0 0, .slice none 0 0], .agg #[.string ⟨#[]⟩, .slice none 0 0, .slice none 0 0, .slice none 0 0, .slice none 0 0, .slice none 0 0, .slice none 0 0, .slice none 0 0, .slice none 0 0], .agg #[.string ⟨#[]⟩, .slice none 0 0, .slice none 0 0, .slice none 0 0, .slice none 0 0, .slice none 0 0, .slice none 0 0, .slice none 0 0, .slice none 0 0], .string ⟨#[]⟩] : Array Value).toList 8 = some ([.agg [.lit (.string []), .nil, .nil, .nil, .nil, .nil, .nil, .nil, .nil], .agg [.lit (.string []), .nil, .nil, .nil, .nil, .nil, .nil, .nil, .nil], .agg [.lit (.string []), .nil, .nil, .nil, .nil, .nil, .nil, .nil, .nil], .lit (.string [])], [], places) :=
 ⟨[], by kernel_rfl⟩
set_option maxRecDepth 100000 in
set_option maxHeartbeats 2000000 in
theorem lifted (os : Os) (started : os.Started) (H : Type) (enc : TypeId × Value → H) (F : Stop.Interp) :
  ReturnsInHanded {} Tryz.checked os 4 .any ((Rows.OpenSpec.upto Rows.moduleLawsSpec).preRow enc Tryz.prog Tryz.f4 Rows.moduleLawsUptoRow.domain false Rows.moduleLawsUptoRow.laid) (((Rows.OpenSpec.upto Rows.moduleLawsSpec).at F).post enc Tryz.prog Tryz.f4 false true false false) := by
 obtain ⟨places, hx⟩ := reads os enc
 refine returnsInHanded_of_row (C := Tryz.checked) (s := (Rows.OpenSpec.upto Rows.moduleLawsSpec)) own started (by kernel_rfl) Tryz.func4
  ⟨World.laidAll Tryz.prog os Rows.moduleLawsUptoRow.laid, fun _ _ => 0, ⟨#[], #[.agg #[.string ⟨#[]⟩, .slice none 0 0, .slice none 0 0, .slice none 0 0, .slice none 0 0, .slice none 0 0, .slice none 0 0, .slice none 0 0, .slice none 0 0], .agg #[.string ⟨#[]⟩, .slice none 0 0, .slice none 0 0, .slice none 0 0, .slice none 0 0, .slice none 0 0, .slice none 0 0, .slice none 0 0, .slice none 0 0], .agg #[.string ⟨#[]⟩, .slice none 0 0, .slice none 0 0, .slice none 0 0, .slice none 0 0, .slice none 0 0, .slice none 0 0, .slice none 0 0, .slice none 0 0], .string ⟨#[]⟩], []⟩, World.laidAll_os _ _ _, World.shaped_of_ZipB (by kernel_rfl) (by kernel_rfl), rfl, (Input.okWide_of_okWideB (by kernel_rfl)).2,
   OpenSpec.preRow_of_cond 8 hx (by kernel_rfl) (fun k hk => by cases hk; kernel_rfl) (by kernel_rfl) (by rw [MakeChecks.laidMetH_plain _ _ _ (by kernel_rfl)]; exact laidMet_laidAll _ (by kernel_rfl) (by kernel_rfl)), by
   simp only [Assume.holds]
   exact ⟨by simp, by simp, fun _ => Modest.zero, by simp, by simp⟩⟩ ?_
 intro W base args ds gs before hval0 hW _ hcond _ hL _ _
 have hval : ∀ (j : Nat) t v, Tryz.f4.params[j]? = some t → args[j]? = some v → Value.okWide Tryz.prog W .any base t v := hval0
 have hB : Rows.uptoBulkAll (ds ++ gs) ≤ 1048576 := of_decide_eq_true (hcond _ rfl)
 have hW' := hW
 obtain ⟨p, q, QW, hV, rfl, hfz, hnd⟩ := hW
 have hA : DataW.TrodAll enc Tryz.prog W 0 (fun _ => true) true Tryz.f4.params.toList args.toList ds p := QW
 rw [Tryz.params4] at hA hval
 obtain ⟨v0, vs0, d0, ds0, p0, q0, hargs, rfl, rfl, h0, r0⟩ := trodAll_cons hA
 obtain ⟨v1, vs1, d1, ds1, p1, q1, rfl, rfl, rfl, h1, r1⟩ := trodAll_cons r0
 obtain ⟨v2, vs2, d2, ds2, p2, q2, rfl, rfl, rfl, h2, r2⟩ := trodAll_cons r1
 obtain ⟨v3, vs3, d3, ds3, p3, q3, rfl, rfl, rfl, h3, r3⟩ := trodAll_cons r2
 obtain ⟨rfl, rfl, rfl⟩ := trodAll_nil r3
 obtain rfl : args = #[v0, v1, v2, v3] := by cases args; simp_all
 obtain ⟨rfl, rfl⟩ := trodVars_none hV
 simp only [List.cons_append, List.nil_append, Rows.uptoBulkAll] at hB
 have k0 := h0
 have lt0 : ∀ x ∈ p0, x.block < W.heap.size := by obtain ⟨m, hm⟩ := k0; exact DataW.trod_lt m _ _ _ hm
 obtain ⟨cs0, rfl, hs0⟩ := okWide_struct Tryz.underlying31 (hval 0 31 v0 rfl rfl)
 obtain ⟨ls0, s0, e0, i0, z0⟩ : ∃ (ls : dU) (s : bY), cs0 = (cn ls s).toArray ∧ cB W Any ls s ∧ UO s ≤ 1048576 := by
  obtain ⟨m, hm⟩ := k0
  obtain ⟨ls, s, e, i, z⟩ := open_sheet hm
  exact ⟨ls, s, by rw [← e]; simp [Value.cells], i, by dsimp only at z; omega⟩
 subst e0
 have k1 := h1
 have lt1 : ∀ x ∈ p1, x.block < W.heap.size := by obtain ⟨m, hm⟩ := k1; exact DataW.trod_lt m _ _ _ hm
 obtain ⟨cs1, rfl, hs1⟩ := okWide_struct Tryz.underlying31 (hval 1 31 v1 rfl rfl)
 obtain ⟨ls1, s1, e1, i1, z1⟩ : ∃ (ls : dU) (s : bY), cs1 = (cn ls s).toArray ∧ cB W Any ls s ∧ UO s ≤ 1048576 := by
  obtain ⟨m, hm⟩ := k1
  obtain ⟨ls, s, e, i, z⟩ := open_sheet hm
  exact ⟨ls, s, by rw [← e]; simp [Value.cells], i, by dsimp only at z; omega⟩
 subst e1
 have k2 := h2
 have lt2 : ∀ x ∈ p2, x.block < W.heap.size := by obtain ⟨m, hm⟩ := k2; exact DataW.trod_lt m _ _ _ hm
 obtain ⟨vH, rfl, hs2⟩ := okWide_struct Tryz.underlying31 (hval 2 31 v2 rfl rfl)
 obtain ⟨ls2, s2, e2, i2, z2⟩ : ∃ (ls : dU) (s : bY), vH = (cn ls s).toArray ∧ cB W Any ls s ∧ UO s ≤ 1048576 := by
  obtain ⟨m, hm⟩ := k2
  obtain ⟨ls, s, e, i, z⟩ := open_sheet hm
  exact ⟨ls, s, by rw [← e]; simp [Value.cells], i, by dsimp only at z; omega⟩
 subst e2
 obtain ⟨s3, rfl, rfl, rfl, ws3⟩ := open_string Tryz.underlying9 (hval 3 9 v3 rfl rfl) h3
 clear QW hval0 hval
 refine (law_laws ls0 ls1 ls2 s0 s1 s2 s3 W (tab_laid hL) (Nat.le_refl _) i0 (lit_of z0) i1 (lit_of z1) i2 (lit_of z2) ws3).mono fun e W' ⟨he, bel⟩ => ?_
 subst he
 exact ⟨_, rfl, _, _, _, [], _, [], hW', trodAll_mk1 (shut_bool Tryz.underlying4 _), (trodAll_cons_mk (Below.trod laidOut (by kernel_rfl) (of_decide_eq_true (by kernel_rfl)) k0 bel lt0) (trodAll_cons_mk (Below.trod laidOut (by kernel_rfl) (of_decide_eq_true (by kernel_rfl)) k1 bel lt1) (trodAll_cons_mk (Below.trod laidOut (by kernel_rfl) (of_decide_eq_true (by kernel_rfl)) k2 bel lt2) (trodAll_cons_mk (shut_string Tryz.underlying9 ws3) trodAll_mk0)))), rfl, bel.frame _, fun h => by cases h⟩
theorem saidUpto : Rows.ModuleLawsUptoSaid :=
 OpenClaim.holds_of_cond 4 Tryz.f4 rfl rfl rfl rfl rfl rfl rfl ⟨rfl, rfl, rfl, rfl, rfl⟩ rfl rfl rfl rfl rfl (by kernel_rfl) Tryz.func4 closed_moduleLaws
  (of_decide_eq_true (by kernel_rfl)) (by unfold Func.isWrapper; first | (rw [if_pos (by decide +kernel)]; kernel_rfl) | (rw [if_neg (by decide +kernel)]; exact ⟨rfl, rfl⟩))
  (fun os started H enc _ F => by rw [OpenClaim.pre_eq_preRow]; exact lifted os started H enc F)
theorem proved : Rows.ModuleLawsUptoCardSaid :=
 Claim7.holds_tied_plain_at .later [] _ _ _ _ saidUpto (fun _ h => by cases h) (by kernel_rfl) (fun _ h => by cases h) moduleLawsUpto_row_tie rfl ⟨rfl, rfl⟩ (by kernel_rfl) rfl
  (fun f fn hf hfn => by
   obtain rfl : f = 4 := Option.some.inj ((show Tryz.prog.funcNamed Rows.moduleLawsUptoRow.func = some 4 by kernel_rfl).symm.trans hf) |>.symm
   obtain rfl : fn = Tryz.f4 := (Option.some.inj (Tryz.func4.symm.trans hfn)).symm
   exact ⟨by kernel_rfl, fun j t ht => by
    rw [Tryz.params4] at ht
    have hm : t ∈ [31, 31, 31, 9] := by simpa using Array.mem_of_getElem? ht
    have hall : ([31, 31, 31, 9].all fun u => !Tryz.prog.wantsStandIn u) = true := by kernel_rfl
    exact (show Tryz.prog.wantsStandIn t = false by simpa using List.all_eq_true.1 hall t hm)⟩)
  (by kernel_rfl)
#print axioms proved
end Go.Proofs.YtkfofnjfihfgkaaGreatDoor.moduleLaws
