/- lock.Join. -/
import Derived.Test.YtaojnjealccjiaaGreatDoorCompact
import Derived.Test.YtaojnjealccjiaaGreatDoorConcat
import Derived.Test.YtaojnjealccjiaaGreatDoorDelete
import Derived.Test.YtaojnjealccjiaaGreatDoorSort
namespace Go.Proofs.YtaojnjealccjiaaGreatDoor
open Go Go.RowKit Kb Go.Lib
set_option linter.unusedVariables false

theorem join_pred (x : Akt) (W : World) (hs : x.obj.size < 4294967281) : Calls Tryz.prog 45 #[.agg #[.int .i64 x.kind, .int .i64 x.person, .int .i64 x.day, .string x.obj]] W fun e w' => e = .returned (.bool (!rightB x)) ∧ Below W.heap.size W w' := by
  have hr := fun W => lock_right x.kind x.person x.day x.obj W hs
  generalize rightB x = b at hr ⊢
  have HR := Lib.hid hr
  clear hr
  go_enter Tryz.func45, Tryz.ntmps45
  go_wp2_with (go_at_call 23; refine (HR.out _).mono ?_; rintro e w' ⟨rfl, hb⟩)
  go_ret
  exact ⟨rfl, ((Below.refl _ W).alloc (Nat.le_refl _) _).trans (hb.mono (by simp))⟩

theorem isJoin_of {a b ys : List Akt} (hp : ys.Perm ((a ++ b).filter fun x => !(!rightB x))) (hs : ys.Pairwise (fun a b => ¬ ltAct b a)) : IsJoin a b (cpt ys ys.length) :=
  ⟨cpt_strict hs _ (Nat.le_refl _), fun x => by
    rw [cpt_mem _ (Nat.le_refl _), List.take_length, hp.mem_iff, List.mem_filter, List.mem_append, Bool.not_not]
    exact And.comm⟩

set_option maxHeartbeats 2000000 in
theorem lock_join (a b : List Akt) (Aa Ab : Option Addr) (ca cb : Nat) (w : World) (hla : Lst aktV 4 w Aa a) (hlb : Lst aktV 4 w Ab b) (hsa : Small a) (hsb : Small b) (hn : a.length + b.length ≤ 1000000) :
    Calls Tryz.prog 25 #[.slice Aa a.length ca, .slice Ab b.length cb] w fun e w' => ∃ A cap j, e = .returned (.slice A (j : List Akt).length cap) ∧ IsJoin a b j ∧ Lst aktV 4 w' A j ∧ Below w.heap.size w w' := by
  have hcc := concat_acts a b Aa Ab ca cb w.heap.size (w.alloc (.cells #[.slice Aa a.length ca, .slice Ab b.length cb] 23)) (by simp) (by simp) (by simp) (hla.alloc _) (hlb.alloc _) hn
  have eg : ∀ args w, (callFunc 45 args).run Tryz.prog w = .ok (.enter 45 args) w := enters_of Tryz.func45 (by kernel_rfl) rfl
  have hB0 : Below w.heap.size w (w.alloc (.cells #[.slice Aa a.length ca, .slice Ab b.length cb] 23)) := (Below.refl _ w).alloc (Nat.le_refl _) _
  have hde := fun (A : Option Addr) (cap : Nat) (W : World) (ho : OwnR w.heap.size W A cap (a ++ b)) (hB : Below w.heap.size w W) =>
    delete_acts (fun x => !rightB x) 45 eg w.heap.size A cap (a ++ b) w W (fun W' x hx => join_pred x W' (by rcases List.mem_append.1 hx with m | m; exact hsa.1 x m; exact hsb.1 x m)) ho hB
  have hlen : ((a ++ b).filter fun x => !(!rightB x)).length ≤ 1000000 := Nat.le_trans (List.length_filter_le _ _) (by simpa using hn)
  have hso := fun (A : Option Addr) (cap : Nat) (W : World) (ho : OwnR w.heap.size W A cap ((a ++ b).filter fun x => !(!rightB x))) (hB : Below w.heap.size w W) =>
    sort_acts w.heap.size A cap _ w W ho hB (by omega)
  have hij := fun ys => isJoin_of (a := a) (b := b) (ys := ys)
  have hpl : ∀ ys : List Akt, ys.Perm ((a ++ b).filter fun x => !(!rightB x)) → ys.length = ((a ++ b).filter fun x => !(!rightB x)).length := fun ys h => h.length_eq
  generalize ((a ++ b).filter fun x => !(!rightB x)) = fl at hde hso hij hlen hpl
  generalize (a ++ b) = ab at hcc hde
  generalize a.length = na at hcc hB0 hn ⊢
  generalize b.length = nb at hcc hB0 hn ⊢
  have HC := Lib.hid hcc
  have HD := Lib.hid hde
  have HS := Lib.hid hso
  have HJ := Lib.hid hij
  have HB := Lib.hid hB0
  have HP := Lib.hid hpl
  clear hcc hde hso hij hB0 hpl
  go_enter Tryz.func25, Tryz.ntmps25
  go_wp2_with fail
  refine HC.out.mono ?_
  rintro e w1 ⟨A, cap, rfl, ho1, hb1⟩
  have hB1 : Below w.heap.size w w1 := HB.out.trans (hb1.mono (by simp))
  have ho1' : OwnR w.heap.size w1 A cap ab := ⟨ho1.1, ho1.2.1, fun h => by
    obtain ⟨g, q1, q2, q3⟩ := ho1.2.2 h
    exact ⟨g, q1, by simp at q2; omega, q3⟩⟩
  have HO1 := Lib.hid ho1'
  have HB1 := Lib.hid hB1
  clear ho1 ho1' hb1 hB1
  go_wp2_with fail
  refine (HD.out A cap w1 HO1.out HB1.out).mono ?_
  rintro e w2 ⟨rfl, ho2, hb2⟩
  have HO2 := Lib.hid ho2
  have HB2 := Lib.hid hb2
  clear ho2 hb2
  go_wp2_with fail
  refine (HS.out A cap w2 HO2.out HB2.out).mono ?_
  rintro e w3 ⟨rfl, ys, hp, hs, ho3, hb3⟩
  have hcm := compact_acts w.heap.size A cap ys w w3 ho3 hb3
  rw [HP.out ys hp] at hcm
  have hj := HJ.out ys hp hs
  rw [HP.out ys hp] at hj
  have HCm := Lib.hid hcm
  have HJ3 := Lib.hid hj
  clear hcm hj hp hs ho3 hb3
  go_wp2_with fail
  refine (HCm.out).mono ?_
  rintro e w4 ⟨rfl, ho4, hb4⟩
  go_wp2_with fail
  go_ret
  exact ⟨A, cap, _, rfl, HJ3.out, ho4.lst, hb4⟩

end Go.Proofs.YtaojnjealccjiaaGreatDoor
