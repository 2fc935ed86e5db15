/-
  NARROWER THAN 'FOR EVERY INPUT', by the rows' own cells (each row's printed sentence says how): LeanTells: loops · LeanParts: loops · LeanOrder: loops.
  DERIVED. THE GIVEN ROWS OF THIS SEAT. 3 by the template 'for every input the law returns true; each argument reads behind the call as it read before'; 0 by the template 'total and deterministic' (their statements: YtfppbjfnllhgcaaGreatTotals.lean).
  GIVEN WITH THE SEED: the statements are not yours to turn. If you find one false, say at which input.
  Laid BY PROGRAM, IN A SANDBOX (cutbox-rows.mjs): the forced cells as the released guide's own fill.sh prints them over the translation b94ce744a9621431… (all of the seat's roots in one cut). By AI agents, Wed Nov 11 2026. No macro, syntax, notation, axiom, sorry.
-/
import Derived.Test.YtfppbjfnllhgcaaGreatChecked
import GoSem.Claim
import GoSem.ClaimJoined
import GoSem.ClaimMapViews
import Derived.JoinedTies
import Derived.KernelRfl
namespace Go.Proofs.YtfppbjfnllhgcaaGreat
/- THE CELL 'sum', in the pinned program and in every row, IS THE sha256 OF THE DUMP (.gsa) THAT YtfppbjfnllhgcaaGreatProg.lean LOADS. Nothing in Lean hashes anything: it is a label: what it is worth is what the hold of that sum in a sandbox is worth. -/
noncomputable def Tryz.pinned : Pinned := { name := "ytfppbjfnllhgcaagreat", sum := "b94ce744a9621431f0f8af862270f374d8b21c314c3dc3075200cb9b42006880", checked := Tryz.checked }
namespace Rows
def none {H : Type} : Left H := { results := [], args := [] }

/-- 'kitbaglaw23.LeanTells': WHATEVER THE INPUT: true; the input reads as it did. -/
def leanTellsSpec : ChangeSpec := { name := "leanTells", fn := fun _ => fun
  | [d1, d2, d3, d4] => { results := [.lit (.bool true)], args := [d1, d2, d3, d4] }
  | _ => none }
def leanTellsRow : OpenClaim := { program := "ytfppbjfnllhgcaagreat", sum := "b94ce744a9621431f0f8af862270f374d8b21c314c3dc3075200cb9b42006880", func := "kitbag/kitbaglaw23.LeanTells", spec := "leanTells", inPlace := ["internal/abi.NoEscape"], unfollowed := true, recurses := true, loops := true, plainKeys := false, apart := false }
def LeanTellsSaid : Prop := leanTellsRow.holds Tryz.pinned (OpenSpec.ofChange leanTellsSpec)

/-- ITS FALSE NEIGHBOUR: 'it returns false'. Refute it at one input. -/
def leanTellsWrong : ChangeSpec := { name := "leanTells", fn := fun _ => fun
  | [d1, d2, d3, d4] => { results := [.lit (.bool false)], args := [d1, d2, d3, d4] }
  | _ => none }
def LeanTellsWrongFalsely : Prop := leanTellsRow.holds Tryz.pinned (OpenSpec.ofChange leanTellsWrong)

/-- 'kitbaglaw23.LeanParts': WHATEVER THE INPUT: true; the input reads as it did. -/
def leanPartsSpec : ChangeSpec := { name := "leanParts", fn := fun _ => fun
  | [d1, d2, d3] => { results := [.lit (.bool true)], args := [d1, d2, d3] }
  | _ => none }
def leanPartsRow : OpenClaim := { program := "ytfppbjfnllhgcaagreat", sum := "b94ce744a9621431f0f8af862270f374d8b21c314c3dc3075200cb9b42006880", func := "kitbag/kitbaglaw23.LeanParts", spec := "leanParts", inPlace := ["internal/abi.NoEscape"], unfollowed := true, recurses := true, loops := true, plainKeys := false, apart := false }
def LeanPartsSaid : Prop := leanPartsRow.holds Tryz.pinned (OpenSpec.ofChange leanPartsSpec)

/-- ITS FALSE NEIGHBOUR: 'it returns false'. Refute it at one input. -/
def leanPartsWrong : ChangeSpec := { name := "leanParts", fn := fun _ => fun
  | [d1, d2, d3] => { results := [.lit (.bool false)], args := [d1, d2, d3] }
  | _ => none }
def LeanPartsWrongFalsely : Prop := leanPartsRow.holds Tryz.pinned (OpenSpec.ofChange leanPartsWrong)

/-- 'kitbaglaw23.LeanOrder': WHATEVER THE INPUT: true; the input reads as it did. -/
def leanOrderSpec : ChangeSpec := { name := "leanOrder", fn := fun _ => fun
  | [d1, d2, d3] => { results := [.lit (.bool true)], args := [d1, d2, d3] }
  | _ => none }
def leanOrderRow : OpenClaim := { program := "ytfppbjfnllhgcaagreat", sum := "b94ce744a9621431f0f8af862270f374d8b21c314c3dc3075200cb9b42006880", func := "kitbag/kitbaglaw23.LeanOrder", spec := "leanOrder", inPlace := ["internal/abi.NoEscape"], unfollowed := true, recurses := true, loops := true, plainKeys := false, apart := false }
def LeanOrderSaid : Prop := leanOrderRow.holds Tryz.pinned (OpenSpec.ofChange leanOrderSpec)

/-- ITS FALSE NEIGHBOUR: 'it returns false'. Refute it at one input. -/
def leanOrderWrong : ChangeSpec := { name := "leanOrder", fn := fun _ => fun
  | [d1, d2, d3] => { results := [.lit (.bool false)], args := [d1, d2, d3] }
  | _ => none }
def LeanOrderWrongFalsely : Prop := leanOrderRow.holds Tryz.pinned (OpenSpec.ofChange leanOrderWrong)

/- THE SECOND FORM. 'bulk': how many values and letters a reading holds, each counted each time it is reached (what is shared counts as often as it is met; a slice's spare places count too). A statement '..UptoSaid' is the law's where the arguments, and the package variables that the reading takes, are together of bulk at most 1048576: NARROWER than '..Said'. Prove '..Said' where nothing that the law and all that it calls make is longer than what came in: it says more and counts as full. Else prove '..UptoSaid'. A law counts once. -/
mutual
def uptoBulk {H : Type} : DataW H → Nat
  | .lit (.string bytes) => bytes.length + 1
  | .lit _ => 1
  | .nil => 1
  | .ptr d => uptoBulk d + 1
  | .slice elems spare => uptoBulkAll elems + uptoBulkAll spare + 1
  | .agg parts => uptoBulkAll parts + 1
  | .iface _ d => uptoBulk d + 1
  | .map entries => uptoBulkEntries entries + 1
  | .held _ => 1
def uptoBulkAll {H : Type} : List (DataW H) → Nat
  | [] => 0
  | d :: r => uptoBulk d + uptoBulkAll r
def uptoBulkEntries {H : Type} : List (Lit × DataW H) → Nat
  | [] => 0
  | x :: r => uptoBulkEntry x + uptoBulkEntries r
def uptoBulkEntry {H : Type} : Lit × DataW H → Nat
  | (.string bytes, d) => bytes.length + uptoBulk d + 1
  | (_, d) => uptoBulk d + 1
 end
def uptoSmall : (H : Type) → List (DataW H) → Bool := fun _ ds => decide (uptoBulkAll ds ≤ 1048576)
def OpenSpec.upto (s : _root_.Go.ChangeSpec) : _root_.Go.OpenSpec := { _root_.Go.OpenSpec.ofChange s with cond := some uptoSmall }

/-- 'kitbaglaw23.LeanTells', WHERE WHAT IT READS IS OF BULK AT MOST 1048576: true; the input reads as it did. -/
def leanTellsUptoRow : OpenClaim := { program := "ytfppbjfnllhgcaagreat", sum := "b94ce744a9621431f0f8af862270f374d8b21c314c3dc3075200cb9b42006880", func := "kitbag/kitbaglaw23.LeanTells", spec := "leanTells", inPlace := ["internal/abi.NoEscape"], unfollowed := true, recurses := true, loops := true, plainKeys := false, apart := false, narrowed := true }
def LeanTellsUptoSaid : Prop := leanTellsUptoRow.holds Tryz.pinned (OpenSpec.upto leanTellsSpec)

/-- 'kitbaglaw23.LeanParts', WHERE WHAT IT READS IS OF BULK AT MOST 1048576: true; the input reads as it did. -/
def leanPartsUptoRow : OpenClaim := { program := "ytfppbjfnllhgcaagreat", sum := "b94ce744a9621431f0f8af862270f374d8b21c314c3dc3075200cb9b42006880", func := "kitbag/kitbaglaw23.LeanParts", spec := "leanParts", inPlace := ["internal/abi.NoEscape"], unfollowed := true, recurses := true, loops := true, plainKeys := false, apart := false, narrowed := true }
def LeanPartsUptoSaid : Prop := leanPartsUptoRow.holds Tryz.pinned (OpenSpec.upto leanPartsSpec)

/-- 'kitbaglaw23.LeanOrder', WHERE WHAT IT READS IS OF BULK AT MOST 1048576: true; the input reads as it did. -/
def leanOrderUptoRow : OpenClaim := { program := "ytfppbjfnllhgcaagreat", sum := "b94ce744a9621431f0f8af862270f374d8b21c314c3dc3075200cb9b42006880", func := "kitbag/kitbaglaw23.LeanOrder", spec := "leanOrder", inPlace := ["internal/abi.NoEscape"], unfollowed := true, recurses := true, loops := true, plainKeys := false, apart := false, narrowed := true }
def LeanOrderUptoSaid : Prop := leanOrderUptoRow.holds Tryz.pinned (OpenSpec.upto leanOrderSpec)

end Rows
end Go.Proofs.YtfppbjfnllhgcaaGreat
