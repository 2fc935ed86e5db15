/-
  NARROWER THAN 'FOR EVERY INPUT', by the rows' own cells (each row's printed sentence says how): LockTells: laid · LockFour: laid · LockSets: laid · LockJoins: laid · LockBelow: laid · LockMore: laid.
  DERIVED. THE GIVEN ROWS OF THIS SEAT. 6 by the template 'for every input the law returns true; each argument reads behind the call as it read before'; 0 by the template 'total and deterministic' (their statements: YtaojnjealccjiaaDoorTotals.lean).
  GIVEN WITH THE SEED: the statements are not yours to turn. If you find one false, say at which input.
  Laid BY PROGRAM, IN A SANDBOX (cutbox-rows.mjs): the forced cells as the released guide's own fill.sh prints them over the translation 466f1980517a511a… (all of the seat's roots in one cut). By AI agents, Wed Nov 11 2026. No macro, syntax, notation, axiom, sorry.
-/
import Derived.Test.YtaojnjealccjiaaDoorChecked
import GoSem.PinnedTables
import GoSem.Claim
import GoSem.ClaimJoined
import GoSem.ClaimMapViews
import Derived.JoinedTies
import Derived.KernelRfl
namespace Go.Proofs.YtaojnjealccjiaaDoor
/- THE CELL 'sum', in the pinned program and in every row, IS THE sha256 OF THE DUMP (.gsa) THAT YtaojnjealccjiaaDoorProg.lean LOADS. Nothing in Lean hashes anything: it is a label: what it is worth is what the hold of that sum in a sandbox is worth. -/
noncomputable def Tryd.pinned : Pinned := { name := "ytaojnjealccjiaadoor", sum := "466f1980517a511afa8866c77c646ca942c4bdd04687eedf4afd5e199301dcd1", checked := Tryd.checked }
namespace Rows
def none {H : Type} : Left H := { results := [], args := [] }

/- WHAT THE LISTED PACKAGE-LEVEL VARIABLES READ AS WHEN THE CALL BEGINS. Each datum BY PROGRAM (the guide's laid-datum.mjs) off the statement by which the dump's own 'gosem.cut.vars' lays the variable. In a bare row this is a premise. The card (YtaojnjealccjiaaDoorCards.lean) ties it to the program's text. -/
def laid_unicode_utf8_acceptRanges {H : Type} : DataW H := .agg [.agg [.lit (.int .u8 128), .lit (.int .u8 191)], .agg [.lit (.int .u8 160), .lit (.int .u8 191)], .agg [.lit (.int .u8 128), .lit (.int .u8 159)], .agg [.lit (.int .u8 144), .lit (.int .u8 191)], .agg [.lit (.int .u8 128), .lit (.int .u8 143)], .agg [.lit (.int .u8 0), .lit (.int .u8 0)], .agg [.lit (.int .u8 0), .lit (.int .u8 0)], .agg [.lit (.int .u8 0), .lit (.int .u8 0)], .agg [.lit (.int .u8 0), .lit (.int .u8 0)], .agg [.lit (.int .u8 0), .lit (.int .u8 0)], .agg [.lit (.int .u8 0), .lit (.int .u8 0)], .agg [.lit (.int .u8 0), .lit (.int .u8 0)], .agg [.lit (.int .u8 0), .lit (.int .u8 0)], .agg [.lit (.int .u8 0), .lit (.int .u8 0)], .agg [.lit (.int .u8 0), .lit (.int .u8 0)], .agg [.lit (.int .u8 0), .lit (.int .u8 0)]]
/-- One of Go's own tables, pinned by name: the form's constant. -/
def laid_unicode_utf8_first : DataW Unit := Go.Pinned.utf8First

/-- 'kitbaglaw48.LockTells': WHATEVER THE INPUT: true; the input reads as it did. -/
def lockTellsSpec : ChangeSpec := { name := "lockTells", fn := fun _ => fun
  | [d1, d2, d3, d4, d5] => { results := [.lit (.bool true)], args := [d1, d2, d3, d4, d5] }
  | _ => none }
def lockTellsRow : OpenClaim := { program := "ytaojnjealccjiaadoor", sum := "466f1980517a511afa8866c77c646ca942c4bdd04687eedf4afd5e199301dcd1", func := "kitbag/kitbaglaw48.LockTells", spec := "lockTells", inPlace := ["internal/bytealg.CountString", "internal/bytealg.IndexByteString", "internal/bytealg.IndexString", "internal/bytealg.abigen_runtime_cmpstring"], unfollowed := true, recurses := true, named := ["unicode/utf8.first", "unicode/utf8.acceptRanges", "internal/bytealg.MaxLen"], apart := false, laid := [("unicode/utf8.acceptRanges", laid_unicode_utf8_acceptRanges), ("unicode/utf8.first", laid_unicode_utf8_first)] }
def LockTellsSaid : Prop := lockTellsRow.holds Tryd.pinned (OpenSpec.ofChange lockTellsSpec)

/-- ITS FALSE NEIGHBOUR: 'it returns false'. Refute it at one input. -/
def lockTellsWrong : ChangeSpec := { name := "lockTells", fn := fun _ => fun
  | [d1, d2, d3, d4, d5] => { results := [.lit (.bool false)], args := [d1, d2, d3, d4, d5] }
  | _ => none }
def LockTellsWrongFalsely : Prop := lockTellsRow.holds Tryd.pinned (OpenSpec.ofChange lockTellsWrong)

/-- 'kitbaglaw48.LockFour': WHATEVER THE INPUT: true; the input reads as it did. -/
def lockFourSpec : ChangeSpec := { name := "lockFour", fn := fun _ => fun
  | [d1, d2, d3, d4] => { results := [.lit (.bool true)], args := [d1, d2, d3, d4] }
  | _ => none }
def lockFourRow : OpenClaim := { program := "ytaojnjealccjiaadoor", sum := "466f1980517a511afa8866c77c646ca942c4bdd04687eedf4afd5e199301dcd1", func := "kitbag/kitbaglaw48.LockFour", spec := "lockFour", inPlace := ["internal/bytealg.CountString", "internal/bytealg.IndexByteString", "internal/bytealg.IndexString", "internal/bytealg.abigen_runtime_cmpstring"], unfollowed := true, recurses := true, named := ["unicode/utf8.first", "unicode/utf8.acceptRanges", "internal/bytealg.MaxLen"], apart := false, laid := [("unicode/utf8.acceptRanges", laid_unicode_utf8_acceptRanges), ("unicode/utf8.first", laid_unicode_utf8_first)] }
def LockFourSaid : Prop := lockFourRow.holds Tryd.pinned (OpenSpec.ofChange lockFourSpec)

/-- ITS FALSE NEIGHBOUR: 'it returns false'. Refute it at one input. -/
def lockFourWrong : ChangeSpec := { name := "lockFour", fn := fun _ => fun
  | [d1, d2, d3, d4] => { results := [.lit (.bool false)], args := [d1, d2, d3, d4] }
  | _ => none }
def LockFourWrongFalsely : Prop := lockFourRow.holds Tryd.pinned (OpenSpec.ofChange lockFourWrong)

/-- 'kitbaglaw48.LockSets': WHATEVER THE INPUT: true; the input reads as it did. -/
def lockSetsSpec : ChangeSpec := { name := "lockSets", fn := fun _ => fun
  | [d1, d2, d3, d4, d5, d6, d7] => { results := [.lit (.bool true)], args := [d1, d2, d3, d4, d5, d6, d7] }
  | _ => none }
def lockSetsRow : OpenClaim := { program := "ytaojnjealccjiaadoor", sum := "466f1980517a511afa8866c77c646ca942c4bdd04687eedf4afd5e199301dcd1", func := "kitbag/kitbaglaw48.LockSets", spec := "lockSets", inPlace := ["internal/bytealg.CountString", "internal/bytealg.IndexByteString", "internal/bytealg.IndexString", "internal/bytealg.abigen_runtime_cmpstring"], unfollowed := true, recurses := true, named := ["unicode/utf8.first", "unicode/utf8.acceptRanges", "internal/bytealg.MaxLen"], apart := false, laid := [("unicode/utf8.acceptRanges", laid_unicode_utf8_acceptRanges), ("unicode/utf8.first", laid_unicode_utf8_first)] }
def LockSetsSaid : Prop := lockSetsRow.holds Tryd.pinned (OpenSpec.ofChange lockSetsSpec)

/-- ITS FALSE NEIGHBOUR: 'it returns false'. Refute it at one input. -/
def lockSetsWrong : ChangeSpec := { name := "lockSets", fn := fun _ => fun
  | [d1, d2, d3, d4, d5, d6, d7] => { results := [.lit (.bool false)], args := [d1, d2, d3, d4, d5, d6, d7] }
  | _ => none }
def LockSetsWrongFalsely : Prop := lockSetsRow.holds Tryd.pinned (OpenSpec.ofChange lockSetsWrong)

/-- 'kitbaglaw48.LockJoins': WHATEVER THE INPUT: true; the input reads as it did. -/
def lockJoinsSpec : ChangeSpec := { name := "lockJoins", fn := fun _ => fun
  | [d1, d2, d3, d4] => { results := [.lit (.bool true)], args := [d1, d2, d3, d4] }
  | _ => none }
def lockJoinsRow : OpenClaim := { program := "ytaojnjealccjiaadoor", sum := "466f1980517a511afa8866c77c646ca942c4bdd04687eedf4afd5e199301dcd1", func := "kitbag/kitbaglaw48.LockJoins", spec := "lockJoins", inPlace := ["internal/bytealg.CountString", "internal/bytealg.IndexByteString", "internal/bytealg.IndexString", "internal/bytealg.abigen_runtime_cmpstring"], unfollowed := true, recurses := true, named := ["unicode/utf8.first", "unicode/utf8.acceptRanges", "internal/bytealg.MaxLen"], apart := false, laid := [("unicode/utf8.acceptRanges", laid_unicode_utf8_acceptRanges), ("unicode/utf8.first", laid_unicode_utf8_first)] }
def LockJoinsSaid : Prop := lockJoinsRow.holds Tryd.pinned (OpenSpec.ofChange lockJoinsSpec)

/-- ITS FALSE NEIGHBOUR: 'it returns false'. Refute it at one input. -/
def lockJoinsWrong : ChangeSpec := { name := "lockJoins", fn := fun _ => fun
  | [d1, d2, d3, d4] => { results := [.lit (.bool false)], args := [d1, d2, d3, d4] }
  | _ => none }
def LockJoinsWrongFalsely : Prop := lockJoinsRow.holds Tryd.pinned (OpenSpec.ofChange lockJoinsWrong)

/-- 'kitbaglaw48.LockBelow': WHATEVER THE INPUT: true; the input reads as it did. -/
def lockBelowSpec : ChangeSpec := { name := "lockBelow", fn := fun _ => fun
  | [d1, d2, d3, d4, d5] => { results := [.lit (.bool true)], args := [d1, d2, d3, d4, d5] }
  | _ => none }
def lockBelowRow : OpenClaim := { program := "ytaojnjealccjiaadoor", sum := "466f1980517a511afa8866c77c646ca942c4bdd04687eedf4afd5e199301dcd1", func := "kitbag/kitbaglaw48.LockBelow", spec := "lockBelow", inPlace := ["internal/bytealg.CountString", "internal/bytealg.IndexByteString", "internal/bytealg.IndexString", "internal/bytealg.abigen_runtime_cmpstring"], unfollowed := true, recurses := true, named := ["unicode/utf8.first", "unicode/utf8.acceptRanges", "internal/bytealg.MaxLen"], apart := false, laid := [("unicode/utf8.acceptRanges", laid_unicode_utf8_acceptRanges), ("unicode/utf8.first", laid_unicode_utf8_first)] }
def LockBelowSaid : Prop := lockBelowRow.holds Tryd.pinned (OpenSpec.ofChange lockBelowSpec)

/-- ITS FALSE NEIGHBOUR: 'it returns false'. Refute it at one input. -/
def lockBelowWrong : ChangeSpec := { name := "lockBelow", fn := fun _ => fun
  | [d1, d2, d3, d4, d5] => { results := [.lit (.bool false)], args := [d1, d2, d3, d4, d5] }
  | _ => none }
def LockBelowWrongFalsely : Prop := lockBelowRow.holds Tryd.pinned (OpenSpec.ofChange lockBelowWrong)

/-- 'kitbaglaw48.LockMore': WHATEVER THE INPUT: true; the input reads as it did. -/
def lockMoreSpec : ChangeSpec := { name := "lockMore", fn := fun _ => fun
  | [d1, d2, d3, d4, d5] => { results := [.lit (.bool true)], args := [d1, d2, d3, d4, d5] }
  | _ => none }
def lockMoreRow : OpenClaim := { program := "ytaojnjealccjiaadoor", sum := "466f1980517a511afa8866c77c646ca942c4bdd04687eedf4afd5e199301dcd1", func := "kitbag/kitbaglaw48.LockMore", spec := "lockMore", inPlace := ["internal/bytealg.CountString", "internal/bytealg.IndexByteString", "internal/bytealg.IndexString", "internal/bytealg.abigen_runtime_cmpstring"], unfollowed := true, recurses := true, named := ["unicode/utf8.first", "unicode/utf8.acceptRanges", "internal/bytealg.MaxLen"], apart := false, laid := [("unicode/utf8.acceptRanges", laid_unicode_utf8_acceptRanges), ("unicode/utf8.first", laid_unicode_utf8_first)] }
def LockMoreSaid : Prop := lockMoreRow.holds Tryd.pinned (OpenSpec.ofChange lockMoreSpec)

/-- ITS FALSE NEIGHBOUR: 'it returns false'. Refute it at one input. -/
def lockMoreWrong : ChangeSpec := { name := "lockMore", fn := fun _ => fun
  | [d1, d2, d3, d4, d5] => { results := [.lit (.bool false)], args := [d1, d2, d3, d4, d5] }
  | _ => none }
def LockMoreWrongFalsely : Prop := lockMoreRow.holds Tryd.pinned (OpenSpec.ofChange lockMoreWrong)

/- THE SECOND FORM. 'bulk': how many values and letters a reading holds, each counted each time it is reached (what is shared counts as often as it is met; a slice's spare places count too). A statement '..UptoSaid' is the law's where the arguments, and the package variables that the reading takes, are together of bulk at most 1048576: NARROWER than '..Said'. Prove '..Said' where nothing that the law and all that it calls make is longer than what came in: it says more and counts as full. Else prove '..UptoSaid'. A law counts once. -/
mutual
def uptoBulk {H : Type} : DataW H → Nat
  | .lit (.string bytes) => bytes.length + 1
  | .lit _ => 1
  | .nil => 1
  | .ptr d => uptoBulk d + 1
  | .slice elems spare => uptoBulkAll elems + uptoBulkAll spare + 1
  | .agg parts => uptoBulkAll parts + 1
  | .iface _ d => uptoBulk d + 1
  | .map entries => uptoBulkEntries entries + 1
  | .held _ => 1
def uptoBulkAll {H : Type} : List (DataW H) → Nat
  | [] => 0
  | d :: r => uptoBulk d + uptoBulkAll r
def uptoBulkEntries {H : Type} : List (Lit × DataW H) → Nat
  | [] => 0
  | x :: r => uptoBulkEntry x + uptoBulkEntries r
def uptoBulkEntry {H : Type} : Lit × DataW H → Nat
  | (.string bytes, d) => bytes.length + uptoBulk d + 1
  | (_, d) => uptoBulk d + 1
 end
def uptoSmall : (H : Type) → List (DataW H) → Bool := fun _ ds => decide (uptoBulkAll ds ≤ 1048576)
def OpenSpec.upto (s : _root_.Go.ChangeSpec) : _root_.Go.OpenSpec := { _root_.Go.OpenSpec.ofChange s with cond := some uptoSmall }

/-- 'kitbaglaw48.LockTells', WHERE WHAT IT READS IS OF BULK AT MOST 1048576: true; the input reads as it did. -/
def lockTellsUptoRow : OpenClaim := { program := "ytaojnjealccjiaadoor", sum := "466f1980517a511afa8866c77c646ca942c4bdd04687eedf4afd5e199301dcd1", func := "kitbag/kitbaglaw48.LockTells", spec := "lockTells", inPlace := ["internal/bytealg.CountString", "internal/bytealg.IndexByteString", "internal/bytealg.IndexString", "internal/bytealg.abigen_runtime_cmpstring"], unfollowed := true, recurses := true, named := ["unicode/utf8.first", "unicode/utf8.acceptRanges", "internal/bytealg.MaxLen"], apart := false, laid := [("unicode/utf8.acceptRanges", laid_unicode_utf8_acceptRanges), ("unicode/utf8.first", laid_unicode_utf8_first)], narrowed := true }
def LockTellsUptoSaid : Prop := lockTellsUptoRow.holds Tryd.pinned (OpenSpec.upto lockTellsSpec)

/-- 'kitbaglaw48.LockFour', WHERE WHAT IT READS IS OF BULK AT MOST 1048576: true; the input reads as it did. -/
def lockFourUptoRow : OpenClaim := { program := "ytaojnjealccjiaadoor", sum := "466f1980517a511afa8866c77c646ca942c4bdd04687eedf4afd5e199301dcd1", func := "kitbag/kitbaglaw48.LockFour", spec := "lockFour", inPlace := ["internal/bytealg.CountString", "internal/bytealg.IndexByteString", "internal/bytealg.IndexString", "internal/bytealg.abigen_runtime_cmpstring"], unfollowed := true, recurses := true, named := ["unicode/utf8.first", "unicode/utf8.acceptRanges", "internal/bytealg.MaxLen"], apart := false, laid := [("unicode/utf8.acceptRanges", laid_unicode_utf8_acceptRanges), ("unicode/utf8.first", laid_unicode_utf8_first)], narrowed := true }
def LockFourUptoSaid : Prop := lockFourUptoRow.holds Tryd.pinned (OpenSpec.upto lockFourSpec)

/-- 'kitbaglaw48.LockSets', WHERE WHAT IT READS IS OF BULK AT MOST 1048576: true; the input reads as it did. -/
def lockSetsUptoRow : OpenClaim := { program := "ytaojnjealccjiaadoor", sum := "466f1980517a511afa8866c77c646ca942c4bdd04687eedf4afd5e199301dcd1", func := "kitbag/kitbaglaw48.LockSets", spec := "lockSets", inPlace := ["internal/bytealg.CountString", "internal/bytealg.IndexByteString", "internal/bytealg.IndexString", "internal/bytealg.abigen_runtime_cmpstring"], unfollowed := true, recurses := true, named := ["unicode/utf8.first", "unicode/utf8.acceptRanges", "internal/bytealg.MaxLen"], apart := false, laid := [("unicode/utf8.acceptRanges", laid_unicode_utf8_acceptRanges), ("unicode/utf8.first", laid_unicode_utf8_first)], narrowed := true }
def LockSetsUptoSaid : Prop := lockSetsUptoRow.holds Tryd.pinned (OpenSpec.upto lockSetsSpec)

/-- 'kitbaglaw48.LockJoins', WHERE WHAT IT READS IS OF BULK AT MOST 1048576: true; the input reads as it did. -/
def lockJoinsUptoRow : OpenClaim := { program := "ytaojnjealccjiaadoor", sum := "466f1980517a511afa8866c77c646ca942c4bdd04687eedf4afd5e199301dcd1", func := "kitbag/kitbaglaw48.LockJoins", spec := "lockJoins", inPlace := ["internal/bytealg.CountString", "internal/bytealg.IndexByteString", "internal/bytealg.IndexString", "internal/bytealg.abigen_runtime_cmpstring"], unfollowed := true, recurses := true, named := ["unicode/utf8.first", "unicode/utf8.acceptRanges", "internal/bytealg.MaxLen"], apart := false, laid := [("unicode/utf8.acceptRanges", laid_unicode_utf8_acceptRanges), ("unicode/utf8.first", laid_unicode_utf8_first)], narrowed := true }
def LockJoinsUptoSaid : Prop := lockJoinsUptoRow.holds Tryd.pinned (OpenSpec.upto lockJoinsSpec)

/-- 'kitbaglaw48.LockBelow', WHERE WHAT IT READS IS OF BULK AT MOST 1048576: true; the input reads as it did. -/
def lockBelowUptoRow : OpenClaim := { program := "ytaojnjealccjiaadoor", sum := "466f1980517a511afa8866c77c646ca942c4bdd04687eedf4afd5e199301dcd1", func := "kitbag/kitbaglaw48.LockBelow", spec := "lockBelow", inPlace := ["internal/bytealg.CountString", "internal/bytealg.IndexByteString", "internal/bytealg.IndexString", "internal/bytealg.abigen_runtime_cmpstring"], unfollowed := true, recurses := true, named := ["unicode/utf8.first", "unicode/utf8.acceptRanges", "internal/bytealg.MaxLen"], apart := false, laid := [("unicode/utf8.acceptRanges", laid_unicode_utf8_acceptRanges), ("unicode/utf8.first", laid_unicode_utf8_first)], narrowed := true }
def LockBelowUptoSaid : Prop := lockBelowUptoRow.holds Tryd.pinned (OpenSpec.upto lockBelowSpec)

/-- 'kitbaglaw48.LockMore', WHERE WHAT IT READS IS OF BULK AT MOST 1048576: true; the input reads as it did. -/
def lockMoreUptoRow : OpenClaim := { program := "ytaojnjealccjiaadoor", sum := "466f1980517a511afa8866c77c646ca942c4bdd04687eedf4afd5e199301dcd1", func := "kitbag/kitbaglaw48.LockMore", spec := "lockMore", inPlace := ["internal/bytealg.CountString", "internal/bytealg.IndexByteString", "internal/bytealg.IndexString", "internal/bytealg.abigen_runtime_cmpstring"], unfollowed := true, recurses := true, named := ["unicode/utf8.first", "unicode/utf8.acceptRanges", "internal/bytealg.MaxLen"], apart := false, laid := [("unicode/utf8.acceptRanges", laid_unicode_utf8_acceptRanges), ("unicode/utf8.first", laid_unicode_utf8_first)], narrowed := true }
def LockMoreUptoSaid : Prop := lockMoreUptoRow.holds Tryd.pinned (OpenSpec.upto lockMoreSpec)

end Rows
end Go.Proofs.YtaojnjealccjiaaDoor
