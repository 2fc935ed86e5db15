/-
  DERIVED. GIVEN WITH THE SEED: THE CARDS: each row of YtaojnjealccjiaaDoorRows.lean that lists a variable, with what it lists TIED to the program's text (the seventh form; the later family's looks); each row that meets fmt, with fmt's text TOLD by the authors' own Lean function (tested against real Go, not proved from fmt's source: count such statements apart). THE CARD IS WHAT COUNTS. Prove the row's statement (the work); the ties are given (YtaojnjealccjiaaDoorTie.lean); close each card by the builder's one call (the guide's Derived/Test/ToyasCard.lean, 'card_holds'). Laid BY PROGRAM, IN A SANDBOX (cutbox-door.mjs). By AI agents, Wed Nov 11 2026. No macro, syntax, notation, axiom, sorry.
-/
import Derived.Test.YtaojnjealccjiaaDoorRows
import GoSem.ClaimSeven
namespace Go.Proofs.YtaojnjealccjiaaDoor
namespace Rows

/-- THE TIED CARD OF 'kitbaglaw48.LockTells'. -/
def lockTellsCard : Claim7 := { stood := { row := lockTellsRow, standIns := [], harness := (true, "1205aaa69e33bfc71312ff0b5a2815f95ea09ded8bc45de7d9c17e4932dc6fc7"), looks := false }, kinds := [], alts := [], laidByText := true, laidKinds := [.data, .pinned], laidTests := true, laidLooks := .later }
def LockTellsCardSaid : Prop := Claim7.holds Tryd.pinned (.plain (OpenSpec.ofChange lockTellsSpec)) lockTellsCard

/-- THE TIED CARD OF 'kitbaglaw48.LockFour'. -/
def lockFourCard : Claim7 := { stood := { row := lockFourRow, standIns := [], harness := (true, "1205aaa69e33bfc71312ff0b5a2815f95ea09ded8bc45de7d9c17e4932dc6fc7"), looks := false }, kinds := [], alts := [], laidByText := true, laidKinds := [.data, .pinned], laidTests := true, laidLooks := .later }
def LockFourCardSaid : Prop := Claim7.holds Tryd.pinned (.plain (OpenSpec.ofChange lockFourSpec)) lockFourCard

/-- THE TIED CARD OF 'kitbaglaw48.LockSets'. -/
def lockSetsCard : Claim7 := { stood := { row := lockSetsRow, standIns := [], harness := (true, "1205aaa69e33bfc71312ff0b5a2815f95ea09ded8bc45de7d9c17e4932dc6fc7"), looks := false }, kinds := [], alts := [], laidByText := true, laidKinds := [.data, .pinned], laidTests := true, laidLooks := .later }
def LockSetsCardSaid : Prop := Claim7.holds Tryd.pinned (.plain (OpenSpec.ofChange lockSetsSpec)) lockSetsCard

/-- THE TIED CARD OF 'kitbaglaw48.LockJoins'. -/
def lockJoinsCard : Claim7 := { stood := { row := lockJoinsRow, standIns := [], harness := (true, "1205aaa69e33bfc71312ff0b5a2815f95ea09ded8bc45de7d9c17e4932dc6fc7"), looks := false }, kinds := [], alts := [], laidByText := true, laidKinds := [.data, .pinned], laidTests := true, laidLooks := .later }
def LockJoinsCardSaid : Prop := Claim7.holds Tryd.pinned (.plain (OpenSpec.ofChange lockJoinsSpec)) lockJoinsCard

/-- THE TIED CARD OF 'kitbaglaw48.LockBelow'. -/
def lockBelowCard : Claim7 := { stood := { row := lockBelowRow, standIns := [], harness := (true, "1205aaa69e33bfc71312ff0b5a2815f95ea09ded8bc45de7d9c17e4932dc6fc7"), looks := false }, kinds := [], alts := [], laidByText := true, laidKinds := [.data, .pinned], laidTests := true, laidLooks := .later }
def LockBelowCardSaid : Prop := Claim7.holds Tryd.pinned (.plain (OpenSpec.ofChange lockBelowSpec)) lockBelowCard

/-- THE TIED CARD OF 'kitbaglaw48.LockMore'. -/
def lockMoreCard : Claim7 := { stood := { row := lockMoreRow, standIns := [], harness := (true, "1205aaa69e33bfc71312ff0b5a2815f95ea09ded8bc45de7d9c17e4932dc6fc7"), looks := false }, kinds := [], alts := [], laidByText := true, laidKinds := [.data, .pinned], laidTests := true, laidLooks := .later }
def LockMoreCardSaid : Prop := Claim7.holds Tryd.pinned (.plain (OpenSpec.ofChange lockMoreSpec)) lockMoreCard

/-- THE SECOND FORM's CARD OF 'kitbaglaw48.LockTells'. -/
def lockTellsUptoCard : Claim7 := { stood := { row := lockTellsUptoRow, standIns := [], harness := (true, "1205aaa69e33bfc71312ff0b5a2815f95ea09ded8bc45de7d9c17e4932dc6fc7"), looks := false }, kinds := [], alts := [], laidByText := true, laidKinds := [.data, .pinned], laidTests := true, laidLooks := .later }
def LockTellsUptoCardSaid : Prop := Claim7.holds Tryd.pinned (.plain (OpenSpec.upto lockTellsSpec)) lockTellsUptoCard

/-- THE SECOND FORM's CARD OF 'kitbaglaw48.LockFour'. -/
def lockFourUptoCard : Claim7 := { stood := { row := lockFourUptoRow, standIns := [], harness := (true, "1205aaa69e33bfc71312ff0b5a2815f95ea09ded8bc45de7d9c17e4932dc6fc7"), looks := false }, kinds := [], alts := [], laidByText := true, laidKinds := [.data, .pinned], laidTests := true, laidLooks := .later }
def LockFourUptoCardSaid : Prop := Claim7.holds Tryd.pinned (.plain (OpenSpec.upto lockFourSpec)) lockFourUptoCard

/-- THE SECOND FORM's CARD OF 'kitbaglaw48.LockSets'. -/
def lockSetsUptoCard : Claim7 := { stood := { row := lockSetsUptoRow, standIns := [], harness := (true, "1205aaa69e33bfc71312ff0b5a2815f95ea09ded8bc45de7d9c17e4932dc6fc7"), looks := false }, kinds := [], alts := [], laidByText := true, laidKinds := [.data, .pinned], laidTests := true, laidLooks := .later }
def LockSetsUptoCardSaid : Prop := Claim7.holds Tryd.pinned (.plain (OpenSpec.upto lockSetsSpec)) lockSetsUptoCard

/-- THE SECOND FORM's CARD OF 'kitbaglaw48.LockJoins'. -/
def lockJoinsUptoCard : Claim7 := { stood := { row := lockJoinsUptoRow, standIns := [], harness := (true, "1205aaa69e33bfc71312ff0b5a2815f95ea09ded8bc45de7d9c17e4932dc6fc7"), looks := false }, kinds := [], alts := [], laidByText := true, laidKinds := [.data, .pinned], laidTests := true, laidLooks := .later }
def LockJoinsUptoCardSaid : Prop := Claim7.holds Tryd.pinned (.plain (OpenSpec.upto lockJoinsSpec)) lockJoinsUptoCard

/-- THE SECOND FORM's CARD OF 'kitbaglaw48.LockBelow'. -/
def lockBelowUptoCard : Claim7 := { stood := { row := lockBelowUptoRow, standIns := [], harness := (true, "1205aaa69e33bfc71312ff0b5a2815f95ea09ded8bc45de7d9c17e4932dc6fc7"), looks := false }, kinds := [], alts := [], laidByText := true, laidKinds := [.data, .pinned], laidTests := true, laidLooks := .later }
def LockBelowUptoCardSaid : Prop := Claim7.holds Tryd.pinned (.plain (OpenSpec.upto lockBelowSpec)) lockBelowUptoCard

/-- THE SECOND FORM's CARD OF 'kitbaglaw48.LockMore'. -/
def lockMoreUptoCard : Claim7 := { stood := { row := lockMoreUptoRow, standIns := [], harness := (true, "1205aaa69e33bfc71312ff0b5a2815f95ea09ded8bc45de7d9c17e4932dc6fc7"), looks := false }, kinds := [], alts := [], laidByText := true, laidKinds := [.data, .pinned], laidTests := true, laidLooks := .later }
def LockMoreUptoCardSaid : Prop := Claim7.holds Tryd.pinned (.plain (OpenSpec.upto lockMoreSpec)) lockMoreUptoCard
end Rows
end Go.Proofs.YtaojnjealccjiaaDoor
