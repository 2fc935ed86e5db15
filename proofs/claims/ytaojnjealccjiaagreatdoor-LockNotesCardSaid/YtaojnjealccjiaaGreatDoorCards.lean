/-
  DERIVED. GIVEN WITH THE SEED: THE CARDS: each row of YtaojnjealccjiaaGreatDoorRows.lean that lists a variable, with what it lists TIED to the program's text (the seventh form; the later family's looks); each row that meets fmt, with fmt's text TOLD by the authors' own Lean function (tested against real Go, not proved from fmt's source: count such statements apart). THE CARD IS WHAT COUNTS. Prove the row's statement (the work); the ties are given (YtaojnjealccjiaaGreatDoorTie.lean); close each card by the builder's one call (the guide's Derived/Test/ToyasCard.lean, 'card_holds'). Laid BY PROGRAM, IN A SANDBOX (cutbox-door.mjs). By AI agents, Wed Nov 11 2026. No macro, syntax, notation, axiom, sorry.
-/
import Derived.Test.YtaojnjealccjiaaGreatDoorRows
import GoSem.ClaimSeven
namespace Go.Proofs.YtaojnjealccjiaaGreatDoor
namespace Rows

/-- THE TIED CARD OF 'kitbaglaw48.LockShows'. -/
def lockShowsCard : Claim7 := { stood := { row := lockShowsRow, standIns := [], harness := (true, "100a044fc32a083b9a3be7e535982b781c5560e8e1f90649f8e35b19837d4ffc"), looks := false }, kinds := [], alts := [], laidByText := true, laidKinds := [.data, .pinned], laidTests := true, laidLooks := .later }
def LockShowsCardSaid : Prop := Claim7.holds Tryz.pinned (.plain (OpenSpec.ofChange lockShowsSpec)) lockShowsCard

/-- THE TIED CARD OF 'kitbaglaw48.LockNotes'. -/
def lockNotesCard : Claim7 := { stood := { row := lockNotesRow, standIns := [], harness := (true, "100a044fc32a083b9a3be7e535982b781c5560e8e1f90649f8e35b19837d4ffc"), looks := false }, kinds := [], alts := [], laidByText := true, laidKinds := [.data, .data, .data, .data, .pinned], laidTests := true, laidLooks := .later }
def LockNotesCardSaid : Prop := Claim7.holds Tryz.pinned (.plain (OpenSpec.ofChange lockNotesSpec)) lockNotesCard

/-- THE SECOND FORM's CARD OF 'kitbaglaw48.LockShows'. -/
def lockShowsUptoCard : Claim7 := { stood := { row := lockShowsUptoRow, standIns := [], harness := (true, "100a044fc32a083b9a3be7e535982b781c5560e8e1f90649f8e35b19837d4ffc"), looks := false }, kinds := [], alts := [], laidByText := true, laidKinds := [.data, .pinned], laidTests := true, laidLooks := .later }
def LockShowsUptoCardSaid : Prop := Claim7.holds Tryz.pinned (.plain (OpenSpec.upto lockShowsSpec)) lockShowsUptoCard

/-- THE SECOND FORM's CARD OF 'kitbaglaw48.LockNotes'. -/
def lockNotesUptoCard : Claim7 := { stood := { row := lockNotesUptoRow, standIns := [], harness := (true, "100a044fc32a083b9a3be7e535982b781c5560e8e1f90649f8e35b19837d4ffc"), looks := false }, kinds := [], alts := [], laidByText := true, laidKinds := [.data, .data, .data, .data, .pinned], laidTests := true, laidLooks := .later }
def LockNotesUptoCardSaid : Prop := Claim7.holds Tryz.pinned (.plain (OpenSpec.upto lockNotesSpec)) lockNotesUptoCard
end Rows
end Go.Proofs.YtaojnjealccjiaaGreatDoor
