/-
  DERIVED. GIVEN WITH THE SEED: THE CARDS: each row of YtkfofnjfihfgkaaGreatDoorRows.lean that lists a variable, with what it lists TIED to the program's text (the seventh form; the later family's looks); each row that meets fmt, with fmt's text TOLD by the authors' own Lean function (tested against real Go, not proved from fmt's source: count such statements apart). THE CARD IS WHAT COUNTS. Prove the row's statement (the work); the ties are given (YtkfofnjfihfgkaaGreatDoorTie.lean); close each card by the builder's one call (the guide's Derived/Test/ToyasCard.lean, 'card_holds'). Laid BY PROGRAM, IN A SANDBOX (cutbox-door.mjs). By AI agents, Wed Nov 11 2026. No macro, syntax, notation, axiom, sorry.
-/
import Derived.Test.YtkfofnjfihfgkaaGreatDoorRows
import GoSem.ClaimSeven
namespace Go.Proofs.YtkfofnjfihfgkaaGreatDoor
namespace Rows

/-- THE TIED CARD OF 'kitbaglaw25.ModuleTells'. -/
def moduleTellsCard : Claim7 := { stood := { row := moduleTellsRow, standIns := [], harness := (true, "2476c8a3dce8d7cb006cf662c82185a6f5e6c9cb79cedc66c6e8f6d7e8f2daeb"), looks := true }, kinds := [], alts := [], laidByText := true, laidKinds := [.data, .data, .data], laidTests := true, laidLooks := .later }
def ModuleTellsCardSaid : Prop := Claim7.holds Tryz.pinned (.plain (OpenSpec.ofChange moduleTellsSpec)) moduleTellsCard

/-- THE TIED CARD OF 'kitbaglaw25.ModuleLaws'. -/
def moduleLawsCard : Claim7 := { stood := { row := moduleLawsRow, standIns := [], harness := (true, "2476c8a3dce8d7cb006cf662c82185a6f5e6c9cb79cedc66c6e8f6d7e8f2daeb"), looks := true }, kinds := [], alts := [], laidByText := true, laidKinds := [.data, .data, .data], laidTests := true, laidLooks := .later }
def ModuleLawsCardSaid : Prop := Claim7.holds Tryz.pinned (.plain (OpenSpec.ofChange moduleLawsSpec)) moduleLawsCard

/-- THE TIED CARD OF 'kitbaglaw25.ModuleOverrides'. -/
def moduleOverridesCard : Claim7 := { stood := { row := moduleOverridesRow, standIns := [], harness := (true, "2476c8a3dce8d7cb006cf662c82185a6f5e6c9cb79cedc66c6e8f6d7e8f2daeb"), looks := true }, kinds := [], alts := [], laidByText := true, laidKinds := [.data, .data, .data], laidTests := true, laidLooks := .later }
def ModuleOverridesCardSaid : Prop := Claim7.holds Tryz.pinned (.plain (OpenSpec.ofChange moduleOverridesSpec)) moduleOverridesCard

/-- THE TIED CARD OF 'kitbaglaw25.ModuleTwice'. -/
def moduleTwiceCard : Claim7 := { stood := { row := moduleTwiceRow, standIns := [], harness := (true, "2476c8a3dce8d7cb006cf662c82185a6f5e6c9cb79cedc66c6e8f6d7e8f2daeb"), looks := true }, kinds := [], alts := [], laidByText := true, laidKinds := [.data, .data, .data], laidTests := true, laidLooks := .later }
def ModuleTwiceCardSaid : Prop := Claim7.holds Tryz.pinned (.plain (OpenSpec.ofChange moduleTwiceSpec)) moduleTwiceCard

/-- THE SECOND FORM's CARD OF 'kitbaglaw25.ModuleTells'. -/
def moduleTellsUptoCard : Claim7 := { stood := { row := moduleTellsUptoRow, standIns := [], harness := (true, "2476c8a3dce8d7cb006cf662c82185a6f5e6c9cb79cedc66c6e8f6d7e8f2daeb"), looks := true }, kinds := [], alts := [], laidByText := true, laidKinds := [.data, .data, .data], laidTests := true, laidLooks := .later }
def ModuleTellsUptoCardSaid : Prop := Claim7.holds Tryz.pinned (.plain (OpenSpec.upto moduleTellsSpec)) moduleTellsUptoCard

/-- THE SECOND FORM's CARD OF 'kitbaglaw25.ModuleLaws'. -/
def moduleLawsUptoCard : Claim7 := { stood := { row := moduleLawsUptoRow, standIns := [], harness := (true, "2476c8a3dce8d7cb006cf662c82185a6f5e6c9cb79cedc66c6e8f6d7e8f2daeb"), looks := true }, kinds := [], alts := [], laidByText := true, laidKinds := [.data, .data, .data], laidTests := true, laidLooks := .later }
def ModuleLawsUptoCardSaid : Prop := Claim7.holds Tryz.pinned (.plain (OpenSpec.upto moduleLawsSpec)) moduleLawsUptoCard

/-- THE SECOND FORM's CARD OF 'kitbaglaw25.ModuleOverrides'. -/
def moduleOverridesUptoCard : Claim7 := { stood := { row := moduleOverridesUptoRow, standIns := [], harness := (true, "2476c8a3dce8d7cb006cf662c82185a6f5e6c9cb79cedc66c6e8f6d7e8f2daeb"), looks := true }, kinds := [], alts := [], laidByText := true, laidKinds := [.data, .data, .data], laidTests := true, laidLooks := .later }
def ModuleOverridesUptoCardSaid : Prop := Claim7.holds Tryz.pinned (.plain (OpenSpec.upto moduleOverridesSpec)) moduleOverridesUptoCard

/-- THE SECOND FORM's CARD OF 'kitbaglaw25.ModuleTwice'. -/
def moduleTwiceUptoCard : Claim7 := { stood := { row := moduleTwiceUptoRow, standIns := [], harness := (true, "2476c8a3dce8d7cb006cf662c82185a6f5e6c9cb79cedc66c6e8f6d7e8f2daeb"), looks := true }, kinds := [], alts := [], laidByText := true, laidKinds := [.data, .data, .data], laidTests := true, laidLooks := .later }
def ModuleTwiceUptoCardSaid : Prop := Claim7.holds Tryz.pinned (.plain (OpenSpec.upto moduleTwiceSpec)) moduleTwiceUptoCard
end Rows
end Go.Proofs.YtkfofnjfihfgkaaGreatDoor
