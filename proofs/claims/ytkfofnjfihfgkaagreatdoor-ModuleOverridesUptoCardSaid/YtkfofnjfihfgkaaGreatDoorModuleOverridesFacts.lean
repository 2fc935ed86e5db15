/- A closed fact of the row of ModuleOverrides: what the whole program's text says of it. No condition. -/
import Derived.Test.YtkfofnjfihfgkaaGreatDoorRows
import Derived.ProofKit
import Derived.JoinedCond
namespace Go.Proofs.YtkfofnjfihfgkaaGreatDoor
open Go
theorem closed_moduleOverrides : joinedFacts Tryz.pinned.checked.prog 5 Tryz.f5 (Rows.OpenSpec.upto Rows.moduleOverridesSpec).bare Rows.moduleOverridesUptoRow = true := by kernel_rfl
end Go.Proofs.YtkfofnjfihfgkaaGreatDoor
