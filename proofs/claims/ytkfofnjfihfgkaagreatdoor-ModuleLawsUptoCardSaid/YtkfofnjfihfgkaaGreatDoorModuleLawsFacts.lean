/- A closed fact of the row of ModuleLaws: what the whole program's text says of it. No condition. -/
import Derived.Test.YtkfofnjfihfgkaaGreatDoorRows
import Derived.ProofKit
import Derived.JoinedCond
namespace Go.Proofs.YtkfofnjfihfgkaaGreatDoor
open Go
theorem closed_moduleLaws : joinedFacts Tryz.pinned.checked.prog 4 Tryz.f4 (Rows.OpenSpec.upto Rows.moduleLawsSpec).bare Rows.moduleLawsUptoRow = true := by kernel_rfl
end Go.Proofs.YtkfofnjfihfgkaaGreatDoor
