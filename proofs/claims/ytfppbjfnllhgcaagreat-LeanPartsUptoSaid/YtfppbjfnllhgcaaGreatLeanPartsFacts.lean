/- A closed fact of the row of LeanParts: what the whole program's text says of it. No condition. -/
import Derived.Test.YtfppbjfnllhgcaaGreatRows
import Derived.ProofKit
import Derived.JoinedCond
namespace Go.Proofs.YtfppbjfnllhgcaaGreat
open Go
theorem closed_leanParts : joinedFacts Tryz.pinned.checked.prog 4 Tryz.f4 (Rows.OpenSpec.upto Rows.leanPartsSpec).bare Rows.leanPartsUptoRow = true := by kernel_rfl
end Go.Proofs.YtfppbjfnllhgcaaGreat
