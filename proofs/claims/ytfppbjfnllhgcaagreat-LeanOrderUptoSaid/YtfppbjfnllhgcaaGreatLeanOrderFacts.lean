/- A closed fact of the row of LeanOrder: what the whole program's text says of it. No condition. -/
import Derived.Test.YtfppbjfnllhgcaaGreatRows
import Derived.ProofKit
import Derived.JoinedCond
namespace Go.Proofs.YtfppbjfnllhgcaaGreat
open Go
theorem closed_leanOrder : joinedFacts Tryz.pinned.checked.prog 5 Tryz.f5 (Rows.OpenSpec.upto Rows.leanOrderSpec).bare Rows.leanOrderUptoRow = true := by kernel_rfl
end Go.Proofs.YtfppbjfnllhgcaaGreat
