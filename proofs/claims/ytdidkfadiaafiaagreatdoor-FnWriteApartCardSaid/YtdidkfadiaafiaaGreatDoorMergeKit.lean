/- What the laws on merged trees share. -/
import Derived.Test.YtdidkfadiaafiaaGreatDoorMergeT
import Derived.Test.YtdidkfadiaafiaaGreatDoorWriteKit
namespace Go.Proofs.YtdidkfadiaafiaaGreatDoor
open Go Go.RowKit

/-- A tree and nothing. -/
theorem nil_tree (w : World) : Loc.At w (⟨none, 0, []⟩ : Loc LFile) := nil_At w
end Go.Proofs.YtdidkfadiaafiaaGreatDoor
