/- The walk of FnExactTreeAt over located arguments. -/
import Derived.Test.YtdidkfadiaafiaaGreatDoorAt
import Derived.Test.YtdidkfadiaafiaaGreatDoorAtZ
import Derived.Test.YtdidkfadiaafiaaGreatDoorMarks
import Derived.Test.YtdidkfadiaafiaaGreatDoorOkLaws
import Derived.Test.YtdidkfadiaafiaaGreatDoorLen
namespace Go.Proofs.YtdidkfadiaafiaaGreatDoor
open Go Go.RowKit

theorem lenF_le : ∀ l : List LFile, lenF (l.map LFile.er) ≤ 2 * bulkFiles l
  | [] => Nat.le_refl _
  | f :: r => by
    have h := lenF_le r
    have h2 := lenS_le f.sibs.xs
    simp only [List.map_cons, lenF, bulkFiles, List.length_cons, List.sum_cons, bulkFile] at h ⊢
    have : f.er.sibs = f.sibs.xs.map LSib.er := rfl
    rw [this]
    omega
end Go.Proofs.YtdidkfadiaafiaaGreatDoor
