/- The walk of the laws 'FnExact..Ok' and 'FnExactLogEnd' over located arguments: they answer true and write nothing that was there. -/
import Derived.Test.YtdidkfadiaafiaaGreatDoorToF
import Derived.Test.YtdidkfadiaafiaaGreatDoorBox
import Derived.Deep.RegionWith
import Derived.Test.YtdidkfadiaafiaaGreatDoorTreeI
namespace Go.Proofs.YtdidkfadiaafiaaGreatDoor
open Go Go.RowKit


theorem iTreeOk_any (x : Loc LFile) (w : World) (hx : Loc.At w x) :
    Calls Tryz.prog 27 #[x.val] w fun e w' => e = .returned (.bool (treeB (x.xs.map LFile.er))) ∧ Below w.heap.size w w' := by
  have hc := Lib.hid (isTree_any x w hx)
  go_enter Tryz.func27, Tryz.ntmps27
  go_wp2_with fail
  refine hc.out.mono ?_
  rintro e w' ⟨rfl, hb⟩
  go_wp2_with fail
  go_ret
  exact ⟨rfl, hb⟩

end Go.Proofs.YtdidkfadiaafiaaGreatDoor
