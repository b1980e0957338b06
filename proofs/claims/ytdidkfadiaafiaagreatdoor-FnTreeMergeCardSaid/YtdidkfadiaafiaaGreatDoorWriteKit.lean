/- Tools for the walks of the laws of writing. -/
import Derived.Test.YtdidkfadiaafiaaGreatDoorDrawT
import Derived.Test.YtdidkfadiaafiaaGreatDoorWriteS
namespace Go.Proofs.YtdidkfadiaafiaaGreatDoor
open Go Go.RowKit

def sixN : List ByteArray := [(⟨#[65]⟩ : ByteArray), ⟨#[66]⟩, ⟨#[67]⟩, ⟨#[68]⟩, ⟨#[69]⟩, ⟨#[71]⟩]
theorem sixN_size {n : ByteArray} (h : n ∈ sixN) : n.size ≤ 1 := by
  simp only [sixN, List.mem_cons, List.mem_nil_iff, or_false] at h
  rcases h with rfl | rfl | rfl | rfl | rfl | rfl <;> decide
theorem sixN_name {n : ByteArray} (h : n ∈ sixN) : nameB n = !decide (n = ⟨#[71]⟩) := by
  simp only [sixN, List.mem_cons, List.mem_nil_iff, or_false] at h
  rcases h with rfl | rfl | rfl | rfl | rfl | rfl <;> decide

theorem atZ_of' {t : List File} (h : TreeOK t) (n : ByteArray) : atZ n t = atL n t := atZ_of h n

set_option maxRecDepth 100000 in
theorem iTreeOk_any' (x : Loc LFile) (w : World) (hx : x.At w) :
    Calls Tryz.prog 27 #[x.val] w fun e w' => e = .returned (.bool (treeB (x.xs.map LFile.er))) ∧ Below w.heap.size w w' := by
  have hc := Lib.hid (isTree_any x w hx)
  clear hx
  go_enter Tryz.func27, Tryz.ntmps27
  go_wp2_with fail
  refine hc.out.mono ?_
  rintro e w2 ⟨rfl, b2⟩
  have B2 := Lib.hid b2
  clear b2
  go_wp2_with fail
  go_ret
  exact ⟨rfl, B2.out⟩

/-- What TreeAt gives at a tree. -/
theorem treeAt_ok (x : Loc LFile) (n : ByteArray) (w : World) (hx : x.At w) {T : List File} (hT : x.xs.map LFile.er = T) (h : TreeOK T) :
    Calls Tryz.prog 21 #[x.val, .string n] w (NewPost w (fun ys : List LSib => ys.map LSib.er = atL n T)) := by
  have := iTreeAt_any x n w hx
  rw [hT, atZ_of h] at this
  exact this

end Go.Proofs.YtdidkfadiaafiaaGreatDoor
