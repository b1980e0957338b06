/- A struct argument's own block. -/
import Derived.Test.YtdidkfadiaafiaaGreatDoorBase
namespace Go.Proofs.YtdidkfadiaafiaaGreatDoor
open Go Go.RowKit

theorem nextB {w a b : World} (h : Below w.heap.size w a) (h2 : Below a.heap.size a b) : Below w.heap.size w b := h.trans (h2.mono h.size)

/-- A struct argument's own block. -/
def Boxed (w : World) (p : Nat) (vs : List Value) : Prop := p < w.heap.size ∧ ∀ j v, vs[j]? = some v → w.cell? ⟨p, j, none⟩ = some v
theorem Boxed.new (w : World) (cs : Array Value) (t : TypeId) : Boxed (w.alloc (Obj.cells cs t)) w.heap.size cs.toList := by
  refine ⟨by simp, fun j v h => ?_⟩
  have := cell_of_row (w.alloc (Obj.cells cs t)) w.heap.size j cs t (0, 0) (heap_alloc_new w _)
  rw [this, ← Array.getElem?_toList, h]
theorem Boxed.keep {a b : World} {p : Nat} {vs : List Value} (h : Boxed a p vs) (hb : Below a.heap.size a b) : Boxed b p vs :=
  ⟨Nat.lt_of_lt_of_le h.1 hb.size, fun j v hv => (hb.cell h.1).trans (h.2 j v hv)⟩
end Go.Proofs.YtdidkfadiaafiaaGreatDoor
