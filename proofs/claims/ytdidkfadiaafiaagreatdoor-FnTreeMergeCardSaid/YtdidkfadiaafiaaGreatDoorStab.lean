/- What new memory alone leaves as it was. -/
import Derived.Test.YtdidkfadiaafiaaGreatDoorInfo
import Derived.Test.YtdidkfadiaafiaaGreatDoorBox
namespace Go.Proofs.YtdidkfadiaafiaaGreatDoor
open Go Go.RowKit

class Stab (p : World → Prop) : Prop where
  keep : ∀ {w w' : World}, Below w.heap.size w w' → p w → p w'
instance {α : Type} [Dat α] (l : Loc α) : Stab (fun w => l.At w) := ⟨fun hb h => h.belowAll hb⟩
instance {α : Type} [Dat α] (l : Loc α) : Stab (fun w => Loc.At w l) := ⟨fun hb h => h.belowAll hb⟩
instance {α : Type} [Dat α] (x : α) : Stab (fun w => Dat.At w x) := ⟨fun hb h => Dat.belowAll h hb⟩
instance (lo : Nat) (fp : List Nat) : Stab (fun w => Fr lo w fp) := ⟨fun hb h => h.belowAll hb⟩
instance (p : Nat) (vs : List Value) : Stab (fun w => Boxed w p vs) := ⟨fun hb h => h.keep hb⟩
instance {α : Type} [Dat α] (base : Nat) (e : TypeId) (l : Loc α) : Stab (fun w => Own base e w l) := ⟨fun hb h => h.belowAll hb⟩
instance (a : World) : Stab (fun w => Below a.heap.size a w) := ⟨fun hb h => h.trans (hb.mono h.size)⟩
instance (w0 : World) (a : World) : Stab (fun w => Below w0.heap.size a w ∧ w0.heap.size ≤ w.heap.size) := ⟨fun hb h => ⟨h.1.trans (hb.mono h.2), Nat.le_trans h.2 hb.size⟩⟩
end Go.Proofs.YtdidkfadiaafiaaGreatDoor
