/- What a draw leaves behind. -/
import Derived.Test.YtdbejmnfnbkndaaDoorDraw1
namespace Go.Proofs.YtdbejmnfnbkndaaDoor
open Go Go.RowKit

theorem Drew.below {R : Nat} {code : Loc UInt8} {N B : Nat} {w0 w w' : World} (h : Drew R code N w w') (hb : Below B w0 w) (hR : B ≤ R) (hw : B ≤ w.heap.size) : Below B w0 w' :=
  hb.trans (h.touch.below hw (fun b hb => by rw [List.mem_singleton.1 hb]; exact hR))

theorem Rd.same {R : Nat} {code : Loc UInt8} {N : Nat} {w w' : World} (h : Rd R code N w) (hk : ∀ b : Nat, w'.heap[b]? = w.heap[b]?) : Rd R code N w' := by
  obtain ⟨p, hp, hb⟩ := h.blk
  exact ⟨⟨p, hp, (hk R).trans hb⟩, Loc.keep_At h.at_ fun b _ => hk b, h.off⟩

/-- A reader's block is new. -/
theorem l6Open_new (x : Loc UInt8) (w : World) (hx : x.At w) :
    Calls Tryd.prog 30 #[x.val] w fun e w' => ∃ (R : Nat) (code : Loc UInt8), e = .returned (.pointer (some ⟨R, 0, none⟩)) ∧ Rd R code 0 w' ∧ Below w.heap.size w w' ∧ w.heap.size ≤ R :=
  (l6Open_any' x w hx)

/-- Drawn data. -/
def Drawn {α : Type} [Dat α] (w : World) (p : List α → Prop) (e : Ending) (w' : World) : Prop :=
  ∃ y : Loc α, e = .returned y.val ∧ p y.xs ∧ y.At w' ∧ Below w.heap.size w w'

end Go.Proofs.YtdbejmnfnbkndaaDoor
