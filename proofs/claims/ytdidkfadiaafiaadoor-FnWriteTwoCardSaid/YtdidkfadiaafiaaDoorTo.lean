/- The laws' own copies: toIntS, toSib, toSibS, toFile, toFileS: new memory that reads the same. -/
import Derived.Test.YtdidkfadiaafiaaDoorEq
import Derived.Test.YtdidkfadiaafiaaDoorFill
import Derived.Test.YtdidkfadiaafiaaDoorInfo
namespace Go.Proofs.YtdidkfadiaafiaaDoor
open Go Go.RowKit

theorem wpList_make_exact {P : Program} (w : World) {ops : Array Oper} {rest : List Oper} {o : Oper} {a : Act} {Q : Exit → Act → World → Prop}
    (hg : o.guard = none) (l c : Operand) (t : TypeId) (hop : o.op = Op.makeSlice t l c) (e : TypeId) (i : TypeInfo) (z : Value)
    (h1 : P.underlying t = some (.slice e)) (h2 : P.info? e = some i) (h3 : i.zero = some z) (kl kc : IntKind) (n : Nat)
    (hl : a.eval l = .int kl (n : Int)) (hc : a.eval c = .int kc (n : Int)) (b2 : i.bytes * n ≤ 281474976710656) (b3 : n ≤ 9223372036854775807)
    (hK : wpList P ops Q rest (a.put o.dst (.slice (some ⟨w.heap.size, 0, none⟩) n n)) (w.alloc (.cells (madeCells z.cells (n * i.size)) e))) :
    wpList P ops Q (o :: rest) a w := by
  refine wpList_plain hg fun K hK' => ?_
  have hbn : ((i.bytes : Nat) : Int) * ((n : Nat) : Int) ≤ 281474976710656 := by
    have : ((i.bytes * n : Nat) : Int) ≤ 281474976710656 := by omega
    rwa [Int.natCast_mul] at this
  have hr := run_make (P := P) w t e i z h1 h2 h3 kl kc n n (by omega) (Int.le_refl _) hbn (by omega)
  simp only [Int.toNat_natCast] at hr
  unfold Oper.wp
  simp [execOp, hop, hl, hc, hr, Result.andThen]
  exact hK' _ _ hK

theorem mem_le_sum : ∀ (l : List Nat) {n : Nat}, n ∈ l → n ≤ l.sum
  | a :: l, n, h => by
    rcases List.mem_cons.1 h with rfl | h
    · simp
    · have := mem_le_sum l h; simp; omega

end Go.Proofs.YtdidkfadiaafiaaDoor
