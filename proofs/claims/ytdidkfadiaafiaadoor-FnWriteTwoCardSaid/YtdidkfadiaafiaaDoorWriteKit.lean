/- Tools for the walks of the laws of writing. -/
import Derived.Test.YtdidkfadiaafiaaDoorDrawT
import Derived.Test.YtdidkfadiaafiaaDoorWriteS
namespace Go.Proofs.YtdidkfadiaafiaaDoor
open Go Go.RowKit

def sixN : List ByteArray := [(⟨#[65]⟩ : ByteArray), ⟨#[66]⟩, ⟨#[67]⟩, ⟨#[68]⟩, ⟨#[69]⟩, ⟨#[71]⟩]
theorem sixN_size {n : ByteArray} (h : n ∈ sixN) : n.size ≤ 1 := by
  simp only [sixN, List.mem_cons, List.mem_nil_iff, or_false] at h
  rcases h with rfl | rfl | rfl | rfl | rfl | rfl <;> decide
theorem sixN_name {n : ByteArray} (h : n ∈ sixN) : nameB n = !decide (n = ⟨#[71]⟩) := by
  simp only [sixN, List.mem_cons, List.mem_nil_iff, or_false] at h
  rcases h with rfl | rfl | rfl | rfl | rfl | rfl <;> decide

theorem atZ_of' {t : List File} (h : TreeOK t) (n : ByteArray) : atZ n t = atL n t := atZ_of h n

set_option maxRecDepth 100000 in
theorem iSibsVv_any (x : Loc LSib) (w : World) (hx : x.At w) (hk : SibsOK (x.xs.map LSib.er)) :
    Calls Tryd.prog 12 #[x.val] w (NewPost w (fun ys : List Int => ys = vvOf (x.xs.map LSib.er))) := by
  have hc := Lib.hid (areSibs_any x w hx)
  rw [sibsB_true hk] at hc
  have AX := Lib.hid hx
  have HK := Lib.hid hk
  clear hx hk
  go_enter Tryd.func12, Tryd.ntmps12
  go_wp2_with fail
  refine hc.out.mono ?_
  rintro e w1 ⟨rfl, b1⟩
  have B := Lib.hid b1
  first
    | replace AX := Lib.hid (Loc.At.belowAll AX.out (b1))
    | replace AX := Lib.hid (nextB AX.out (b1))
    | replace AX := Lib.hid (Boxed.keep AX.out (b1))
    | replace AX := Lib.hid (Dat.belowAll AX.out (b1))
    | replace AX := Lib.hid (Fr.belowAll AX.out (b1))
    | replace AX := Lib.hid (Own.belowAll AX.out (b1))
    | replace AX := Lib.hid (Grows.next AX.out (b1))
  clear b1
  go_wp2_with fail
  refine (sibsVv_any x w1 AX.out (.inr HK.out)).mono ?_
  rintro e w2 ⟨y, rfl, hy, hyA, hyF, b2⟩
  have HY := Lib.hid hy
  have AY := Lib.hid hyA
  have FY := Lib.hid hyF
  have B2 := Lib.hid (nextB B.out b2)
  clear hy hyA hyF b2
  go_wp2_with fail
  go_ret
  exact ⟨y, rfl, HY.out, AY.out, FY.out.mono B.out.size, B2.out⟩

set_option maxRecDepth 100000 in
theorem iSibOk_any (x : LSib) (w : World) (hx : Dat.At w x) :
    Calls Tryd.prog 17 #[x.val] w fun e w' => e = .returned (.bool (sibB x.er)) ∧ Below w.heap.size w w' := by
  obtain ⟨⟨qa, qc, qs⟩, g, s⟩ := x
  simp only [LSib.val, Loc.val]
  have b1 : Below w.heap.size w (w.alloc (Obj.cells #[.slice qa qs.length qc, .bool g, .string s] 38)) := (Below.refl _ _).alloc (Nat.le_refl _) _
  have B := Lib.hid b1
  have hc := Lib.hid (isSib_any ⟨⟨qa, qc, qs⟩, g, s⟩ _ (Dat.belowAll hx b1))
  clear b1 hx
  go_enter Tryd.func17, Tryd.ntmps17
  go_wp2_with fail
  refine hc.out.mono ?_
  rintro e w2 ⟨rfl, b2⟩
  have B2 := Lib.hid (nextB B.out b2)
  clear b2
  go_wp2_with fail
  go_ret
  exact ⟨rfl, B2.out⟩

set_option maxRecDepth 100000 in
theorem iTreeOk_any' (x : Loc LFile) (w : World) (hx : x.At w) :
    Calls Tryd.prog 15 #[x.val] w fun e w' => e = .returned (.bool (treeB (x.xs.map LFile.er))) ∧ Below w.heap.size w w' := by
  have hc := Lib.hid (isTree_any x w hx)
  clear hx
  go_enter Tryd.func15, Tryd.ntmps15
  go_wp2_with fail
  refine hc.out.mono ?_
  rintro e w2 ⟨rfl, b2⟩
  have B2 := Lib.hid b2
  clear b2
  go_wp2_with fail
  go_ret
  exact ⟨rfl, B2.out⟩

/-- What TreeAt gives at a tree. -/
theorem treeAt_ok (x : Loc LFile) (n : ByteArray) (w : World) (hx : x.At w) {T : List File} (hT : x.xs.map LFile.er = T) (h : TreeOK T) :
    Calls Tryd.prog 11 #[x.val, .string n] w (NewPost w (fun ys : List LSib => ys.map LSib.er = atL n T)) := by
  have := iTreeAt_any x n w hx
  rw [hT, atZ_of h] at this
  exact this

end Go.Proofs.YtdidkfadiaafiaaDoor
