/- The walk of the laws 'FnExact..Ok' and 'FnExactLogEnd' over located arguments: they answer true and write nothing that was there. -/
import Derived.Test.YtjlaaoecockfjaaDoorTo
import Derived.Deep.RegionWith
namespace Go.Proofs.YtjlaaoecockfjaaDoor
open Go Go.RowKit

theorem nextB {w a b : World} (h : Below w.heap.size w a) (h2 : Below a.heap.size a b) : Below w.heap.size w b := h.trans (h2.mono h.size)

theorem iTreeOk_any (x : Loc LFile) (w : World) (hx : Loc.At w x) :
    Calls Tryd.prog 19 #[x.val] w fun e w' => e = .returned (.bool (treeB (x.xs.map LFile.er))) ∧ Below w.heap.size w w' := by
  have hc := Lib.hid (isTree_any x w hx)
  go_enter Tryd.func19, Tryd.ntmps19
  go_wp2_with fail
  refine hc.out.mono ?_
  rintro e w' ⟨rfl, hb⟩
  go_wp2_with fail
  go_ret
  exact ⟨rfl, hb⟩

/-- A struct argument's own block. -/
def Boxed (w : World) (p : Nat) (vs : List Value) : Prop := p < w.heap.size ∧ ∀ j v, vs[j]? = some v → w.cell? ⟨p, j, none⟩ = some v
theorem Boxed.new (w : World) (cs : Array Value) (t : TypeId) : Boxed (w.alloc (Obj.cells cs t)) w.heap.size cs.toList := by
  refine ⟨by simp, fun j v h => ?_⟩
  have := cell_of_row (w.alloc (Obj.cells cs t)) w.heap.size j cs t (0, 0) (heap_alloc_new w _)
  rw [this, ← Array.getElem?_toList, h]
theorem Boxed.keep {a b : World} {p : Nat} {vs : List Value} (h : Boxed a p vs) (hb : Below a.heap.size a b) : Boxed b p vs :=
  ⟨Nat.lt_of_lt_of_le h.1 hb.size, fun j v hv => (hb.cell h.1).trans (h.2 j v hv)⟩
set_option maxRecDepth 100000 in
set_option maxHeartbeats 400000 in
theorem exactTreeOk_walk (x : Loc LFile) (w : World) (hx : Loc.At w x) :
    Calls Tryd.prog 4 #[x.val] w fun e w' => e = .returned (.bool true) ∧ Below w.heap.size w w' := by
  generalize hb : treeB (x.xs.map LFile.er) = b
  have HX0 := Lib.hid hx
  have HB := Lib.hid hb
  clear hx hb
  go_enter Tryd.func4, Tryd.ntmps4
  go_wp2_with fail
  refine (szFileS_any x 1048576 w HX0.out (by decide)).mono ?_
  rintro e w1 ⟨⟨r, rfl, hr⟩, b1⟩
  have B1 := Lib.hid b1
  have HX1 := Lib.hid (Loc.At.belowAll HX0.out b1)
  have HR := Lib.hid hr
  clear hr b1 HX0
  by_cases hr0 : r < 0
  · go_wp2_with fail
    go_ret
    exact ⟨rfl, B1.out⟩
  · have HN : Hid (bulkFiles x.xs ≤ 1048576) := Lib.hid (by rcases HR.out with h | h <;> omega)
    go_wp2_with fail
    refine (toFileS_any x w1 HX1.out HN.out).mono ?_
    rintro e w2 ⟨y, rfl, hy, hyA, -, b2⟩
    have B2 := Lib.hid (nextB B1.out b2)
    have HX2 := Lib.hid (Loc.At.belowAll HX1.out b2)
    have HY := Lib.hid hy
    have HYA := Lib.hid hyA
    clear b2 hy hyA B1 HX1
    go_wp2_with fail
    refine (sTreeOk_any y w2 HYA.out).mono ?_
    rintro e w3 ⟨he, b3⟩
    have he' : e = .returned (.bool b) := he.trans (by rw [← HB.out]; exact congrArg (fun q => Ending.returned (.bool (treeB q))) HY.out)
    subst he'
    have B3 := Lib.hid (nextB B2.out b3)
    have HX3 := Lib.hid (Loc.At.belowAll HX2.out b3)
    clear b3 he B2 HX2
    go_wp2_with fail
    refine (toFileS_any x w3 HX3.out HN.out).mono ?_
    rintro e w4 ⟨z, rfl, hz, hzA, -, b4⟩
    have B4 := Lib.hid (nextB B3.out b4)
    have HX4 := Lib.hid (Loc.At.belowAll HX3.out b4)
    have HZ := Lib.hid hz
    have HZ4 := Lib.hid hzA
    clear b4 hz hzA B3 HX3
    go_wp2_with fail
    refine (iTreeOk_any z w4 HZ4.out).mono ?_
    rintro e w5 ⟨he, b5⟩
    have he' : e = .returned (.bool b) := he.trans (by rw [← HB.out]; exact congrArg (fun q => Ending.returned (.bool (treeB q))) HZ.out)
    subst he'
    have B5 := Lib.hid (nextB B4.out b5)
    have HX5 := Lib.hid (Loc.At.belowAll HX4.out b5)
    have HZ5 := Lib.hid (Loc.At.belowAll HZ4.out b5)
    clear b5 he B4 HX4 HZ4
    (try have hbb : (b != b) = false := by simp)
    go_wp2_with fail
    refine (toFileS_any x w5 HX5.out HN.out).mono ?_
    rintro e w6 ⟨t, rfl, ht, htA, -, b6⟩
    have B6 := Lib.hid (nextB B5.out b6)
    have HZ6 := Lib.hid (Loc.At.belowAll HZ5.out b6)
    have HT := Lib.hid ht
    have HTA := Lib.hid htA
    clear b6 ht htA B5 HX5 HZ5
    go_wp2_with fail
    refine (eqFileS_any z t w6 HZ6.out HTA.out).mono ?_
    rintro e w7 ⟨⟨v, rfl, hv⟩, b7⟩
    obtain rfl : v = true := hv.2 (HZ.out.trans HT.out.symm)
    have B7 := Lib.hid (nextB B6.out b7)
    clear b7 hv
    go_wp2_with fail
    go_ret
    exact ⟨rfl, B7.out⟩
end Go.Proofs.YtjlaaoecockfjaaDoor
