/- One element of a list that is written in place, cell by cell. -/
import Derived.Test.YtcfbppdfiehlnaaTouch
namespace Go.Proofs.Ytcfbppdfiehlnaa
open Go Go.RowKit
variable {α : Type} [Dat α]

structure EW (lo : Nat) (x : Loc α) (ys : List α) (i : Nat) (y : α) (W : World) : Prop where
  hi : i < ys.length
  at_ : (x.re (ys.set i y)).At W
  fr : Fr lo W x.fp
  fps : ys.map Dat.fp = x.xs.map Dat.fp
  fpy : Dat.fp y = Dat.fp (ys[i]'hi)

section
variable {lo : Nat} {x : Loc α} {ys : List α} {i : Nat} {y : α} {W : World}

theorem EW.fpEq (h : EW lo x ys i y W) : (ys.set i y).map Dat.fp = x.xs.map Dat.fp := (map_set_fp h.hi h.fpy).trans h.fps
theorem EW.fr' (h : EW lo x ys i y W) : Fr lo W (x.re (ys.set i y)).fp := by rw [Loc.re_fp _ _ h.fpEq]; exact h.fr
theorem EW.hi' (h : EW lo x ys i y W) : i < (x.re (ys.set i y)).xs.length := by simpa [Loc.re] using h.hi
theorem EW.get (h : EW lo x ys i y W) : (x.re (ys.set i y)).xs[i]'h.hi' = y := by simp [Loc.re]
theorem EW.start (hi : i < ys.length) (hA : (x.re ys).At W) (hf : Fr lo W x.fp) (hp : ys.map Dat.fp = x.xs.map Dat.fp) : EW lo x ys i ys[i] W :=
  ⟨hi, by rw [List.set_getElem_self]; exact hA, hf, hp, rfl⟩
theorem EW.elem (h : EW lo x ys i y W) : Dat.At W y := by
  have := h.at_.elem (List.getElem_mem h.hi')
  rwa [h.get] at this
theorem EW.frE (h : EW lo x ys i y W) : Fr lo W (Dat.fp y) := by
  have := fr_elem h.fr' h.hi'
  rwa [h.get] at this
theorem EW.cell (h : EW lo x ys i y W) {g o : Nat} (ha : x.a = some ⟨g, o, none⟩) {j : Nat} {v : Value} (hv : (Dat.enc y)[j]? = some v) : W.cell? ⟨g, o + i * Dat.k α + j, none⟩ = some v :=
  h.at_.cellK (b := g) (o := o) ha h.hi' (by rw [h.get]; exact hv)
theorem EW.frozen (h : EW lo x ys i y W) {g o : Nat} (ha : x.a = some ⟨g, o, none⟩) (j : Nat) : W.frozen? ⟨g, j, none⟩ = false :=
  fr_frozen (x := x.re (ys.set i y)) h.fr' ha h.hi' j
theorem EW.later {W' : World} (h : EW lo x ys i y W) (hb : Below W.heap.size W W') : EW lo x ys i y W' := ⟨h.hi, h.at_.belowAll hb, h.fr.belowAll hb, h.fps, h.fpy⟩
theorem EW.store (h : EW lo x ys i y W) {g o : Nat} (ha : x.a = some ⟨g, o, none⟩) (y' : α) (j : Nat) (v : Value) (hj : j < Dat.k α) (he : Dat.enc y' = (Dat.enc y).set j v) (hfp : Dat.fp y' = Dat.fp y) (hy : Dat.At W y') :
    EW lo x ys i y' (W.setCell ⟨g, o + i * Dat.k α + j, none⟩ v) ∧ Touch x.fp W (W.setCell ⟨g, o + i * Dat.k α + j, none⟩ v) := by
  have hst := Loc.At.store h.at_ h.fr' (g := g) (o := o) ha h.hi' y' v hj (by rw [h.get]; exact he) (by rw [h.get]; exact hfp) hy
  have e : (x.re (ys.set i y)).re ((x.re (ys.set i y)).xs.set i y') = x.re (ys.set i y') := by simp [Loc.re, List.set_set]
  rw [e, Loc.re_fp _ _ h.fpEq] at hst
  exact ⟨⟨h.hi, hst.1, hst.2.1, h.fps, hfp.trans h.fpy⟩, hst.2.2⟩
theorem EW.inner {W' : World} (h : EW lo x ys i y W) (y' : α) (ht : Touch (Dat.fp y) W W') (he : Dat.enc y' = Dat.enc y) (hfp : Dat.fp y' = Dat.fp y) (hy : Dat.At W' y') (hfy : Fr lo W' (Dat.fp y)) : EW lo x ys i y' W' ∧ Touch x.fp W W' := by
  have hst := Loc.At.inner h.at_ h.fr' h.hi' y' (by rw [h.get]; exact ht) (by rw [h.get]; exact he) (by rw [h.get]; exact hfp) hy (by rw [h.get]; exact hfy)
  have e : (x.re (ys.set i y)).re ((x.re (ys.set i y)).xs.set i y') = x.re (ys.set i y') := by simp [Loc.re, List.set_set]
  rw [e, Loc.re_fp _ _ h.fpEq] at hst
  exact ⟨⟨h.hi, hst.1, hst.2.1, h.fps, hfp.trans h.fpy⟩, hst.2.2⟩
end
end Go.Proofs.Ytcfbppdfiehlnaa
