/- The reference's draws: l6Open, of, l71Vv, l71Text. -/
import Derived.Test.YtdbejmnfnbkndaaDoorPick
import Derived.Test.YtdbejmnfnbkndaaDoorInfo
namespace Go.Proofs.YtdbejmnfnbkndaaDoor
open Go Go.RowKit

theorem Loc.At.take {α : Type} [Dat α] {w : World} {l : Loc α} (h : l.At w) (n : Nat) : Loc.At w ⟨l.a, l.cap, l.xs.take n⟩ := by
  have hl := h.lenCap
  refine ⟨by simp; omega, h.2.1, fun hn => h.2.2.1 (fun h0 => hn (by simp [h0])), fun a ha i x hx j v hv => ?_, fun x hx => h.elem (List.mem_of_mem_take hx)⟩
  have hx2 : l.xs[i]? = some x := by
    have : (l.xs.take n)[i]? = some x := hx
    rw [List.getElem?_take] at this
    split at this
    · exact this
    · cases this
  exact h.cell ha hx2 hv

set_option maxRecDepth 100000 in
theorem l6Open_any' (x : Loc UInt8) (w : World) (hx : x.At w) :
    Calls Tryd.prog 30 #[x.val] w fun e w' => ∃ (R : Nat) (code : Loc UInt8), e = .returned (.pointer (some ⟨R, 0, none⟩)) ∧ Rd R code 0 w' ∧ Below w.heap.size w w' ∧ w.heap.size ≤ R := by
  obtain ⟨xa, xc, xs⟩ := x
  simp only [Loc.val]
  have h1 := hx.lenMax
  have h2 := hx.lenCap
  have h3 := hx.capMax
  simp only at h1 h2
  simp only [maxLen] at h3
  have HX := Lib.hid hx
  have HA : Hid (∀ code : Loc UInt8, code.At w → Rd w.heap.size code 0 (w.alloc (Obj.cells #[code.val, .int .i64 0] 64))) := Lib.hid (fun code hc =>
    ⟨⟨0, Nat.le_refl _, heap_alloc_new w _⟩, hc.belowAll ((Below.refl _ _).alloc (Nat.le_refl _) _), fun b hb => by have := Loc.lt_of_At hc b hb; omega⟩)
  have HB : Hid (∀ o, Below w.heap.size w (w.alloc o)) := Lib.hid (fun o => (Below.refl _ _).alloc (Nat.le_refl _) o)
  clear hx
  by_cases hl : 2000 < xs.length
  · have hl2 : decide ((2000 : Int) < (xs.length : Int)) = true := decide_eq_true (by omega)
    have hl3 : 2000 ≤ xc := by omega
    obtain ⟨a, ao, ha⟩ := HX.out.place (show 0 < xs.length by omega)
    simp only at ha
    subst ha
    go_enter Tryd.func30, Tryd.ntmps30
    go_wp2_with fail
    go_ret
    refine ⟨w.heap.size, ⟨some ⟨a, ao, none⟩, xc, xs.take 2000⟩, rfl, ?_, HB.out _, Nat.le_refl _⟩
    have := HA.out _ (HX.out.take 2000)
    simp only [Loc.val, List.length_take, Nat.min_eq_left (show 2000 ≤ xs.length by omega)] at this
    exact this
  · have hl2 : decide ((2000 : Int) < (xs.length : Int)) = false := decide_eq_false (by omega)
    go_enter Tryd.func30, Tryd.ntmps30
    go_wp2_with fail
    go_ret
    exact ⟨w.heap.size, ⟨xa, xc, xs⟩, rfl, HA.out _ HX.out, HB.out _, Nat.le_refl _⟩

theorem byteArr_size1 (c : UInt8) : (ByteArray.mk #[c]).size = 1 := rfl

set_option maxRecDepth 100000 in
set_option maxHeartbeats 400000 in
theorem of_any (R : Nat) (code : Loc UInt8) (N : Nat) (l : Loc ByteArray) (w : World) (h : Rd R code N w) (hN : N ≤ 1000000000) (hl : l.At w) (h0 : 0 < l.xs.length) (hm : l.xs.length ≤ 1000) (hR : ∀ b ∈ l.fp, b ≠ R) :
    Calls Tryd.prog 53 #[.pointer (some ⟨R, 0, none⟩), l.val] w fun e w' => (∃ s, e = .returned (.string s) ∧ s ∈ l.xs ∧ s.size ≤ maxLen) ∧ Drew R code (N + 1) w w' := by
  obtain ⟨la, lc, xs⟩ := l
  simp only [Loc.val]
  simp only at h0 hm
  have hc := Lib.hid (pick_any R code N (xs.length : Int) w h hN (by omega) (by omega))
  obtain ⟨a, ao, ha⟩ := hl.place h0
  simp only at ha
  subst ha
  have HL := Lib.hid hl
  have HR := Lib.hid hR
  clear h hl hR
  go_enter Tryd.func53, Tryd.ntmps53
  go_wp2_with fail
  refine hc.out.mono ?_
  rintro e w1 ⟨⟨v, rfl, hv0, hv1⟩, hd⟩
  obtain ⟨i, rfl⟩ : ∃ i : Nat, v = (i : Int) := ⟨v.toNat, by omega⟩
  have hi : i < xs.length := by omega
  have HD := Lib.hid hd
  have hl1 := HD.out.keepLoc HL.out HR.out
  have ci : w1.cell? ⟨a, ao + i, none⟩ = some (.string xs[i]) := by
    have := hl1.cellK (b := a) (o := ao) rfl hi (j := 0) (v := .string xs[i]) rfl
    simpa [Dat.k] using this
  have HE := Lib.hid (hl1.elem (List.getElem_mem hi))
  clear hd hl1
  go_wp2_with fail
  go_ret
  exact ⟨⟨xs[i], rfl, List.getElem_mem hi, HE.out⟩, HD.out⟩

/-- New data, drawn: where it lies, what is known of it. -/
def DrawPost {α : Type} [Dat α] (R : Nat) (code : Loc UInt8) (N : Nat) (w : World) (p : List α → Prop) (e : Ending) (w' : World) : Prop :=
  ∃ y : Loc α, e = .returned y.val ∧ p y.xs ∧ y.At w' ∧ (∀ b ∈ y.fp, w.heap.size ≤ b) ∧ Drew R code N w w'
end Go.Proofs.YtdbejmnfnbkndaaDoor
