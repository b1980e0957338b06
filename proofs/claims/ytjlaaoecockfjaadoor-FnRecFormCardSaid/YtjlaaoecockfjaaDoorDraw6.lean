/- The reference's draws: DrawTreeShow, DrawTreeAt. -/
import Derived.Test.YtjlaaoecockfjaaDoorDraw5
import Derived.Deep.RegionWith
namespace Go.Proofs.YtjlaaoecockfjaaDoor
open Go Go.RowKit

theorem Drew.below {R : Nat} {code : Loc UInt8} {N B : Nat} {w0 w w' : World} (h : Drew R code N w w') (hb : Below B w0 w) (hR : B ≤ R) (hw : B ≤ w.heap.size) : Below B w0 w' :=
  hb.trans (h.touch.below hw (fun b hb => by rw [List.mem_singleton.1 hb]; exact hR))

theorem Rd.same {R : Nat} {code : Loc UInt8} {N : Nat} {w w' : World} (h : Rd R code N w) (hk : ∀ b : Nat, w'.heap[b]? = w.heap[b]?) : Rd R code N w' := by
  obtain ⟨p, hp, hb⟩ := h.blk
  exact ⟨⟨p, hp, (hk R).trans hb⟩, Loc.keep_At h.at_ fun b _ => hk b, h.off⟩

/-- A reader's block is new. -/
theorem l6Open_new (x : Loc UInt8) (w : World) (hx : x.At w) :
    Calls Tryd.prog 44 #[x.val] w fun e w' => ∃ (R : Nat) (code : Loc UInt8), e = .returned (.pointer (some ⟨R, 0, none⟩)) ∧ Rd R code 0 w' ∧ Below w.heap.size w w' ∧ w.heap.size ≤ R :=
  (l6Open_any' x w hx)

/-- Drawn data. -/
def Drawn {α : Type} [Dat α] (w : World) (p : List α → Prop) (e : Ending) (w' : World) : Prop :=
  ∃ y : Loc α, e = .returned y.val ∧ p y.xs ∧ y.At w' ∧ Below w.heap.size w w'

set_option maxRecDepth 100000 in
theorem drawTreeShow_any (x : Loc UInt8) (w : World) (hx : x.At w) : Calls Tryd.prog 24 #[x.val] w (Drawn (α := LFile) w (fun l => l.length ≤ 5)) := by
  have hc := Lib.hid (l6Open_new x w hx)
  clear hx
  go_enter Tryd.func24, Tryd.ntmps24
  go_wp2_with fail
  refine hc.out.mono ?_
  rintro e w1 ⟨R, code, rfl, hrd, hb, hR⟩
  have HR := Lib.hid hrd
  have HB := Lib.hid hb
  have HRW := Lib.hid hR
  clear hrd hb hR
  go_wp2_with fail
  refine (l71Tree_any R code 0 w1 HR.out (by decide)).mono ?_
  rintro e w2 ⟨y, rfl, hy5, hyA, hyf, hd⟩
  have HY := Lib.hid hy5
  have HA := Lib.hid hyA
  have HD := Lib.hid hd
  clear hy5 hyA hyf hd
  go_wp2_with fail
  go_ret
  exact ⟨y, rfl, HY.out, HA.out, HD.out.below HB.out HRW.out HB.out.size⟩

/-- A drawn tree, and a drawn name. -/
def DrawnAt (w : World) (e : Ending) (w' : World) : Prop :=
  ∃ (y : Loc LFile) (n : ByteArray), e = .returned (.tuple #[y.val, .string n]) ∧ y.xs.length ≤ 5 ∧ n.size ≤ 9223372036854775807 ∧ y.At w' ∧ Below w.heap.size w w'

set_option maxRecDepth 100000 in
set_option maxHeartbeats 1000000 in
theorem drawTreeAt_any (x : Loc UInt8) (w : World) (hx : x.At w) : Calls Tryd.prog 28 #[x.val] w (DrawnAt w) := by
  have hc := Lib.hid (l6Open_new x w hx)
  clear hx
  go_enter Tryd.func28, Tryd.ntmps28
  go_wp2_with fail
  refine hc.out.mono ?_
  rintro e w1 ⟨R, code, rfl, hrd, hb, hR⟩
  have HR := Lib.hid hrd
  have HB := Lib.hid hb
  have HRW := Lib.hid hR
  clear hrd hb hR
  go_wp2_with fail
  refine (l71Tree_any R code 0 w1 HR.out (by decide)).mono ?_
  rintro e w2 ⟨⟨ya, yc, ys⟩, rfl, hy5, hyA, hyf, hd⟩
  have HY := Lib.hid hy5
  have HA := Lib.hid hyA
  have H2 := Lib.hid (show Drew R code 2000 w2 w2 from hd.rd.refl)
  have HS : Hid (R < w2.heap.size) := Lib.hid hd.rd.lt
  have HNR : Hid (∀ b ∈ (⟨ya, yc, ys⟩ : Loc LFile).fp, b ≠ R) := Lib.hid (fun b hb => by have := hyf b hb; have := HR.out.lt; omega)
  have HB2 := Lib.hid (hd.below HB.out HRW.out HB.out.size)
  have h1 := hyA.lenMax
  simp only at h1 hy5
  clear hyA hyf hd hy5
  simp only [Loc.val]
  by_cases h0 : ys.length = 0
  · have HZ0 := Lib.hid h0
    have hz : decide ((0 : Int) < (ys.length : Int)) = false := decide_eq_false (by omega)
    have hz2 : decide (0 < ys.length) = false := decide_eq_false (by omega)
    go_wp2_with fail
    have hBw9 : Below w2.heap.size w2 (w2.alloc (Obj.cells #[.string ⟨#[65]⟩, .string ⟨#[70]⟩, .string ⟨#[120]⟩] 9)) := (Below.refl _ _).alloc (Nat.le_refl _) _
    have HBw9 := Lib.hid (H2.out.later hBw9)
    have hsA := strs_At (xs := [⟨#[65]⟩, ⟨#[70]⟩, ⟨#[120]⟩]) (heap_alloc_new w2 (Obj.cells #[.string ⟨#[65]⟩, .string ⟨#[70]⟩, .string ⟨#[120]⟩] 9)) rfl rfl (by decide) (by intro s hs; simp only [List.mem_cons, List.mem_nil_iff, or_false] at hs; (first | (rcases hs with rfl | rfl | rfl | rfl) | (rcases hs with rfl | rfl | rfl) | (rcases hs with rfl | rfl | rfl | rfl | rfl | rfl)) <;> decide)
    have hc := Lib.hid (of_any R code (2000) _ _ HBw9.out.rd (by omega) hsA (by simp) (by simp) (fun b hb => by simp [Loc.fp, Loc.blk, Dat.fp] at hb; have := HS.out; have := H2.out.touch.size; omega))
    clear hsA hBw9
    go_wp2_with fail
    refine hc.out.mono ?_
    rintro e w9 ⟨⟨nm, rfl, nmm, nmz⟩, hd⟩
    have H9 := Lib.hid (HBw9.out.trans hd)
    have TH9 := Lib.hid hd.touch
    clear hd hc
    have HA9 := Lib.hid ((show Drew R code _ w2 w9 from ⟨H9.out.rd, H9.out.touch⟩).keepLoc HA.out HNR.out)
    clear nmm
    go_wp2_with fail
    go_ret2
    exact ⟨⟨ya, yc, ys⟩, nm, (by simp only [Loc.val, HZ0.out]; rfl), HY.out, by simp only [maxLen] at nmz; omega, HA9.out, H9.out.below HB2.out HRW.out HB2.out.size⟩
  · have hz : decide ((0 : Int) < (ys.length : Int)) = true := decide_eq_true (by omega)
    have hz2 : decide (0 < ys.length) = true := decide_eq_true (by omega)
    go_wp2_with fail
    refine (pick_any R code 2000 5 w2 H2.out.rd (by decide) (by decide) (by decide)).mono ?_
    rintro e w3 ⟨⟨q, rfl, ql, qh⟩, hd⟩
    have H3 := Lib.hid (H2.out.trans hd)
    have HA3 := Lib.hid (hd.keepLoc HA.out HNR.out)
    clear hd
    by_cases hq : q = 0
    · subst hq
      go_wp2_with fail
      have hBw9 : Below w3.heap.size w3 (w3.alloc (Obj.cells #[.string ⟨#[65]⟩, .string ⟨#[70]⟩, .string ⟨#[120]⟩] 9)) := (Below.refl _ _).alloc (Nat.le_refl _) _
      have HBw9 := Lib.hid (H3.out.later hBw9)
      have hsA := strs_At (xs := [⟨#[65]⟩, ⟨#[70]⟩, ⟨#[120]⟩]) (heap_alloc_new w3 (Obj.cells #[.string ⟨#[65]⟩, .string ⟨#[70]⟩, .string ⟨#[120]⟩] 9)) rfl rfl (by decide) (by intro s hs; simp only [List.mem_cons, List.mem_nil_iff, or_false] at hs; (first | (rcases hs with rfl | rfl | rfl | rfl) | (rcases hs with rfl | rfl | rfl) | (rcases hs with rfl | rfl | rfl | rfl | rfl | rfl)) <;> decide)
      have hc := Lib.hid (of_any R code (2001) _ _ HBw9.out.rd (by omega) hsA (by simp) (by simp) (fun b hb => by simp [Loc.fp, Loc.blk, Dat.fp] at hb; have := HS.out; have := H3.out.touch.size; omega))
      clear hsA hBw9
      go_wp2_with fail
      refine hc.out.mono ?_
      rintro e w9 ⟨⟨nm, rfl, nmm, nmz⟩, hd⟩
      have H9 := Lib.hid (HBw9.out.trans hd)
      have TH9 := Lib.hid hd.touch
      clear hd hc
      have HA9 := Lib.hid ((show Drew R code _ w2 w9 from ⟨H9.out.rd, H9.out.touch⟩).keepLoc HA.out HNR.out)
      clear nmm
      go_wp2_with fail
      go_ret2
      exact ⟨⟨ya, yc, ys⟩, nm, rfl, HY.out, by simp only [maxLen] at nmz; omega, HA9.out, H9.out.below HB2.out HRW.out HB2.out.size⟩
    · have hq1 : decide (0 < q) = true := decide_eq_true (by omega)
      have hq2 : 0 < q := by omega
      obtain ⟨a, ao, ha⟩ := HA3.out.place (show 0 < ys.length by omega)
      simp only at ha
      subst ha
      go_wp2_with fail
      have hy5 : ys.length ≤ 5 := HY.out
      go_region_with (go_at_call 46; go_loud (refine (pick_any R code 2001 (ys.length : Int) w3.drew (H3.out.rd.same (fun _ => rfl)) (by decide) (by omega) (by omega)).mono ?_; rintro e w4 ⟨⟨v, rfl, vl, vh⟩, hd⟩; obtain ⟨i, rfl⟩ : ∃ i : Nat, v = (i : Int) := ⟨v.toNat, by omega⟩; have hi : i < ys.length := (by omega); have H4 := Lib.hid (show Drew R code 2002 w3 w4 from ⟨hd.rd, ⟨hd.touch.os, hd.touch.tape, hd.touch.output, hd.touch.size, hd.touch.block⟩⟩); have HA4 := Lib.hid (H4.out.keepLoc HA3.out HNR.out); have cn := (HA4.out.file rfl hi).1; simp only at cn; clear hd))
      all_goals
        go_wp2_with fail
        go_ret2
        exact ⟨⟨some ⟨a, ao, none⟩, yc, ys⟩, ys[i].name, rfl, HY.out, by have := (HA4.out.elem (List.getElem_mem hi)).2; simp only [maxLen] at this; exact this, HA4.out, (H3.out.trans H4.out).below HB2.out HRW.out HB2.out.size⟩
end Go.Proofs.YtjlaaoecockfjaaDoor
