/- The reference's draws: l71Sib. -/
import Derived.Test.YtdbejmnfnbkndaaDoorDraw2
namespace Go.Proofs.YtdbejmnfnbkndaaDoor
open Go Go.RowKit

theorem Drew.setCell {R : Nat} {code : Loc UInt8} {N g j : Nat} {w W : World} {v : Value} (h : Drew R code N w W) (hcl : ∀ b ∈ code.fp, b < w.heap.size) (hR : R < w.heap.size) (hg : w.heap.size ≤ g) : Drew R code N w (W.setCell ⟨g, j, none⟩ v) := by
  obtain ⟨⟨⟨p, hp, hb⟩, hA, ho⟩, hT⟩ := h
  refine ⟨⟨⟨p, hp, by rw [Below.heap_setCell _ _ _ _ (by simp only; omega)]; exact hb⟩, Loc.keep_At hA fun b hb => Below.heap_setCell _ _ _ _ (by have := hcl b hb; simp only; omega), ho⟩, ?_⟩
  exact ⟨hT.os, hT.tape, hT.output, by simpa using hT.size, fun b hb hn => by rw [Below.heap_setCell _ _ _ _ (by simp only; omega)]; exact hT.block b hb hn⟩

/-- A version under way: its own block, the result's block, its counts. -/
structure SibWay (R : Nat) (code : Loc UInt8) (N : Nat) (w : World) (S P : Nat) (v : Loc Int) (g : Bool) (t : ByteArray) (W : World) : Prop where
  drew : Drew R code N w W
  row : W.heap[S]? = some (.cells #[v.val, .bool g, .string t] 76 (0, 0))
  res : W.heap[P]? = some (.cells #[.slice none 0 0, .bool false, .string ⟨#[]⟩] 76 (0, 0))
  at_ : v.At W
  off : ∀ b ∈ v.fp, w.heap.size ≤ b ∧ b ≠ S ∧ b ≠ P
  len : v.xs.length ≤ 3
  txt : t.size ≤ 100

theorem SibWay.next {R : Nat} {code : Loc UInt8} {N M : Nat} {w : World} {S P : Nat} {v : Loc Int} {g : Bool} {t : ByteArray} {W W' : World} (h : SibWay R code N w S P v g t W) (hR : R < w.heap.size) (hS : w.heap.size ≤ S) (hP : w.heap.size ≤ P) (hd : Drew R code M W W') : SibWay R code M w S P v g t W' :=
  ⟨h.drew.trans hd, (hd.touch.block S (Array.getElem?_eq_some_iff.1 h.row).1 (by simp; omega)).trans h.row, (hd.touch.block P (Array.getElem?_eq_some_iff.1 h.res).1 (by simp; omega)).trans h.res,
    hd.keepLoc h.at_ (fun b hb => by have := (h.off b hb).1; omega), h.off, h.len, h.txt⟩

theorem SibWay.gone {R : Nat} {code : Loc UInt8} {N : Nat} {w : World} {S P : Nat} {v : Loc Int} {g : Bool} {t : ByteArray} {W : World} (h : SibWay R code N w S P v g t W) (hcl : ∀ b ∈ code.fp, b < w.heap.size) (hR : R < w.heap.size) (hS : w.heap.size ≤ S) (hSP : S ≠ P) (g' : Bool) :
    SibWay R code N w S P v g' t (W.setCell ⟨S, 1, none⟩ (.bool g')) :=
  ⟨h.drew.setCell hcl hR hS, by rw [heap_setCell_same W S 1 _ _ _ h.row]; rfl, by rw [Below.heap_setCell _ _ _ _ (by simpa using fun e => hSP e.symm)]; exact h.res,
    Loc.keep_At h.at_ fun b hb => Below.heap_setCell _ _ _ _ (by simpa using (h.off b hb).2.1), h.off, h.len, h.txt⟩
theorem SibWay.text {R : Nat} {code : Loc UInt8} {N : Nat} {w : World} {S P : Nat} {v : Loc Int} {g : Bool} {t : ByteArray} {W : World} (h : SibWay R code N w S P v g t W) (hcl : ∀ b ∈ code.fp, b < w.heap.size) (hR : R < w.heap.size) (hS : w.heap.size ≤ S) (hSP : S ≠ P) (t' : ByteArray) (ht : t'.size ≤ 100) :
    SibWay R code N w S P v g t' (W.setCell ⟨S, 2, none⟩ (.string t')) :=
  ⟨h.drew.setCell hcl hR hS, by rw [heap_setCell_same W S 2 _ _ _ h.row]; rfl, by rw [Below.heap_setCell _ _ _ _ (by simpa using fun e => hSP e.symm)]; exact h.res,
    Loc.keep_At h.at_ fun b hb => Below.heap_setCell _ _ _ _ (by simpa using (h.off b hb).2.1), h.off, h.len, ht⟩

theorem SibWay.cells {R : Nat} {code : Loc UInt8} {N : Nat} {w : World} {S P : Nat} {v : Loc Int} {g : Bool} {t : ByteArray} {W : World} (h : SibWay R code N w S P v g t W) :
    (W.cell? ⟨S, 0, none⟩ = some v.val ∧ W.cell? ⟨S, 1, none⟩ = some (.bool g) ∧ W.cell? ⟨S, 2, none⟩ = some (.string t)) ∧ (∀ j, W.frozen? ⟨S, j, none⟩ = false) ∧
    (W.cell? ⟨P, 0, none⟩ = some (.slice none 0 0) ∧ W.cell? ⟨P, 1, none⟩ = some (.bool false) ∧ W.cell? ⟨P, 2, none⟩ = some (.string ⟨#[]⟩)) ∧ (∀ j, W.frozen? ⟨P, j, none⟩ = false) :=
  ⟨⟨by rw [cell_of_row _ _ _ _ _ _ h.row]; rfl, by rw [cell_of_row _ _ _ _ _ _ h.row]; rfl, by rw [cell_of_row _ _ _ _ _ _ h.row]; rfl⟩, fun j => frozen_of_row _ _ _ _ _ h.row,
   ⟨by rw [cell_of_row _ _ _ _ _ _ h.res]; rfl, by rw [cell_of_row _ _ _ _ _ _ h.res]; rfl, by rw [cell_of_row _ _ _ _ _ _ h.res]; rfl⟩, fun j => frozen_of_row _ _ _ _ _ h.res⟩

/-- What a drawn version is. -/
def SibPost (R : Nat) (code : Loc UInt8) (N : Nat) (w : World) (e : Ending) (w' : World) : Prop :=
  ∃ y : LSib, e = .returned y.val ∧ Dat.At w' y ∧ (∀ b ∈ Dat.fp y, w.heap.size ≤ b) ∧ y.vv.xs.length ≤ 3 ∧ Drew R code N w w'

set_option maxRecDepth 100000 in
set_option maxHeartbeats 2000000 in
theorem l71Sib_any (R : Nat) (code : Loc UInt8) (N : Nat) (w : World) (h : Rd R code N w) (hN : N ≤ 800000000) :
    Calls Tryd.prog 67 #[.pointer (some ⟨R, 0, none⟩)] w (SibPost R code (N + 30) w) := by
  have hB0 : Below w.heap.size w (w.alloc (Obj.cells #[.slice none 0 0, .bool false, .string ⟨#[]⟩] 76)) := (Below.refl _ _).alloc (Nat.le_refl _) _
  have H0 := Lib.hid (h.refl.later hB0)
  have HS := Lib.hid h.lt
  have HCL := Lib.hid (Loc.lt_of_At h.at_)
  have HP0 := Lib.hid (heap_alloc_new w (Obj.cells #[.slice none 0 0, .bool false, .string ⟨#[]⟩] 76))
  have HZ0 : Hid ((w.alloc (Obj.cells #[.slice none 0 0, .bool false, .string ⟨#[]⟩] 76)).heap.size = w.heap.size + 1) := Lib.hid (by simp)
  clear h hB0
  go_enter Tryd.func67, Tryd.ntmps67
  go_wp2_with fail
  generalize hw0 : w.alloc (Obj.cells #[.slice none 0 0, .bool false, .string ⟨#[]⟩] 76) = w0 at *
  clear hw0
  refine (l71Vv_any R code N w0 H0.out.rd (by omega)).mono ?_
  rintro e w1 ⟨⟨va, vc, vs⟩, rfl, hv3, hvA, hvo, hd⟩
  simp only [Loc.val]
  have H1 := Lib.hid (H0.out.trans hd)
  have HV1 := Lib.hid hvA
  have HVO := Lib.hid hvo
  have HV3 := Lib.hid hv3
  have HP1 := Lib.hid ((hd.touch.block w.heap.size (by rw [HZ0.out]; omega) (by have := HS.out; simp; omega)).trans HP0.out)
  have HZ1 := Lib.hid (show w.heap.size < w1.heap.size by have := hd.touch.size; rw [HZ0.out] at this; omega)
  clear hd hvA hvo hv3
  go_wp2_with fail
  refine (l71Text_any R code (N + 10) w1 H1.out.rd (by omega)).mono ?_
  rintro e w2 ⟨⟨t, rfl, ht⟩, hd⟩
  have hsw : SibWay R code (N + 20) w w2.heap.size w.heap.size ⟨va, vc, vs⟩ false t (w2.alloc (Obj.cells #[.slice va vs.length vc, .bool false, .string t] 76)) := by
    have hb : Below w2.heap.size w2 (w2.alloc (Obj.cells #[.slice va vs.length vc, .bool false, .string t] 76)) := (Below.refl _ _).alloc (Nat.le_refl _) _
    have h12 := hd.touch.size
    have hz1 := HZ1.out
    have hvA2 := hd.keepLoc HV1.out (fun b hb => by have := HVO.out b hb; rw [HZ0.out] at this; have := HS.out; omega)
    refine ⟨((H1.out.trans hd).later hb).mono (by omega), heap_alloc_new w2 _, ?_, hvA2.belowAll hb, fun b hb2 => ?_, HV3.out, ht⟩
    · rw [hb.block _ (by omega), hd.touch.block _ hz1 (by have := HS.out; simp; omega)]; exact HP1.out
    · have h1 := HVO.out b hb2
      have h2 := Loc.lt_of_At hvA2 b hb2
      rw [HZ0.out] at h1
      omega
  have HSW := Lib.hid hsw
  have HSP : Hid (w2.heap.size ≠ w.heap.size) := Lib.hid (by have := hd.touch.size; have := HZ1.out; omega)
  have HSS : Hid (w.heap.size ≤ w2.heap.size) := Lib.hid (by have := hd.touch.size; have := HZ1.out; omega)
  clear hsw hd HV1 HVO HV3 HP1 H1
  go_wp2_with fail
  generalize hw3 : w2.alloc (Obj.cells #[.slice va vs.length vc, .bool false, .string t] 76) = w3 at *
  clear hw3
  generalize w2.heap.size = S at *
  refine (pick_any R code (N + 20) 5 w3 HSW.out.drew.rd (by omega) (by decide) (by decide)).mono ?_
  rintro e w4 ⟨⟨k, rfl, kl, kh⟩, hd⟩
  have HW4 := Lib.hid (HSW.out.next HS.out HSS.out (Nat.le_refl _) hd)
  clear hd HSW
  by_cases hk0 : k = 0
  · subst hk0
    obtain ⟨⟨s0, s1, s2⟩, zs, ⟨p0, p1, p2⟩, zp⟩ := HW4.out.cells
    have HW5 := Lib.hid ((HW4.out.gone HCL.out HS.out HSS.out HSP.out true).text HCL.out HS.out HSS.out HSP.out ⟨#[]⟩ (by decide))
    go_wp2_with fail
    clear s0 s1 s2 zs p0 p1 p2 zp HW4
    generalize (w4.setCell ⟨S, 1, none⟩ (.bool true)).setCell ⟨S, 2, none⟩ (.string ⟨#[]⟩) = w5 at *
    refine (pick_any R code (N + 21) 40 w5 HW5.out.drew.rd (by omega) (by decide) (by decide)).mono ?_
    rintro e w6 ⟨⟨q, rfl, ql, qh⟩, hd⟩
    have HW6 := Lib.hid (HW5.out.next HS.out HSS.out (Nat.le_refl _) hd)
    clear hd HW5
    by_cases hq0 : q = 0
    · subst hq0
      have HW7 := Lib.hid (HW6.out.gone HCL.out HS.out HSS.out HSP.out false)
      obtain ⟨⟨s0, s1, s2⟩, zs, ⟨p0, p1, p2⟩, zp⟩ := HW6.out.cells
      simp only [Loc.val] at s0
      have q1 : ¬ S = w.heap.size := HSP.out
      have q2 : ¬ w.heap.size = S := fun h => HSP.out h.symm
      go_wp2_with fail
      refine bodyPost_ret (v := .agg #[.slice va vs.length vc, .bool false, .string ⟨#[]⟩]) ?_ rfl ⟨⟨⟨va, vc, vs⟩, false, ⟨#[]⟩⟩, rfl, ?_, fun b hb => (HW7.out.off b hb).1, HW7.out.len, ?_⟩
      · simp only [results, Tryd.results67]
        go_simp
      · refine ⟨Loc.keep_At HW7.out.at_ fun b hb => ?_, by have := HW7.out.txt; simp only [maxLen]; omega⟩
        have hb2 := (HW7.out.off b hb).2.2
        rw [Below.heap_setCell _ _ _ _ (by simpa using hb2), Below.heap_setCell _ _ _ _ (by simpa using hb2), Below.heap_setCell _ _ _ _ (by simpa using hb2)]
      · exact (((HW7.out.drew.setCell HCL.out HS.out (Nat.le_refl _)).setCell HCL.out HS.out (Nat.le_refl _)).setCell HCL.out HS.out (Nat.le_refl _)).mono (by omega)
    · have hq' : (q == 0) = false := by rw [beq_eq_false_iff_ne]; exact hq0
      obtain ⟨⟨s0, s1, s2⟩, zs, ⟨p0, p1, p2⟩, zp⟩ := HW6.out.cells
      simp only [Loc.val] at s0
      have q1 : ¬ S = w.heap.size := HSP.out
      have q2 : ¬ w.heap.size = S := fun h => HSP.out h.symm
      go_wp2_with fail
      refine bodyPost_ret (v := .agg #[.slice va vs.length vc, .bool true, .string ⟨#[]⟩]) ?_ rfl ⟨⟨⟨va, vc, vs⟩, true, ⟨#[]⟩⟩, rfl, ?_, fun b hb => (HW6.out.off b hb).1, HW6.out.len, ?_⟩
      · simp only [results, Tryd.results67]
        go_simp
      · refine ⟨Loc.keep_At HW6.out.at_ fun b hb => ?_, by have := HW6.out.txt; simp only [maxLen]; omega⟩
        have hb2 := (HW6.out.off b hb).2.2
        rw [Below.heap_setCell _ _ _ _ (by simpa using hb2), Below.heap_setCell _ _ _ _ (by simpa using hb2), Below.heap_setCell _ _ _ _ (by simpa using hb2)]
      · exact (((HW6.out.drew.setCell HCL.out HS.out (Nat.le_refl _)).setCell HCL.out HS.out (Nat.le_refl _)).setCell HCL.out HS.out (Nat.le_refl _)).mono (by omega)
  · have hk' : (k == 0) = false := by rw [beq_eq_false_iff_ne]; exact hk0
    go_wp2_with fail
    refine (pick_any R code (N + 21) 40 w4 HW4.out.drew.rd (by omega) (by decide) (by decide)).mono ?_
    rintro e w6 ⟨⟨q, rfl, ql, qh⟩, hd⟩
    have HW6 := Lib.hid (HW4.out.next HS.out HSS.out (Nat.le_refl _) hd)
    clear hd HW4
    by_cases hq0 : q = 0
    · subst hq0
      have HW7 := Lib.hid (HW6.out.gone HCL.out HS.out HSS.out HSP.out true)
      obtain ⟨⟨s0, s1, s2⟩, zs, ⟨p0, p1, p2⟩, zp⟩ := HW6.out.cells
      simp only [Loc.val] at s0
      have q1 : ¬ S = w.heap.size := HSP.out
      have q2 : ¬ w.heap.size = S := fun h => HSP.out h.symm
      go_wp2_with fail
      refine bodyPost_ret (v := .agg #[.slice va vs.length vc, .bool true, .string t]) ?_ rfl ⟨⟨⟨va, vc, vs⟩, true, t⟩, rfl, ?_, fun b hb => (HW7.out.off b hb).1, HW7.out.len, ?_⟩
      · simp only [results, Tryd.results67]
        go_simp
      · refine ⟨Loc.keep_At HW7.out.at_ fun b hb => ?_, by have := HW7.out.txt; simp only [maxLen]; omega⟩
        have hb2 := (HW7.out.off b hb).2.2
        rw [Below.heap_setCell _ _ _ _ (by simpa using hb2), Below.heap_setCell _ _ _ _ (by simpa using hb2), Below.heap_setCell _ _ _ _ (by simpa using hb2)]
      · exact (((HW7.out.drew.setCell HCL.out HS.out (Nat.le_refl _)).setCell HCL.out HS.out (Nat.le_refl _)).setCell HCL.out HS.out (Nat.le_refl _)).mono (by omega)
    · have hq' : (q == 0) = false := by rw [beq_eq_false_iff_ne]; exact hq0
      obtain ⟨⟨s0, s1, s2⟩, zs, ⟨p0, p1, p2⟩, zp⟩ := HW6.out.cells
      simp only [Loc.val] at s0
      have q1 : ¬ S = w.heap.size := HSP.out
      have q2 : ¬ w.heap.size = S := fun h => HSP.out h.symm
      go_wp2_with fail
      refine bodyPost_ret (v := .agg #[.slice va vs.length vc, .bool false, .string t]) ?_ rfl ⟨⟨⟨va, vc, vs⟩, false, t⟩, rfl, ?_, fun b hb => (HW6.out.off b hb).1, HW6.out.len, ?_⟩
      · simp only [results, Tryd.results67]
        go_simp
      · refine ⟨Loc.keep_At HW6.out.at_ fun b hb => ?_, by have := HW6.out.txt; simp only [maxLen]; omega⟩
        have hb2 := (HW6.out.off b hb).2.2
        rw [Below.heap_setCell _ _ _ _ (by simpa using hb2), Below.heap_setCell _ _ _ _ (by simpa using hb2), Below.heap_setCell _ _ _ _ (by simpa using hb2)]
      · exact (((HW6.out.drew.setCell HCL.out HS.out (Nat.le_refl _)).setCell HCL.out HS.out (Nat.le_refl _)).setCell HCL.out HS.out (Nat.le_refl _)).mono (by omega)
end Go.Proofs.YtdbejmnfnbkndaaDoor
