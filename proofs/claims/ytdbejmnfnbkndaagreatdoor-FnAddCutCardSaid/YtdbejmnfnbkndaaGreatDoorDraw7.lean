/- The reference's draws: l71Rec. -/
import Derived.Test.YtdbejmnfnbkndaaGreatDoorDraw5
namespace Go.Proofs.YtdbejmnfnbkndaaGreatDoor
open Go Go.RowKit

/-- A record under way: its own block, the result's block. -/
structure RecWay (R : Nat) (code : Loc UInt8) (N : Nat) (w : World) (S P : Nat) (y : LRec) (W : World) : Prop where
  drew : Drew R code N w W
  row : W.heap[S]? = some (.cells (Dat.enc y).toArray 53 (0, 0))
  res : W.heap[P]? = some (.cells #[.int .i64 0, .string ⟨#[]⟩, .slice none 0 0, .int .i64 0, .int .i64 0] 53 (0, 0))
  at_ : Dat.At W y
  off : ∀ b ∈ Dat.fp y, w.heap.size ≤ b ∧ b ≠ S ∧ b ≠ P

theorem RecWay.next {R : Nat} {code : Loc UInt8} {N M : Nat} {w : World} {S P : Nat} {y : LRec} {W W' : World} (h : RecWay R code N w S P y W) (hR : R < w.heap.size) (hS : w.heap.size ≤ S) (hP : P ≠ R) (hd : Drew R code M W W') : RecWay R code M w S P y W' :=
  ⟨h.drew.trans hd, (hd.touch.block S (Array.getElem?_eq_some_iff.1 h.row).1 (by simp; omega)).trans h.row, (hd.touch.block P (Array.getElem?_eq_some_iff.1 h.res).1 (by simpa using hP)).trans h.res,
    hd.keepDat h.at_ (fun b hb => by have := (h.off b hb).1; omega), h.off⟩
theorem RecWay.later {R : Nat} {code : Loc UInt8} {N : Nat} {w : World} {S P : Nat} {y : LRec} {W W' : World} (h : RecWay R code N w S P y W) (hb : Below W.heap.size W W') : RecWay R code N w S P y W' :=
  ⟨h.drew.later hb, (hb.block S (Array.getElem?_eq_some_iff.1 h.row).1).trans h.row, (hb.block P (Array.getElem?_eq_some_iff.1 h.res).1).trans h.res, Dat.belowAll h.at_ hb, h.off⟩

theorem RecWay.put {R : Nat} {code : Loc UInt8} {N : Nat} {w : World} {S P : Nat} {y : LRec} {W : World} (h : RecWay R code N w S P y W) (hcl : ∀ b ∈ code.fp, b < w.heap.size) (hR : R < w.heap.size) (hS : w.heap.size ≤ S) (hSP : S ≠ P)
    (y' : LRec) (j : Nat) (v : Value) (he : Dat.enc y' = (Dat.enc y).set j v) (hfp : ∀ b ∈ Dat.fp y', b ∈ Dat.fp y) (hat : ∀ X, Dat.At X y → Dat.At X y') : RecWay R code N w S P y' (W.setCell ⟨S, j, none⟩ v) :=
  ⟨h.drew.setCell hcl hR hS, by rw [heap_setCell_same W S j _ _ _ h.row, he]; simp, by rw [Below.heap_setCell _ _ _ _ (by simpa using fun e => hSP e.symm)]; exact h.res,
    hat _ (Dat.keep h.at_ fun b hb => Below.heap_setCell _ _ _ _ (by simpa using (h.off b hb).2.1)), fun b hb => h.off b (hfp b hb)⟩

theorem RecWay.cells {R : Nat} {code : Loc UInt8} {N : Nat} {w : World} {S P : Nat} {k : Int} {nm : ByteArray} {sb : Loc LSib} {n sm : Int} {W : World} (h : RecWay R code N w S P ⟨k, nm, sb, n, sm⟩ W) :
    (W.cell? ⟨S, 0, none⟩ = some (.int .i64 k) ∧ W.cell? ⟨S, 1, none⟩ = some (.string nm) ∧ W.cell? ⟨S, 2, none⟩ = some sb.val ∧ W.cell? ⟨S, 3, none⟩ = some (.int .i64 n) ∧ W.cell? ⟨S, 4, none⟩ = some (.int .i64 sm)) ∧ (∀ j, W.frozen? ⟨S, j, none⟩ = false) ∧
    (W.cell? ⟨P, 0, none⟩ = some (.int .i64 0) ∧ W.cell? ⟨P, 1, none⟩ = some (.string ⟨#[]⟩) ∧ W.cell? ⟨P, 2, none⟩ = some (.slice none 0 0) ∧ W.cell? ⟨P, 3, none⟩ = some (.int .i64 0) ∧ W.cell? ⟨P, 4, none⟩ = some (.int .i64 0)) ∧ (∀ j, W.frozen? ⟨P, j, none⟩ = false) :=
  ⟨⟨by rw [cell_of_row _ _ _ _ _ _ h.row]; rfl, by rw [cell_of_row _ _ _ _ _ _ h.row]; rfl, by rw [cell_of_row _ _ _ _ _ _ h.row]; rfl, by rw [cell_of_row _ _ _ _ _ _ h.row]; rfl, by rw [cell_of_row _ _ _ _ _ _ h.row]; rfl⟩, fun j => frozen_of_row _ _ _ _ _ h.row,
   ⟨by rw [cell_of_row _ _ _ _ _ _ h.res]; rfl, by rw [cell_of_row _ _ _ _ _ _ h.res]; rfl, by rw [cell_of_row _ _ _ _ _ _ h.res]; rfl, by rw [cell_of_row _ _ _ _ _ _ h.res]; rfl, by rw [cell_of_row _ _ _ _ _ _ h.res]; rfl⟩, fun j => frozen_of_row _ _ _ _ _ h.res⟩

/-- What a drawn record is. -/
def RecPost (R : Nat) (code : Loc UInt8) (N : Nat) (w : World) (e : Ending) (w' : World) : Prop :=
  ∃ y : LRec, e = .returned y.val ∧ Dat.At w' y ∧ (∀ b ∈ Dat.fp y, w.heap.size ≤ b) ∧ Drew R code N w w'

set_option maxRecDepth 100000 in
set_option maxHeartbeats 4000000 in
theorem l71Rec_any (R : Nat) (code : Loc UInt8) (N : Nat) (w : World) (h : Rd R code N w) (hN : N ≤ 600000000) :
    Calls Tryz.prog 29 #[.pointer (some ⟨R, 0, none⟩)] w (RecPost R code (N + 300) w) := by
  have hB0 : Below w.heap.size w (w.alloc (Obj.cells #[.int .i64 0, .string ⟨#[]⟩, .slice none 0 0, .int .i64 0, .int .i64 0] 53)) := (Below.refl _ _).alloc (Nat.le_refl _) _
  have H0 := Lib.hid (h.refl.later hB0)
  have HS := Lib.hid h.lt
  have HCL := Lib.hid (Loc.lt_of_At h.at_)
  have HPR : Hid (w.heap.size ≠ R) := Lib.hid (by have := h.lt; omega)
  have HP0 := Lib.hid (heap_alloc_new w (Obj.cells #[.int .i64 0, .string ⟨#[]⟩, .slice none 0 0, .int .i64 0, .int .i64 0] 53))
  have HZ0 : Hid ((w.alloc (Obj.cells #[.int .i64 0, .string ⟨#[]⟩, .slice none 0 0, .int .i64 0, .int .i64 0] 53)).heap.size = w.heap.size + 1) := Lib.hid (by simp)
  clear h hB0
  go_enter Tryz.func29, Tryz.ntmps29
  go_wp2_with fail
  generalize w.alloc (Obj.cells #[.int .i64 0, .string ⟨#[]⟩, .slice none 0 0, .int .i64 0, .int .i64 0] 53) = w0 at *
  have hB1 : Below w0.heap.size w0 (w0.alloc (Obj.cells #[.string ⟨#[65]⟩, .string ⟨#[66]⟩, .string ⟨#[70]⟩] 9)) := (Below.refl _ _).alloc (Nat.le_refl _) _
  have H0' := Lib.hid (H0.out.later hB1)
  have HP0' := Lib.hid ((hB1.block w.heap.size (by rw [HZ0.out]; omega)).trans HP0.out)
  have HZ0' := Lib.hid (show w.heap.size + 1 ≤ (w0.alloc (Obj.cells #[.string ⟨#[65]⟩, .string ⟨#[66]⟩, .string ⟨#[70]⟩] 9)).heap.size by have := hB1.size; rw [HZ0.out] at this; exact this)
  have hsA := strs_At (xs := [⟨#[65]⟩, ⟨#[66]⟩, ⟨#[70]⟩]) (heap_alloc_new w0 (Obj.cells #[.string ⟨#[65]⟩, .string ⟨#[66]⟩, .string ⟨#[70]⟩] 9)) rfl rfl (by decide) (by intro s hs; simp only [List.mem_cons, List.mem_nil_iff, or_false] at hs; rcases hs with rfl | rfl | rfl <;> decide)
  rw [HZ0.out] at hsA
  have hc := Lib.hid (of_any R code N _ _ H0'.out.rd (by omega) hsA (by simp) (by simp) (fun b hb => by simp [Loc.fp, Loc.blk, Dat.fp] at hb; have := HS.out; omega))
  clear hsA hB1 H0 HP0
  refine hc.out.mono ?_
  rintro e w1 ⟨⟨nm, rfl, nmm, nmz⟩, hd⟩
  have H1 := Lib.hid (H0'.out.trans hd)
  have HP1 := Lib.hid ((hd.touch.block w.heap.size (by have := HZ0'.out; omega) (by have := HS.out; simp; omega)).trans HP0'.out)
  have HZ1 := Lib.hid (show w.heap.size + 1 ≤ w1.heap.size from Nat.le_trans HZ0'.out hd.touch.size)
  clear hd hc nmm H0' HP0' HZ0'
  have HNZ := Lib.hid nmz
  clear nmz
  go_wp2_with fail
  refine (l71Sibs_any R code (N + 1) w1 H1.out.rd (by omega)).mono ?_
  rintro e w2 ⟨⟨sa, sc, ss⟩, rfl, -, hsA, hsf, hd⟩
  simp only [Loc.val]
  have hsw : RecWay R code (N + 201) w w2.heap.size w.heap.size ⟨1, nm, ⟨sa, sc, ss⟩, 0, 0⟩ (w2.alloc (Obj.cells #[.int .i64 1, .string nm, .slice sa ss.length sc, .int .i64 0, .int .i64 0] 53)) := by
    have hb : Below w2.heap.size w2 (w2.alloc (Obj.cells #[.int .i64 1, .string nm, .slice sa ss.length sc, .int .i64 0, .int .i64 0] 53)) := (Below.refl _ _).alloc (Nat.le_refl _) _
    have h12 := hd.touch.size
    have hz1 := HZ1.out
    refine ⟨((H1.out.trans hd).later hb).mono (by omega), heap_alloc_new w2 _, ?_, ⟨hsA.belowAll hb, HNZ.out⟩, fun b hb2 => ?_⟩
    · rw [hb.block _ (by omega), hd.touch.block _ (by omega) (by have := HS.out; simp; omega)]; exact HP1.out
    · have h1 := hsf b hb2
      have h2 := Loc.lt_of_At hsA b hb2
      omega
  have HSW := Lib.hid hsw
  have HSP : Hid (w2.heap.size ≠ w.heap.size) := Lib.hid (by have := hd.touch.size; have := HZ1.out; omega)
  have HSS : Hid (w.heap.size ≤ w2.heap.size) := Lib.hid (by have := hd.touch.size; have := HZ1.out; omega)
  clear hsw hd hsA hsf HP1 H1
  go_wp2_with fail
  generalize w2.alloc (Obj.cells #[.int .i64 1, .string nm, .slice sa ss.length sc, .int .i64 0, .int .i64 0] 53) = w3 at *
  generalize w2.heap.size = S at *
  refine (pick_any R code (N + 201) 3 w3 HSW.out.drew.rd (by omega) (by decide) (by decide)).mono ?_
  rintro e w4 ⟨⟨k, rfl, kl, kh⟩, hd⟩
  have HW4 := Lib.hid (HSW.out.next HS.out HSS.out HPR.out hd)
  clear hd HSW
  by_cases hk0 : k = 0
  · subst hk0
    go_wp2_with fail
    refine (pick_any R code (N + 202) 6 w4 HW4.out.drew.rd (by omega) (by decide) (by decide)).mono ?_
    rintro e w5 ⟨⟨n, rfl, nl, nh⟩, hd⟩
    have HW5 := Lib.hid (HW4.out.next HS.out HSS.out HPR.out hd)
    clear hd HW4
    go_wp2_with fail
    refine (pick_any R code (N + 203) 97 w5 HW5.out.drew.rd (by omega) (by decide) (by decide)).mono ?_
    rintro e w6 ⟨⟨m, rfl, ml, mh⟩, hd⟩
    have HW6 := Lib.hid (HW5.out.next HS.out HSS.out HPR.out hd)
    clear hd HW5
    obtain ⟨⟨s0, s1, s2, s3, s4⟩, zs, -, -⟩ := HW6.out.cells
    simp only [Loc.val] at s2
    have HWA := HW6.out.put HCL.out HS.out HSS.out HSP.out ⟨2, nm, ⟨sa, sc, ss⟩, 0, 0⟩ 0 (.int .i64 2) rfl (fun b hb => hb) (fun X h => h)
    have HWB := HWA.put HCL.out HS.out HSS.out HSP.out ⟨2, ⟨#[]⟩, ⟨sa, sc, ss⟩, 0, 0⟩ 1 (.string ⟨#[]⟩) rfl (fun b hb => hb) (fun X h => ⟨h.1, Nat.zero_le _⟩)
    have HWC := HWB.put HCL.out HS.out HSS.out HSP.out ⟨2, ⟨#[]⟩, ⟨none, 0, []⟩, 0, 0⟩ 2 (.slice none 0 0) rfl (fun b hb => by simp [Dat.fp, Loc.fp, Loc.blk] at hb) (fun X h => ⟨⟨Nat.le_refl _, Nat.zero_le _, by simp, by simp, by simp⟩, Nat.zero_le _⟩)
    have HWD := HWC.put HCL.out HS.out HSS.out HSP.out ⟨2, ⟨#[]⟩, ⟨none, 0, []⟩, 1 + n, 0⟩ 3 (.int .i64 (1 + n)) rfl (fun b hb => hb) (fun X h => h)
    have HWE := Lib.hid (HWD.put HCL.out HS.out HSS.out HSP.out ⟨2, ⟨#[]⟩, ⟨none, 0, []⟩, 1 + n, m⟩ 4 (.int .i64 m) rfl (fun b hb => hb) (fun X h => h))
    clear HWA HWB HWC HWD HW6
    go_wp2_with fail
    clear s0 s1 s2 s3 s4 zs
    generalize ((((w6.setCell ⟨S, 0, none⟩ (.int .i64 2)).setCell ⟨S, 1, none⟩ (.string ⟨#[]⟩)).setCell ⟨S, 2, none⟩ (.slice none 0 0)).setCell ⟨S, 3, none⟩ (.int .i64 (1 + n))).setCell ⟨S, 4, none⟩ (.int .i64 m) = w7 at *
    refine (pick_any R code (N + 204) 24 w7 HWE.out.drew.rd (by omega) (by decide) (by decide)).mono ?_
    rintro e w8 ⟨⟨q, rfl, ql, qh⟩, hd⟩
    have HW8 := Lib.hid (HWE.out.next HS.out HSS.out HPR.out hd)
    clear hd HWE
    by_cases hq0 : q = 0
    · subst hq0
      go_wp2_with fail
      refine (pick_any R code (N + 204 + 1) 4 w8 HW8.out.drew.rd (by omega) (by decide) (by decide)).mono ?_
      rintro e w9 ⟨⟨v, rfl, vl, vh⟩, hd⟩
      have HW9 := Lib.hid (HW8.out.next HS.out HSS.out HPR.out hd)
      have HWA := Lib.hid (HW9.out.put HCL.out HS.out HSS.out HSP.out ⟨v, ⟨#[]⟩, ⟨none, 0, ([] : List LSib)⟩, (1 + n), m⟩ 0 (.int .i64 v) rfl (fun b hb => hb) (fun X h => h))
      clear hd HW8
      obtain ⟨⟨s0, s1, s2, s3, s4⟩, zs, ⟨p0, p1, p2, p3, p4⟩, zp⟩ := HW9.out.cells
      simp only [Loc.val] at s2
      have q1 : ¬ S = w.heap.size := HSP.out
      have q2 : ¬ w.heap.size = S := fun h => HSP.out h.symm
      go_wp2_with fail
      refine bodyPost_ret (v := .agg #[.int .i64 v, .string ⟨#[]⟩, .slice none (([] : List LSib)).length 0, .int .i64 (1 + n), .int .i64 m]) ?_ rfl ⟨⟨v, ⟨#[]⟩, ⟨none, 0, ([] : List LSib)⟩, (1 + n), m⟩, rfl, ?_, fun b hb => (HWA.out.off b hb).1, ?_⟩
      · simp only [results, Tryz.results29]
        go_simp
      · refine Dat.keep HWA.out.at_ fun b hb => ?_
        have hb2 := (HWA.out.off b hb).2.2
        rw [Below.heap_setCell _ _ _ _ (by simpa using hb2), Below.heap_setCell _ _ _ _ (by simpa using hb2), Below.heap_setCell _ _ _ _ (by simpa using hb2), Below.heap_setCell _ _ _ _ (by simpa using hb2), Below.heap_setCell _ _ _ _ (by simpa using hb2)]
      · exact (((((HWA.out.drew.setCell HCL.out HS.out (Nat.le_refl _)).setCell HCL.out HS.out (Nat.le_refl _)).setCell HCL.out HS.out (Nat.le_refl _)).setCell HCL.out HS.out (Nat.le_refl _)).setCell HCL.out HS.out (Nat.le_refl _)).mono (by omega)
    · have hq0' : (q == 0) = false := by rw [beq_eq_false_iff_ne]; exact hq0
      by_cases hq1 : q = 1
      · subst hq1
        go_wp2_with fail
        refine (pick_any R code (N + 204 + 1) 9 w8 HW8.out.drew.rd (by omega) (by decide) (by decide)).mono ?_
        rintro e w9 ⟨⟨v, rfl, vl, vh⟩, hd⟩
        have HW9 := Lib.hid (HW8.out.next HS.out HSS.out HPR.out hd)
        have HWA := Lib.hid (HW9.out.put HCL.out HS.out HSS.out HSP.out ⟨2, ⟨#[]⟩, ⟨none, 0, ([] : List LSib)⟩, v - 1, m⟩ 3 (.int .i64 (v - 1)) rfl (fun b hb => hb) (fun X h => h))
        clear hd HW8
        obtain ⟨⟨s0, s1, s2, s3, s4⟩, zs, ⟨p0, p1, p2, p3, p4⟩, zp⟩ := HW9.out.cells
        simp only [Loc.val] at s2
        have q1 : ¬ S = w.heap.size := HSP.out
        have q2 : ¬ w.heap.size = S := fun h => HSP.out h.symm
        go_wp2_with fail
        refine bodyPost_ret (v := .agg #[.int .i64 2, .string ⟨#[]⟩, .slice none (([] : List LSib)).length 0, .int .i64 (v - 1), .int .i64 m]) ?_ rfl ⟨⟨2, ⟨#[]⟩, ⟨none, 0, ([] : List LSib)⟩, (v - 1), m⟩, rfl, ?_, fun b hb => (HWA.out.off b hb).1, ?_⟩
        · simp only [results, Tryz.results29]
          go_simp
        · refine Dat.keep HWA.out.at_ fun b hb => ?_
          have hb2 := (HWA.out.off b hb).2.2
          rw [Below.heap_setCell _ _ _ _ (by simpa using hb2), Below.heap_setCell _ _ _ _ (by simpa using hb2), Below.heap_setCell _ _ _ _ (by simpa using hb2), Below.heap_setCell _ _ _ _ (by simpa using hb2), Below.heap_setCell _ _ _ _ (by simpa using hb2)]
        · exact (((((HWA.out.drew.setCell HCL.out HS.out (Nat.le_refl _)).setCell HCL.out HS.out (Nat.le_refl _)).setCell HCL.out HS.out (Nat.le_refl _)).setCell HCL.out HS.out (Nat.le_refl _)).setCell HCL.out HS.out (Nat.le_refl _)).mono (by omega)
      · have hq1' : (q == 1) = false := by rw [beq_eq_false_iff_ne]; exact hq1
        by_cases hq2 : q = 2
        · subst hq2
          have hB9 : Below w8.heap.size w8 (w8.alloc (Obj.cells #[.int .i64 (-1), .int .i64 97, .int .i64 1] 3)) := (Below.refl _ _).alloc (Nat.le_refl _) _
          have HW9 := Lib.hid (HW8.out.later hB9)
          have HL9 := Lib.hid (heap_alloc_new w8 (Obj.cells #[.int .i64 (-1), .int .i64 97, .int .i64 1] 3))
          have HZ9 : Hid ((w8.alloc (Obj.cells #[.int .i64 (-1), .int .i64 97, .int .i64 1] 3)).heap.size = w8.heap.size + 1) := Lib.hid (by simp)
          have HR8 : Hid (R < w8.heap.size) := Lib.hid HW8.out.drew.rd.lt
          clear hB9 HW8
          go_wp2_with fail
          generalize w8.alloc (Obj.cells #[.int .i64 (-1), .int .i64 97, .int .i64 1] 3) = w9 at *
          refine (pick_any R code (N + 204 + 1) 3 w9 HW9.out.drew.rd (by omega) (by decide) (by decide)).mono ?_
          rintro e wA ⟨⟨j, rfl, jl, jh⟩, hd⟩
          obtain ⟨j, rfl⟩ : ∃ i : Nat, j = (i : Int) := ⟨j.toNat, by omega⟩
          have hl8 := (hd.touch.block w8.heap.size (by rw [HZ9.out]; omega) (by have := HR8.out; simp; omega)).trans HL9.out
          have HWB := Lib.hid (HW9.out.next HS.out HSS.out HPR.out hd)
          have hcl : ∃ u : Int, wA.cell? ⟨w8.heap.size, j, none⟩ = some (.int .i64 u) := by
            rw [cell_of_row _ _ _ _ _ _ hl8]
            match j, jh with
            | 0, _ => exact ⟨_, rfl⟩
            | 1, _ => exact ⟨_, rfl⟩
            | 2, _ => exact ⟨_, rfl⟩
            | j + 3, hj => exact absurd hj (by omega)
          obtain ⟨u, hcl⟩ := hcl
          have HWC := Lib.hid (HWB.out.put HCL.out HS.out HSS.out HSP.out ⟨2, ⟨#[]⟩, ⟨none, 0, ([] : List LSib)⟩, (1 + n), u⟩ 4 (.int .i64 u) rfl (fun b hb => hb) (fun X h => h))
          clear hd hl8 HW9
          obtain ⟨⟨s0, s1, s2, s3, s4⟩, zs, ⟨p0, p1, p2, p3, p4⟩, zp⟩ := HWB.out.cells
          simp only [Loc.val] at s2
          have q1 : ¬ S = w.heap.size := HSP.out
          have q2 : ¬ w.heap.size = S := fun h => HSP.out h.symm
          go_wp2_with fail
          refine bodyPost_ret (v := .agg #[.int .i64 2, .string ⟨#[]⟩, .slice none (([] : List LSib)).length 0, .int .i64 (1 + n), .int .i64 u]) ?_ rfl ⟨⟨2, ⟨#[]⟩, ⟨none, 0, ([] : List LSib)⟩, (1 + n), u⟩, rfl, ?_, fun b hb => (HWC.out.off b hb).1, ?_⟩
          · simp only [results, Tryz.results29]
            go_simp
          · refine Dat.keep HWC.out.at_ fun b hb => ?_
            have hb2 := (HWC.out.off b hb).2.2
            rw [Below.heap_setCell _ _ _ _ (by simpa using hb2), Below.heap_setCell _ _ _ _ (by simpa using hb2), Below.heap_setCell _ _ _ _ (by simpa using hb2), Below.heap_setCell _ _ _ _ (by simpa using hb2), Below.heap_setCell _ _ _ _ (by simpa using hb2)]
          · exact (((((HWC.out.drew.setCell HCL.out HS.out (Nat.le_refl _)).setCell HCL.out HS.out (Nat.le_refl _)).setCell HCL.out HS.out (Nat.le_refl _)).setCell HCL.out HS.out (Nat.le_refl _)).setCell HCL.out HS.out (Nat.le_refl _)).mono (by omega)
        · have hq2' : (q == 2) = false := by rw [beq_eq_false_iff_ne]; exact hq2
          obtain ⟨⟨s0, s1, s2, s3, s4⟩, zs, ⟨p0, p1, p2, p3, p4⟩, zp⟩ := HW8.out.cells
          simp only [Loc.val] at s2
          have q1 : ¬ S = w.heap.size := HSP.out
          have q2 : ¬ w.heap.size = S := fun h => HSP.out h.symm
          go_wp2_with fail
          refine bodyPost_ret (v := .agg #[.int .i64 2, .string ⟨#[]⟩, .slice none (([] : List LSib)).length 0, .int .i64 (1 + n), .int .i64 m]) ?_ rfl ⟨⟨2, ⟨#[]⟩, ⟨none, 0, ([] : List LSib)⟩, (1 + n), m⟩, rfl, ?_, fun b hb => (HW8.out.off b hb).1, ?_⟩
          · simp only [results, Tryz.results29]
            go_simp
          · refine Dat.keep HW8.out.at_ fun b hb => ?_
            have hb2 := (HW8.out.off b hb).2.2
            rw [Below.heap_setCell _ _ _ _ (by simpa using hb2), Below.heap_setCell _ _ _ _ (by simpa using hb2), Below.heap_setCell _ _ _ _ (by simpa using hb2), Below.heap_setCell _ _ _ _ (by simpa using hb2), Below.heap_setCell _ _ _ _ (by simpa using hb2)]
          · exact (((((HW8.out.drew.setCell HCL.out HS.out (Nat.le_refl _)).setCell HCL.out HS.out (Nat.le_refl _)).setCell HCL.out HS.out (Nat.le_refl _)).setCell HCL.out HS.out (Nat.le_refl _)).setCell HCL.out HS.out (Nat.le_refl _)).mono (by omega)
  · have hk' : (k == 0) = false := by rw [beq_eq_false_iff_ne]; exact hk0
    go_wp2_with fail
    refine (pick_any R code (N + 202) 24 w4 HW4.out.drew.rd (by omega) (by decide) (by decide)).mono ?_
    rintro e w8 ⟨⟨q, rfl, ql, qh⟩, hd⟩
    have HW8 := Lib.hid (HW4.out.next HS.out HSS.out HPR.out hd)
    clear hd HW4
    by_cases hq0 : q = 0
    · subst hq0
      go_wp2_with fail
      refine (pick_any R code (N + 202 + 1) 4 w8 HW8.out.drew.rd (by omega) (by decide) (by decide)).mono ?_
      rintro e w9 ⟨⟨v, rfl, vl, vh⟩, hd⟩
      have HW9 := Lib.hid (HW8.out.next HS.out HSS.out HPR.out hd)
      have HWA := Lib.hid (HW9.out.put HCL.out HS.out HSS.out HSP.out ⟨v, nm, ⟨sa, sc, ss⟩, 0, 0⟩ 0 (.int .i64 v) rfl (fun b hb => hb) (fun X h => h))
      clear hd HW8
      obtain ⟨⟨s0, s1, s2, s3, s4⟩, zs, ⟨p0, p1, p2, p3, p4⟩, zp⟩ := HW9.out.cells
      simp only [Loc.val] at s2
      have q1 : ¬ S = w.heap.size := HSP.out
      have q2 : ¬ w.heap.size = S := fun h => HSP.out h.symm
      go_wp2_with fail
      refine bodyPost_ret (v := .agg #[.int .i64 v, .string nm, .slice sa (ss).length sc, .int .i64 0, .int .i64 0]) ?_ rfl ⟨⟨v, nm, ⟨sa, sc, ss⟩, 0, 0⟩, rfl, ?_, fun b hb => (HWA.out.off b hb).1, ?_⟩
      · simp only [results, Tryz.results29]
        go_simp
      · refine Dat.keep HWA.out.at_ fun b hb => ?_
        have hb2 := (HWA.out.off b hb).2.2
        rw [Below.heap_setCell _ _ _ _ (by simpa using hb2), Below.heap_setCell _ _ _ _ (by simpa using hb2), Below.heap_setCell _ _ _ _ (by simpa using hb2), Below.heap_setCell _ _ _ _ (by simpa using hb2), Below.heap_setCell _ _ _ _ (by simpa using hb2)]
      · exact (((((HWA.out.drew.setCell HCL.out HS.out (Nat.le_refl _)).setCell HCL.out HS.out (Nat.le_refl _)).setCell HCL.out HS.out (Nat.le_refl _)).setCell HCL.out HS.out (Nat.le_refl _)).setCell HCL.out HS.out (Nat.le_refl _)).mono (by omega)
    · have hq0' : (q == 0) = false := by rw [beq_eq_false_iff_ne]; exact hq0
      by_cases hq1 : q = 1
      · subst hq1
        go_wp2_with fail
        refine (pick_any R code (N + 202 + 1) 9 w8 HW8.out.drew.rd (by omega) (by decide) (by decide)).mono ?_
        rintro e w9 ⟨⟨v, rfl, vl, vh⟩, hd⟩
        have HW9 := Lib.hid (HW8.out.next HS.out HSS.out HPR.out hd)
        have HWA := Lib.hid (HW9.out.put HCL.out HS.out HSS.out HSP.out ⟨1, nm, ⟨sa, sc, ss⟩, v - 1, 0⟩ 3 (.int .i64 (v - 1)) rfl (fun b hb => hb) (fun X h => h))
        clear hd HW8
        obtain ⟨⟨s0, s1, s2, s3, s4⟩, zs, ⟨p0, p1, p2, p3, p4⟩, zp⟩ := HW9.out.cells
        simp only [Loc.val] at s2
        have q1 : ¬ S = w.heap.size := HSP.out
        have q2 : ¬ w.heap.size = S := fun h => HSP.out h.symm
        go_wp2_with fail
        refine bodyPost_ret (v := .agg #[.int .i64 1, .string nm, .slice sa (ss).length sc, .int .i64 (v - 1), .int .i64 0]) ?_ rfl ⟨⟨1, nm, ⟨sa, sc, ss⟩, (v - 1), 0⟩, rfl, ?_, fun b hb => (HWA.out.off b hb).1, ?_⟩
        · simp only [results, Tryz.results29]
          go_simp
        · refine Dat.keep HWA.out.at_ fun b hb => ?_
          have hb2 := (HWA.out.off b hb).2.2
          rw [Below.heap_setCell _ _ _ _ (by simpa using hb2), Below.heap_setCell _ _ _ _ (by simpa using hb2), Below.heap_setCell _ _ _ _ (by simpa using hb2), Below.heap_setCell _ _ _ _ (by simpa using hb2), Below.heap_setCell _ _ _ _ (by simpa using hb2)]
        · exact (((((HWA.out.drew.setCell HCL.out HS.out (Nat.le_refl _)).setCell HCL.out HS.out (Nat.le_refl _)).setCell HCL.out HS.out (Nat.le_refl _)).setCell HCL.out HS.out (Nat.le_refl _)).setCell HCL.out HS.out (Nat.le_refl _)).mono (by omega)
      · have hq1' : (q == 1) = false := by rw [beq_eq_false_iff_ne]; exact hq1
        by_cases hq2 : q = 2
        · subst hq2
          have hB9 : Below w8.heap.size w8 (w8.alloc (Obj.cells #[.int .i64 (-1), .int .i64 97, .int .i64 1] 3)) := (Below.refl _ _).alloc (Nat.le_refl _) _
          have HW9 := Lib.hid (HW8.out.later hB9)
          have HL9 := Lib.hid (heap_alloc_new w8 (Obj.cells #[.int .i64 (-1), .int .i64 97, .int .i64 1] 3))
          have HZ9 : Hid ((w8.alloc (Obj.cells #[.int .i64 (-1), .int .i64 97, .int .i64 1] 3)).heap.size = w8.heap.size + 1) := Lib.hid (by simp)
          have HR8 : Hid (R < w8.heap.size) := Lib.hid HW8.out.drew.rd.lt
          clear hB9 HW8
          go_wp2_with fail
          generalize w8.alloc (Obj.cells #[.int .i64 (-1), .int .i64 97, .int .i64 1] 3) = w9 at *
          refine (pick_any R code (N + 202 + 1) 3 w9 HW9.out.drew.rd (by omega) (by decide) (by decide)).mono ?_
          rintro e wA ⟨⟨j, rfl, jl, jh⟩, hd⟩
          obtain ⟨j, rfl⟩ : ∃ i : Nat, j = (i : Int) := ⟨j.toNat, by omega⟩
          have hl8 := (hd.touch.block w8.heap.size (by rw [HZ9.out]; omega) (by have := HR8.out; simp; omega)).trans HL9.out
          have HWB := Lib.hid (HW9.out.next HS.out HSS.out HPR.out hd)
          have hcl : ∃ u : Int, wA.cell? ⟨w8.heap.size, j, none⟩ = some (.int .i64 u) := by
            rw [cell_of_row _ _ _ _ _ _ hl8]
            match j, jh with
            | 0, _ => exact ⟨_, rfl⟩
            | 1, _ => exact ⟨_, rfl⟩
            | 2, _ => exact ⟨_, rfl⟩
            | j + 3, hj => exact absurd hj (by omega)
          obtain ⟨u, hcl⟩ := hcl
          have HWC := Lib.hid (HWB.out.put HCL.out HS.out HSS.out HSP.out ⟨1, nm, ⟨sa, sc, ss⟩, 0, u⟩ 4 (.int .i64 u) rfl (fun b hb => hb) (fun X h => h))
          clear hd hl8 HW9
          obtain ⟨⟨s0, s1, s2, s3, s4⟩, zs, ⟨p0, p1, p2, p3, p4⟩, zp⟩ := HWB.out.cells
          simp only [Loc.val] at s2
          have q1 : ¬ S = w.heap.size := HSP.out
          have q2 : ¬ w.heap.size = S := fun h => HSP.out h.symm
          go_wp2_with fail
          refine bodyPost_ret (v := .agg #[.int .i64 1, .string nm, .slice sa (ss).length sc, .int .i64 0, .int .i64 u]) ?_ rfl ⟨⟨1, nm, ⟨sa, sc, ss⟩, 0, u⟩, rfl, ?_, fun b hb => (HWC.out.off b hb).1, ?_⟩
          · simp only [results, Tryz.results29]
            go_simp
          · refine Dat.keep HWC.out.at_ fun b hb => ?_
            have hb2 := (HWC.out.off b hb).2.2
            rw [Below.heap_setCell _ _ _ _ (by simpa using hb2), Below.heap_setCell _ _ _ _ (by simpa using hb2), Below.heap_setCell _ _ _ _ (by simpa using hb2), Below.heap_setCell _ _ _ _ (by simpa using hb2), Below.heap_setCell _ _ _ _ (by simpa using hb2)]
          · exact (((((HWC.out.drew.setCell HCL.out HS.out (Nat.le_refl _)).setCell HCL.out HS.out (Nat.le_refl _)).setCell HCL.out HS.out (Nat.le_refl _)).setCell HCL.out HS.out (Nat.le_refl _)).setCell HCL.out HS.out (Nat.le_refl _)).mono (by omega)
        · have hq2' : (q == 2) = false := by rw [beq_eq_false_iff_ne]; exact hq2
          obtain ⟨⟨s0, s1, s2, s3, s4⟩, zs, ⟨p0, p1, p2, p3, p4⟩, zp⟩ := HW8.out.cells
          simp only [Loc.val] at s2
          have q1 : ¬ S = w.heap.size := HSP.out
          have q2 : ¬ w.heap.size = S := fun h => HSP.out h.symm
          go_wp2_with fail
          refine bodyPost_ret (v := .agg #[.int .i64 1, .string nm, .slice sa (ss).length sc, .int .i64 0, .int .i64 0]) ?_ rfl ⟨⟨1, nm, ⟨sa, sc, ss⟩, 0, 0⟩, rfl, ?_, fun b hb => (HW8.out.off b hb).1, ?_⟩
          · simp only [results, Tryz.results29]
            go_simp
          · refine Dat.keep HW8.out.at_ fun b hb => ?_
            have hb2 := (HW8.out.off b hb).2.2
            rw [Below.heap_setCell _ _ _ _ (by simpa using hb2), Below.heap_setCell _ _ _ _ (by simpa using hb2), Below.heap_setCell _ _ _ _ (by simpa using hb2), Below.heap_setCell _ _ _ _ (by simpa using hb2), Below.heap_setCell _ _ _ _ (by simpa using hb2)]
          · exact (((((HW8.out.drew.setCell HCL.out HS.out (Nat.le_refl _)).setCell HCL.out HS.out (Nat.le_refl _)).setCell HCL.out HS.out (Nat.le_refl _)).setCell HCL.out HS.out (Nat.le_refl _)).setCell HCL.out HS.out (Nat.le_refl _)).mono (by omega)
end Go.Proofs.YtdbejmnfnbkndaaGreatDoor
