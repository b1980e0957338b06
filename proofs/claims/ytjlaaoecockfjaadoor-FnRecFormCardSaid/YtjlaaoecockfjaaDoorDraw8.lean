/- The reference's draws: DrawRecOk. -/
import Derived.Test.YtjlaaoecockfjaaDoorDraw6
import Derived.Test.YtjlaaoecockfjaaDoorDraw7
namespace Go.Proofs.YtjlaaoecockfjaaDoor
open Go Go.RowKit

/-- A drawn record. -/
def DrawnRec (w : World) (e : Ending) (w' : World) : Prop := ∃ y : LRec, e = .returned y.val ∧ Dat.At w' y ∧ Below w.heap.size w w'

set_option maxRecDepth 100000 in
set_option maxHeartbeats 2000000 in
theorem drawRecOk_any (x : Loc UInt8) (w : World) (hx : x.At w) : Calls Tryd.prog 13 #[x.val] w (DrawnRec w) := by
  have hB0 : Below w.heap.size w (w.alloc (Obj.cells #[.int .i64 0, .string ⟨#[]⟩, .slice none 0 0, .int .i64 0, .int .i64 0] 27)) := (Below.refl _ _).alloc (Nat.le_refl _) _
  have hc := Lib.hid (l6Open_new x _ (hx.belowAll hB0))
  have HP0 := Lib.hid (heap_alloc_new w (Obj.cells #[.int .i64 0, .string ⟨#[]⟩, .slice none 0 0, .int .i64 0, .int .i64 0] 27))
  have HZ0 : Hid ((w.alloc (Obj.cells #[.int .i64 0, .string ⟨#[]⟩, .slice none 0 0, .int .i64 0, .int .i64 0] 27)).heap.size = w.heap.size + 1) := Lib.hid (by simp)
  have HB0 := Lib.hid hB0
  clear hx hB0
  go_enter Tryd.func13, Tryd.ntmps13
  go_wp2_with fail
  generalize w.alloc (Obj.cells #[.int .i64 0, .string ⟨#[]⟩, .slice none 0 0, .int .i64 0, .int .i64 0] 27) = w0 at *
  refine hc.out.mono ?_
  rintro e w1 ⟨R, code, rfl, hrd, hb, hR⟩
  have HRD := Lib.hid hrd
  have HS := Lib.hid hrd.lt
  have HCL := Lib.hid (Loc.lt_of_At hrd.at_)
  have HB1 := Lib.hid (HB0.out.trans (hb.mono HB0.out.size))
  have HRW : Hid (w.heap.size ≤ R) := Lib.hid (by have := HZ0.out; omega)
  have HPR : Hid (w.heap.size ≠ R) := Lib.hid (by have := HZ0.out; omega)
  have HP1 := Lib.hid ((hb.block w.heap.size (by rw [HZ0.out]; omega)).trans HP0.out)
  have HZ1 : Hid (w.heap.size < w1.heap.size) := Lib.hid (by have := hb.size; rw [HZ0.out] at this; omega)
  clear hrd hb hR hc
  go_wp2_with fail
  refine (l71Rec_any R code 0 w1 HRD.out (by decide)).mono ?_
  rintro e w2 ⟨⟨k, nm, ⟨sa, sc, ss⟩, n, m⟩, rfl, hyA, hyf, hd⟩
  simp only [LRec.val, Loc.val]
  have hsw : RecWay R code 300 w1 w2.heap.size w.heap.size ⟨k, nm, ⟨sa, sc, ss⟩, n, m⟩ (w2.alloc (Obj.cells #[.int .i64 k, .string nm, .slice sa ss.length sc, .int .i64 n, .int .i64 m] 27)) := by
    have hb : Below w2.heap.size w2 (w2.alloc (Obj.cells #[.int .i64 k, .string nm, .slice sa ss.length sc, .int .i64 n, .int .i64 m] 27)) := (Below.refl _ _).alloc (Nat.le_refl _) _
    have h12 := hd.touch.size
    have hz1 := HZ1.out
    refine ⟨hd.later hb, heap_alloc_new w2 _, ?_, Dat.belowAll hyA hb, fun b hb2 => ?_⟩
    · rw [hb.block _ (by omega), hd.touch.block _ (by omega) (by simpa using HPR.out)]; exact HP1.out
    · have h1 := hyf b hb2
      have h2 := Dat.lt hyA b hb2
      omega
  have HSW := Lib.hid hsw
  have HSP : Hid (w2.heap.size ≠ w.heap.size) := Lib.hid (by have := hd.touch.size; have := HZ1.out; omega)
  have HSS : Hid (w1.heap.size ≤ w2.heap.size) := Lib.hid hd.touch.size
  clear hsw hd hyA hyf HP1
  go_wp2_with fail
  generalize w2.alloc (Obj.cells #[.int .i64 k, .string nm, .slice sa ss.length sc, .int .i64 n, .int .i64 m] 27) = w3 at *
  generalize w2.heap.size = S at *
  refine (pick_any R code 300 5 w3 HSW.out.drew.rd (by decide) (by decide) (by decide)).mono ?_
  rintro e w4 ⟨⟨q, rfl, ql, qh⟩, hd⟩
  have HW4 := Lib.hid (HSW.out.next HS.out HSS.out HPR.out hd)
  clear hd HSW
  by_cases hq0 : q = 0
  · subst hq0
    have H4 := Lib.hid HW4.out.drew
    go_wp2_with fail
    have hB5 : Below w4.heap.size w4 (w4.alloc (Obj.cells #[.string ⟨#[]⟩, .string ⟨#[65]⟩, .string ⟨#[71]⟩] 9)) := (Below.refl _ _).alloc (Nat.le_refl _) _
    have HW5 := Lib.hid (HW4.out.later hB5)
    have hsA := strs_At (xs := [⟨#[]⟩, ⟨#[65]⟩, ⟨#[71]⟩]) (heap_alloc_new w4 (Obj.cells #[.string ⟨#[]⟩, .string ⟨#[65]⟩, .string ⟨#[71]⟩] 9)) rfl rfl (by decide) (by intro s hs; simp only [List.mem_cons, List.mem_nil_iff, or_false] at hs; rcases hs with rfl | rfl | rfl <;> decide)
    refine (of_any R code 301 _ _ HW5.out.drew.rd (by decide) hsA (by simp) (by simp) (fun b hb => by simp [Loc.fp, Loc.blk, Dat.fp] at hb; have := HS.out; have := HW4.out.drew.touch.size; omega)).mono ?_
    rintro e w6 ⟨⟨nn, rfl, nmm, nmz⟩, hd⟩
    have HW6 := Lib.hid (HW5.out.next HS.out HSS.out HPR.out hd)
    have HW7 := Lib.hid (HW6.out.put HCL.out HS.out HSS.out HSP.out ⟨k, nn, ⟨sa, sc, ss⟩, n, m⟩ 1 (.string nn) rfl (fun b hb => hb) (fun X h => ⟨h.1, nmz⟩))
    clear hd hB5 hsA nmm HW5 HW4 H4
    obtain ⟨⟨s0, s1, s2, s3, s4⟩, zs, ⟨p0, p1, p2, p3, p4⟩, zp⟩ := HW6.out.cells
    simp only [Loc.val] at s2
    have q1 : ¬ S = w.heap.size := HSP.out
    have q2 : ¬ w.heap.size = S := fun h => HSP.out h.symm
    go_wp2_with fail
    refine bodyPost_ret (v := .agg #[.int .i64 k, .string nn, .slice sa ss.length sc, .int .i64 n, .int .i64 m]) ?_ rfl ⟨⟨k, nn, ⟨sa, sc, ss⟩, n, m⟩, rfl, ?_, ?_⟩
    · simp only [results, Tryd.results13]
      go_simp
    · refine Dat.keep HW7.out.at_ fun b hb => ?_
      have hb2 := (HW7.out.off b hb).2.2
      rw [Below.heap_setCell _ _ _ _ (by simpa using hb2), Below.heap_setCell _ _ _ _ (by simpa using hb2), Below.heap_setCell _ _ _ _ (by simpa using hb2), Below.heap_setCell _ _ _ _ (by simpa using hb2), Below.heap_setCell _ _ _ _ (by simpa using hb2)]
    · exact ((((((HW7.out.drew.below HB1.out HRW.out HB1.out.size).setCell (Nat.le_refl _) _).setCell (Nat.le_refl _) _).setCell (Nat.le_refl _) _).setCell (Nat.le_refl _) _).setCell (Nat.le_refl _) _)
  · have hq0' : (q == 0) = false := by rw [beq_eq_false_iff_ne]; exact hq0
    obtain ⟨⟨s0, s1, s2, s3, s4⟩, zs, ⟨p0, p1, p2, p3, p4⟩, zp⟩ := HW4.out.cells
    simp only [Loc.val] at s2
    have q1 : ¬ S = w.heap.size := HSP.out
    have q2 : ¬ w.heap.size = S := fun h => HSP.out h.symm
    go_wp2_with fail
    refine bodyPost_ret (v := .agg #[.int .i64 k, .string nm, .slice sa ss.length sc, .int .i64 n, .int .i64 m]) ?_ rfl ⟨⟨k, nm, ⟨sa, sc, ss⟩, n, m⟩, rfl, ?_, ?_⟩
    · simp only [results, Tryd.results13]
      go_simp
    · refine Dat.keep HW4.out.at_ fun b hb => ?_
      have hb2 := (HW4.out.off b hb).2.2
      rw [Below.heap_setCell _ _ _ _ (by simpa using hb2), Below.heap_setCell _ _ _ _ (by simpa using hb2), Below.heap_setCell _ _ _ _ (by simpa using hb2), Below.heap_setCell _ _ _ _ (by simpa using hb2), Below.heap_setCell _ _ _ _ (by simpa using hb2)]
    · exact ((((((HW4.out.drew.below HB1.out HRW.out HB1.out.size).setCell (Nat.le_refl _) _).setCell (Nat.le_refl _) _).setCell (Nat.le_refl _) _).setCell (Nat.le_refl _) _).setCell (Nat.le_refl _) _)
end Go.Proofs.YtjlaaoecockfjaaDoor
