/- A log's parts: placeOf, rest, cut, copyLog. -/
import Derived.Test.YtdbejmnfnbkndaaGreatDoorCopyR
import Derived.Test.YtdbejmnfnbkndaaGreatDoorRec
import Derived.Deep.RegionWith
namespace Go.Proofs.YtdbejmnfnbkndaaGreatDoor
open Go Go.RowKit

/-- The place of a record with a number, or the nearest one. -/
def placeN (f n : Int) (len : Nat) : Nat := (min (max (n - f) 0) (len : Int)).toNat
theorem placeN_le (f n : Int) (len : Nat) : placeN f n len ≤ len := by unfold placeN; omega

set_option maxRecDepth 100000 in
set_option maxHeartbeats 400000 in
theorem placeOf_any (x : LLog) (n : Int) (w : World) (hx : x.At w) (hf : 0 ≤ x.from_ ∧ x.from_ ≤ 5000) (hn : 0 ≤ n ∧ n ≤ 9223372036854775807) :
    Calls Tryz.prog 40 #[x.val, .int .i64 n] w fun e w' => e = .returned (.int .i64 (placeN x.from_ n x.recs.xs.length : Nat)) ∧ Below w.heap.size w w' := by
  obtain ⟨xf, xa, xc, xs⟩ := x
  have h1 := Loc.At.lenMax hx
  simp only at h1 hf
  simp only [LLog.val, Loc.val]
  obtain ⟨hf1, hf2⟩ := hf
  obtain ⟨hn1, hn2⟩ := hn
  have HP : Hid ((placeN xf n xs.length : Int) = min (max (n - xf) 0) (xs.length : Int)) := Lib.hid (by unfold placeN; omega)
  clear hx
  go_enter Tryz.func40, Tryz.ntmps40
  go_wp2_with fail
  go_ret
  exact ⟨ret_int HP.out.symm, (Below.refl w.heap.size w).alloc (Nat.le_refl _) _⟩

theorem drop_At {w : World} {a : Option Addr} {cap : Nat} {xs : List LRec} {b o p : Nat} (h : Loc.At w ⟨a, cap, xs⟩) (ha : a = some ⟨b, o, none⟩) (hp : p ≤ xs.length) : Loc.At w (⟨some ⟨b, o + p * 5, none⟩, cap - p, xs.drop p⟩ : Loc LRec) := by
  subst ha
  have hl := h.lenCap
  have hm := h.capMax
  simp only at hl hm
  refine ⟨by simp; omega, by simp; omega, fun _ => ⟨_, rfl⟩, fun a ha i x hx j v hv => ?_, fun x hx => h.elem (List.mem_of_mem_drop hx)⟩
  simp only [Option.some.injEq] at ha
  subst ha
  have hx2 : xs[p + i]? = some x := by have : (xs.drop p)[i]? = some x := hx; rwa [List.getElem?_drop] at this
  have := h.cell rfl hx2 hv
  rw [add_lit'] at this ⊢
  have e : o + p * 5 + (i * Dat.k LRec + j) = o + ((p + i) * Dat.k LRec + j) := by
    show o + p * 5 + (i * 5 + j) = o + ((p + i) * 5 + j)
    rw [Nat.add_mul]; omega
  rw [e]; exact this

set_option maxRecDepth 100000 in
set_option maxHeartbeats 1000000 in
theorem rest_any (x : LLog) (n : Int) (w : World) (hx : x.At w) (hf : 0 ≤ x.from_ ∧ x.from_ ≤ 5000) (hn : 0 ≤ n ∧ n ≤ 9223372036854775807) :
    Calls Tryz.prog 27 #[x.val, .int .i64 n] w fun e w' => ∃ y : Loc LRec, e = .returned y.val ∧ y.xs = x.recs.xs.drop (placeN x.from_ n x.recs.xs.length) ∧ y.At w' ∧ Below w.heap.size w w' := by
  have hB := (Below.refl w.heap.size w).alloc (Nat.le_refl _) (Obj.cells #[.int .i64 x.from_, x.recs.val] 25)
  have HC := Lib.hid (fun W (hW : x.At W) => placeOf_any x n W hW hf hn)
  have hple := placeN_le x.from_ n x.recs.xs.length
  obtain ⟨xf, xa, xc, xs⟩ := x
  have h1 := Loc.At.lenMax hx
  have h2 := Loc.At.lenCap hx
  have h3 := Loc.At.capMax hx
  simp only at h1 h2 hple
  simp only [maxLen] at h3
  simp only [LLog.val, Loc.val] at HC hB ⊢
  have HB := Lib.hid hB
  have HX := Lib.hid (show Loc.At _ (⟨xa, xc, xs⟩ : Loc LRec) from Loc.At.belowAll hx hB)
  have BX := Lib.hid (Boxed.new w #[.int .i64 xf, .slice xa xs.length xc] 25)
  generalize hp : placeN xf n xs.length = p at *
  clear hB hx hf hn hp
  go_enter Tryz.func27, Tryz.ntmps27
  go_wp2_with fail
  generalize w.alloc (Obj.cells #[.int .i64 xf, .slice xa xs.length xc] 25) = w0 at *
  have HF : Hid (∀ w', Below w0.heap.size w0 w' → w'.cell? ⟨w.heap.size, 0, none⟩ = some (.int .i64 xf) ∧ w'.cell? ⟨w.heap.size, 1, none⟩ = some (.slice xa xs.length xc)) := Lib.hid (fun w' h => ⟨(BX.out.keep h).2 0 _ rfl, (BX.out.keep h).2 1 _ rfl⟩)
  by_cases hc : xc = p
  · have HCC := Lib.hid hc
    have hlp : xs.length = p := by omega
    have HLP := Lib.hid hlp
    clear hlp
    subst hc
    refine wp_region_inv 7 (by kernel_rfl) (by kernel_rfl) (fun w' => Below w0.heap.size w0 w') (Below.refl _ _).drew ?_
    simp only [List.take_succ_cons, List.take_zero, List.drop_succ_cons, List.drop_zero]
    refine' wpInv_step (by rfl) (fun w' hI => ?_) ?_
    rotate_left
    · have hf := HF.out w' hI
      unfold invAt
      go_simp
      first | exact rfl | exact ⟨rfl, hI⟩
    simp only [Act.put, List.setIfInBounds_toArray, List.set_cons_zero, List.set_cons_succ]
    refine' wpInv_step (by rfl) (fun w' hI => ?_) ?_
    rotate_left
    · have hf := HF.out w' hI
      unfold invAt
      go_simp
      first | exact rfl | exact ⟨rfl, hI⟩
    simp only [Act.put, List.setIfInBounds_toArray, List.set_cons_zero, List.set_cons_succ]
    refine' wpInv_step (by rfl) (fun w' hI => ?_) ?_
    rotate_left
    · have hf := HF.out w' hI
      unfold invAt
      go_simp
      first | exact rfl | exact ⟨rfl, hI⟩
    simp only [Act.put, List.setIfInBounds_toArray, List.set_cons_zero, List.set_cons_succ]
    refine' wpInv_step (by rfl) (fun w' hI => ?_) ?_
    rotate_left
    · have hf := HF.out w' hI
      unfold invAt
      go_simp
      first | exact rfl | exact ⟨rfl, hI⟩
    simp only [Act.put, List.setIfInBounds_toArray, List.set_cons_zero, List.set_cons_succ]
    refine' wpInv_step (by rfl) (fun w' hI => ?_) ?_
    rotate_left
    · have hf := HF.out w' hI
      unfold invAt
      go_simp
      clear hf
      refine (HC.out w' (HX.out.belowAll hI)).mono ?_
      rintro e w'' ⟨rfl, hb2⟩
      exact ⟨rfl, hI.trans (hb2.mono hI.size)⟩
    simp only [Act.put, List.setIfInBounds_toArray, List.set_cons_zero, List.set_cons_succ]
    refine' wpInv_step (by rfl) (fun w' hI => ?_) ?_
    rotate_left
    · have hf := HF.out w' hI
      unfold invAt
      go_simp
      first | exact rfl | exact ⟨rfl, hI⟩
    simp only [Act.put, List.setIfInBounds_toArray, List.set_cons_zero, List.set_cons_succ]
    refine' wpInv_step (by rfl) (fun w' hI => ?_) ?_
    rotate_left
    · have hf := HF.out w' hI
      unfold invAt
      go_simp
      first | exact rfl | exact ⟨rfl, hI⟩
    simp only [Act.put, List.setIfInBounds_toArray, List.set_cons_zero, List.set_cons_succ]
    intro w1 hI
    have B2 := Lib.hid (HB.out.trans (hI.mono HB.out.size))
    have HX2 := Lib.hid (HX.out.belowAll hI)
    clear hI HF
    go_wp2_with fail
    go_ret
    exact ⟨⟨xa, 0, []⟩, by simp only [Loc.val, HLP.out]; rfl, by simp [HLP.out], ⟨Nat.le_refl _, Nat.zero_le _, by simp, by simp, by simp⟩, B2.out⟩
  · have hpc : p < xc := by omega
    have hcp : ¬ (xc : Int) = (p : Int) := by omega
    by_cases h0 : xs.length = 0
    · have hp0 : p = 0 := by omega
      subst hp0
      have HL0 := Lib.hid (List.eq_nil_of_length_eq_zero h0)
      obtain rfl : xs = [] := HL0.out
      have HNA := Lib.hid HX.out.capMax
      refine wp_region_inv 7 (by kernel_rfl) (by kernel_rfl) (fun w' => Below w0.heap.size w0 w') (Below.refl _ _).drew ?_
      simp only [List.take_succ_cons, List.take_zero, List.drop_succ_cons, List.drop_zero]
      refine' wpInv_step (by rfl) (fun w' hI => ?_) ?_
      rotate_left
      · have hf := HF.out w' hI
        unfold invAt
        go_simp
        first | exact rfl | exact ⟨rfl, hI⟩
      simp only [Act.put, List.setIfInBounds_toArray, List.set_cons_zero, List.set_cons_succ]
      refine' wpInv_step (by rfl) (fun w' hI => ?_) ?_
      rotate_left
      · have hf := HF.out w' hI
        unfold invAt
        go_simp
        first | exact rfl | exact ⟨rfl, hI⟩
      simp only [Act.put, List.setIfInBounds_toArray, List.set_cons_zero, List.set_cons_succ]
      refine' wpInv_step (by rfl) (fun w' hI => ?_) ?_
      rotate_left
      · have hf := HF.out w' hI
        unfold invAt
        go_simp
        first | exact rfl | exact ⟨rfl, hI⟩
      simp only [Act.put, List.setIfInBounds_toArray, List.set_cons_zero, List.set_cons_succ]
      refine' wpInv_step (by rfl) (fun w' hI => ?_) ?_
      rotate_left
      · have hf := HF.out w' hI
        unfold invAt
        go_simp
        first | exact rfl | exact ⟨rfl, hI⟩
      simp only [Act.put, List.setIfInBounds_toArray, List.set_cons_zero, List.set_cons_succ]
      refine' wpInv_step (by rfl) (fun w' hI => ?_) ?_
      rotate_left
      · have hf := HF.out w' hI
        unfold invAt
        go_simp
        clear hf
        refine (HC.out w' (HX.out.belowAll hI)).mono ?_
        rintro e w'' ⟨rfl, hb2⟩
        exact ⟨rfl, hI.trans (hb2.mono hI.size)⟩
      simp only [Act.put, List.setIfInBounds_toArray, List.set_cons_zero, List.set_cons_succ]
      refine' wpInv_step (by rfl) (fun w' hI => ?_) ?_
      rotate_left
      · have hf := HF.out w' hI
        unfold invAt
        go_simp
        first | exact rfl | exact ⟨rfl, hI⟩
      simp only [Act.put, List.setIfInBounds_toArray, List.set_cons_zero, List.set_cons_succ]
      refine' wpInv_step (by rfl) (fun w' hI => ?_) ?_
      rotate_left
      · have hf := HF.out w' hI
        unfold invAt
        go_simp
        first | exact rfl | exact ⟨rfl, hI⟩
      simp only [Act.put, List.setIfInBounds_toArray, List.set_cons_zero, List.set_cons_succ]
      intro w1 hI
      have B2 := Lib.hid (HB.out.trans (hI.mono HB.out.size))
      have HX2 := Lib.hid (HX.out.belowAll hI)
      clear hI HF
      go_wp2_with fail
      go_ret
      exact ⟨⟨xa, xc, []⟩, rfl, rfl, ⟨Nat.zero_le _, HNA.out, by simp, by simp, by simp⟩, B2.out⟩
    · obtain ⟨a, ao, ha⟩ := HX.out.place (show 0 < xs.length by omega)
      simp only at ha
      subst ha
      have HP := Lib.hid hple
      refine wp_region_inv 7 (by kernel_rfl) (by kernel_rfl) (fun w' => Below w0.heap.size w0 w') (Below.refl _ _).drew ?_
      simp only [List.take_succ_cons, List.take_zero, List.drop_succ_cons, List.drop_zero]
      refine' wpInv_step (by rfl) (fun w' hI => ?_) ?_
      rotate_left
      · have hf := HF.out w' hI
        unfold invAt
        go_simp
        first | exact rfl | exact ⟨rfl, hI⟩
      simp only [Act.put, List.setIfInBounds_toArray, List.set_cons_zero, List.set_cons_succ]
      refine' wpInv_step (by rfl) (fun w' hI => ?_) ?_
      rotate_left
      · have hf := HF.out w' hI
        unfold invAt
        go_simp
        first | exact rfl | exact ⟨rfl, hI⟩
      simp only [Act.put, List.setIfInBounds_toArray, List.set_cons_zero, List.set_cons_succ]
      refine' wpInv_step (by rfl) (fun w' hI => ?_) ?_
      rotate_left
      · have hf := HF.out w' hI
        unfold invAt
        go_simp
        first | exact rfl | exact ⟨rfl, hI⟩
      simp only [Act.put, List.setIfInBounds_toArray, List.set_cons_zero, List.set_cons_succ]
      refine' wpInv_step (by rfl) (fun w' hI => ?_) ?_
      rotate_left
      · have hf := HF.out w' hI
        unfold invAt
        go_simp
        first | exact rfl | exact ⟨rfl, hI⟩
      simp only [Act.put, List.setIfInBounds_toArray, List.set_cons_zero, List.set_cons_succ]
      refine' wpInv_step (by rfl) (fun w' hI => ?_) ?_
      rotate_left
      · have hf := HF.out w' hI
        unfold invAt
        go_simp
        clear hf
        refine (HC.out w' (HX.out.belowAll hI)).mono ?_
        rintro e w'' ⟨rfl, hb2⟩
        exact ⟨rfl, hI.trans (hb2.mono hI.size)⟩
      simp only [Act.put, List.setIfInBounds_toArray, List.set_cons_zero, List.set_cons_succ]
      refine' wpInv_step (by rfl) (fun w' hI => ?_) ?_
      rotate_left
      · have hf := HF.out w' hI
        unfold invAt
        go_simp
        first | exact rfl | exact ⟨rfl, hI⟩
      simp only [Act.put, List.setIfInBounds_toArray, List.set_cons_zero, List.set_cons_succ]
      refine' wpInv_step (by rfl) (fun w' hI => ?_) ?_
      rotate_left
      · have hf := HF.out w' hI
        unfold invAt
        go_simp
        first | exact rfl | exact ⟨rfl, hI⟩
      simp only [Act.put, List.setIfInBounds_toArray, List.set_cons_zero, List.set_cons_succ]
      intro w1 hI
      have B2 := Lib.hid (HB.out.trans (hI.mono HB.out.size))
      have HX2 := Lib.hid (HX.out.belowAll hI)
      clear hI HF
      go_wp2_with fail
      go_ret
      exact ⟨⟨some ⟨a, ao + p * 5, none⟩, xc - p, xs.drop p⟩, by simp only [List.length_drop]; rfl, rfl, drop_At HX2.out rfl HP.out, B2.out⟩
end Go.Proofs.YtdbejmnfnbkndaaGreatDoor
