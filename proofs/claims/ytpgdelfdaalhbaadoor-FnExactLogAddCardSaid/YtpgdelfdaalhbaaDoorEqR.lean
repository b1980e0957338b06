/- The laws' own equality for records and logs: eqRec, eqRecS, eqLog. -/
import Derived.Test.YtpgdelfdaalhbaaDoorEq
import Derived.Test.YtpgdelfdaalhbaaDoorSzR
namespace Go.Proofs.YtpgdelfdaalhbaaDoor
open Go Go.RowKit

set_option maxRecDepth 100000 in
set_option maxHeartbeats 800000 in
theorem eqRec_any (x y : LRec) (w : World) (hx : Dat.At w x) (hy : Dat.At w y) :
    Calls Tryd.prog 47 #[x.val, y.val] w (EqPost w (x.er = y.er)) := by
  obtain ⟨xk, xn, xs, xm, xq⟩ := x
  obtain ⟨yk, yn, ys, ym, yq⟩ := y
  simp only [LRec.val]
  have hB := ((Below.refl w.heap.size w).alloc (Nat.le_refl _) (Obj.cells #[.int .i64 xk, .string xn, xs.val, .int .i64 xm, .int .i64 xq] 71)).alloc (by simp) (Obj.cells #[.int .i64 yk, .string yn, ys.val, .int .i64 ym, .int .i64 yq] 71)
  have hc := Lib.hid (eqFile_any ⟨xn, xs⟩ ⟨yn, ys⟩ _ (Dat.belowAll (α := LFile) (x := ⟨xn, xs⟩) hx hB) (Dat.belowAll (α := LFile) (x := ⟨yn, ys⟩) hy hB))
  simp only [LFile.val] at hc
  have HB := Lib.hid hB
  clear hB
  by_cases h1 : xk = yk
  · have h1b : (xk != yk) = false := by simp [h1]
    have H1 := Lib.hid h1
    clear h1
    go_enter Tryd.func47, Tryd.ntmps47
    go_wp2_with fail
    refine hc.out.mono ?_
    rintro e w' ⟨⟨v, rfl, hv⟩, hb⟩
    have HV := Lib.hid hv
    have HBB := Lib.hid (HB.out.trans (hb.mono (by simp; omega)))
    have x3 : w'.cell? ⟨w.heap.size, 3, none⟩ = some (.int .i64 xm) := by rw [hb.cell (by simp <;> omega)]; go_simp
    have x4 : w'.cell? ⟨w.heap.size, 4, none⟩ = some (.int .i64 xq) := by rw [hb.cell (by simp <;> omega)]; go_simp
    have y3 : w'.cell? ⟨w.heap.size + 1, 3, none⟩ = some (.int .i64 ym) := by rw [hb.cell (by simp)]; go_simp
    have y4 : w'.cell? ⟨w.heap.size + 1, 4, none⟩ = some (.int .i64 yq) := by rw [hb.cell (by simp)]; go_simp
    clear hv hb
    cases v with
    | false =>
      go_wp2_with fail
      go_ret
      refine ⟨⟨_, rfl, ⟨fun h => (by cases h), fun h => HV.out.2 ?_⟩⟩, HBB.out⟩
      simp only [LRec.er, Rec.mk.injEq] at h
      simp only [LFile.er, File.mk.injEq]
      exact ⟨h.2.1, h.2.2.1⟩
    | true =>
      have HE := Lib.hid (HV.out.1 rfl)
      by_cases h2 : xm = ym
      · have h2b : (xm != ym) = false := by simp [h2]
        have H2 := Lib.hid h2
        clear h2
        by_cases h3 : xq = yq
        · have h3b : (xq != yq) = false := by simp [h3]
          have H3 := Lib.hid h3
          clear h3
          go_wp2_with fail
          go_ret
          refine ⟨⟨_, rfl, ⟨fun _ => ?_, fun _ => rfl⟩⟩, HBB.out⟩
          have := HE.out
          simp only [LFile.er, File.mk.injEq] at this
          simp only [LRec.er, Rec.mk.injEq]
          exact ⟨H1.out, this.1, this.2, H2.out, H3.out⟩
        · have h3b : (xq != yq) = true := by simp [h3]
          have H3 := Lib.hid h3
          clear h3
          go_wp2_with fail
          go_ret
          refine ⟨⟨_, rfl, ⟨fun h => (by cases h), fun h => absurd ?_ H3.out⟩⟩, HBB.out⟩
          simp only [LRec.er, Rec.mk.injEq] at h
          exact h.2.2.2.2
      · have h2b : (xm != ym) = true := by simp [h2]
        have H2 := Lib.hid h2
        clear h2
        go_wp2_with fail
        go_ret
        refine ⟨⟨_, rfl, ⟨fun h => (by cases h), fun h => absurd ?_ H2.out⟩⟩, HBB.out⟩
        simp only [LRec.er, Rec.mk.injEq] at h
        exact h.2.2.2.1
  · have h1b : (xk != yk) = true := by simp [h1]
    have H1 := Lib.hid h1
    clear h1
    go_enter Tryd.func47, Tryd.ntmps47
    go_wp2_with fail
    go_ret
    refine ⟨⟨_, rfl, ⟨fun h => (by cases h), fun h => absurd ?_ H1.out⟩⟩, HB.out⟩
    simp only [LRec.er, Rec.mk.injEq] at h
    exact h.1

set_option maxRecDepth 100000 in
set_option maxHeartbeats 1000000 in
theorem eqRecS_any (x y : Loc LRec) (w : World) (hx : x.At w) (hy : y.At w) :
    Calls Tryd.prog 15 #[x.val, y.val] w (EqPost w (x.xs.map LRec.er = y.xs.map LRec.er)) := by
  obtain ⟨xa, xc, xs⟩ := x
  obtain ⟨ya, yc, ys⟩ := y
  simp only [Loc.val]
  have h1 := hx.lenMax
  have h2 := hy.lenMax
  simp only at h1 h2
  by_cases hl : xs.length = ys.length
  · have hl1 : (((xs.length : Nat) : Int) != (ys.length : Nat)) = false := by simp [hl]
    have HL := Lib.hid hl
    clear hl
    go_enter Tryd.func15, Tryd.ntmps15
    go_wp2_with fail
    go_loopw [5] (fun i wr => ∃ k : Nat, k ≤ xs.length ∧ i = .int .i64 k ∧ (xs.map LRec.er).take k = (ys.map LRec.er).take k ∧ Below w.heap.size w wr) (fun i _ => xs.length - (intOf i).toNat)
    case atStart => exact ⟨0, Nat.zero_le _, rfl, rfl, Below.refl _ _⟩
    case round =>
      obtain ⟨k, hk, rfl, hrel, hb⟩ := hrel
      have HR := Lib.hid hrel
      clear hrel
      by_cases hlt : k < xs.length
      · have hlt2 : k < ys.length := by have := HL.out; omega
        obtain ⟨a, ao, ha⟩ := hx.place hlt
        obtain ⟨b, bo, hbb⟩ := hy.place hlt2
        simp only at ha hbb
        subst ha hbb
        have hcx := (hx.belowAll hb).rec_ rfl hlt
        have hcy := (hy.belowAll hb).rec_ rfl hlt2
        simp only at hcx hcy
        have hc := Lib.hid (fun n => eqRec_any xs[k] ys[k] (wr.drewN n) (Dat.belowAll ((hx.belowAll hb).elem (List.getElem_mem hlt)) (belowN (Below.refl _ _) n)) (Dat.belowAll ((hy.belowAll hb).elem (List.getElem_mem hlt2)) (belowN (Below.refl _ _) n)))
        go_wp2_with fail
        go_still_tail 8, (by kernel_rfl)
        go_wp2_with fail
        refine (hc.out 1).mono ?_
        rintro e w' ⟨⟨v, rfl, hv⟩, hb2⟩
        have HV := Lib.hid hv
        clear hv hcx hcy
        cases v with
        | true =>
          go_wp2_with fail
          go_roundw
          case rel =>
            refine ⟨k + 1, by omega, by go_num, ?_, (belowN hb 1).trans (hb2.mono hb.size)⟩
            exact take_succ_eq HR.out (by simpa using hlt) (by simpa using hlt2) (by simpa using HV.out.1 (by simp))
          case measure => simp [intOf]; omega
        | false =>
          go_wp2_with fail
          go_ret
          refine ⟨⟨_, rfl, ?_⟩, (belowN hb 1).trans (hb2.mono hb.size)⟩
          refine ⟨fun h => (by cases h), fun h => ?_⟩
          refine HV.out.2 ?_
          have e1 : (xs.map LRec.er)[k]? = (ys.map LRec.er)[k]? := by rw [h]
          simpa [hlt, hlt2] using e1
      · have HK := Lib.hid (show k = xs.length by omega)
        go_wp2_with fail
        go_ret
        refine ⟨⟨_, rfl, ⟨fun _ => ?_, fun _ => rfl⟩⟩, hb⟩
        have h1 := HR.out
        have h2 := HL.out
        rwa [HK.out, List.take_of_length_le (by simp), List.take_of_length_le (by simp [h2])] at h1
  · have hl1 : (((xs.length : Nat) : Int) != (ys.length : Nat)) = true := by simp; omega
    have HL := Lib.hid hl
    clear hl
    go_enter Tryd.func15, Tryd.ntmps15
    go_wp2_with fail
    go_ret
    refine ⟨⟨_, rfl, ⟨fun h => (by cases h), fun h => absurd (by simpa using congrArg List.length h) HL.out⟩⟩, Below.refl _ _⟩

set_option maxRecDepth 100000 in
set_option maxHeartbeats 800000 in
theorem eqLog_any (x y : LLog) (w : World) (hx : x.At w) (hy : y.At w) :
    Calls Tryd.prog 16 #[x.val, y.val] w (EqPost w (x.er = y.er)) := by
  obtain ⟨xf, xr⟩ := x
  obtain ⟨yf, yr⟩ := y
  simp only [LLog.val]
  have hB := ((Below.refl w.heap.size w).alloc (Nat.le_refl _) (Obj.cells #[.int .i64 xf, xr.val] 29)).alloc (by simp) (Obj.cells #[.int .i64 yf, yr.val] 29)
  have hc := Lib.hid (eqRecS_any xr yr _ (Loc.At.belowAll hx hB) (Loc.At.belowAll hy hB))
  have HB := Lib.hid hB
  clear hB
  by_cases h1 : xf = yf
  · have h1b : (xf != yf) = false := by simp [h1]
    have H1 := Lib.hid h1
    clear h1
    go_enter Tryd.func16, Tryd.ntmps16
    go_wp2_with fail
    refine hc.out.mono ?_
    rintro e w' ⟨⟨v, rfl, hv⟩, hb⟩
    have HV := Lib.hid hv
    have HBB := Lib.hid (HB.out.trans (hb.mono (by simp; omega)))
    clear hv hb
    cases v with
    | false =>
      go_wp2_with fail
      go_ret
      refine ⟨⟨_, rfl, ⟨fun h => (by cases h), fun h => HV.out.2 ?_⟩⟩, HBB.out⟩
      simp only [LLog.er, Log.mk.injEq] at h
      exact h.2
    | true =>
      go_wp2_with fail
      go_ret
      refine ⟨⟨_, rfl, ⟨fun _ => ?_, fun _ => rfl⟩⟩, HBB.out⟩
      simp only [LLog.er, Log.mk.injEq]
      exact ⟨H1.out, HV.out.1 (by first | rfl | trivial)⟩
  · have h1b : (xf != yf) = true := by simp [h1]
    have H1 := Lib.hid h1
    clear h1
    go_enter Tryd.func16, Tryd.ntmps16
    go_wp2_with fail
    go_ret
    refine ⟨⟨_, rfl, ⟨fun h => (by cases h), fun h => absurd ?_ H1.out⟩⟩, HB.out⟩
    simp only [LLog.er, Log.mk.injEq] at h
    exact h.1
end Go.Proofs.YtpgdelfdaalhbaaDoor
