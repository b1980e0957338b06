/- The laws' own equality: eqIntS, eqSib, eqSibS, eqFile, eqFileS. -/
import Derived.Test.YtdidkfadiaafiaaGreatDoorSz
import Derived.Test.YtdidkfadiaafiaaGreatDoorInfo
namespace Go.Proofs.YtdidkfadiaafiaaGreatDoor
open Go Go.RowKit

set_option maxHeartbeats 400000 in
theorem eqIntS_any (x y : Loc Int) (w : World) (hx : x.At w) (hy : y.At w) :
    Calls Tryz.prog 128 #[x.val, y.val] w fun e w' => e = .returned (.bool (decide (x.xs = y.xs))) ∧ ∃ n, w' = w.drewN n := by
  obtain ⟨xa, xc, xs⟩ := x
  obtain ⟨ya, yc, ys⟩ := y
  simp only [Loc.val]
  have h1 := hx.lenMax
  have h2 := hy.lenMax
  simp only at h1 h2
  by_cases hl : xs.length = ys.length
  · have hl1 : (((xs.length : Nat) : Int) != (ys.length : Nat)) = false := by simp [hl]
    have HL := Lib.hid hl
    clear hl
    go_enter Tryz.func128, Tryz.ntmps128
    go_wp2_with fail
    go_loopw [5] (fun i wr => ∃ k : Nat, k ≤ xs.length ∧ i = .int .i64 k ∧ xs.take k = ys.take k ∧ ∃ n, wr = w.drewN n) (fun i _ => xs.length - (intOf i).toNat)
    case atStart => exact ⟨0, Nat.zero_le _, rfl, rfl, 0, rfl⟩
    case round =>
      obtain ⟨k, hk, rfl, hrel, n, rfl⟩ := hrel
      have HR := Lib.hid hrel
      clear hrel
      by_cases hlt : k < xs.length
      · have hlt2 : k < ys.length := by have := HL.out; omega
        obtain ⟨a, ao, ha⟩ := hx.place hlt
        obtain ⟨b, bo, hb⟩ := hy.place hlt2
        simp only at ha hb
        subst ha hb
        have hc1 := hx.int rfl hlt
        have hc2 := hy.int rfl hlt2
        simp only at hc1 hc2
        by_cases he : xs[k] = ys[k]
        · have he1 : (xs[k] != ys[k]) = false := by simp [he]
          have HE := Lib.hid he
          clear he
          go_wp2_with fail
          go_quiet (fail)
          go_wp2_with fail
          go_roundw
          case rel => exact ⟨k + 1, by omega, by go_num, take_succ_eq HR.out hlt hlt2 HE.out, _, rfl⟩
          case measure => simp [intOf]; omega
        · have he1 : (xs[k] != ys[k]) = true := by simp [he]
          have HE := Lib.hid he
          clear he
          go_wp2_with fail
          go_quiet (fail)
          go_wp2_with fail
          go_ret
          exact ⟨ret_bool (decide_eq_false (fun h => HE.out (by cases h; rfl))).symm, _, by first | rfl | exact World.drewN_drewN _ _ _⟩
      · have HK := Lib.hid (show k = xs.length by omega)
        go_wp2_with fail
        go_ret
        refine ⟨ret_bool (decide_eq_true ?_).symm, _, rfl⟩
        have h1 := HR.out
        have h2 := HL.out
        rwa [HK.out, List.take_length, h2, List.take_length] at h1
  · have hl1 : (((xs.length : Nat) : Int) != (ys.length : Nat)) = true := by simp; omega
    have HL := Lib.hid hl
    clear hl
    go_enter Tryz.func128, Tryz.ntmps128
    go_wp2_with fail
    go_ret
    exact ⟨ret_bool (decide_eq_false (fun h => HL.out (by rw [h]))).symm, 0, rfl⟩

set_option maxRecDepth 100000 in
set_option maxHeartbeats 400000 in
theorem eqSib_any (x y : LSib) (w : World) (hx : Dat.At w x) (hy : Dat.At w y) :
    Calls Tryz.prog 106 #[x.val, y.val] w (EqPost w (x.er = y.er)) := by
  obtain ⟨xv, xg, xt⟩ := x
  obtain ⟨yv, yg, yt⟩ := y
  simp only [LSib.val]
  have hB := ((Below.refl w.heap.size w).alloc (Nat.le_refl _) (Obj.cells #[xv.val, Value.bool xg, Value.string xt] 42)).alloc (by simp) (Obj.cells #[yv.val, Value.bool yg, Value.string yt] 42)
  have hc := Lib.hid (eqIntS_any xv yv _ (Loc.At.belowAll hx.1 hB) (Loc.At.belowAll hy.1 hB))
  have HB := Lib.hid hB
  clear hB
  go_enter Tryz.func106, Tryz.ntmps106
  go_wp2_with (go_at_call 128; refine hc.out.mono ?_; rintro e w' ⟨rfl, n, rfl⟩)
  all_goals
    go_ret
    refine ⟨⟨_, rfl, ?_⟩, belowN HB.out _⟩
    simp_all [LSib.er, Sib.mk.injEq, toList_inj]

set_option maxRecDepth 100000 in
set_option maxHeartbeats 1000000 in
theorem eqSibS_any (x y : Loc LSib) (w : World) (hx : x.At w) (hy : y.At w) :
    Calls Tryz.prog 74 #[x.val, y.val] w (EqPost w (x.xs.map LSib.er = y.xs.map LSib.er)) := by
  obtain ⟨xa, xc, xs⟩ := x
  obtain ⟨ya, yc, ys⟩ := y
  simp only [Loc.val]
  have h1 := hx.lenMax
  have h2 := hy.lenMax
  simp only at h1 h2
  by_cases hl : xs.length = ys.length
  · have hl1 : (((xs.length : Nat) : Int) != (ys.length : Nat)) = false := by simp [hl]
    have HL := Lib.hid hl
    clear hl
    go_enter Tryz.func74, Tryz.ntmps74
    go_wp2_with fail
    go_loopw [5] (fun i wr => ∃ k : Nat, k ≤ xs.length ∧ i = .int .i64 k ∧ (xs.map LSib.er).take k = (ys.map LSib.er).take k ∧ Below w.heap.size w wr) (fun i _ => xs.length - (intOf i).toNat)
    case atStart => exact ⟨0, Nat.zero_le _, rfl, rfl, Below.refl _ _⟩
    case round =>
      obtain ⟨k, hk, rfl, hrel, hb⟩ := hrel
      have HR := Lib.hid hrel
      clear hrel
      by_cases hlt : k < xs.length
      · have hlt2 : k < ys.length := by have := HL.out; omega
        obtain ⟨a, ao, ha⟩ := hx.place hlt
        obtain ⟨b, bo, hbb⟩ := hy.place hlt2
        simp only at ha hbb
        subst ha hbb
        have hcx := (hx.belowAll hb).sib rfl hlt
        have hcy := (hy.belowAll hb).sib rfl hlt2
        simp only at hcx hcy
        have hc := Lib.hid (fun n => eqSib_any xs[k] ys[k] (wr.drewN n) (Dat.belowAll ((hx.belowAll hb).elem (List.getElem_mem hlt)) (belowN (Below.refl _ _) n)) (Dat.belowAll ((hy.belowAll hb).elem (List.getElem_mem hlt2)) (belowN (Below.refl _ _) n)))
        go_wp2_with fail
        go_still_tail 8, (by kernel_rfl)
        go_wp2_with fail
        refine (hc.out 1).mono ?_
        rintro e w' ⟨⟨v, rfl, hv⟩, hb2⟩
        have HV := Lib.hid hv
        clear hv hcx hcy
        cases v with
        | true =>
          go_wp2_with fail
          go_roundw
          case rel =>
            refine ⟨k + 1, by omega, by go_num, ?_, (belowN hb 1).trans (hb2.mono hb.size)⟩
            exact take_succ_eq HR.out (by simpa using hlt) (by simpa using hlt2) (by simpa using HV.out.1 (by simp))
          case measure => simp [intOf]; omega
        | false =>
          go_wp2_with fail
          go_ret
          refine ⟨⟨_, rfl, ?_⟩, (belowN hb 1).trans (hb2.mono hb.size)⟩
          refine ⟨fun h => (by cases h), fun h => ?_⟩
          refine HV.out.2 ?_
          have e1 : (xs.map LSib.er)[k]? = (ys.map LSib.er)[k]? := by rw [h]
          simpa [hlt, hlt2] using e1
      · have HK := Lib.hid (show k = xs.length by omega)
        go_wp2_with fail
        go_ret
        refine ⟨⟨_, rfl, ⟨fun _ => ?_, fun _ => rfl⟩⟩, hb⟩
        have h1 := HR.out
        have h2 := HL.out
        rwa [HK.out, List.take_of_length_le (by simp), List.take_of_length_le (by simp [h2])] at h1
  · have hl1 : (((xs.length : Nat) : Int) != (ys.length : Nat)) = true := by simp; omega
    have HL := Lib.hid hl
    clear hl
    go_enter Tryz.func74, Tryz.ntmps74
    go_wp2_with fail
    go_ret
    refine ⟨⟨_, rfl, ⟨fun h => (by cases h), fun h => absurd (by simpa using congrArg List.length h) HL.out⟩⟩, Below.refl _ _⟩

set_option maxRecDepth 100000 in
set_option maxHeartbeats 400000 in
theorem eqFile_any (x y : LFile) (w : World) (hx : Dat.At w x) (hy : Dat.At w y) :
    Calls Tryz.prog 41 #[x.val, y.val] w (EqPost w (x.er = y.er)) := by
  obtain ⟨xn, xs⟩ := x
  obtain ⟨yn, ys⟩ := y
  simp only [LFile.val]
  have hB := ((Below.refl w.heap.size w).alloc (Nat.le_refl _) (Obj.cells #[Value.string xn, xs.val] 58)).alloc (by simp) (Obj.cells #[Value.string yn, ys.val] 58)
  have hc := Lib.hid (eqSibS_any xs ys _ (Loc.At.belowAll hx.1 hB) (Loc.At.belowAll hy.1 hB))
  have HB := Lib.hid hB
  clear hB
  go_enter Tryz.func41, Tryz.ntmps41
  go_wp2_with (go_at_call 74; refine hc.out.mono ?_; rintro e w' ⟨⟨v, rfl, hv⟩, hb⟩; have HV := Lib.hid hv; clear hv; have HBB := Lib.hid (HB.out.trans (hb.mono (by simp; omega))))
  all_goals
    go_ret
    refine ⟨⟨_, rfl, ?_⟩, by first | exact HBB.out | exact HB.out⟩
    first
      | (have HV1 := HV.out; simp_all [LFile.er, File.mk.injEq, toList_inj]; done)
      | (simp_all [LFile.er, File.mk.injEq, toList_inj]; done)

end Go.Proofs.YtdidkfadiaafiaaGreatDoor
