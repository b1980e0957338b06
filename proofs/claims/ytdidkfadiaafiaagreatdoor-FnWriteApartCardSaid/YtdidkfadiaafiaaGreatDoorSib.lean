/- isSuperseded, isVv: what they answer. -/
import Derived.Test.YtdidkfadiaafiaaGreatDoorCmp2
namespace Go.Proofs.YtdidkfadiaafiaaGreatDoor
open Go Go.RowKit

def supB (a b : Sib) : Bool := vvInL a.vv b.vv && !decide (a.vv = b.vv)

set_option maxRecDepth 100000 in
set_option maxHeartbeats 400000 in
theorem sup_any (x y : LSib) (w : World) (hx : Dat.At w x) (hy : Dat.At w y) (hle : x.vv.xs.length ≤ y.vv.xs.length) :
    Calls Tryz.prog 83 #[x.val, y.val] w fun e w' => e = .returned (.bool (supB x.er y.er)) ∧ Below w.heap.size w w' := by
  obtain ⟨xv, xg, xt⟩ := x
  obtain ⟨yv, yg, yt⟩ := y
  simp only [LSib.val]
  simp only at hle
  have hB := ((Below.refl w.heap.size w).alloc (Nat.le_refl _) (Obj.cells #[xv.val, Value.bool xg, Value.string xt] 42)).alloc (by simp) (Obj.cells #[yv.val, Value.bool yg, Value.string yt] 42)
  have h1 := Lib.hid (vvIn_any xv yv _ (Loc.At.belowAll hx.1 hB) (Loc.At.belowAll hy.1 hB) hle)
  have h2 := Lib.hid (equalInts_any xv yv _ (Loc.At.belowAll hx.1 hB) (Loc.At.belowAll hy.1 hB))
  have HB := Lib.hid hB
  clear hB
  cases hv : vvInL xv.xs yv.xs with
  | true =>
    rw [hv] at h1
    have HV := Lib.hid hv
    clear hv
    go_enter Tryz.func83, Tryz.ntmps83
    go_wp2_with (first | (go_at_call 115; refine h1.out.mono ?_; rintro e w' ⟨rfl, rfl⟩) | (go_at_call 116; refine h2.out.mono ?_; rintro e w' ⟨rfl, n, rfl⟩))
    go_ret
    refine ⟨ret_bool ?_, belowN HB.out _⟩
    simp only [supB, LSib.er, HV.out, Bool.true_and]
    rfl
  | false =>
    rw [hv] at h1
    have HV := Lib.hid hv
    clear hv
    go_enter Tryz.func83, Tryz.ntmps83
    go_wp2_with (go_at_call 115; refine h1.out.mono ?_; rintro e w' ⟨rfl, rfl⟩)
    go_ret
    refine ⟨ret_bool ?_, HB.out⟩
    simp only [supB, LSib.er, HV.out, Bool.false_and]

def vvB (v : List Int) : Bool := v.all (fun n => decide (0 ≤ n ∧ n ≤ 30)) && decide (v.length = 3)

set_option maxHeartbeats 400000 in
theorem isVv_any (x : Loc Int) (w : World) (hx : x.At w) :
    Calls Tryz.prog 66 #[x.val] w fun e w' => e = .returned (.bool (vvB x.xs)) ∧ w = w' := by
  obtain ⟨xa, xc, xs⟩ := x
  simp only [Loc.val]
  have h1 := hx.lenMax
  simp only at h1
  go_enter Tryz.func66, Tryz.ntmps66
  go_wp2_with fail
  go_loop [7] (fun i => ∃ k : Nat, k ≤ xs.length ∧ i = .int .i64 k ∧ xs.all (fun n => decide (0 ≤ n ∧ n ≤ 30)) = (xs.drop k).all (fun n => decide (0 ≤ n ∧ n ≤ 30))) (fun i => xs.length - (intOf i).toNat)
  case atStart => exact ⟨0, Nat.zero_le _, rfl, rfl⟩
  case round =>
    obtain ⟨k, hk, rfl, hrel⟩ := hrel
    have HR := Lib.hid hrel
    clear hrel
    by_cases hlt : k < xs.length
    · obtain ⟨a, ao, ha⟩ := hx.place hlt
      simp only at ha
      subst ha
      have hc1 := hx.int rfl hlt
      simp only at hc1
      have HC : Hid ((xs.drop k).all (fun n => decide (0 ≤ n ∧ n ≤ 30)) = (decide (0 ≤ xs[k] ∧ xs[k] ≤ 30) && (xs.drop (k + 1)).all (fun n => decide (0 ≤ n ∧ n ≤ 30)))) := by
        show _ = _
        rw [List.drop_eq_getElem_cons hlt]; rfl
      by_cases he : xs[k] < 0
      · go_wp2_with fail
        go_ret
        exact ⟨ret_bool (by rw [vvB, HR.out, HC.out, decide_eq_false (by omega)]; rfl), rfl⟩
      · by_cases he2 : 30 < xs[k]
        · go_wp2_with fail
          go_ret
          exact ⟨ret_bool (by rw [vvB, HR.out, HC.out, decide_eq_false (by omega)]; rfl), rfl⟩
        · go_wp2_with fail
          go_round
          case rel => exact ⟨k + 1, by omega, by go_num, by rw [HR.out, HC.out, decide_eq_true (by omega)]; rfl⟩
          case measure => simp [intOf]; omega
    · have HK := Lib.hid (show k = xs.length by omega)
      go_wp2_with fail
      go_ret
      refine ⟨ret_bool ?_, rfl⟩
      rw [vvB, HR.out, List.drop_of_length_le (by rw [HK.out]; exact Nat.le_refl _), List.all_nil, Bool.true_and]
      rw [Bool.eq_iff_iff]; simp; omega
end Go.Proofs.YtdidkfadiaafiaaGreatDoor
