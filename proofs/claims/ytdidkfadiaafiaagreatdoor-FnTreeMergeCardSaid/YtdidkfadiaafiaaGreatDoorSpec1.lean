/- The reference's l6In, VvOk, l2Text, SibOk, l1In, l2Cmp, l2Known: they answer as the program does. -/
import Derived.Test.YtdidkfadiaafiaaGreatDoorRec
namespace Go.Proofs.YtdidkfadiaafiaaGreatDoor
open Go Go.RowKit

theorem l6In_any (n lo hi : Int) (w : World) : Calls Tryz.prog 89 #[.int .i64 n, .int .i64 lo, .int .i64 hi] w fun e w' => e = .returned (.bool (decide (lo ≤ n ∧ n ≤ hi))) ∧ w = w' := by
  by_cases h1 : lo ≤ n
  · by_cases h2 : n ≤ hi
    · go_enter Tryz.func89, Tryz.ntmps89
      go_wp2_with fail
      go_ret
      exact ⟨ret_bool (decide_eq_true (by omega)).symm, rfl⟩
    · go_enter Tryz.func89, Tryz.ntmps89
      go_wp2_with fail
      go_ret
      exact ⟨ret_bool (decide_eq_false (by omega)).symm, rfl⟩
  · go_enter Tryz.func89, Tryz.ntmps89
    go_wp2_with fail
    go_ret
    exact ⟨ret_bool (by rw [Bool.eq_iff_iff]; simp; omega), rfl⟩

theorem l6In_yes (n lo hi : Int) (w : World) (h : lo ≤ n ∧ n ≤ hi) : Calls Tryz.prog 89 #[.int .i64 n, .int .i64 lo, .int .i64 hi] w fun e w' => e = .returned (.bool true) ∧ w = w' := by
  have := l6In_any n lo hi w
  rwa [decide_eq_true h] at this
theorem l6In_no (n lo hi : Int) (w : World) (h : ¬ (lo ≤ n ∧ n ≤ hi)) : Calls Tryz.prog 89 #[.int .i64 n, .int .i64 lo, .int .i64 hi] w fun e w' => e = .returned (.bool false) ∧ w = w' := by
  have := l6In_any n lo hi w
  rwa [decide_eq_false h] at this

set_option maxHeartbeats 400000 in
theorem sVvOk_any (x : Loc Int) (w : World) (hx : x.At w) :
    Calls Tryz.prog 92 #[x.val] w fun e w' => e = .returned (.bool (vvB x.xs)) ∧ w = w' := by
  obtain ⟨xa, xc, xs⟩ := x
  simp only [Loc.val]
  have h1 := hx.lenMax
  simp only at h1
  go_enter Tryz.func92, Tryz.ntmps92
  go_wp2_with fail
  go_loop [3] (fun i => ∃ k : Nat, k ≤ xs.length ∧ i = .int .i64 k ∧ xs.all (fun n => decide (0 ≤ n ∧ n ≤ 30)) = (xs.drop k).all (fun n => decide (0 ≤ n ∧ n ≤ 30))) (fun i => xs.length - (intOf i).toNat)
  case atStart => exact ⟨0, Nat.zero_le _, rfl, rfl⟩
  case round =>
    obtain ⟨k, hk, rfl, hrel⟩ := hrel
    have HR := Lib.hid hrel
    clear hrel
    by_cases hlt : k < xs.length
    · obtain ⟨a, ao, ha⟩ := hx.place hlt
      simp only at ha
      subst ha
      have hc1 := hx.int rfl hlt
      simp only at hc1
      have HC : Hid ((xs.drop k).all (fun n => decide (0 ≤ n ∧ n ≤ 30)) = (decide (0 ≤ xs[k] ∧ xs[k] ≤ 30) && (xs.drop (k + 1)).all (fun n => decide (0 ≤ n ∧ n ≤ 30)))) := by
        show _ = _
        rw [List.drop_eq_getElem_cons hlt]; rfl
      by_cases he : 0 ≤ xs[k] ∧ xs[k] ≤ 30
      · have h2 := Lib.hid (l6In_yes xs[k] 0 30 w he)
        have HE := Lib.hid he
        clear he
        go_wp2_with (go_at_call 89; refine h2.out.mono ?_; rintro e w' ⟨rfl, rfl⟩)
        go_round
        case rel => exact ⟨k + 1, by omega, by go_num, by rw [HR.out, HC.out, decide_eq_true HE.out]; rfl⟩
        case measure => simp [intOf]; omega
      · have h2 := Lib.hid (l6In_no xs[k] 0 30 w he)
        have HE := Lib.hid he
        clear he
        go_wp2_with (go_at_call 89; refine h2.out.mono ?_; rintro e w' ⟨rfl, rfl⟩)
        go_ret
        exact ⟨ret_bool (by rw [vvB, HR.out, HC.out, decide_eq_false HE.out]; rfl), rfl⟩
    · have HK := Lib.hid (show k = xs.length by omega)
      go_wp2_with fail
      go_ret
      refine ⟨ret_bool ?_, rfl⟩
      rw [vvB, HR.out, List.drop_of_length_le (by rw [HK.out]; exact Nat.le_refl _), List.all_nil, Bool.true_and]
      rw [Bool.eq_iff_iff]; simp; omega

set_option maxRecDepth 100000 in
set_option maxHeartbeats 400000 in
theorem sl2Text_any (s : ByteArray) (w : World) (hs : s.size ≤ 9223372036854775807) :
    Calls Tryz.prog 94 #[.string s] w fun e w' => e = .returned (.bool (textB s)) ∧ w = w' := by
  go_enter Tryz.func94, Tryz.ntmps94
  go_wp2_with fail
  go_loop [3] (fun i => ∃ k : Nat, k ≤ s.size ∧ i = .int .i64 k ∧ s.data.toList.all isAD = (s.data.toList.drop k).all isAD) (fun i => s.size - (intOf i).toNat)
  case atStart => exact ⟨0, Nat.zero_le _, rfl, rfl⟩
  case round =>
    obtain ⟨k, hk, rfl, hrel⟩ := hrel
    have HR := Lib.hid hrel
    clear hrel
    by_cases hlt : k < s.size
    · have HC : Hid ((s.data.toList.drop k).all isAD = (decide (97 ≤ s[k].toNat ∧ s[k].toNat ≤ 100) && (s.data.toList.drop (k + 1)).all isAD)) := by
        show _ = _
        rw [List.drop_eq_getElem_cons (by simpa using hlt)]; rfl
      have hwb : wrap64 (s[k].toNat : Int) = (s[k].toNat : Int) := by
        have := s[k].toNat_lt
        unfold wrap64; omega
      by_cases he : 97 ≤ s[k].toNat ∧ s[k].toNat ≤ 100
      · have h2 := Lib.hid (l6In_yes (s[k].toNat : Int) 97 100 w (by omega))
        have HE := Lib.hid he
        clear he
        go_wp2_with (go_at_call 89; rw [hwb]; refine h2.out.mono ?_; rintro e w' ⟨rfl, rfl⟩)
        go_round
        case rel => exact ⟨k + 1, by omega, by go_num, by rw [HR.out, HC.out, decide_eq_true HE.out]; rfl⟩
        case measure => simp [intOf]; omega
      · have h2 := Lib.hid (l6In_no (s[k].toNat : Int) 97 100 w (by omega))
        have HE := Lib.hid he
        clear he
        go_wp2_with (go_at_call 89; rw [hwb]; refine h2.out.mono ?_; rintro e w' ⟨rfl, rfl⟩)
        go_ret
        exact ⟨ret_bool (by rw [textB, HR.out, HC.out, decide_eq_false HE.out]; simp), rfl⟩
    · have HK := Lib.hid (show k = s.size by omega)
      go_wp2_with fail
      go_ret
      refine ⟨ret_bool ?_, rfl⟩
      rw [textB, HR.out, List.drop_of_length_le (by rw [HK.out]; simp), List.all_nil, Bool.and_true]
      rw [Bool.eq_iff_iff]; simp; omega

set_option maxRecDepth 100000 in
set_option maxHeartbeats 400000 in
theorem sSibOk_any (x : LSib) (w : World) (hx : Dat.At w x) :
    Calls Tryz.prog 62 #[x.val] w fun e w' => e = .returned (.bool (sibB x.er)) ∧ Below w.heap.size w w' := by
  obtain ⟨xv, xg, xt⟩ := x
  simp only [LSib.val]
  have hB := (Below.refl w.heap.size w).alloc (Nat.le_refl _) (Obj.cells #[xv.val, Value.bool xg, Value.string xt] 42)
  have h1 := Lib.hid (sVvOk_any xv _ (Loc.At.belowAll hx.1 hB))
  have hsz : xt.size ≤ 9223372036854775807 := hx.2
  have h2 := Lib.hid (sl2Text_any xt (w.alloc (Obj.cells #[xv.val, Value.bool xg, Value.string xt] 42)) hsz)
  have HB := Lib.hid hB
  clear hB
  generalize hv : vvB xv.xs = vb at h1
  generalize ht : textB xt = tb at h2
  have HV := Lib.hid hv
  have HT := Lib.hid ht
  clear hv ht
  cases vb <;> cases tb <;> cases xg
  all_goals
    go_enter Tryz.func62, Tryz.ntmps62
    go_wp2_with (first | (go_at_call 92; refine h1.out.mono ?_; rintro e w' ⟨rfl, rfl⟩) | (go_at_call 94; refine h2.out.mono ?_; rintro e w' ⟨rfl, rfl⟩))
    all_goals
      go_ret
      refine ⟨ret_bool ?_, HB.out⟩
      simp_all [sibB, LSib.er, HV.out, HT.out, empty_iff] <;> (try (rw [Bool.eq_iff_iff]; simp))
end Go.Proofs.YtdidkfadiaafiaaGreatDoor
