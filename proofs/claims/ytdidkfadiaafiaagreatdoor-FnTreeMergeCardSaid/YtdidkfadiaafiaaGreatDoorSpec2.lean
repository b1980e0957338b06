/- The reference's l1In, l2Cmp, l2Known: they answer as the program does. -/
import Derived.Test.YtdidkfadiaafiaaGreatDoorSpec1
namespace Go.Proofs.YtdidkfadiaafiaaGreatDoor
open Go Go.RowKit

theorem vvInL_drop {xs ys : List Int} {k : Nat} (h1 : k < xs.length) (h2 : k < ys.length) :
    vvInL (xs.drop k) (ys.drop k) = (decide (xs[k] ≤ ys[k]) && vvInL (xs.drop (k + 1)) (ys.drop (k + 1))) := by
  rw [List.drop_eq_getElem_cons h1, List.drop_eq_getElem_cons h2]; rfl

set_option maxHeartbeats 400000 in
theorem sl1In_any (x y : Loc Int) (w : World) (hx : x.At w) (hy : y.At w) (hlx : x.xs.length = 3) (hly : y.xs.length = 3) :
    Calls Tryz.prog 120 #[x.val, y.val] w fun e w' => e = .returned (.bool (vvInL x.xs y.xs)) ∧ ∃ n, w' = w.drewN n := by
  obtain ⟨xa, xc, xs⟩ := x
  obtain ⟨ya, yc, ys⟩ := y
  simp only [Loc.val]
  simp only at hlx hly
  have HX := Lib.hid hlx
  have HY := Lib.hid hly
  have hgx : (3 : Nat) ≤ xs.length := by omega
  have hgy : (3 : Nat) ≤ ys.length := by omega
  clear hlx hly
  go_enter Tryz.func120, Tryz.ntmps120
  go_wp2_with fail
  go_loopw [5] (fun i wr => ∃ k : Nat, k ≤ 3 ∧ i = .int .i64 k ∧ vvInL xs ys = vvInL (xs.drop k) (ys.drop k) ∧ ∃ n, wr = w.drewN n) (fun i _ => 3 - (intOf i).toNat)
  case atStart => exact ⟨0, Nat.zero_le _, rfl, rfl, 0, rfl⟩
  case round =>
    obtain ⟨k, hk, rfl, hrel, n, rfl⟩ := hrel
    have HR := Lib.hid hrel
    clear hrel
    by_cases hlt : k < 3
    · have hlt1 : k < xs.length := by omega
      have hlt2 : k < ys.length := by omega
      have hi3 : (k : Int) < 3 := by omega
      obtain ⟨a, ao, ha⟩ := hx.place hlt1
      obtain ⟨b, bo, hb⟩ := hy.place hlt2
      simp only at ha hb
      subst ha hb
      have hc1 := hx.int rfl hlt1
      have hc2 := hy.int rfl hlt2
      simp only at hc1 hc2
      have HC := Lib.hid (vvInL_drop hlt1 hlt2)
      by_cases he : ys[k] < xs[k]
      · go_wp2_with fail
        go_quiet (fail)
        go_wp2_with fail
        go_ret
        exact ⟨ret_bool (by rw [HR.out, HC.out, decide_eq_false (by omega)]; rfl), _, by first | rfl | exact World.drewN_drewN _ _ _⟩
      · go_wp2_with fail
        go_quiet (fail)
        go_wp2_with fail
        go_roundw
        case rel => exact ⟨k + 1, by omega, by go_num, by rw [HR.out, HC.out, decide_eq_true (by omega)]; rfl, _, rfl⟩
        case measure => simp [intOf]; omega
    · have hi3 : ¬ (k : Int) < 3 := by omega
      go_wp2_with fail
      go_ret
      refine ⟨ret_bool ?_, _, rfl⟩
      have h1 := HX.out
      rw [HR.out, List.drop_of_length_le (by omega)]; rfl

theorem vvInL_len : ∀ (a b : List Int), a.length = b.length → vvInL a b = true → vvInL b a = true → a = b
  | [], [], _, _, _ => rfl
  | [], _ :: _, h, _, _ => by simp at h
  | _ :: _, [], h, _, _ => by simp at h
  | x :: p, y :: q, h, h1, h2 => by
    simp only [vvInL, Bool.and_eq_true, decide_eq_true_eq] at h1 h2
    have := vvInL_len p q (by simpa using h) h1.2 h2.2
    have hxy : x = y := by omega
    rw [hxy, this]
theorem vvInL_refl : ∀ a : List Int, vvInL a a = true
  | [] => rfl
  | x :: p => by simp [vvInL, vvInL_refl p]

theorem known_sup {a b : Sib} (h : a.vv.length = b.vv.length) : (vvInL a.vv b.vv && !vvInL b.vv a.vv) = supB a b := by
  unfold supB
  cases h1 : vvInL a.vv b.vv with
  | false => rfl
  | true =>
    simp only [Bool.true_and]
    by_cases h2 : a.vv = b.vv
    · rw [h2, vvInL_refl]; simp
    · cases h3 : vvInL b.vv a.vv with
      | true => exact absurd (vvInL_len _ _ h h1 h3) h2
      | false => simp [h2]

set_option maxRecDepth 100000 in
set_option maxHeartbeats 400000 in
theorem sl2Known_any (x y : LSib) (w : World) (hx : Dat.At w x) (hy : Dat.At w y) (hlx : x.vv.xs.length = 3) (hly : y.vv.xs.length = 3) :
    Calls Tryz.prog 91 #[x.val, y.val] w fun e w' => e = .returned (.bool (supB x.er y.er)) ∧ Below w.heap.size w w' := by
  have hk := Lib.hid (known_sup (a := x.er) (b := y.er) (by simp only [LSib.er]; omega))
  obtain ⟨xv, xg, xt⟩ := x
  obtain ⟨yv, yg, yt⟩ := y
  simp only [LSib.val]
  simp only at hlx hly
  have hB := ((Below.refl w.heap.size w).alloc (Nat.le_refl _) (Obj.cells #[xv.val, Value.bool xg, Value.string xt] 42)).alloc (by simp) (Obj.cells #[yv.val, Value.bool yg, Value.string yt] 42)
  have h1 := Lib.hid (sl1In_any xv yv _ (Loc.At.belowAll hx.1 hB) (Loc.At.belowAll hy.1 hB) hlx hly)
  have HB := Lib.hid hB
  have h2 := Lib.hid (fun n => sl1In_any yv xv _ (Loc.At.belowAll hy.1 (belowN HB.out n)) (Loc.At.belowAll hx.1 (belowN HB.out n)) hly hlx)
  clear hB
  generalize hv : vvInL xv.xs yv.xs = b1 at h1
  generalize hu : vvInL yv.xs xv.xs = b2 at h2
  have HV := Lib.hid hv
  have HU := Lib.hid hu
  clear hv hu hlx hly
  cases b1 with
  | true =>
    go_enter Tryz.func91, Tryz.ntmps91
    go_wp2_with fail
    refine h1.out.mono ?_
    rintro e w' ⟨rfl, n, rfl⟩
    go_wp2_with fail
    refine (h2.out n).mono ?_
    rintro e w' ⟨rfl, n2, rfl⟩
    go_wp2_with fail
    go_ret
    refine ⟨ret_bool ?_, belowN HB.out _⟩
    have h := hk.out
    simp only [LSib.er, HV.out, HU.out, Bool.true_and] at h
    exact h
  | false =>
    go_enter Tryz.func91, Tryz.ntmps91
    go_wp2_with fail
    refine h1.out.mono ?_
    rintro e w' ⟨rfl, n, rfl⟩
    go_wp2_with fail
    go_ret
    refine ⟨ret_bool ?_, belowN HB.out _⟩
    have h := hk.out
    simp only [LSib.er, HV.out, Bool.false_and] at h
    exact h

theorem cmpInts_refl : ∀ a : List Int, cmpInts a a = 0
  | [] => rfl
  | x :: p => by
    have : cmpInt x x = 0 := by unfold cmpInt; rw [if_neg (by omega), if_neg (by omega)]
    rw [cmpInts, if_pos this, cmpInts_refl p]

theorem cmpSib_diff {a b : Sib} (h : cmpInts a.vv b.vv ≠ 0) : cmpSib a b = cmpInts a.vv b.vv := by
  unfold cmpSib orInts; rw [if_neg h]
theorem cmpSib_gone {a b : Sib} (h : cmpInts a.vv b.vv = 0) (h2 : cmpInt (goneNo a.gone) (goneNo b.gone) ≠ 0) : cmpSib a b = cmpInt (goneNo a.gone) (goneNo b.gone) := by
  unfold cmpSib orInts; rw [if_pos h]; unfold orInts; rw [if_neg h2]
theorem cmpSib_text {a b : Sib} (h : cmpInts a.vv b.vv = 0) (h2 : cmpInt (goneNo a.gone) (goneNo b.gone) = 0) : cmpSib a b = cmpStr a.text b.text := by
  unfold cmpSib orInts; rw [if_pos h]; unfold orInts; rw [if_pos h2]; unfold orInts; unfold orInts
  split <;> simp_all

set_option maxRecDepth 100000 in
set_option maxHeartbeats 1000000 in
theorem sl2Cmp_any (x y : LSib) (w : World) (hx : Dat.At w x) (hy : Dat.At w y) (hlx : x.vv.xs.length = 3) (hly : y.vv.xs.length = 3) :
    Calls Tryz.prog 90 #[x.val, y.val] w fun e w' => e = .returned (.int .i64 (cmpSib x.er y.er)) ∧ Below w.heap.size w w' := by
  obtain ⟨⟨xa, xc, xs⟩, xg, xt⟩ := x
  obtain ⟨⟨ya, yc, ys⟩, yg, yt⟩ := y
  simp only [LSib.val, Loc.val]
  simp only at hlx hly
  have HX := Lib.hid hlx
  have HY := Lib.hid hly
  have hgx : (3 : Nat) ≤ xs.length := by omega
  have hgy : (3 : Nat) ≤ ys.length := by omega
  clear hlx hly
  have hB := ((Below.refl w.heap.size w).alloc (Nat.le_refl _) (Obj.cells #[Value.slice xa xs.length xc, Value.bool xg, Value.string xt] 42)).alloc (by simp) (Obj.cells #[Value.slice ya ys.length yc, Value.bool yg, Value.string yt] 42)
  have hxw := Loc.At.belowAll hx.1 hB
  have hyw := Loc.At.belowAll hy.1 hB
  go_enter Tryz.func90, Tryz.ntmps90
  go_wp2_with fail
  have e0 : ((w.alloc (Obj.cells #[Value.slice xa xs.length xc, Value.bool xg, Value.string xt] 42)).alloc (Obj.cells #[Value.slice ya ys.length yc, Value.bool yg, Value.string yt] 42)).cell? ⟨w.heap.size, 0, none⟩ = some (Value.slice xa xs.length xc) := by go_simp
  have e1 : ((w.alloc (Obj.cells #[Value.slice xa xs.length xc, Value.bool xg, Value.string xt] 42)).alloc (Obj.cells #[Value.slice ya ys.length yc, Value.bool yg, Value.string yt] 42)).cell? ⟨w.heap.size, 1, none⟩ = some (Value.bool xg) := by go_simp
  have e2 : ((w.alloc (Obj.cells #[Value.slice xa xs.length xc, Value.bool xg, Value.string xt] 42)).alloc (Obj.cells #[Value.slice ya ys.length yc, Value.bool yg, Value.string yt] 42)).cell? ⟨w.heap.size, 2, none⟩ = some (Value.string xt) := by go_simp
  have e3 : ((w.alloc (Obj.cells #[Value.slice xa xs.length xc, Value.bool xg, Value.string xt] 42)).alloc (Obj.cells #[Value.slice ya ys.length yc, Value.bool yg, Value.string yt] 42)).cell? ⟨w.heap.size + 1, 0, none⟩ = some (Value.slice ya ys.length yc) := by go_simp
  have e4 : ((w.alloc (Obj.cells #[Value.slice xa xs.length xc, Value.bool xg, Value.string xt] 42)).alloc (Obj.cells #[Value.slice ya ys.length yc, Value.bool yg, Value.string yt] 42)).cell? ⟨w.heap.size + 1, 1, none⟩ = some (Value.bool yg) := by go_simp
  have e5 : ((w.alloc (Obj.cells #[Value.slice xa xs.length xc, Value.bool xg, Value.string xt] 42)).alloc (Obj.cells #[Value.slice ya ys.length yc, Value.bool yg, Value.string yt] 42)).cell? ⟨w.heap.size + 1, 2, none⟩ = some (Value.string yt) := by go_simp
  generalize (w.alloc (Obj.cells #[Value.slice xa xs.length xc, Value.bool xg, Value.string xt] 42)).alloc (Obj.cells #[Value.slice ya ys.length yc, Value.bool yg, Value.string yt] 42) = W1 at *
  have HB := Lib.hid hB
  clear hB
  go_loopw [5] (fun i wr => ∃ k : Nat, k ≤ 3 ∧ i = .int .i64 k ∧ cmpInts xs ys = cmpInts (xs.drop k) (ys.drop k) ∧ ∃ n, wr = W1.drewN n) (fun i _ => 3 - (intOf i).toNat)
  case atStart => exact ⟨0, Nat.zero_le _, rfl, rfl, 0, rfl⟩
  case round =>
    obtain ⟨k, hk, rfl, hrel, n, rfl⟩ := hrel
    have HR := Lib.hid hrel
    clear hrel
    by_cases hlt : k < 3
    · have hlt1 : k < xs.length := by omega
      have hlt2 : k < ys.length := by omega
      have hi3 : (k : Int) < 3 := by omega
      obtain ⟨a, ao, ha⟩ := hxw.place hlt1
      obtain ⟨b, bo, hb⟩ := hyw.place hlt2
      simp only at ha hb
      subst ha hb
      have hc1 := hxw.int rfl hlt1
      have hc2 := hyw.int rfl hlt2
      simp only at hc1 hc2
      have HC := Lib.hid (cmpInts_drop hlt1 hlt2)
      by_cases he : xs[k] = ys[k]
      · have he1 : (xs[k] != ys[k]) = false := by simp [he]
        have HE := Lib.hid he
        clear he
        go_wp2_with fail
        go_quiet (fail)
        go_wp2_with fail
        go_roundw
        case rel =>
          refine ⟨k + 1, by omega, by go_num, ?_, _, rfl⟩
          have : cmpInt xs[k] ys[k] = 0 := by rw [HE.out]; unfold cmpInt; rw [if_neg (by omega), if_neg (by omega)]
          rw [HR.out, HC.out, if_pos this]
        case measure => simp [intOf]; omega
      · have he1 : (xs[k] != ys[k]) = true := by simp [he]
        have HE := Lib.hid he
        clear he
        by_cases hl : xs[k] < ys[k]
        · go_wp2_with fail
          go_quiet (fail)
          go_wp2_with fail
          go_quiet (fail)
          go_wp2_with fail
          go_ret
          refine ⟨ret_int ?_, belowN (belowN (belowN HB.out _) _) _⟩
          have h1 : cmpInt xs[k] ys[k] = -1 := by unfold cmpInt; rw [if_pos hl]
          have h2 : cmpInts xs ys = -1 := by rw [HR.out, HC.out, h1]; rfl
          rw [cmpSib_diff (by simp only [LSib.er]; rw [h2]; decide)]
          exact h2.symm
        · go_wp2_with fail
          go_quiet (fail)
          go_wp2_with fail
          go_quiet (fail)
          go_wp2_with fail
          go_ret
          refine ⟨ret_int ?_, belowN (belowN (belowN HB.out _) _) _⟩
          have h0 := HE.out
          have h1 : cmpInt xs[k] ys[k] = 1 := by unfold cmpInt; rw [if_neg (by omega), if_pos (by omega)]
          have h2 : cmpInts xs ys = 1 := by rw [HR.out, HC.out, h1]; rfl
          rw [cmpSib_diff (by simp only [LSib.er]; rw [h2]; decide)]
          exact h2.symm
    · have hi3 : ¬ (k : Int) < 3 := by omega
      have HZ : Hid (cmpInts xs ys = 0) := by
        show _ = _
        have h1 := HX.out
        have h2 := HY.out
        rw [HR.out, List.drop_of_length_le (l := xs) (by omega), List.drop_of_length_le (l := ys) (by omega)]; rfl
      cases xg <;> cases yg
      · go_wp2_with fail
        all_goals
          go_ret
          refine ⟨ret_int ?_, belowN HB.out _⟩
          rw [cmpSib_text HZ.out rfl]
          simp_all [cmpStr, strLt, LSib.er]
      · go_wp2_with fail
        go_ret
        refine ⟨ret_int ?_, belowN HB.out _⟩
        rw [cmpSib_gone HZ.out (by show cmpInt 1 0 ≠ 0; decide)]; rfl
      · go_wp2_with fail
        go_ret
        refine ⟨ret_int ?_, belowN HB.out _⟩
        rw [cmpSib_gone HZ.out (by show cmpInt 0 1 ≠ 0; decide)]; rfl
      · go_wp2_with fail
        all_goals
          go_ret
          refine ⟨ret_int ?_, belowN HB.out _⟩
          rw [cmpSib_text HZ.out rfl]
          simp_all [cmpStr, strLt, LSib.er]
end Go.Proofs.YtdidkfadiaafiaaGreatDoor
