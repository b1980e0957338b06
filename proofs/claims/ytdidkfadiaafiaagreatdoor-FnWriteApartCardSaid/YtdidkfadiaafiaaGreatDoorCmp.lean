/- The comparisons of Go's library that the program calls, at ints and strings. -/
import Derived.Test.YtdidkfadiaafiaaGreatDoorProg
import Derived.Test.YtdidkfadiaafiaaGreatDoorBase
import Derived.Test.YtdidkfadiaafiaaGreatDoorReg
import Derived.Deep.QuietTactic
import Derived.BigQuiet
import Derived.StillTailTactics
import Derived.WalkLawsBesides
import Derived.WalkSpells
namespace Go.Proofs.YtdidkfadiaafiaaGreatDoor
open Go Go.RowKit

def cmpInt (a b : Int) : Int := if a < b then -1 else if b < a then 1 else 0
def strLt (a b : ByteArray) : Bool := Op.bytesLess a.toList b.toList
def cmpStr (a b : ByteArray) : Int := if strLt a b then -1 else if !strLt a b && !(a.toList == b.toList) then 1 else 0

theorem cmpInt_any (a b : Int) (w : World) : Calls Tryz.prog 112 #[.int .i64 a, .int .i64 b] w fun e w' => e = .returned (.int .i64 (cmpInt a b)) ∧ w = w' := by
  by_cases h1 : a < b
  · go_enter Tryz.func112, Tryz.ntmps112
    go_wp2
    go_ret
    exact ⟨ret_int (by simp [cmpInt, h1]), rfl⟩
  · by_cases h2 : b < a
    · go_enter Tryz.func112, Tryz.ntmps112
      go_wp2
      go_ret
      exact ⟨ret_int (by simp [cmpInt, h1, h2]), rfl⟩
    · go_enter Tryz.func112, Tryz.ntmps112
      go_wp2
      go_ret
      exact ⟨ret_int (by unfold cmpInt; rw [if_neg (by omega), if_neg (by omega)]), rfl⟩

theorem cmpStr_any (a b : ByteArray) (w : World) : Calls Tryz.prog 113 #[.string a, .string b] w fun e w' => e = .returned (.int .i64 (cmpStr a b)) ∧ w = w' := by
  go_enter Tryz.func113, Tryz.ntmps113
  go_wp2
  all_goals
    go_ret
    refine ⟨ret_int ?_, rfl⟩
    simp only [cmpStr, strLt]
    simp_all

def cmpInts : List Int → List Int → Int
  | [], [] => 0
  | [], _ :: _ => -1
  | _ :: _, [] => 1
  | a :: p, b :: q => if cmpInt a b = 0 then cmpInts p q else cmpInt a b

theorem cmpInts_drop {xs ys : List Int} {k : Nat} (h1 : k < xs.length) (h2 : k < ys.length) :
    cmpInts (xs.drop k) (ys.drop k) = if cmpInt xs[k] ys[k] = 0 then cmpInts (xs.drop (k + 1)) (ys.drop (k + 1)) else cmpInt xs[k] ys[k] := by
  rw [List.drop_eq_getElem_cons h1, List.drop_eq_getElem_cons h2]
  rfl

set_option maxHeartbeats 400000 in
theorem cmpInts_any (x y : Loc Int) (w : World) (hx : x.At w) (hy : y.At w) :
    Calls Tryz.prog 111 #[x.val, y.val] w fun e w' => e = .returned (.int .i64 (cmpInts x.xs y.xs)) ∧ w = w' := by
  obtain ⟨xa, xc, xs⟩ := x
  obtain ⟨ya, yc, ys⟩ := y
  simp only [Loc.val]
  have h1 := hx.lenMax
  have h2 := hy.lenMax
  simp only at h1 h2
  go_enter Tryz.func111, Tryz.ntmps111
  go_wp2_with fail
  go_loop [11] (fun i => ∃ k : Nat, k ≤ xs.length ∧ k ≤ ys.length ∧ i = .int .i64 k ∧ cmpInts xs ys = cmpInts (xs.drop k) (ys.drop k)) (fun i => xs.length - (intOf i).toNat)
  case atStart => exact ⟨0, Nat.zero_le _, Nat.zero_le _, rfl, rfl⟩
  case round =>
    obtain ⟨k, hk, hk2, rfl, hrel⟩ := hrel
    have HR := Lib.hid hrel
    clear hrel
    by_cases hlt : k < xs.length
    · obtain ⟨a, ao, ha⟩ := hx.place hlt
      simp only at ha
      subst ha
      have hc1 := hx.int rfl hlt
      simp only at hc1
      by_cases hlt2 : k < ys.length
      · obtain ⟨b, bo, hb⟩ := hy.place hlt2
        simp only at hb
        subst hb
        have hc2 := hy.int rfl hlt2
        simp only at hc2
        have HC := Lib.hid (cmpInts_drop hlt hlt2)
        by_cases he : cmpInt xs[k] ys[k] = 0
        · have he1 : (cmpInt xs[k] ys[k] != 0) = false := by simp [he]
          have HE := Lib.hid he
          clear he
          go_wp2_with (go_at_call 112; refine (cmpInt_any _ _ _).mono ?_; rintro e w' ⟨rfl, rfl⟩)
          go_round
          case rel => exact ⟨k + 1, by omega, by omega, by go_num, by rw [HR.out, HC.out, if_pos HE.out]⟩
          case measure => simp [intOf]; omega
        · have he1 : (cmpInt xs[k] ys[k] != 0) = true := by simp [he]
          have HE := Lib.hid he
          clear he
          go_wp2_with (go_at_call 112; refine (cmpInt_any _ _ _).mono ?_; rintro e w' ⟨rfl, rfl⟩)
          go_ret
          exact ⟨ret_int (by rw [HR.out, HC.out, if_neg HE.out]), rfl⟩
      · have hkk : k = ys.length := by omega
        have HK := Lib.hid hkk
        clear hkk
        go_wp2_with fail
        go_ret
        refine ⟨ret_int ?_, rfl⟩
        rw [HR.out, List.drop_eq_getElem_cons hlt, List.drop_of_length_le (l := ys) (by rw [HK.out]; exact Nat.le_refl _)]
        rfl
    · have hkk : k = xs.length := by omega
      have HK := Lib.hid hkk
      clear hkk
      go_wp2_with fail
      · rename_i hq _
        go_ret
        refine ⟨ret_int ?_, rfl⟩
        have : k < ys.length := by rw [HK.out]; omega
        rw [HR.out, List.drop_of_length_le (l := xs) (by rw [HK.out]; exact Nat.le_refl _), List.drop_eq_getElem_cons this]
        rfl
      · go_ret
        refine ⟨ret_int ?_, rfl⟩
        rw [HR.out, List.drop_of_length_le (l := xs) (by rw [HK.out]; exact Nat.le_refl _), List.drop_of_length_le (l := ys) (by rw [HK.out]; omega)]
        rfl

def orInts : List Int → Int
  | [] => 0
  | a :: p => if a = 0 then orInts p else a

set_option maxHeartbeats 400000 in
theorem orInts_any (x : Loc Int) (w : World) (hx : x.At w) :
    Calls Tryz.prog 110 #[x.val] w fun e w' => e = .returned (.int .i64 (orInts x.xs)) ∧ w = w' := by
  obtain ⟨xa, xc, xs⟩ := x
  simp only [Loc.val]
  have h1 := hx.lenMax
  simp only at h1
  go_enter Tryz.func110, Tryz.ntmps110
  go_wp2_with fail
  go_loop [8] (fun i => ∃ k : Nat, k ≤ xs.length ∧ i = .int .i64 k ∧ orInts xs = orInts (xs.drop k)) (fun i => xs.length - (intOf i).toNat)
  case atStart => exact ⟨0, Nat.zero_le _, rfl, rfl⟩
  case round =>
    obtain ⟨k, hk, rfl, hrel⟩ := hrel
    have HR := Lib.hid hrel
    clear hrel
    by_cases hlt : k < xs.length
    · obtain ⟨a, ao, ha⟩ := hx.place hlt
      simp only at ha
      subst ha
      have hc1 := hx.int rfl hlt
      simp only at hc1
      by_cases he : xs[k] = 0
      · have he1 : (xs[k] != 0) = false := by simp [he]
        have HE := Lib.hid he
        clear he
        go_wp2_with fail
        go_round
        case rel => exact ⟨k + 1, by omega, by go_num, by rw [HR.out, List.drop_eq_getElem_cons hlt, orInts, if_pos HE.out]⟩
        case measure => simp [intOf]; omega
      · have he1 : (xs[k] != 0) = true := by simp [he]
        have HE := Lib.hid he
        clear he
        go_wp2_with fail
        go_ret
        exact ⟨ret_int (by rw [HR.out, List.drop_eq_getElem_cons hlt, orInts, if_neg HE.out]), rfl⟩
    · have HK := Lib.hid (show k = xs.length by omega)
      go_wp2_with fail
      go_ret
      exact ⟨ret_int (by rw [HR.out, List.drop_of_length_le (by rw [HK.out]; exact Nat.le_refl _)]; rfl), rfl⟩

end Go.Proofs.YtdidkfadiaafiaaGreatDoor
