/- The laws' marks: what they write, and that it is found again. -/
import Derived.Test.YtpgdelfdaalhbaaDoorTouch
import Derived.Test.YtpgdelfdaalhbaaDoorMarkT
import Derived.Test.YtpgdelfdaalhbaaDoorReg
import Derived.Deep.QuietTactic
namespace Go.Proofs.YtpgdelfdaalhbaaDoor
open Go Go.RowKit

def markI (n : Nat) (k : Nat) : List Int := (List.range n).map fun i => ((k + i : Nat) : Int)
theorem markI_len (n k : Nat) : (markI n k).length = n := by simp [markI]
theorem markI_get {n k i : Nat} (h : i < (markI n k).length) : (markI n k)[i] = ((k + i : Nat) : Int) := by simp [markI]
theorem markI_set {xs : List Int} {i k : Nat} (h : i < xs.length) : (markI i k ++ xs.drop i).set i ((k + i : Nat) : Int) = markI (i + 1) k ++ xs.drop (i + 1) := by
  rw [List.set_append_right _ _ (by rw [markI_len]; exact Nat.le_refl _), markI_len, Nat.sub_self, List.drop_eq_getElem_cons h, List.set_cons_zero]
  unfold markI
  rw [List.range_succ, List.map_append]; simp

/-- Versions marked, from k on. -/
def markS (k : Nat) : List Sib → List Sib
  | [] => []
  | s :: r => ⟨markI s.vv.length k, ((k + s.vv.length : Nat) : Int) % 3 == 0, markT (k + s.vv.length + 1)⟩ :: markS (k + s.vv.length + 2) r
def lenS : List Sib → Nat
  | [] => 0
  | s :: r => s.vv.length + 2 + lenS r
theorem lenS_append (a b : List Sib) : lenS (a ++ b) = lenS a + lenS b := by
  induction a with
  | nil => simp [lenS]
  | cons s a ih => simp only [List.cons_append, lenS, ih]; omega
theorem markS_append (a b : List Sib) : ∀ k, markS k (a ++ b) = markS k a ++ markS (k + lenS a) b := by
  induction a with
  | nil => intro k; simp [markS, lenS]
  | cons s a ih => intro k; simp only [List.cons_append, markS, ih, lenS]; rw [show k + s.vv.length + 2 + lenS a = k + (s.vv.length + 2 + lenS a) by omega]
theorem markS_len (l : List Sib) : ∀ k, (markS k l).length = l.length := by
  induction l with
  | nil => intro k; rfl
  | cons s l ih => intro k; simp [markS, ih]
theorem lenS_take {l : List Sib} {i : Nat} (h : i < l.length) : lenS (l.take (i + 1)) = lenS (l.take i) + l[i].vv.length + 2 := by
  rw [List.take_succ_eq_append_getElem h, lenS_append]; simp [lenS]; omega
theorem lenS_take_le (l : List Sib) (i : Nat) : lenS (l.take i) ≤ lenS l := by
  have := lenS_append (l.take i) (l.drop i)
  rw [List.take_append_drop] at this; omega
theorem markS_take {l : List Sib} {i k : Nat} (h : i < l.length) : markS k (l.take (i + 1)) = markS k (l.take i) ++ [⟨markI l[i].vv.length (k + lenS (l.take i)), ((k + lenS (l.take i) + l[i].vv.length : Nat) : Int) % 3 == 0, markT (k + lenS (l.take i) + l[i].vv.length + 1)⟩] := by
  rw [List.take_succ_eq_append_getElem h, markS_append]; rfl
theorem markS_get {l : List Sib} {i k : Nat} (h : i < l.length) : (markS k l)[i]'(by rw [markS_len]; exact h) = ⟨markI l[i].vv.length (k + lenS (l.take i)), ((k + lenS (l.take i) + l[i].vv.length : Nat) : Int) % 3 == 0, markT (k + lenS (l.take i) + l[i].vv.length + 1)⟩ := by
  have e : markS k l = markS k (l.take i) ++ markS (k + lenS (l.take i)) (l.drop i) := by rw [← markS_append, List.take_append_drop]
  have hl : (markS k (l.take i)).length = i := by rw [markS_len, List.length_take]; omega
  have e2 : (markS k l)[i]? = (markS (k + lenS (l.take i)) (l.drop i))[0]? := by rw [e, List.getElem?_append_right (by omega), hl, Nat.sub_self]
  rw [List.drop_eq_getElem_cons h] at e2
  have := List.getElem?_eq_getElem (l := markS k l) (i := i) (by rw [markS_len]; exact h)
  rw [e2] at this
  simp only [markS, List.getElem?_cons_zero, Option.some.injEq] at this
  exact this.symm

set_option maxRecDepth 100000 in
set_option maxHeartbeats 400000 in
theorem markIntS_any (x : Loc Int) (k lo : Nat) (w : World) (hx : x.At w) (hf : Fr lo w x.fp) (hk : k + x.xs.length ≤ 1099511627776) :
    Calls Tryd.prog 88 #[x.val, .int .i64 k] w (MarkPost lo x ((k + x.xs.length : Nat) : Int) (fun ys => ys = markI x.xs.length k) w) := by
  obtain ⟨xa, xc, xs⟩ := x
  simp only [Loc.val]
  simp only at hk
  have h1 : xs.length ≤ 9223372036854775807 := by omega
  have HX := Lib.hid hx
  have HF := Lib.hid hf
  have HK := Lib.hid hk
  clear hx hf hk
  go_enter Tryd.func88, Tryd.ntmps88
  go_wp2_with fail
  go_loopw [1, 5] (fun c i wr => ∃ (j : Nat) (ys : List Int), j ≤ xs.length ∧ i = .int .i64 j ∧ c = .int .i64 ((k + j : Nat) : Int) ∧ ys.length = xs.length ∧ ys = markI j k ++ xs.drop j ∧ (⟨xa, xc, ys⟩ : Loc Int).At wr ∧ Fr lo wr (Loc.fp ⟨xa, xc, xs⟩) ∧ Touch (Loc.fp ⟨xa, xc, xs⟩) w wr) (fun _ i _ => xs.length - (intOf i).toNat)
  case atStart => exact ⟨0, xs, Nat.zero_le _, rfl, rfl, rfl, rfl, HX.out, HF.out, Touch.refl _ _⟩
  case round =>
    obtain ⟨j, ys, hj, rfl, rfl, hl, hy, hA, hFr, hT⟩ := hrel
    have HY := Lib.hid hy
    have HA := Lib.hid hA
    have HFR := Lib.hid hFr
    have HT := Lib.hid hT
    have HL := Lib.hid hl
    have hkj : (k + j : Nat) ≤ 1099511627776 := by have := HK.out; omega
    clear hy hA hFr hT hl
    have HFP : Hid (Loc.fp (⟨xa, xc, ys⟩ : Loc Int) = Loc.fp ⟨xa, xc, xs⟩) := Lib.hid (Loc.re_fp ⟨xa, xc, xs⟩ ys (by
      apply List.ext_getElem
      · simp [HL.out]
      · intro i _ _; simp [Dat.fp]))
    by_cases hlt : j < xs.length
    · have hlt2 : j < ys.length := by have := HL.out; omega
      obtain ⟨a, ao, ha⟩ := HA.out.place hlt2
      simp only at ha
      subst ha
      have c0 := HA.out.int rfl hlt2
      have z0 := fr_frozen (x := (⟨some ⟨a, ao, none⟩, xc, ys⟩ : Loc Int)) (HFP.out.symm ▸ HFR.out) rfl hlt2 (ao + j)
      have hst := Lib.hid (Loc.At.store HA.out (HFP.out.symm ▸ HFR.out) rfl hlt2 ((k + j : Nat) : Int) (.int .i64 ((k + j : Nat) : Int)) (by decide : 0 < Dat.k Int) rfl rfl trivial)
      go_wp2_with fail
      go_roundw
      case rel =>
        obtain ⟨s1, s2, s3⟩ := hst.out
        simp only [Dat.k, Nat.mul_one, Nat.add_zero] at s1 s2 s3
        rw [HFP.out] at s2 s3
        refine ⟨j + 1, _, by omega, by go_num, by go_num, ?_, ?_, s1, s2, HT.out.trans s3⟩
        · simp [HL.out]
        · rw [HY.out]; exact markI_set hlt
      case measure => simp [intOf]; omega
    · have hjj : j = xs.length := by omega
      subst hjj
      go_wp2_with fail
      go_ret
      refine ⟨ys, rfl, by rw [HY.out, List.drop_length, List.append_nil], ?_, HA.out, HFR.out, HT.out⟩
      apply List.ext_getElem
      · simp [HL.out]
      · intro i _ _; simp [Dat.fp]

set_option maxRecDepth 100000 in
set_option maxHeartbeats 400000 in
theorem heldIntS_any (x : Loc Int) (k n : Nat) (w : World) (hx : x.At w) (hc : x.xs = markI n k) (hk : k + n ≤ 1099511627776) :
    Calls Tryd.prog 89 #[x.val, .int .i64 k] w fun e w' => e = .returned (.int .i64 ((k + n : Nat) : Int)) ∧ w = w' := by
  obtain ⟨xa, xc, xs⟩ := x
  have hlen : xs.length = n := by have h := congrArg List.length hc; simpa [markI_len] using h
  subst hlen
  simp only [Loc.val]
  simp only at hc
  have h1 : xs.length ≤ 9223372036854775807 := by omega
  have HX := Lib.hid hx
  have HC : Hid (∀ i (h : i < xs.length), xs[i] = ((k + i : Nat) : Int)) := Lib.hid (by
    intro i h
    have e : xs[i]? = (markI xs.length k)[i]? := congrArg (·[i]?) hc
    rw [List.getElem?_eq_getElem h, List.getElem?_eq_getElem (by rw [markI_len]; exact h), markI_get] at e
    simpa using e)
  have HK := Lib.hid hk
  clear hx hc hk
  go_enter Tryd.func89, Tryd.ntmps89
  go_wp2_with fail
  go_loop [1, 5] (fun c i => ∃ (j : Nat), j ≤ xs.length ∧ i = .int .i64 j ∧ c = .int .i64 ((k + j : Nat) : Int)) (fun _ i => xs.length - (intOf i).toNat)
  case atStart => exact ⟨0, Nat.zero_le _, rfl, rfl⟩
  case round =>
    obtain ⟨j, hj, rfl, rfl⟩ := hrel
    have hkj : (k + j : Nat) ≤ 1099511627776 := by have := HK.out; omega
    by_cases hlt : j < xs.length
    · obtain ⟨a, ao, ha⟩ := HX.out.place hlt
      simp only at ha
      subst ha
      have c0 := HX.out.int rfl hlt
      simp only at c0
      rw [HC.out j hlt] at c0
      have hne : (((k + j : Nat) : Int) != ((k + j : Nat) : Int)) = false := by simp
      go_wp2_with fail
      go_round
      case rel => exact ⟨j + 1, by omega, by go_num, by go_num⟩
      case measure => simp [intOf]; omega
    · have hjj : j = xs.length := by omega
      subst hjj
      go_wp2_with fail
      go_ret
      exact ⟨rfl, rfl⟩
end Go.Proofs.YtpgdelfdaalhbaaDoor
