/- The laws' markText: a letter and a number's figures. The laws' marks: what they write, and that it is found again. The laws' marks on versions: what they write, and that it is found again. The laws' held: what was marked is found again. The laws' marks on files: what they write, and that it is found again. The laws' marks on files are found again. -/
import Derived.Test.YtcfbppdfiehlnaaFill
import Derived.Test.YtcfbppdfiehlnaaProg
import Derived.Laws.BytesArg
import Derived.Test.YtcfbppdfiehlnaaInfo
import Derived.Test.YtcfbppdfiehlnaaTouch
import Derived.Test.YtcfbppdfiehlnaaReg
import Derived.Deep.QuietTactic
import Derived.Outline
namespace Go.Proofs.Ytcfbppdfiehlnaa
open Go Go.RowKit

/-- The figures of k, before acc. -/
def figs : Nat → Nat → ByteArray → ByteArray
  | 0, _, acc => acc
  | f + 1, k, acc => if k = 0 then acc else figs f (k / 10) (⟨#[48 + UInt8.ofNat (k % 10)]⟩ ++ acc)
theorem figs_more : ∀ (f k : Nat) (acc : ByteArray), k ≤ f → figs (f + 1) k acc = figs f k acc
  | 0, k, acc, h => by
    obtain rfl : k = 0 := by omega
    rfl
  | f + 1, k, acc, h => by
    by_cases hk : k = 0
    · simp [figs, hk]
    · rw [figs, if_neg hk, figs_more f (k / 10) _ (by omega), figs, if_neg hk]
theorem figs_all : ∀ (f k : Nat) (acc : ByteArray), k ≤ f → figs f k acc = figs k k acc := by
  intro f
  induction f with
  | zero => intro k acc h; cases (show k = 0 by omega); rfl
  | succ f ih =>
    intro k acc h
    by_cases hk : k = f + 1
    · rw [hk]
    · rw [figs_more f k acc (by omega), ih k acc (by omega)]
theorem figs_step {k : Nat} (h : k ≠ 0) (acc : ByteArray) : figs k k acc = figs (k / 10) (k / 10) (⟨#[48 + UInt8.ofNat (k % 10)]⟩ ++ acc) := by
  obtain ⟨f, rfl⟩ : ∃ f, k = f + 1 := ⟨k - 1, by omega⟩
  rw [figs, if_neg h, figs_all f _ _ (by omega)]
def markT (k : Nat) : ByteArray := ⟨#[109]⟩ ++ figs k k ⟨#[]⟩

set_option maxRecDepth 100000 in
set_option maxHeartbeats 400000 in
theorem markText_any (k0 : Nat) (w : World) (h0 : 1 ≤ k0) (h1 : k0 ≤ 1099511627776) :
    Calls Try.prog 32 #[.int .i64 k0] w fun e w' => e = .returned (.string (markT k0)) ∧ (markT k0).size ≤ maxLen ∧ Below w.heap.size w w' := by
  have hz : ¬ (k0 : Int) ≤ 0 := by omega
  go_enter Try.func32, Try.ntmps32
  go_wp2_with fail
  go_loopw [0, 3] (fun n o wr => ∃ (k : Nat) (acc : ByteArray), n = .int .i64 k ∧ o = .string acc ∧ k ≤ k0 ∧ acc.size + k ≤ k0 ∧ figs k0 k0 ⟨#[]⟩ = figs k k acc ∧ Below w.heap.size w wr) (fun n _ _ => (intOf n).toNat)
  case atStart => exact ⟨k0, _, rfl, rfl, Nat.le_refl _, (by show 0 + k0 ≤ k0; omega), rfl, Below.refl _ _⟩
  case round =>
    obtain ⟨k, acc, rfl, rfl, hk, hs, hf, hb⟩ := hrel
    have HF := Lib.hid hf
    have HB := Lib.hid hb
    clear hf hb
    by_cases hk0 : k = 0
    · subst hk0
      go_wp2_with fail
      go_ret
      have e1 : markT k0 = ⟨#[109]⟩ ++ acc := by rw [markT, HF.out]; rfl
      refine ⟨ret_string' e1.symm, ?_, HB.out⟩
      rw [e1, ByteArray.size_append]
      have : (ByteArray.mk #[109]).size = 1 := rfl
      simp only [maxLen]; omega
    · have hk1 : (0 : Int) < (k : Int) := by omega
      have hk2 : (k : Int) ≤ 1099511627776 := by omega
      have hcv := run_conv_one (P := Try.prog) wr 63 5 9 Try.underlying63 Try.underlying5 Try.underlying9 (48 + (k : Int) % 10) 5
      have hs2 : acc.size ≤ 1099511627776 := by omega
      have HST := Lib.hid (figs_step hk0 acc)
      go_wp2_with fail
      go_roundw
      case rel =>
        refine ⟨k / 10, _, by go_num, rfl, by omega, ?_, ?_, HB.out.trans (((Below.refl wr.heap.size wr).alloc (Nat.le_refl _) _).mono HB.out.size)⟩
        · rw [ByteArray.size_append]
          have : ∀ c : UInt8, (ByteArray.mk #[c]).size = 1 := fun _ => rfl
          rw [this]
          omega
        · rw [HF.out, HST.out]
      case measure => simp [intOf]; omega
end Go.Proofs.Ytcfbppdfiehlnaa

namespace Go.Proofs.Ytcfbppdfiehlnaa
open Go Go.RowKit

def markI (n : Nat) (k : Nat) : List Int := (List.range n).map fun i => ((k + i : Nat) : Int)
theorem markI_len (n k : Nat) : (markI n k).length = n := by simp [markI]
theorem markI_get {n k i : Nat} (h : i < (markI n k).length) : (markI n k)[i] = ((k + i : Nat) : Int) := by simp [markI]
theorem markI_set {xs : List Int} {i k : Nat} (h : i < xs.length) : (markI i k ++ xs.drop i).set i ((k + i : Nat) : Int) = markI (i + 1) k ++ xs.drop (i + 1) := by
  rw [List.set_append_right _ _ (by rw [markI_len]; exact Nat.le_refl _), markI_len, Nat.sub_self, List.drop_eq_getElem_cons h, List.set_cons_zero]
  unfold markI
  rw [List.range_succ, List.map_append]; simp

/-- Versions marked, from k on. -/
def markS (k : Nat) : List Sib → List Sib
  | [] => []
  | s :: r => ⟨markI s.vv.length k, ((k + s.vv.length : Nat) : Int) % 3 == 0, markT (k + s.vv.length + 1)⟩ :: markS (k + s.vv.length + 2) r
def lenS : List Sib → Nat
  | [] => 0
  | s :: r => s.vv.length + 2 + lenS r
theorem lenS_append (a b : List Sib) : lenS (a ++ b) = lenS a + lenS b := by
  induction a with
  | nil => simp [lenS]
  | cons s a ih => simp only [List.cons_append, lenS, ih]; omega
theorem markS_append (a b : List Sib) : ∀ k, markS k (a ++ b) = markS k a ++ markS (k + lenS a) b := by
  induction a with
  | nil => intro k; simp [markS, lenS]
  | cons s a ih => intro k; simp only [List.cons_append, markS, ih, lenS]; rw [show k + s.vv.length + 2 + lenS a = k + (s.vv.length + 2 + lenS a) by omega]
theorem markS_len (l : List Sib) : ∀ k, (markS k l).length = l.length := by
  induction l with
  | nil => intro k; rfl
  | cons s l ih => intro k; simp [markS, ih]
theorem lenS_take {l : List Sib} {i : Nat} (h : i < l.length) : lenS (l.take (i + 1)) = lenS (l.take i) + l[i].vv.length + 2 := by
  rw [List.take_succ_eq_append_getElem h, lenS_append]; simp [lenS]; omega
theorem lenS_take_le (l : List Sib) (i : Nat) : lenS (l.take i) ≤ lenS l := by
  have := lenS_append (l.take i) (l.drop i)
  rw [List.take_append_drop] at this; omega
theorem markS_take {l : List Sib} {i k : Nat} (h : i < l.length) : markS k (l.take (i + 1)) = markS k (l.take i) ++ [⟨markI l[i].vv.length (k + lenS (l.take i)), ((k + lenS (l.take i) + l[i].vv.length : Nat) : Int) % 3 == 0, markT (k + lenS (l.take i) + l[i].vv.length + 1)⟩] := by
  rw [List.take_succ_eq_append_getElem h, markS_append]; rfl
theorem markS_get {l : List Sib} {i k : Nat} (h : i < l.length) : (markS k l)[i]'(by rw [markS_len]; exact h) = ⟨markI l[i].vv.length (k + lenS (l.take i)), ((k + lenS (l.take i) + l[i].vv.length : Nat) : Int) % 3 == 0, markT (k + lenS (l.take i) + l[i].vv.length + 1)⟩ := by
  have e : markS k l = markS k (l.take i) ++ markS (k + lenS (l.take i)) (l.drop i) := by rw [← markS_append, List.take_append_drop]
  have hl : (markS k (l.take i)).length = i := by rw [markS_len, List.length_take]; omega
  have e2 : (markS k l)[i]? = (markS (k + lenS (l.take i)) (l.drop i))[0]? := by rw [e, List.getElem?_append_right (by omega), hl, Nat.sub_self]
  rw [List.drop_eq_getElem_cons h] at e2
  have := List.getElem?_eq_getElem (l := markS k l) (i := i) (by rw [markS_len]; exact h)
  rw [e2] at this
  simp only [markS, List.getElem?_cons_zero, Option.some.injEq] at this
  exact this.symm

set_option maxRecDepth 100000 in
set_option maxHeartbeats 400000 in
theorem markIntS_any (x : Loc Int) (k lo : Nat) (w : World) (hx : x.At w) (hf : Fr lo w x.fp) (hk : k + x.xs.length ≤ 1099511627776) :
    Calls Try.prog 39 #[x.val, .int .i64 k] w (MarkPost lo x ((k + x.xs.length : Nat) : Int) (fun ys => ys = markI x.xs.length k) w) := by
  obtain ⟨xa, xc, xs⟩ := x
  simp only [Loc.val]
  simp only at hk
  have h1 : xs.length ≤ 9223372036854775807 := by omega
  have HX := Lib.hid hx
  have HF := Lib.hid hf
  have HK := Lib.hid hk
  clear hx hf hk
  go_enter Try.func39, Try.ntmps39
  go_wp2_with fail
  go_loopw [1, 5] (fun c i wr => ∃ (j : Nat) (ys : List Int), j ≤ xs.length ∧ i = .int .i64 j ∧ c = .int .i64 ((k + j : Nat) : Int) ∧ ys.length = xs.length ∧ ys = markI j k ++ xs.drop j ∧ (⟨xa, xc, ys⟩ : Loc Int).At wr ∧ Fr lo wr (Loc.fp ⟨xa, xc, xs⟩) ∧ Touch (Loc.fp ⟨xa, xc, xs⟩) w wr) (fun _ i _ => xs.length - (intOf i).toNat)
  case atStart => exact ⟨0, xs, Nat.zero_le _, rfl, rfl, rfl, rfl, HX.out, HF.out, Touch.refl _ _⟩
  case round =>
    obtain ⟨j, ys, hj, rfl, rfl, hl, hy, hA, hFr, hT⟩ := hrel
    have HY := Lib.hid hy
    have HA := Lib.hid hA
    have HFR := Lib.hid hFr
    have HT := Lib.hid hT
    have HL := Lib.hid hl
    have hkj : (k + j : Nat) ≤ 1099511627776 := by have := HK.out; omega
    clear hy hA hFr hT hl
    have HFP : Hid (Loc.fp (⟨xa, xc, ys⟩ : Loc Int) = Loc.fp ⟨xa, xc, xs⟩) := Lib.hid (Loc.re_fp ⟨xa, xc, xs⟩ ys (by
      apply List.ext_getElem
      · simp [HL.out]
      · intro i _ _; simp [Dat.fp]))
    by_cases hlt : j < xs.length
    · have hlt2 : j < ys.length := by have := HL.out; omega
      obtain ⟨a, ao, ha⟩ := HA.out.place hlt2
      simp only at ha
      subst ha
      have c0 := HA.out.int rfl hlt2
      have z0 := fr_frozen (x := (⟨some ⟨a, ao, none⟩, xc, ys⟩ : Loc Int)) (HFP.out.symm ▸ HFR.out) rfl hlt2 (ao + j)
      have hst := Lib.hid (Loc.At.store HA.out (HFP.out.symm ▸ HFR.out) rfl hlt2 ((k + j : Nat) : Int) (.int .i64 ((k + j : Nat) : Int)) (by decide : 0 < Dat.k Int) rfl rfl trivial)
      go_wp2_with fail
      go_roundw
      case rel =>
        obtain ⟨s1, s2, s3⟩ := hst.out
        simp only [Dat.k, Nat.mul_one, Nat.add_zero] at s1 s2 s3
        rw [HFP.out] at s2 s3
        refine ⟨j + 1, _, by omega, by go_num, by go_num, ?_, ?_, s1, s2, HT.out.trans s3⟩
        · simp [HL.out]
        · rw [HY.out]; exact markI_set hlt
      case measure => simp [intOf]; omega
    · have hjj : j = xs.length := by omega
      subst hjj
      go_wp2_with fail
      go_ret
      refine ⟨ys, rfl, by rw [HY.out, List.drop_length, List.append_nil], ?_, HA.out, HFR.out, HT.out⟩
      apply List.ext_getElem
      · simp [HL.out]
      · intro i _ _; simp [Dat.fp]

set_option maxRecDepth 100000 in
set_option maxHeartbeats 400000 in
theorem heldIntS_any (x : Loc Int) (k n : Nat) (w : World) (hx : x.At w) (hc : x.xs = markI n k) (hk : k + n ≤ 1099511627776) :
    Calls Try.prog 40 #[x.val, .int .i64 k] w fun e w' => e = .returned (.int .i64 ((k + n : Nat) : Int)) ∧ w = w' := by
  obtain ⟨xa, xc, xs⟩ := x
  have hlen : xs.length = n := by have h := congrArg List.length hc; simpa [markI_len] using h
  subst hlen
  simp only [Loc.val]
  simp only at hc
  have h1 : xs.length ≤ 9223372036854775807 := by omega
  have HX := Lib.hid hx
  have HC : Hid (∀ i (h : i < xs.length), xs[i] = ((k + i : Nat) : Int)) := Lib.hid (by
    intro i h
    have e : xs[i]? = (markI xs.length k)[i]? := congrArg (·[i]?) hc
    rw [List.getElem?_eq_getElem h, List.getElem?_eq_getElem (by rw [markI_len]; exact h), markI_get] at e
    simpa using e)
  have HK := Lib.hid hk
  clear hx hc hk
  go_enter Try.func40, Try.ntmps40
  go_wp2_with fail
  go_loop [1, 5] (fun c i => ∃ (j : Nat), j ≤ xs.length ∧ i = .int .i64 j ∧ c = .int .i64 ((k + j : Nat) : Int)) (fun _ i => xs.length - (intOf i).toNat)
  case atStart => exact ⟨0, Nat.zero_le _, rfl, rfl⟩
  case round =>
    obtain ⟨j, hj, rfl, rfl⟩ := hrel
    have hkj : (k + j : Nat) ≤ 1099511627776 := by have := HK.out; omega
    by_cases hlt : j < xs.length
    · obtain ⟨a, ao, ha⟩ := HX.out.place hlt
      simp only at ha
      subst ha
      have c0 := HX.out.int rfl hlt
      simp only at c0
      rw [HC.out j hlt] at c0
      have hne : (((k + j : Nat) : Int) != ((k + j : Nat) : Int)) = false := by simp
      go_wp2_with fail
      go_round
      case rel => exact ⟨j + 1, by omega, by go_num, by go_num⟩
      case measure => simp [intOf]; omega
    · have hjj : j = xs.length := by omega
      subst hjj
      go_wp2_with fail
      go_ret
      exact ⟨rfl, rfl⟩
end Go.Proofs.Ytcfbppdfiehlnaa

namespace Go.Proofs.Ytcfbppdfiehlnaa
open Go Go.RowKit

theorem set_mid {α : Type} {A B : List α} {j : Nat} {u v : α} (h : A.length = j) : (A ++ u :: B).set j v = A ++ v :: B := by
  rw [List.set_append_right _ _ (by omega), h, Nat.sub_self, List.set_cons_zero]

set_option maxRecDepth 100000 in
set_option maxHeartbeats 1000000 in
theorem markSibS_any (x : Loc LSib) (k lo : Nat) (w : World) (hx : x.At w) (hf : Fr lo w x.fp) (hk0 : 1 ≤ k) (hk : k + lenS (x.xs.map LSib.er) ≤ 1099511627776) :
    Calls Try.prog 33 #[x.val, .int .i64 k] w (MarkPost lo x ((k + lenS (x.xs.map LSib.er) : Nat) : Int) (fun ys => ys.map LSib.er = markS k (x.xs.map LSib.er)) w) := by
  obtain ⟨xa, xc, xs⟩ := x
  simp only [Loc.val]
  have h1 := hx.lenMax
  simp only at hk h1
  have HX := Lib.hid hx
  have HF := Lib.hid hf
  have HK := Lib.hid hk
  clear hx hf hk
  generalize hL : xs.map LSib.er = L at *
  have HLL : Hid (L.length = xs.length) := Lib.hid (by rw [← hL]; simp)
  have HLE := Lib.hid hL
  clear hL
  go_enter Try.func33, Try.ntmps33
  go_wp2_with fail
  go_loopw [1, 5] (fun c i wr => ∃ (j kj : Nat) (ys : List LSib), j ≤ xs.length ∧ i = .int .i64 j ∧ c = .int .i64 kj ∧ kj = k + lenS (L.take j) ∧ ys.map Dat.fp = xs.map Dat.fp ∧ ys.map LSib.er = markS k (L.take j) ++ L.drop j ∧ (⟨xa, xc, ys⟩ : Loc LSib).At wr ∧ Fr lo wr (Loc.fp ⟨xa, xc, xs⟩) ∧ Touch (Loc.fp ⟨xa, xc, xs⟩) w wr) (fun _ i _ => xs.length - (intOf i).toNat)
  case atStart => exact ⟨0, k, xs, Nat.zero_le _, rfl, rfl, rfl, rfl, by simpa [markS] using HLE.out, HX.out, HF.out, Touch.refl _ _⟩
  case round =>
    obtain ⟨j, kj, ys, hj, rfl, rfl, hkj, hyf, hy, hA, hFr, hT⟩ := hrel
    have HKJ := Lib.hid hkj
    have HYF := Lib.hid hyf
    have HY := Lib.hid hy
    have HA := Lib.hid hA
    have HFP : Hid (Loc.fp (⟨xa, xc, ys⟩ : Loc LSib) = Loc.fp ⟨xa, xc, xs⟩) := Lib.hid (Loc.re_fp ⟨xa, xc, xs⟩ ys hyf)
    have HFR := Lib.hid (show Fr lo wr (Loc.fp (⟨xa, xc, ys⟩ : Loc LSib)) from HFP.out.symm ▸ hFr)
    have HT := Lib.hid hT
    have HL : Hid (ys.length = xs.length) := Lib.hid (by have := congrArg List.length hyf; simpa using this)
    have hkb : kj ≤ 1099511627776 := by have := HK.out; have := lenS_take_le L j; omega
    have hkp : 1 ≤ kj := by omega
    clear hy hA hFr hT hyf hkj
    by_cases hlt : j < xs.length
    · have hlt2 : j < ys.length := by have := HL.out; omega
      have hlL : j < L.length := by have := HLL.out; omega
      have hej : ys[j].er = L[j] := by
        have h := congrArg (fun l => l[j]?) HY.out
        simp only [List.getElem?_map, List.getElem?_eq_getElem hlt2, Option.map_some] at h
        rw [List.getElem?_append_right (by rw [markS_len, List.length_take]; omega), markS_len, List.length_take_of_le (by omega), Nat.sub_self, List.drop_eq_getElem_cons hlL] at h
        rw [List.getElem?_cons_zero] at h
        exact Option.some.inj h
      have HEJ := Lib.hid hej
      have hn : kj + (ys[j].vv.xs.length + 2) ≤ 1099511627776 := by
        have h2 := lenS_take hlL
        have h3 := lenS_take_le L (j + 1)
        have h4 := HK.out
        have h5 : L[j].vv.length = ys[j].vv.xs.length := by rw [← HEJ.out]; rfl
        have h6 := HKJ.out
        omega
      obtain ⟨a, ao, ha⟩ := HA.out.place hlt2
      simp only at ha
      subst ha
      obtain ⟨c0, -, -⟩ := HA.out.sib rfl hlt2
      simp only at c0
      have HAJ := Lib.hid (HA.out.elem (List.getElem_mem hlt2))
      have hc := Lib.hid (markIntS_any ys[j].vv kj lo wr HAJ.out.1 (fr_elem HFR.out hlt2) (by omega))
      generalize hnn : ys[j].vv.xs.length = n at *
      have HNN := Lib.hid hnn
      clear hnn hej
      go_wp2_with fail
      refine hc.out.mono ?_
      rintro e w1 ⟨vs, rfl, hvs, hvf, hA1, hF1, hT1⟩
      have hvl : vs.length = n := by have := congrArg List.length hvf; rw [List.length_map, List.length_map] at this; rw [this]; exact HNN.out
      obtain ⟨p1, p2, p3⟩ := Loc.At.inner HA.out HFR.out hlt2 (⟨ys[j].vv.re vs, ys[j].gone, ys[j].text⟩ : LSib) hT1 (by simp only [Dat.enc, LSib.cells, Loc.val, Loc.re, hvl, HNN.out]) (Loc.re_fp _ _ hvf) ⟨hA1, HAJ.out.2⟩ hF1
      have P1 := Lib.hid p1
      have P2 := Lib.hid p2
      have P3 := Lib.hid p3
      have VS := Lib.hid hvs
      have HVF := Lib.hid hvf
      clear p1 p2 p3 hc hvs hvf hA1 hF1 hT1 c0
      have hvl2 : vs.length = ys[j].vv.xs.length := hvl.trans HNN.out.symm
      generalize hy1 : (⟨ys[j].vv.re vs, ys[j].gone, ys[j].text⟩ : LSib) = y1 at *
      have hy1e : y1.vv.val = ys[j].vv.val ∧ y1.gone = ys[j].gone ∧ y1.text = ys[j].text ∧ Dat.fp y1 = Dat.fp ys[j] ∧ y1.vv.xs = vs := by
        subst hy1; exact ⟨by simp only [Loc.val, Loc.re, hvl2], rfl, rfl, Loc.re_fp _ _ HVF.out, rfl⟩
      have HY1 := Lib.hid hy1e
      clear hy1 hy1e
      simp only [Loc.re] at P1
      have HM1 : Hid ((ys.set j y1).map Dat.fp = xs.map Dat.fp) := Lib.hid ((map_set_fp hlt2 HY1.out.2.2.2.1).trans HYF.out)
      have HE1 := Lib.hid (Loc.re_fp ⟨some ⟨a, ao, none⟩, xc, xs⟩ (ys.set j y1) HM1.out)
      have hi1 : j < (ys.set j y1).length := by simpa using hlt2
      have HG1 : Hid ((ys.set j y1)[j] = y1) := Lib.hid (by simp)
      have c1 := P1.out.cellK (b := a) (o := ao) rfl hi1 (j := 1) (v := .bool ys[j].gone) (by rw [show (ys.set j y1)[j] = y1 from HG1.out]; simp only [Dat.enc, LSib.cells, HY1.out.2.1]; rfl)
      simp only [show Dat.k LSib = 3 from rfl] at c1
      have f1 : Fr lo w1 (Loc.fp (⟨some ⟨a, ao, none⟩, xc, ys.set j y1⟩ : Loc LSib)) := by have h1 : Loc.fp (⟨some ⟨a, ao, none⟩, xc, ys.set j y1⟩ : Loc LSib) = _ := HE1.out; rw [h1, ← HFP.out]; exact P2.out
      have z1 := fr_frozen (x := (⟨some ⟨a, ao, none⟩, xc, ys.set j y1⟩ : Loc LSib)) f1 rfl hi1 (ao + j * 3 + 1)
      have hst := Loc.At.store P1.out f1 rfl hi1 (⟨y1.vv, ((kj : Int) + n) % 3 == 0, y1.text⟩ : LSib) (.bool (((kj : Int) + n) % 3 == 0)) (by decide : 1 < Dat.k LSib) (by rw [show (ys.set j y1)[j] = y1 from HG1.out]; rfl) (by rw [show (ys.set j y1)[j] = y1 from HG1.out]; rfl) (by
        have := P1.out.elem (List.getElem_mem hi1)
        rw [show (ys.set j y1)[j] = y1 from HG1.out] at this; exact this)
      rw [List.set_set] at hst
      simp only [show Dat.k LSib = 3 from rfl] at hst
      obtain ⟨q1, q2, q3⟩ := hst
      have Q1 := Lib.hid q1
      have Q2 := Lib.hid q2
      have Q3 := Lib.hid q3
      clear q1 q2 q3
      have hm := markText_any (kj + n + 1) (w1.setCell ⟨a, ao + j * 3 + 1, none⟩ (.bool (((kj : Int) + n) % 3 == 0))) (by omega) (by omega)
      have ecast : ((kj + n + 1 : Nat) : Int) = (kj : Int) + n + 1 := by omega
      rw [ecast] at hm
      have HM := Lib.hid hm
      clear hm ecast
      go_wp2_with fail
      refine HM.out.mono ?_
      rintro e w3 ⟨rfl, hmt, hb3⟩
      have HMT := Lib.hid hmt
      have HB3 := Lib.hid hb3
      clear hmt hb3 c1 z1 HM
      have R1 := Lib.hid (Loc.At.belowAll Q1.out HB3.out)
      have R2 := Lib.hid (Q2.out.belowAll HB3.out)
      simp only [Loc.re] at R1
      generalize hy2 : (⟨y1.vv, ((kj : Int) + n) % 3 == 0, y1.text⟩ : LSib) = y2 at *
      have hy2e : y2.vv = y1.vv ∧ y2.gone = (((kj : Int) + n) % 3 == 0) ∧ y2.text = y1.text ∧ Dat.fp y2 = Dat.fp ys[j] := by
        subst hy2; exact ⟨rfl, rfl, rfl, HY1.out.2.2.2.1⟩
      have HY2 := Lib.hid hy2e
      clear hy2 hy2e
      have HM2 : Hid ((ys.set j y2).map Dat.fp = xs.map Dat.fp) := Lib.hid ((map_set_fp hlt2 HY2.out.2.2.2).trans HYF.out)
      have HE2 := Lib.hid (Loc.re_fp ⟨some ⟨a, ao, none⟩, xc, xs⟩ (ys.set j y2) HM2.out)
      have hi2 : j < (ys.set j y2).length := by simpa using hlt2
      have HG2 : Hid ((ys.set j y2)[j] = y2) := Lib.hid (by simp)
      have c2 := R1.out.cellK (b := a) (o := ao) rfl hi2 (j := 2) (v := .string y1.text) (by rw [show (ys.set j y2)[j] = y2 from HG2.out]; simp only [Dat.enc, LSib.cells, HY2.out.2.2.1]; rfl)
      simp only [show Dat.k LSib = 3 from rfl] at c2
      have f2 : Fr lo w3 (Loc.fp (⟨some ⟨a, ao, none⟩, xc, ys.set j y2⟩ : Loc LSib)) := by
        have h1 : Loc.fp (⟨some ⟨a, ao, none⟩, xc, ys.set j y2⟩ : Loc LSib) = _ := HE2.out
        have h2 : Loc.fp (⟨some ⟨a, ao, none⟩, xc, ys.set j y1⟩ : Loc LSib) = _ := HE1.out
        rw [h1, ← h2]; exact R2.out
      have z2 := fr_frozen (x := (⟨some ⟨a, ao, none⟩, xc, ys.set j y2⟩ : Loc LSib)) f2 rfl hi2 (ao + j * 3 + 2)
      have hst := Loc.At.store R1.out f2 rfl hi2 (⟨y2.vv, y2.gone, markT (kj + n + 1)⟩ : LSib) (.string (markT (kj + n + 1))) (by decide : 2 < Dat.k LSib) (by rw [show (ys.set j y2)[j] = y2 from HG2.out]; rfl) (by rw [show (ys.set j y2)[j] = y2 from HG2.out]; rfl) (by
        have := R1.out.elem (List.getElem_mem hi2)
        rw [show (ys.set j y2)[j] = y2 from HG2.out] at this; exact ⟨this.1, HMT.out⟩)
      rw [List.set_set] at hst
      simp only [show Dat.k LSib = 3 from rfl] at hst
      have HST := Lib.hid hst
      clear hst
      have HF2 := Lib.hid f2
      have HF1 := Lib.hid f1
      clear f2 f1
      go_wp2_with fail
      go_roundw
      case rel =>
        obtain ⟨s1, s2, s3⟩ := HST.out
        have hfp0 : Loc.fp (⟨some ⟨a, ao, none⟩, xc, xs⟩ : Loc LSib) = Loc.fp (⟨some ⟨a, ao, none⟩, xc, ys⟩ : Loc LSib) := HFP.out.symm
        have hfp1 : Loc.fp (⟨some ⟨a, ao, none⟩, xc, ys.set j y1⟩ : Loc LSib) = Loc.fp (⟨some ⟨a, ao, none⟩, xc, xs⟩ : Loc LSib) := HE1.out
        have hfp2 : Loc.fp (⟨some ⟨a, ao, none⟩, xc, ys.set j y2⟩ : Loc LSib) = Loc.fp (⟨some ⟨a, ao, none⟩, xc, xs⟩ : Loc LSib) := HE2.out
        have hlL2 := lenS_take hlL
        have hln : L[j].vv.length = n := by rw [← HEJ.out]; exact HNN.out
        refine ⟨j + 1, kj + n + 2, _, by omega, by go_num, by go_num, ?_, ?_, ?_, s1, by rw [← hfp2]; exact s2, ?_⟩
        · rw [hlL2, hln, HKJ.out]; omega
        · exact (map_set_fp hlt2 (y := (⟨y2.vv, y2.gone, markT (kj + n + 1)⟩ : LSib)) HY2.out.2.2.2).trans HYF.out
        · rw [List.map_set, HY.out, List.drop_eq_getElem_cons hlL, set_mid (by rw [markS_len, List.length_take]; omega), markS_take hlL, List.append_assoc, List.singleton_append]
          congr 2
          have e1 := HKJ.out
          simp only [LSib.er, HY2.out.1, HY1.out.2.2.2.2, HY2.out.2.1, VS.out, hln, ← e1]
          congr 1
        · refine ((HT.out.trans (by rw [hfp0]; exact P3.out)).trans (by rw [← hfp1]; exact Q3.out)).trans ((Touch.of_below _ HB3.out).trans (by rw [← hfp2]; exact s3))
      case measure => simp [intOf]; omega
    · have hjj : j = xs.length := by omega
      subst hjj
      go_wp2_with fail
      go_ret
      have e1 : L.take xs.length = L := List.take_of_length_le (by rw [HLL.out]; exact Nat.le_refl _)
      have e2 : L.drop xs.length = [] := List.drop_of_length_le (by rw [HLL.out]; exact Nat.le_refl _)
      refine ⟨ys, ret_int (by have := HKJ.out; rw [e1] at this; rw [this]), by have := HY.out; rwa [e1, e2, List.append_nil] at this, HYF.out, HA.out, by rw [← HFP.out]; exact HFR.out, HT.out⟩
end Go.Proofs.Ytcfbppdfiehlnaa

namespace Go.Proofs.Ytcfbppdfiehlnaa
open Go Go.RowKit

set_option maxRecDepth 100000 in
set_option maxHeartbeats 1000000 in
theorem heldSibS_any (x : Loc LSib) (k : Nat) (L : List Sib) (w : World) (hx : x.At w) (hc : x.xs.map LSib.er = markS k L) (hk0 : 1 ≤ k) (hk : k + lenS L ≤ 1099511627776) :
    Calls Try.prog 35 #[x.val, .int .i64 k] w fun e w' => e = .returned (.int .i64 ((k + lenS L : Nat) : Int)) ∧ Below w.heap.size w w' := by
  obtain ⟨xa, xc, xs⟩ := x
  simp only [Loc.val]
  have h1 := hx.lenMax
  simp only at hc h1
  have HX := Lib.hid hx
  have HK := Lib.hid hk
  have HLL : Hid (L.length = xs.length) := Lib.hid (by have := congrArg List.length hc; rw [List.length_map, markS_len] at this; exact this.symm)
  have HC := Lib.hid hc
  clear hx hk hc
  go_enter Try.func35, Try.ntmps35
  go_wp2_with fail
  go_loopw [1, 5] (fun c i wr => ∃ (j kj : Nat), j ≤ xs.length ∧ i = .int .i64 j ∧ c = .int .i64 kj ∧ kj = k + lenS (L.take j) ∧ Below w.heap.size w wr) (fun _ i _ => xs.length - (intOf i).toNat)
  case atStart => exact ⟨0, k, Nat.zero_le _, rfl, rfl, rfl, Below.refl _ _⟩
  case round =>
    obtain ⟨j, kj, hj, rfl, rfl, hkj, hb⟩ := hrel
    have HKJ := Lib.hid hkj
    have HB := Lib.hid hb
    have hkb : kj ≤ 1099511627776 := by have := HK.out; have := lenS_take_le L j; omega
    have hkp : 1 ≤ kj := by omega
    clear hb hkj
    by_cases hlt : j < xs.length
    · have hlL : j < L.length := by have := HLL.out; omega
      have hej : xs[j].er = ⟨markI L[j].vv.length kj, ((kj + L[j].vv.length : Nat) : Int) % 3 == 0, markT (kj + L[j].vv.length + 1)⟩ := by
        have h := congrArg (fun l => l[j]?) HC.out
        simp only [List.getElem?_map, List.getElem?_eq_getElem hlt, Option.map_some] at h
        rw [List.getElem?_eq_getElem (by rw [markS_len]; exact hlL), markS_get hlL, ← HKJ.out] at h
        exact Option.some.inj h
      have hln := lenS_take hlL
      have hn : kj + (L[j].vv.length + 2) ≤ 1099511627776 := by
        have h3 := lenS_take_le L (j + 1)
        have h4 := HK.out
        have h6 := HKJ.out
        omega
      have hln2 : kj + L[j].vv.length + 2 = k + lenS (L.take (j + 1)) := by rw [hln, HKJ.out]; omega
      generalize L[j].vv.length = n at *
      have HEJ := Lib.hid hej
      have HLN := Lib.hid hln2
      obtain ⟨a, ao, ha⟩ := HX.out.place hlt
      simp only at ha
      subst ha
      have hcell := (HX.out.belowAll HB.out).sib rfl hlt
      simp only at hcell
      obtain ⟨c0, c1, c2⟩ := hcell
      have g1 : xs[j].gone = (((kj : Int) + n) % 3 == 0) := by have := congrArg Sib.gone HEJ.out; simp only [LSib.er] at this; rw [this]; congr 2
      have g2 : xs[j].text = markT (kj + n + 1) := congrArg Sib.text HEJ.out
      rw [g1] at c1
      rw [g2] at c2
      have HC1 := Lib.hid c1
      have HC2 := Lib.hid c2
      have hh := Lib.hid (heldIntS_any xs[j].vv kj n wr ((HX.out.belowAll HB.out).elem (List.getElem_mem hlt)).1 (congrArg Sib.vv HEJ.out) (by omega))
      have hbb : ((((kj : Int) + n) % 3 == 0) != (((kj : Int) + n) % 3 == 0)) = false := by simp
      clear g1 g2 hej hln hln2
      have hadd : ((kj + n : Nat) : Int) = (kj : Int) + n := by omega
      go_wp2_with fail
      refine hh.out.mono ?_
      rintro e w1 ⟨rfl, rfl⟩
      clear hadd
      go_wp2_with fail
      have HF : Hid (∀ w', Below wr.heap.size wr w' → w'.cell? ⟨a, ao + j * 3 + 2, none⟩ = some (.string (markT (kj + n + 1)))) := Lib.hid (fun w' h => by
        have hlt3 : a < wr.heap.size := World.block_lt_of_cell? wr _ HC2.out
        rw [h.cell (by simpa using hlt3)]; exact HC2.out)
      have hm : Hid (∀ W, Calls Try.prog 32 #[.int .i64 ((kj : Int) + n + 1)] W fun e w' => e = .returned (.string (markT (kj + n + 1))) ∧ (markT (kj + n + 1)).size ≤ maxLen ∧ Below W.heap.size W w') := Lib.hid (fun W => by
        have h := markText_any (kj + n + 1) W (by omega) (by omega)
        have ecast : ((kj + n + 1 : Nat) : Int) = (kj : Int) + n + 1 := by omega
        rwa [ecast] at h)
      refine wp_region_inv 8 (by kernel_rfl) (by kernel_rfl) (fun w' => Below wr.heap.size wr w') (Below.refl _ _).drew ?_
      simp only [List.take_succ_cons, List.take_zero, List.drop_succ_cons, List.drop_zero]
      refine' wpInv_step (by rfl) (fun w' hI => ?_) ?_
      rotate_left
      · have hf := HF.out w' hI
        unfold invAt
        go_simp
        first | exact rfl | exact ⟨rfl, hI⟩
      simp only [Act.put, List.setIfInBounds_toArray, List.set_cons_zero, List.set_cons_succ]
      refine' wpInv_step (by rfl) (fun w' hI => ?_) ?_
      rotate_left
      · have hf := HF.out w' hI
        unfold invAt
        go_simp
        first | exact rfl | exact ⟨rfl, hI⟩
      simp only [Act.put, List.setIfInBounds_toArray, List.set_cons_zero, List.set_cons_succ]
      refine' wpInv_step (by rfl) (fun w' hI => ?_) ?_
      rotate_left
      · have hf := HF.out w' hI
        unfold invAt
        go_simp
        first | exact rfl | exact ⟨rfl, hI⟩
      simp only [Act.put, List.setIfInBounds_toArray, List.set_cons_zero, List.set_cons_succ]
      refine' wpInv_step (by rfl) (fun w' hI => ?_) ?_
      rotate_left
      · have hf := HF.out w' hI
        unfold invAt
        go_simp
        first | exact rfl | exact ⟨rfl, hI⟩
      simp only [Act.put, List.setIfInBounds_toArray, List.set_cons_zero, List.set_cons_succ]
      refine' wpInv_step (by rfl) (fun w' hI => ?_) ?_
      rotate_left
      · have hf := HF.out w' hI
        unfold invAt
        go_simp
        first | exact rfl | exact ⟨rfl, hI⟩
      simp only [Act.put, List.setIfInBounds_toArray, List.set_cons_zero, List.set_cons_succ]
      refine' wpInv_step (by rfl) (fun w' hI => ?_) ?_
      rotate_left
      · have hf := HF.out w' hI
        unfold invAt
        go_simp
        first | exact rfl | exact ⟨rfl, hI⟩
      simp only [Act.put, List.setIfInBounds_toArray, List.set_cons_zero, List.set_cons_succ]
      refine' wpInv_step (by rfl) (fun w' hI => ?_) ?_
      rotate_left
      · have hf := HF.out w' hI
        unfold invAt
        go_simp
        clear hf
        refine (hm.out w').mono ?_
        rintro e w'' ⟨rfl, -, hb2⟩
        exact ⟨rfl, hI.trans (hb2.mono hI.size)⟩
      simp only [Act.put, List.setIfInBounds_toArray, List.set_cons_zero, List.set_cons_succ]
      refine' wpInv_step (by rfl) (fun w' hI => ?_) ?_
      rotate_left
      · have hf := HF.out w' hI
        unfold invAt
        go_simp
        first | exact rfl | exact ⟨rfl, hI⟩
      simp only [Act.put, List.setIfInBounds_toArray, List.set_cons_zero, List.set_cons_succ]
      intro w1 hI
      have HI := Lib.hid (HB.out.trans (hI.mono HB.out.size))
      clear hI HF c0 c1 c2
      go_wp2_with fail
      go_roundw
      case rel => exact ⟨j + 1, kj + n + 2, by omega, by go_num, by go_num, HLN.out, HI.out⟩
      case measure => simp [intOf]; omega
    · have hjj : j = xs.length := by omega
      subst hjj
      go_wp2_with fail
      go_ret
      have e1 : L.take xs.length = L := List.take_of_length_le (by rw [HLL.out]; exact Nat.le_refl _)
      exact ⟨ret_int (by have := HKJ.out; rw [e1] at this; rw [this]), HB.out⟩
end Go.Proofs.Ytcfbppdfiehlnaa

namespace Go.Proofs.Ytcfbppdfiehlnaa
open Go Go.RowKit

/-- Files marked, from k on. -/
def markF (k : Nat) : List File → List File
  | [] => []
  | f :: r => ⟨markT k, markS (k + 1) f.sibs⟩ :: markF (k + 1 + lenS f.sibs) r
def lenF : List File → Nat
  | [] => 0
  | f :: r => 1 + lenS f.sibs + lenF r
theorem lenF_append (a b : List File) : lenF (a ++ b) = lenF a + lenF b := by
  induction a with
  | nil => simp [lenF]
  | cons s a ih => simp only [List.cons_append, lenF, ih]; omega
theorem markF_append (a b : List File) : ∀ k, markF k (a ++ b) = markF k a ++ markF (k + lenF a) b := by
  induction a with
  | nil => intro k; simp [markF, lenF]
  | cons s a ih => intro k; simp only [List.cons_append, markF, ih, lenF]; rw [show k + 1 + lenS s.sibs + lenF a = k + (1 + lenS s.sibs + lenF a) by omega]
theorem markF_len (l : List File) : ∀ k, (markF k l).length = l.length := by
  induction l with
  | nil => intro k; rfl
  | cons s l ih => intro k; simp [markF, ih]
theorem lenF_take {l : List File} {i : Nat} (h : i < l.length) : lenF (l.take (i + 1)) = lenF (l.take i) + 1 + lenS l[i].sibs := by
  rw [List.take_succ_eq_append_getElem h, lenF_append]; simp [lenF]; omega
theorem lenF_take_le (l : List File) (i : Nat) : lenF (l.take i) ≤ lenF l := by
  have := lenF_append (l.take i) (l.drop i)
  rw [List.take_append_drop] at this; omega
theorem markF_take {l : List File} {i k : Nat} (h : i < l.length) : markF k (l.take (i + 1)) = markF k (l.take i) ++ [⟨markT (k + lenF (l.take i)), markS (k + lenF (l.take i) + 1) l[i].sibs⟩] := by
  rw [List.take_succ_eq_append_getElem h, markF_append]; rfl
theorem markF_get {l : List File} {i k : Nat} (h : i < l.length) : (markF k l)[i]'(by rw [markF_len]; exact h) = ⟨markT (k + lenF (l.take i)), markS (k + lenF (l.take i) + 1) l[i].sibs⟩ := by
  have e : markF k l = markF k (l.take i) ++ markF (k + lenF (l.take i)) (l.drop i) := by rw [← markF_append, List.take_append_drop]
  have hl : (markF k (l.take i)).length = i := by rw [markF_len, List.length_take]; omega
  have e2 : (markF k l)[i]? = (markF (k + lenF (l.take i)) (l.drop i))[0]? := by rw [e, List.getElem?_append_right (by omega), hl, Nat.sub_self]
  rw [List.drop_eq_getElem_cons h] at e2
  have := List.getElem?_eq_getElem (l := markF k l) (i := i) (by rw [markF_len]; exact h)
  rw [e2] at this
  simp only [markF, List.getElem?_cons_zero, Option.some.injEq] at this
  exact this.symm

set_option maxRecDepth 100000 in
set_option maxHeartbeats 1000000 in
theorem markFileS_any (x : Loc LFile) (k lo : Nat) (w : World) (hx : x.At w) (hf : Fr lo w x.fp) (hk0 : 1 ≤ k) (hk : k + lenF (x.xs.map LFile.er) ≤ 1099511627776) :
    Calls Try.prog 19 #[x.val, .int .i64 k] w (MarkPost lo x ((k + lenF (x.xs.map LFile.er) : Nat) : Int) (fun ys => ys.map LFile.er = markF k (x.xs.map LFile.er)) w) := by
  obtain ⟨xa, xc, xs⟩ := x
  simp only [Loc.val]
  have h1 := hx.lenMax
  simp only at hk h1
  have HX := Lib.hid hx
  have HF := Lib.hid hf
  have HK := Lib.hid hk
  clear hx hf hk
  generalize hL : xs.map LFile.er = L at *
  have HLL : Hid (L.length = xs.length) := Lib.hid (by rw [← hL]; simp)
  have HLE := Lib.hid hL
  clear hL
  go_enter Try.func19, Try.ntmps19
  go_wp2_with fail
  go_loopw [1, 5] (fun c i wr => ∃ (j kj : Nat) (ys : List LFile), j ≤ xs.length ∧ i = .int .i64 j ∧ c = .int .i64 kj ∧ kj = k + lenF (L.take j) ∧ ys.map Dat.fp = xs.map Dat.fp ∧ ys.map LFile.er = markF k (L.take j) ++ L.drop j ∧ (⟨xa, xc, ys⟩ : Loc LFile).At wr ∧ Fr lo wr (Loc.fp ⟨xa, xc, xs⟩) ∧ Touch (Loc.fp ⟨xa, xc, xs⟩) w wr) (fun _ i _ => xs.length - (intOf i).toNat)
  case atStart => exact ⟨0, k, xs, Nat.zero_le _, rfl, rfl, rfl, rfl, by simpa [markF] using HLE.out, HX.out, HF.out, Touch.refl _ _⟩
  case round =>
    obtain ⟨j, kj, ys, hj, rfl, rfl, hkj, hyf, hy, hA, hFr, hT⟩ := hrel
    have HKJ := Lib.hid hkj
    have HYF := Lib.hid hyf
    have HY := Lib.hid hy
    have HA := Lib.hid hA
    have HFP : Hid (Loc.fp (⟨xa, xc, ys⟩ : Loc LFile) = Loc.fp ⟨xa, xc, xs⟩) := Lib.hid (Loc.re_fp ⟨xa, xc, xs⟩ ys hyf)
    have HFR := Lib.hid (show Fr lo wr (Loc.fp (⟨xa, xc, ys⟩ : Loc LFile)) from HFP.out.symm ▸ hFr)
    have HT := Lib.hid hT
    have HL : Hid (ys.length = xs.length) := Lib.hid (by have := congrArg List.length hyf; simpa using this)
    have hkb : kj ≤ 1099511627776 := by have := HK.out; have := lenF_take_le L j; omega
    have hkp : 1 ≤ kj := by omega
    clear hy hA hFr hT hyf hkj
    by_cases hlt : j < xs.length
    · have hlt2 : j < ys.length := by have := HL.out; omega
      have hlL : j < L.length := by have := HLL.out; omega
      have hej : ys[j].er = L[j] := by
        have h := congrArg (fun l => l[j]?) HY.out
        simp only [List.getElem?_map, List.getElem?_eq_getElem hlt2, Option.map_some] at h
        rw [List.getElem?_append_right (by rw [markF_len, List.length_take]; omega), markF_len, List.length_take_of_le (by omega), Nat.sub_self, List.drop_eq_getElem_cons hlL] at h
        rw [List.getElem?_cons_zero] at h
        exact Option.some.inj h
      have HEJ := Lib.hid hej
      have hsib : ys[j].sibs.xs.map LSib.er = L[j].sibs := congrArg File.sibs hej
      have HSIB := Lib.hid hsib
      have hn : kj + 1 + lenS L[j].sibs ≤ 1099511627776 := by
        have h2 := lenF_take hlL
        have h3 := lenF_take_le L (j + 1)
        have h4 := HK.out
        have h6 := HKJ.out
        omega
      obtain ⟨a, ao, ha⟩ := HA.out.place hlt2
      simp only at ha
      subst ha
      have HAJ := Lib.hid (HA.out.elem (List.getElem_mem hlt2))
      have HM := Lib.hid (markText_any kj wr hkp hkb)
      clear hej hsib
      go_wp2_with fail
      refine HM.out.mono ?_
      rintro e w1 ⟨rfl, hmt, hb1⟩
      have HMT := Lib.hid hmt
      have HB1 := Lib.hid hb1
      have A1 := Lib.hid (Loc.At.belowAll HA.out hb1)
      have F1 := Lib.hid (HFR.out.belowAll hb1)
      clear hmt hb1 HM
      have c1 := A1.out.cellK (b := a) (o := ao) rfl hlt2 (j := 0) (v := .string ys[j].name) rfl
      have z1 := fr_frozen (x := (⟨some ⟨a, ao, none⟩, xc, ys⟩ : Loc LFile)) F1.out rfl hlt2 (ao + j * 2)
      have hst := Loc.At.store A1.out F1.out rfl hlt2 (⟨markT kj, ys[j].sibs⟩ : LFile) (.string (markT kj)) (by decide : 0 < Dat.k LFile) rfl rfl ⟨(A1.out.elem (List.getElem_mem hlt2)).1, HMT.out⟩
      simp only [show Dat.k LFile = 2 from rfl, Nat.add_zero] at hst c1
      obtain ⟨q1, q2, q3⟩ := hst
      have Q1 := Lib.hid q1
      have Q2 := Lib.hid q2
      have Q3 := Lib.hid q3
      clear q1 q2 q3
      simp only [Loc.re] at Q1
      generalize hy1 : (⟨markT kj, ys[j].sibs⟩ : LFile) = y1 at *
      have hy1e : y1.name = markT kj ∧ y1.sibs = ys[j].sibs ∧ Dat.fp y1 = Dat.fp ys[j] := by subst hy1; exact ⟨rfl, rfl, rfl⟩
      have HY1 := Lib.hid hy1e
      clear hy1 hy1e
      have HM1 : Hid ((ys.set j y1).map Dat.fp = xs.map Dat.fp) := Lib.hid ((map_set_fp hlt2 HY1.out.2.2).trans HYF.out)
      have HE1 := Lib.hid (Loc.re_fp ⟨some ⟨a, ao, none⟩, xc, xs⟩ (ys.set j y1) HM1.out)
      have hi1 : j < (ys.set j y1).length := by simpa using hlt2
      have HG1 : Hid ((ys.set j y1)[j] = y1) := Lib.hid (by simp)
      have HF2 : Hid (Fr lo (w1.setCell ⟨a, ao + j * 2, none⟩ (.string (markT kj))) (Loc.fp (⟨some ⟨a, ao, none⟩, xc, ys.set j y1⟩ : Loc LFile))) := Lib.hid (by
        have h1 : Loc.fp (⟨some ⟨a, ao, none⟩, xc, ys.set j y1⟩ : Loc LFile) = _ := HE1.out
        rw [h1, ← HFP.out]; exact Q2.out)
      have d1 := Q1.out.cellK (b := a) (o := ao) rfl hi1 (j := 1) (v := ys[j].sibs.val) (by rw [show (ys.set j y1)[j] = y1 from HG1.out, ← HY1.out.2.1]; rfl)
      simp only [show Dat.k LFile = 2 from rfl] at d1
      have hc := markSibS_any y1.sibs (kj + 1) lo (w1.setCell ⟨a, ao + j * 2, none⟩ (.string (markT kj)))
        (by have := Q1.out.elem (List.getElem_mem hi1); rw [show (ys.set j y1)[j] = y1 from HG1.out] at this; exact this.1)
        (by have := fr_elem HF2.out hi1; rw [show (ys.set j y1)[j] = y1 from HG1.out] at this; exact this) (by omega) (by rw [HY1.out.2.1, HSIB.out]; omega)
      rw [HY1.out.2.1, HSIB.out, show ((kj + 1 : Nat) : Int) = (kj : Int) + 1 from by omega] at hc
      have HC := Lib.hid hc
      have d0 : w1.cell? ⟨a, ao + j * 2 + 1, none⟩ = some ys[j].sibs.val := (A1.out.file rfl hlt2).2
      clear hc d1
      go_wp2_with fail
      refine HC.out.mono ?_
      rintro e w2 ⟨vs, rfl, hvs, hvf, hA2, hF2, hT2⟩
      have HVS := Lib.hid hvs
      have HVF := Lib.hid hvf
      have hvl : vs.length = ys[j].sibs.xs.length := by have := congrArg List.length hvf; simpa using this
      have hin := Loc.At.inner Q1.out HF2.out hi1 (⟨markT kj, ys[j].sibs.re vs⟩ : LFile) (w' := w2)
        (by rw [show (ys.set j y1)[j] = y1 from HG1.out, show Dat.fp y1 = ys[j].sibs.fp from HY1.out.2.2]; exact hT2)
        (by rw [show (ys.set j y1)[j] = y1 from HG1.out]; simp only [Dat.enc, LFile.cells, HY1.out.1, HY1.out.2.1, Loc.val, Loc.re, hvl])
        (by rw [show (ys.set j y1)[j] = y1 from HG1.out, show Dat.fp y1 = ys[j].sibs.fp from HY1.out.2.2]; exact Loc.re_fp _ _ hvf)
        ⟨hA2, HMT.out⟩ (by rw [show (ys.set j y1)[j] = y1 from HG1.out, show Dat.fp y1 = ys[j].sibs.fp from HY1.out.2.2]; exact hF2)
      rw [List.set_set] at hin
      have HIN := Lib.hid hin
      clear hin hvl hvs hvf hA2 hF2 hT2 d0 c1 z1 HC
      go_wp2_with fail
      go_roundw
      case rel =>
        obtain ⟨s1, s2, s3⟩ := HIN.out
        have hfp0 : Loc.fp (⟨some ⟨a, ao, none⟩, xc, xs⟩ : Loc LFile) = Loc.fp (⟨some ⟨a, ao, none⟩, xc, ys⟩ : Loc LFile) := HFP.out.symm
        have hfp1 : Loc.fp (⟨some ⟨a, ao, none⟩, xc, ys.set j y1⟩ : Loc LFile) = Loc.fp (⟨some ⟨a, ao, none⟩, xc, xs⟩ : Loc LFile) := HE1.out
        have hlL2 := lenF_take hlL
        refine ⟨j + 1, kj + 1 + lenS L[j].sibs, _, by omega, by go_num, by go_num, ?_, ?_, ?_, s1, by rw [← hfp1]; exact s2, ?_⟩
        · rw [hlL2, HKJ.out]; omega
        · exact (map_set_fp hlt2 (y := (⟨markT kj, ys[j].sibs.re vs⟩ : LFile)) (Loc.re_fp _ _ HVF.out)).trans HYF.out
        · rw [List.map_set, HY.out, List.drop_eq_getElem_cons hlL, set_mid (by rw [markF_len, List.length_take]; omega), markF_take hlL, List.append_assoc, List.singleton_append]
          congr 2
          have e1 := HKJ.out
          have e2 : vs.map LSib.er = markS (kj + 1) L[j].sibs := HVS.out
          simp only [LFile.er, Loc.re, e2, ← e1]
        · exact ((HT.out.trans (Touch.of_below _ HB1.out)).trans (by rw [hfp0]; exact Q3.out)).trans (by rw [← hfp1]; exact s3)
      case measure => simp [intOf]; omega
    · have hjj : j = xs.length := by omega
      subst hjj
      go_wp2_with fail
      go_ret
      have e1 : L.take xs.length = L := List.take_of_length_le (by rw [HLL.out]; exact Nat.le_refl _)
      have e2 : L.drop xs.length = [] := List.drop_of_length_le (by rw [HLL.out]; exact Nat.le_refl _)
      refine ⟨ys, ret_int (by have := HKJ.out; rw [e1] at this; rw [this]), by have := HY.out; rwa [e1, e2, List.append_nil] at this, HYF.out, HA.out, by rw [← HFP.out]; exact HFR.out, HT.out⟩
end Go.Proofs.Ytcfbppdfiehlnaa

namespace Go.Proofs.Ytcfbppdfiehlnaa
open Go Go.RowKit

set_option maxRecDepth 100000 in
set_option maxHeartbeats 1000000 in
theorem heldFileS_any (x : Loc LFile) (k : Nat) (L : List File) (w : World) (hx : x.At w) (hc : x.xs.map LFile.er = markF k L) (hk0 : 1 ≤ k) (hk : k + lenF L ≤ 1099511627776) :
    Calls Try.prog 22 #[x.val, .int .i64 k] w fun e w' => e = .returned (.int .i64 ((k + lenF L : Nat) : Int)) ∧ Below w.heap.size w w' := by
  obtain ⟨xa, xc, xs⟩ := x
  simp only [Loc.val]
  have h1 := hx.lenMax
  simp only at hc h1
  have HX := Lib.hid hx
  have HK := Lib.hid hk
  have HLL : Hid (L.length = xs.length) := Lib.hid (by have := congrArg List.length hc; rw [List.length_map, markF_len] at this; exact this.symm)
  have HC := Lib.hid hc
  clear hx hk hc
  go_enter Try.func22, Try.ntmps22
  go_wp2_with fail
  go_loopw [1, 5] (fun c i wr => ∃ (j kj : Nat), j ≤ xs.length ∧ i = .int .i64 j ∧ c = .int .i64 kj ∧ kj = k + lenF (L.take j) ∧ Below w.heap.size w wr) (fun _ i _ => xs.length - (intOf i).toNat)
  case atStart => exact ⟨0, k, Nat.zero_le _, rfl, rfl, rfl, Below.refl _ _⟩
  case round =>
    obtain ⟨j, kj, hj, rfl, rfl, hkj, hb⟩ := hrel
    have HKJ := Lib.hid hkj
    have HB := Lib.hid hb
    have hkb : kj ≤ 1099511627776 := by have := HK.out; have := lenF_take_le L j; omega
    have hkp : 1 ≤ kj := by omega
    clear hb hkj
    by_cases hlt : j < xs.length
    · have hlL : j < L.length := by have := HLL.out; omega
      have hej : xs[j].er = ⟨markT kj, markS (kj + 1) L[j].sibs⟩ := by
        have h := congrArg (fun l => l[j]?) HC.out
        simp only [List.getElem?_map, List.getElem?_eq_getElem hlt, Option.map_some] at h
        rw [List.getElem?_eq_getElem (by rw [markF_len]; exact hlL), markF_get hlL, ← HKJ.out] at h
        exact Option.some.inj h
      have hln := lenF_take hlL
      have hn : kj + 1 + lenS L[j].sibs ≤ 1099511627776 := by
        have h3 := lenF_take_le L (j + 1)
        have h4 := HK.out
        have h6 := HKJ.out
        omega
      have hln2 : kj + 1 + lenS L[j].sibs = k + lenF (L.take (j + 1)) := by rw [hln, HKJ.out]; omega
      generalize L[j].sibs = S at *
      have HEJ := Lib.hid hej
      have HLN := Lib.hid hln2
      obtain ⟨a, ao, ha⟩ := HX.out.place hlt
      simp only at ha
      subst ha
      have hcell := (HX.out.belowAll HB.out).file rfl hlt
      simp only at hcell
      obtain ⟨c0, c1⟩ := hcell
      have g1 : xs[j].name = markT kj := congrArg File.name HEJ.out
      rw [g1] at c0
      have HC0 := Lib.hid c0
      have HC1 := Lib.hid c1
      clear g1 hej hln hln2
      go_wp2_with fail
      have HF : Hid (∀ w', Below wr.heap.size wr w' → w'.cell? ⟨a, ao + j * 2, none⟩ = some (.string (markT kj))) := Lib.hid (fun w' h => by
        have hlt3 : a < wr.heap.size := World.block_lt_of_cell? wr _ HC0.out
        rw [h.cell (by simpa using hlt3)]; exact HC0.out)
      have hm : Hid (∀ W, Calls Try.prog 32 #[.int .i64 (kj : Int)] W fun e w' => e = .returned (.string (markT kj)) ∧ (markT kj).size ≤ maxLen ∧ Below W.heap.size W w') := Lib.hid (fun W => markText_any kj W hkp hkb)
      refine wp_region_inv 8 (by kernel_rfl) (by kernel_rfl) (fun w' => Below wr.heap.size wr w') (Below.refl _ _).drew ?_
      simp only [List.take_succ_cons, List.take_zero, List.drop_succ_cons, List.drop_zero]
      refine' wpInv_step (by rfl) (fun w' hI => ?_) ?_
      rotate_left
      · have hf := HF.out w' hI
        unfold invAt
        go_simp
        first | exact rfl | exact ⟨rfl, hI⟩
      simp only [Act.put, List.setIfInBounds_toArray, List.set_cons_zero, List.set_cons_succ]
      refine' wpInv_step (by rfl) (fun w' hI => ?_) ?_
      rotate_left
      · have hf := HF.out w' hI
        unfold invAt
        go_simp
        first | exact rfl | exact ⟨rfl, hI⟩
      simp only [Act.put, List.setIfInBounds_toArray, List.set_cons_zero, List.set_cons_succ]
      refine' wpInv_step (by rfl) (fun w' hI => ?_) ?_
      rotate_left
      · have hf := HF.out w' hI
        unfold invAt
        go_simp
        first | exact rfl | exact ⟨rfl, hI⟩
      simp only [Act.put, List.setIfInBounds_toArray, List.set_cons_zero, List.set_cons_succ]
      refine' wpInv_step (by rfl) (fun w' hI => ?_) ?_
      rotate_left
      · have hf := HF.out w' hI
        unfold invAt
        go_simp
        first | exact rfl | exact ⟨rfl, hI⟩
      simp only [Act.put, List.setIfInBounds_toArray, List.set_cons_zero, List.set_cons_succ]
      refine' wpInv_step (by rfl) (fun w' hI => ?_) ?_
      rotate_left
      · have hf := HF.out w' hI
        unfold invAt
        go_simp
        first | exact rfl | exact ⟨rfl, hI⟩
      simp only [Act.put, List.setIfInBounds_toArray, List.set_cons_zero, List.set_cons_succ]
      refine' wpInv_step (by rfl) (fun w' hI => ?_) ?_
      rotate_left
      · have hf := HF.out w' hI
        unfold invAt
        go_simp
        first | exact rfl | exact ⟨rfl, hI⟩
      simp only [Act.put, List.setIfInBounds_toArray, List.set_cons_zero, List.set_cons_succ]
      refine' wpInv_step (by rfl) (fun w' hI => ?_) ?_
      rotate_left
      · have hf := HF.out w' hI
        unfold invAt
        go_simp
        clear hf
        refine (hm.out w').mono ?_
        rintro e w'' ⟨rfl, -, hb2⟩
        exact ⟨rfl, hI.trans (hb2.mono hI.size)⟩
      simp only [Act.put, List.setIfInBounds_toArray, List.set_cons_zero, List.set_cons_succ]
      refine' wpInv_step (by rfl) (fun w' hI => ?_) ?_
      rotate_left
      · have hf := HF.out w' hI
        unfold invAt
        go_simp
        first | exact rfl | exact ⟨rfl, hI⟩
      simp only [Act.put, List.setIfInBounds_toArray, List.set_cons_zero, List.set_cons_succ]
      intro w1 hI
      have HI := Lib.hid (HB.out.trans (hI.mono HB.out.size))
      have HC1' := Lib.hid (show w1.cell? ⟨a, ao + j * 2 + 1, none⟩ = some xs[j].sibs.val from ((HX.out.belowAll HI.out).file rfl hlt).2)
      have hh := Lib.hid (heldSibS_any xs[j].sibs (kj + 1) S w1 ((HX.out.belowAll HI.out).elem (List.getElem_mem hlt)).1 (congrArg File.sibs HEJ.out) (by omega) (by omega))
      rw [show ((kj + 1 : Nat) : Int) = (kj : Int) + 1 from by omega] at hh
      have hres : ¬ ((kj + 1 + lenS S : Nat) : Int) < 0 := by omega
      have hdec : decide (((kj + 1 + lenS S : Nat) : Int) < 0) = false := decide_eq_false hres
      have hc1 := HC1'.out
      clear hI HF c0 c1 hm
      generalize hR : kj + 1 + lenS S = R at *
      have HR := Lib.hid hR
      clear hR
      go_wp2_with fail
      refine hh.out.mono ?_
      rintro e w2 ⟨rfl, b2⟩
      have HB2 := Lib.hid (HI.out.trans (b2.mono HI.out.size))
      clear b2 hc1
      go_wp2_with fail
      go_roundw
      case rel => exact ⟨j + 1, R, by omega, by go_num, rfl, HLN.out, HB2.out⟩
      case measure => simp [intOf]; omega
    · have hjj : j = xs.length := by omega
      subst hjj
      go_wp2_with fail
      go_ret
      have e1 : L.take xs.length = L := List.take_of_length_le (by rw [HLL.out]; exact Nat.le_refl _)
      exact ⟨ret_int (by have := HKJ.out; rw [e1] at this; rw [this]), HB.out⟩
end Go.Proofs.Ytcfbppdfiehlnaa
