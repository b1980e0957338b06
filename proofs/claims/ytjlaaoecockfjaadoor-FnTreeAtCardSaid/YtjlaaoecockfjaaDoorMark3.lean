/- The laws' marks on files: what they write, and that it is found again. -/
import Derived.Test.YtjlaaoecockfjaaDoorHeld
namespace Go.Proofs.YtjlaaoecockfjaaDoor
open Go Go.RowKit

/-- Files marked, from k on. -/
def markF (k : Nat) : List File → List File
  | [] => []
  | f :: r => ⟨markT k, markS (k + 1) f.sibs⟩ :: markF (k + 1 + lenS f.sibs) r
def lenF : List File → Nat
  | [] => 0
  | f :: r => 1 + lenS f.sibs + lenF r
theorem lenF_append (a b : List File) : lenF (a ++ b) = lenF a + lenF b := by
  induction a with
  | nil => simp [lenF]
  | cons s a ih => simp only [List.cons_append, lenF, ih]; omega
theorem markF_append (a b : List File) : ∀ k, markF k (a ++ b) = markF k a ++ markF (k + lenF a) b := by
  induction a with
  | nil => intro k; simp [markF, lenF]
  | cons s a ih => intro k; simp only [List.cons_append, markF, ih, lenF]; rw [show k + 1 + lenS s.sibs + lenF a = k + (1 + lenS s.sibs + lenF a) by omega]
theorem markF_len (l : List File) : ∀ k, (markF k l).length = l.length := by
  induction l with
  | nil => intro k; rfl
  | cons s l ih => intro k; simp [markF, ih]
theorem lenF_take {l : List File} {i : Nat} (h : i < l.length) : lenF (l.take (i + 1)) = lenF (l.take i) + 1 + lenS l[i].sibs := by
  rw [List.take_succ_eq_append_getElem h, lenF_append]; simp [lenF]; omega
theorem lenF_take_le (l : List File) (i : Nat) : lenF (l.take i) ≤ lenF l := by
  have := lenF_append (l.take i) (l.drop i)
  rw [List.take_append_drop] at this; omega
theorem markF_take {l : List File} {i k : Nat} (h : i < l.length) : markF k (l.take (i + 1)) = markF k (l.take i) ++ [⟨markT (k + lenF (l.take i)), markS (k + lenF (l.take i) + 1) l[i].sibs⟩] := by
  rw [List.take_succ_eq_append_getElem h, markF_append]; rfl
theorem markF_get {l : List File} {i k : Nat} (h : i < l.length) : (markF k l)[i]'(by rw [markF_len]; exact h) = ⟨markT (k + lenF (l.take i)), markS (k + lenF (l.take i) + 1) l[i].sibs⟩ := by
  have e : markF k l = markF k (l.take i) ++ markF (k + lenF (l.take i)) (l.drop i) := by rw [← markF_append, List.take_append_drop]
  have hl : (markF k (l.take i)).length = i := by rw [markF_len, List.length_take]; omega
  have e2 : (markF k l)[i]? = (markF (k + lenF (l.take i)) (l.drop i))[0]? := by rw [e, List.getElem?_append_right (by omega), hl, Nat.sub_self]
  rw [List.drop_eq_getElem_cons h] at e2
  have := List.getElem?_eq_getElem (l := markF k l) (i := i) (by rw [markF_len]; exact h)
  rw [e2] at this
  simp only [markF, List.getElem?_cons_zero, Option.some.injEq] at this
  exact this.symm

set_option maxRecDepth 100000 in
set_option maxHeartbeats 1000000 in
theorem markFileS_any (x : Loc LFile) (k lo : Nat) (w : World) (hx : x.At w) (hf : Fr lo w x.fp) (hk0 : 1 ≤ k) (hk : k + lenF (x.xs.map LFile.er) ≤ 1099511627776) :
    Calls Tryd.prog 41 #[x.val, .int .i64 k] w (MarkPost lo x ((k + lenF (x.xs.map LFile.er) : Nat) : Int) (fun ys => ys.map LFile.er = markF k (x.xs.map LFile.er)) w) := by
  obtain ⟨xa, xc, xs⟩ := x
  simp only [Loc.val]
  have h1 := hx.lenMax
  simp only at hk h1
  have HX := Lib.hid hx
  have HF := Lib.hid hf
  have HK := Lib.hid hk
  clear hx hf hk
  generalize hL : xs.map LFile.er = L at *
  have HLL : Hid (L.length = xs.length) := Lib.hid (by rw [← hL]; simp)
  have HLE := Lib.hid hL
  clear hL
  go_enter Tryd.func41, Tryd.ntmps41
  go_wp2_with fail
  go_loopw [1, 5] (fun c i wr => ∃ (j kj : Nat) (ys : List LFile), j ≤ xs.length ∧ i = .int .i64 j ∧ c = .int .i64 kj ∧ kj = k + lenF (L.take j) ∧ ys.map Dat.fp = xs.map Dat.fp ∧ ys.map LFile.er = markF k (L.take j) ++ L.drop j ∧ (⟨xa, xc, ys⟩ : Loc LFile).At wr ∧ Fr lo wr (Loc.fp ⟨xa, xc, xs⟩) ∧ Touch (Loc.fp ⟨xa, xc, xs⟩) w wr) (fun _ i _ => xs.length - (intOf i).toNat)
  case atStart => exact ⟨0, k, xs, Nat.zero_le _, rfl, rfl, rfl, rfl, by simpa [markF] using HLE.out, HX.out, HF.out, Touch.refl _ _⟩
  case round =>
    obtain ⟨j, kj, ys, hj, rfl, rfl, hkj, hyf, hy, hA, hFr, hT⟩ := hrel
    have HKJ := Lib.hid hkj
    have HYF := Lib.hid hyf
    have HY := Lib.hid hy
    have HA := Lib.hid hA
    have HFP : Hid (Loc.fp (⟨xa, xc, ys⟩ : Loc LFile) = Loc.fp ⟨xa, xc, xs⟩) := Lib.hid (Loc.re_fp ⟨xa, xc, xs⟩ ys hyf)
    have HFR := Lib.hid (show Fr lo wr (Loc.fp (⟨xa, xc, ys⟩ : Loc LFile)) from HFP.out.symm ▸ hFr)
    have HT := Lib.hid hT
    have HL : Hid (ys.length = xs.length) := Lib.hid (by have := congrArg List.length hyf; simpa using this)
    have hkb : kj ≤ 1099511627776 := by have := HK.out; have := lenF_take_le L j; omega
    have hkp : 1 ≤ kj := by omega
    clear hy hA hFr hT hyf hkj
    by_cases hlt : j < xs.length
    · have hlt2 : j < ys.length := by have := HL.out; omega
      have hlL : j < L.length := by have := HLL.out; omega
      have hej : ys[j].er = L[j] := by
        have h := congrArg (fun l => l[j]?) HY.out
        simp only [List.getElem?_map, List.getElem?_eq_getElem hlt2, Option.map_some] at h
        rw [List.getElem?_append_right (by rw [markF_len, List.length_take]; omega), markF_len, List.length_take_of_le (by omega), Nat.sub_self, List.drop_eq_getElem_cons hlL] at h
        rw [List.getElem?_cons_zero] at h
        exact Option.some.inj h
      have HEJ := Lib.hid hej
      have hsib : ys[j].sibs.xs.map LSib.er = L[j].sibs := congrArg File.sibs hej
      have HSIB := Lib.hid hsib
      have hn : kj + 1 + lenS L[j].sibs ≤ 1099511627776 := by
        have h2 := lenF_take hlL
        have h3 := lenF_take_le L (j + 1)
        have h4 := HK.out
        have h6 := HKJ.out
        omega
      obtain ⟨a, ao, ha⟩ := HA.out.place hlt2
      simp only at ha
      subst ha
      have HAJ := Lib.hid (HA.out.elem (List.getElem_mem hlt2))
      have HM := Lib.hid (markText_any kj wr hkp hkb)
      clear hej hsib
      go_wp2_with fail
      refine HM.out.mono ?_
      rintro e w1 ⟨rfl, hmt, hb1⟩
      have HMT := Lib.hid hmt
      have HB1 := Lib.hid hb1
      have A1 := Lib.hid (Loc.At.belowAll HA.out hb1)
      have F1 := Lib.hid (HFR.out.belowAll hb1)
      clear hmt hb1 HM
      have c1 := A1.out.cellK (b := a) (o := ao) rfl hlt2 (j := 0) (v := .string ys[j].name) rfl
      have z1 := fr_frozen (x := (⟨some ⟨a, ao, none⟩, xc, ys⟩ : Loc LFile)) F1.out rfl hlt2 (ao + j * 2)
      have hst := Loc.At.store A1.out F1.out rfl hlt2 (⟨markT kj, ys[j].sibs⟩ : LFile) (.string (markT kj)) (by decide : 0 < Dat.k LFile) rfl rfl ⟨(A1.out.elem (List.getElem_mem hlt2)).1, HMT.out⟩
      simp only [show Dat.k LFile = 2 from rfl, Nat.add_zero] at hst c1
      obtain ⟨q1, q2, q3⟩ := hst
      have Q1 := Lib.hid q1
      have Q2 := Lib.hid q2
      have Q3 := Lib.hid q3
      clear q1 q2 q3
      simp only [Loc.re] at Q1
      generalize hy1 : (⟨markT kj, ys[j].sibs⟩ : LFile) = y1 at *
      have hy1e : y1.name = markT kj ∧ y1.sibs = ys[j].sibs ∧ Dat.fp y1 = Dat.fp ys[j] := by subst hy1; exact ⟨rfl, rfl, rfl⟩
      have HY1 := Lib.hid hy1e
      clear hy1 hy1e
      have HM1 : Hid ((ys.set j y1).map Dat.fp = xs.map Dat.fp) := Lib.hid ((map_set_fp hlt2 HY1.out.2.2).trans HYF.out)
      have HE1 := Lib.hid (Loc.re_fp ⟨some ⟨a, ao, none⟩, xc, xs⟩ (ys.set j y1) HM1.out)
      have hi1 : j < (ys.set j y1).length := by simpa using hlt2
      have HG1 : Hid ((ys.set j y1)[j] = y1) := Lib.hid (by simp)
      have HF2 : Hid (Fr lo (w1.setCell ⟨a, ao + j * 2, none⟩ (.string (markT kj))) (Loc.fp (⟨some ⟨a, ao, none⟩, xc, ys.set j y1⟩ : Loc LFile))) := Lib.hid (by
        have h1 : Loc.fp (⟨some ⟨a, ao, none⟩, xc, ys.set j y1⟩ : Loc LFile) = _ := HE1.out
        rw [h1, ← HFP.out]; exact Q2.out)
      have d1 := Q1.out.cellK (b := a) (o := ao) rfl hi1 (j := 1) (v := ys[j].sibs.val) (by rw [show (ys.set j y1)[j] = y1 from HG1.out, ← HY1.out.2.1]; rfl)
      simp only [show Dat.k LFile = 2 from rfl] at d1
      have hc := markSibS_any y1.sibs (kj + 1) lo (w1.setCell ⟨a, ao + j * 2, none⟩ (.string (markT kj)))
        (by have := Q1.out.elem (List.getElem_mem hi1); rw [show (ys.set j y1)[j] = y1 from HG1.out] at this; exact this.1)
        (by have := fr_elem HF2.out hi1; rw [show (ys.set j y1)[j] = y1 from HG1.out] at this; exact this) (by omega) (by rw [HY1.out.2.1, HSIB.out]; omega)
      rw [HY1.out.2.1, HSIB.out, show ((kj + 1 : Nat) : Int) = (kj : Int) + 1 from by omega] at hc
      have HC := Lib.hid hc
      have d0 : w1.cell? ⟨a, ao + j * 2 + 1, none⟩ = some ys[j].sibs.val := (A1.out.file rfl hlt2).2
      clear hc d1
      go_wp2_with fail
      refine HC.out.mono ?_
      rintro e w2 ⟨vs, rfl, hvs, hvf, hA2, hF2, hT2⟩
      have HVS := Lib.hid hvs
      have HVF := Lib.hid hvf
      have hvl : vs.length = ys[j].sibs.xs.length := by have := congrArg List.length hvf; simpa using this
      have hin := Loc.At.inner Q1.out HF2.out hi1 (⟨markT kj, ys[j].sibs.re vs⟩ : LFile) (w' := w2)
        (by rw [show (ys.set j y1)[j] = y1 from HG1.out, show Dat.fp y1 = ys[j].sibs.fp from HY1.out.2.2]; exact hT2)
        (by rw [show (ys.set j y1)[j] = y1 from HG1.out]; simp only [Dat.enc, LFile.cells, HY1.out.1, HY1.out.2.1, Loc.val, Loc.re, hvl])
        (by rw [show (ys.set j y1)[j] = y1 from HG1.out, show Dat.fp y1 = ys[j].sibs.fp from HY1.out.2.2]; exact Loc.re_fp _ _ hvf)
        ⟨hA2, HMT.out⟩ (by rw [show (ys.set j y1)[j] = y1 from HG1.out, show Dat.fp y1 = ys[j].sibs.fp from HY1.out.2.2]; exact hF2)
      rw [List.set_set] at hin
      have HIN := Lib.hid hin
      clear hin hvl hvs hvf hA2 hF2 hT2 d0 c1 z1 HC
      go_wp2_with fail
      go_roundw
      case rel =>
        obtain ⟨s1, s2, s3⟩ := HIN.out
        have hfp0 : Loc.fp (⟨some ⟨a, ao, none⟩, xc, xs⟩ : Loc LFile) = Loc.fp (⟨some ⟨a, ao, none⟩, xc, ys⟩ : Loc LFile) := HFP.out.symm
        have hfp1 : Loc.fp (⟨some ⟨a, ao, none⟩, xc, ys.set j y1⟩ : Loc LFile) = Loc.fp (⟨some ⟨a, ao, none⟩, xc, xs⟩ : Loc LFile) := HE1.out
        have hlL2 := lenF_take hlL
        refine ⟨j + 1, kj + 1 + lenS L[j].sibs, _, by omega, by go_num, by go_num, ?_, ?_, ?_, s1, by rw [← hfp1]; exact s2, ?_⟩
        · rw [hlL2, HKJ.out]; omega
        · exact (map_set_fp hlt2 (y := (⟨markT kj, ys[j].sibs.re vs⟩ : LFile)) (Loc.re_fp _ _ HVF.out)).trans HYF.out
        · rw [List.map_set, HY.out, List.drop_eq_getElem_cons hlL, set_mid (by rw [markF_len, List.length_take]; omega), markF_take hlL, List.append_assoc, List.singleton_append]
          congr 2
          have e1 := HKJ.out
          have e2 : vs.map LSib.er = markS (kj + 1) L[j].sibs := HVS.out
          simp only [LFile.er, Loc.re, e2, ← e1]
        · exact ((HT.out.trans (Touch.of_below _ HB1.out)).trans (by rw [hfp0]; exact Q3.out)).trans (by rw [← hfp1]; exact s3)
      case measure => simp [intOf]; omega
    · have hjj : j = xs.length := by omega
      subst hjj
      go_wp2_with fail
      go_ret
      have e1 : L.take xs.length = L := List.take_of_length_le (by rw [HLL.out]; exact Nat.le_refl _)
      have e2 : L.drop xs.length = [] := List.drop_of_length_le (by rw [HLL.out]; exact Nat.le_refl _)
      refine ⟨ys, ret_int (by have := HKJ.out; rw [e1] at this; rw [this]), by have := HY.out; rwa [e1, e2, List.append_nil] at this, HYF.out, HA.out, by rw [← HFP.out]; exact HFR.out, HT.out⟩
end Go.Proofs.YtjlaaoecockfjaaDoor
