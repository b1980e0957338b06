/- The laws' marks on versions: what they write, and that it is found again. -/
import Derived.Test.YtpgdelfdaalhbaaDoorMark
import Derived.Outline
namespace Go.Proofs.YtpgdelfdaalhbaaDoor
open Go Go.RowKit

theorem set_mid {α : Type} {A B : List α} {j : Nat} {u v : α} (h : A.length = j) : (A ++ u :: B).set j v = A ++ v :: B := by
  rw [List.set_append_right _ _ (by omega), h, Nat.sub_self, List.set_cons_zero]

set_option maxRecDepth 100000 in
set_option maxHeartbeats 1000000 in
theorem markSibS_any (x : Loc LSib) (k lo : Nat) (w : World) (hx : x.At w) (hf : Fr lo w x.fp) (hk0 : 1 ≤ k) (hk : k + lenS (x.xs.map LSib.er) ≤ 1099511627776) :
    Calls Tryd.prog 49 #[x.val, .int .i64 k] w (MarkPost lo x ((k + lenS (x.xs.map LSib.er) : Nat) : Int) (fun ys => ys.map LSib.er = markS k (x.xs.map LSib.er)) w) := by
  obtain ⟨xa, xc, xs⟩ := x
  simp only [Loc.val]
  have h1 := hx.lenMax
  simp only at hk h1
  have HX := Lib.hid hx
  have HF := Lib.hid hf
  have HK := Lib.hid hk
  clear hx hf hk
  generalize hL : xs.map LSib.er = L at *
  have HLL : Hid (L.length = xs.length) := Lib.hid (by rw [← hL]; simp)
  have HLE := Lib.hid hL
  clear hL
  go_enter Tryd.func49, Tryd.ntmps49
  go_wp2_with fail
  go_loopw [1, 5] (fun c i wr => ∃ (j kj : Nat) (ys : List LSib), j ≤ xs.length ∧ i = .int .i64 j ∧ c = .int .i64 kj ∧ kj = k + lenS (L.take j) ∧ ys.map Dat.fp = xs.map Dat.fp ∧ ys.map LSib.er = markS k (L.take j) ++ L.drop j ∧ (⟨xa, xc, ys⟩ : Loc LSib).At wr ∧ Fr lo wr (Loc.fp ⟨xa, xc, xs⟩) ∧ Touch (Loc.fp ⟨xa, xc, xs⟩) w wr) (fun _ i _ => xs.length - (intOf i).toNat)
  case atStart => exact ⟨0, k, xs, Nat.zero_le _, rfl, rfl, rfl, rfl, by simpa [markS] using HLE.out, HX.out, HF.out, Touch.refl _ _⟩
  case round =>
    obtain ⟨j, kj, ys, hj, rfl, rfl, hkj, hyf, hy, hA, hFr, hT⟩ := hrel
    have HKJ := Lib.hid hkj
    have HYF := Lib.hid hyf
    have HY := Lib.hid hy
    have HA := Lib.hid hA
    have HFP : Hid (Loc.fp (⟨xa, xc, ys⟩ : Loc LSib) = Loc.fp ⟨xa, xc, xs⟩) := Lib.hid (Loc.re_fp ⟨xa, xc, xs⟩ ys hyf)
    have HFR := Lib.hid (show Fr lo wr (Loc.fp (⟨xa, xc, ys⟩ : Loc LSib)) from HFP.out.symm ▸ hFr)
    have HT := Lib.hid hT
    have HL : Hid (ys.length = xs.length) := Lib.hid (by have := congrArg List.length hyf; simpa using this)
    have hkb : kj ≤ 1099511627776 := by have := HK.out; have := lenS_take_le L j; omega
    have hkp : 1 ≤ kj := by omega
    clear hy hA hFr hT hyf hkj
    by_cases hlt : j < xs.length
    · have hlt2 : j < ys.length := by have := HL.out; omega
      have hlL : j < L.length := by have := HLL.out; omega
      have hej : ys[j].er = L[j] := by
        have h := congrArg (fun l => l[j]?) HY.out
        simp only [List.getElem?_map, List.getElem?_eq_getElem hlt2, Option.map_some] at h
        rw [List.getElem?_append_right (by rw [markS_len, List.length_take]; omega), markS_len, List.length_take_of_le (by omega), Nat.sub_self, List.drop_eq_getElem_cons hlL] at h
        rw [List.getElem?_cons_zero] at h
        exact Option.some.inj h
      have HEJ := Lib.hid hej
      have hn : kj + (ys[j].vv.xs.length + 2) ≤ 1099511627776 := by
        have h2 := lenS_take hlL
        have h3 := lenS_take_le L (j + 1)
        have h4 := HK.out
        have h5 : L[j].vv.length = ys[j].vv.xs.length := by rw [← HEJ.out]; rfl
        have h6 := HKJ.out
        omega
      obtain ⟨a, ao, ha⟩ := HA.out.place hlt2
      simp only at ha
      subst ha
      obtain ⟨c0, -, -⟩ := HA.out.sib rfl hlt2
      simp only at c0
      have HAJ := Lib.hid (HA.out.elem (List.getElem_mem hlt2))
      have hc := Lib.hid (markIntS_any ys[j].vv kj lo wr HAJ.out.1 (fr_elem HFR.out hlt2) (by omega))
      generalize hnn : ys[j].vv.xs.length = n at *
      have HNN := Lib.hid hnn
      clear hnn hej
      go_wp2_with fail
      refine hc.out.mono ?_
      rintro e w1 ⟨vs, rfl, hvs, hvf, hA1, hF1, hT1⟩
      have hvl : vs.length = n := by have := congrArg List.length hvf; rw [List.length_map, List.length_map] at this; rw [this]; exact HNN.out
      obtain ⟨p1, p2, p3⟩ := Loc.At.inner HA.out HFR.out hlt2 (⟨ys[j].vv.re vs, ys[j].gone, ys[j].text⟩ : LSib) hT1 (by simp only [Dat.enc, LSib.cells, Loc.val, Loc.re, hvl, HNN.out]) (Loc.re_fp _ _ hvf) ⟨hA1, HAJ.out.2⟩ hF1
      have P1 := Lib.hid p1
      have P2 := Lib.hid p2
      have P3 := Lib.hid p3
      have VS := Lib.hid hvs
      have HVF := Lib.hid hvf
      clear p1 p2 p3 hc hvs hvf hA1 hF1 hT1 c0
      have hvl2 : vs.length = ys[j].vv.xs.length := hvl.trans HNN.out.symm
      generalize hy1 : (⟨ys[j].vv.re vs, ys[j].gone, ys[j].text⟩ : LSib) = y1 at *
      have hy1e : y1.vv.val = ys[j].vv.val ∧ y1.gone = ys[j].gone ∧ y1.text = ys[j].text ∧ Dat.fp y1 = Dat.fp ys[j] ∧ y1.vv.xs = vs := by
        subst hy1; exact ⟨by simp only [Loc.val, Loc.re, hvl2], rfl, rfl, Loc.re_fp _ _ HVF.out, rfl⟩
      have HY1 := Lib.hid hy1e
      clear hy1 hy1e
      simp only [Loc.re] at P1
      have HM1 : Hid ((ys.set j y1).map Dat.fp = xs.map Dat.fp) := Lib.hid ((map_set_fp hlt2 HY1.out.2.2.2.1).trans HYF.out)
      have HE1 := Lib.hid (Loc.re_fp ⟨some ⟨a, ao, none⟩, xc, xs⟩ (ys.set j y1) HM1.out)
      have hi1 : j < (ys.set j y1).length := by simpa using hlt2
      have HG1 : Hid ((ys.set j y1)[j] = y1) := Lib.hid (by simp)
      have c1 := P1.out.cellK (b := a) (o := ao) rfl hi1 (j := 1) (v := .bool ys[j].gone) (by rw [show (ys.set j y1)[j] = y1 from HG1.out]; simp only [Dat.enc, LSib.cells, HY1.out.2.1]; rfl)
      simp only [show Dat.k LSib = 3 from rfl] at c1
      have f1 : Fr lo w1 (Loc.fp (⟨some ⟨a, ao, none⟩, xc, ys.set j y1⟩ : Loc LSib)) := by have h1 : Loc.fp (⟨some ⟨a, ao, none⟩, xc, ys.set j y1⟩ : Loc LSib) = _ := HE1.out; rw [h1, ← HFP.out]; exact P2.out
      have z1 := fr_frozen (x := (⟨some ⟨a, ao, none⟩, xc, ys.set j y1⟩ : Loc LSib)) f1 rfl hi1 (ao + j * 3 + 1)
      have hst := Loc.At.store P1.out f1 rfl hi1 (⟨y1.vv, ((kj : Int) + n) % 3 == 0, y1.text⟩ : LSib) (.bool (((kj : Int) + n) % 3 == 0)) (by decide : 1 < Dat.k LSib) (by rw [show (ys.set j y1)[j] = y1 from HG1.out]; rfl) (by rw [show (ys.set j y1)[j] = y1 from HG1.out]; rfl) (by
        have := P1.out.elem (List.getElem_mem hi1)
        rw [show (ys.set j y1)[j] = y1 from HG1.out] at this; exact this)
      rw [List.set_set] at hst
      simp only [show Dat.k LSib = 3 from rfl] at hst
      obtain ⟨q1, q2, q3⟩ := hst
      have Q1 := Lib.hid q1
      have Q2 := Lib.hid q2
      have Q3 := Lib.hid q3
      clear q1 q2 q3
      have hm := markText_any (kj + n + 1) (w1.setCell ⟨a, ao + j * 3 + 1, none⟩ (.bool (((kj : Int) + n) % 3 == 0))) (by omega) (by omega)
      have ecast : ((kj + n + 1 : Nat) : Int) = (kj : Int) + n + 1 := by omega
      rw [ecast] at hm
      have HM := Lib.hid hm
      clear hm ecast
      go_wp2_with fail
      refine HM.out.mono ?_
      rintro e w3 ⟨rfl, hmt, hb3⟩
      have HMT := Lib.hid hmt
      have HB3 := Lib.hid hb3
      clear hmt hb3 c1 z1 HM
      have R1 := Lib.hid (Loc.At.belowAll Q1.out HB3.out)
      have R2 := Lib.hid (Q2.out.belowAll HB3.out)
      simp only [Loc.re] at R1
      generalize hy2 : (⟨y1.vv, ((kj : Int) + n) % 3 == 0, y1.text⟩ : LSib) = y2 at *
      have hy2e : y2.vv = y1.vv ∧ y2.gone = (((kj : Int) + n) % 3 == 0) ∧ y2.text = y1.text ∧ Dat.fp y2 = Dat.fp ys[j] := by
        subst hy2; exact ⟨rfl, rfl, rfl, HY1.out.2.2.2.1⟩
      have HY2 := Lib.hid hy2e
      clear hy2 hy2e
      have HM2 : Hid ((ys.set j y2).map Dat.fp = xs.map Dat.fp) := Lib.hid ((map_set_fp hlt2 HY2.out.2.2.2).trans HYF.out)
      have HE2 := Lib.hid (Loc.re_fp ⟨some ⟨a, ao, none⟩, xc, xs⟩ (ys.set j y2) HM2.out)
      have hi2 : j < (ys.set j y2).length := by simpa using hlt2
      have HG2 : Hid ((ys.set j y2)[j] = y2) := Lib.hid (by simp)
      have c2 := R1.out.cellK (b := a) (o := ao) rfl hi2 (j := 2) (v := .string y1.text) (by rw [show (ys.set j y2)[j] = y2 from HG2.out]; simp only [Dat.enc, LSib.cells, HY2.out.2.2.1]; rfl)
      simp only [show Dat.k LSib = 3 from rfl] at c2
      have f2 : Fr lo w3 (Loc.fp (⟨some ⟨a, ao, none⟩, xc, ys.set j y2⟩ : Loc LSib)) := by
        have h1 : Loc.fp (⟨some ⟨a, ao, none⟩, xc, ys.set j y2⟩ : Loc LSib) = _ := HE2.out
        have h2 : Loc.fp (⟨some ⟨a, ao, none⟩, xc, ys.set j y1⟩ : Loc LSib) = _ := HE1.out
        rw [h1, ← h2]; exact R2.out
      have z2 := fr_frozen (x := (⟨some ⟨a, ao, none⟩, xc, ys.set j y2⟩ : Loc LSib)) f2 rfl hi2 (ao + j * 3 + 2)
      have hst := Loc.At.store R1.out f2 rfl hi2 (⟨y2.vv, y2.gone, markT (kj + n + 1)⟩ : LSib) (.string (markT (kj + n + 1))) (by decide : 2 < Dat.k LSib) (by rw [show (ys.set j y2)[j] = y2 from HG2.out]; rfl) (by rw [show (ys.set j y2)[j] = y2 from HG2.out]; rfl) (by
        have := R1.out.elem (List.getElem_mem hi2)
        rw [show (ys.set j y2)[j] = y2 from HG2.out] at this; exact ⟨this.1, HMT.out⟩)
      rw [List.set_set] at hst
      simp only [show Dat.k LSib = 3 from rfl] at hst
      have HST := Lib.hid hst
      clear hst
      have HF2 := Lib.hid f2
      have HF1 := Lib.hid f1
      clear f2 f1
      go_wp2_with fail
      go_roundw
      case rel =>
        obtain ⟨s1, s2, s3⟩ := HST.out
        have hfp0 : Loc.fp (⟨some ⟨a, ao, none⟩, xc, xs⟩ : Loc LSib) = Loc.fp (⟨some ⟨a, ao, none⟩, xc, ys⟩ : Loc LSib) := HFP.out.symm
        have hfp1 : Loc.fp (⟨some ⟨a, ao, none⟩, xc, ys.set j y1⟩ : Loc LSib) = Loc.fp (⟨some ⟨a, ao, none⟩, xc, xs⟩ : Loc LSib) := HE1.out
        have hfp2 : Loc.fp (⟨some ⟨a, ao, none⟩, xc, ys.set j y2⟩ : Loc LSib) = Loc.fp (⟨some ⟨a, ao, none⟩, xc, xs⟩ : Loc LSib) := HE2.out
        have hlL2 := lenS_take hlL
        have hln : L[j].vv.length = n := by rw [← HEJ.out]; exact HNN.out
        refine ⟨j + 1, kj + n + 2, _, by omega, by go_num, by go_num, ?_, ?_, ?_, s1, by rw [← hfp2]; exact s2, ?_⟩
        · rw [hlL2, hln, HKJ.out]; omega
        · exact (map_set_fp hlt2 (y := (⟨y2.vv, y2.gone, markT (kj + n + 1)⟩ : LSib)) HY2.out.2.2.2).trans HYF.out
        · rw [List.map_set, HY.out, List.drop_eq_getElem_cons hlL, set_mid (by rw [markS_len, List.length_take]; omega), markS_take hlL, List.append_assoc, List.singleton_append]
          congr 2
          have e1 := HKJ.out
          simp only [LSib.er, HY2.out.1, HY1.out.2.2.2.2, HY2.out.2.1, VS.out, hln, ← e1]
          congr 1
        · refine ((HT.out.trans (by rw [hfp0]; exact P3.out)).trans (by rw [← hfp1]; exact Q3.out)).trans ((Touch.of_below _ HB3.out).trans (by rw [← hfp2]; exact s3))
      case measure => simp [intOf]; omega
    · have hjj : j = xs.length := by omega
      subst hjj
      go_wp2_with fail
      go_ret
      have e1 : L.take xs.length = L := List.take_of_length_le (by rw [HLL.out]; exact Nat.le_refl _)
      have e2 : L.drop xs.length = [] := List.drop_of_length_le (by rw [HLL.out]; exact Nat.le_refl _)
      refine ⟨ys, ret_int (by have := HKJ.out; rw [e1] at this; rw [this]), by have := HY.out; rwa [e1, e2, List.append_nil] at this, HYF.out, HA.out, by rw [← HFP.out]; exact HFR.out, HT.out⟩
end Go.Proofs.YtpgdelfdaalhbaaDoor
