/- The laws' marks on records: what they write, and that it is found again. -/
import Derived.Test.YtcfbppdfiehlnaaTouch2
import Derived.Test.YtcfbppdfiehlnaaMarks
namespace Go.Proofs.Ytcfbppdfiehlnaa
open Go Go.RowKit

/-- Records marked, from k on. -/
def markR (k : Nat) : List Rec → List Rec
  | [] => []
  | r :: l => ⟨(k : Int), markT (k + 1), markS (k + 2) r.sibs, ((k + 2 + lenS r.sibs : Nat) : Int), ((k + 3 + lenS r.sibs : Nat) : Int)⟩ :: markR (k + 4 + lenS r.sibs) l
def lenR : List Rec → Nat
  | [] => 0
  | r :: l => 4 + lenS r.sibs + lenR l
theorem lenR_append (a b : List Rec) : lenR (a ++ b) = lenR a + lenR b := by
  induction a with
  | nil => simp [lenR]
  | cons s a ih => simp only [List.cons_append, lenR, ih]; omega
theorem markR_append (a b : List Rec) : ∀ k, markR k (a ++ b) = markR k a ++ markR (k + lenR a) b := by
  induction a with
  | nil => intro k; simp [markR, lenR]
  | cons s a ih => intro k; simp only [List.cons_append, markR, ih, lenR]; rw [show k + 4 + lenS s.sibs + lenR a = k + (4 + lenS s.sibs + lenR a) by omega]
theorem markR_len (l : List Rec) : ∀ k, (markR k l).length = l.length := by
  induction l with
  | nil => intro k; rfl
  | cons s l ih => intro k; simp [markR, ih]
theorem lenR_take {l : List Rec} {i : Nat} (h : i < l.length) : lenR (l.take (i + 1)) = lenR (l.take i) + 4 + lenS l[i].sibs := by
  rw [List.take_succ_eq_append_getElem h, lenR_append]; simp [lenR]; omega
theorem lenR_take_le (l : List Rec) (i : Nat) : lenR (l.take i) ≤ lenR l := by
  have := lenR_append (l.take i) (l.drop i)
  rw [List.take_append_drop] at this; omega
theorem markR_take {l : List Rec} {i k : Nat} (h : i < l.length) : markR k (l.take (i + 1)) = markR k (l.take i) ++ [⟨((k + lenR (l.take i) : Nat) : Int), markT (k + lenR (l.take i) + 1), markS (k + lenR (l.take i) + 2) l[i].sibs, ((k + lenR (l.take i) + 2 + lenS l[i].sibs : Nat) : Int), ((k + lenR (l.take i) + 3 + lenS l[i].sibs : Nat) : Int)⟩] := by
  rw [List.take_succ_eq_append_getElem h, markR_append]; rfl
theorem markR_get {l : List Rec} {i k : Nat} (h : i < l.length) : (markR k l)[i]'(by rw [markR_len]; exact h) = ⟨((k + lenR (l.take i) : Nat) : Int), markT (k + lenR (l.take i) + 1), markS (k + lenR (l.take i) + 2) l[i].sibs, ((k + lenR (l.take i) + 2 + lenS l[i].sibs : Nat) : Int), ((k + lenR (l.take i) + 3 + lenS l[i].sibs : Nat) : Int)⟩ := by
  have e : markR k l = markR k (l.take i) ++ markR (k + lenR (l.take i)) (l.drop i) := by rw [← markR_append, List.take_append_drop]
  have hl : (markR k (l.take i)).length = i := by rw [markR_len, List.length_take]; omega
  have e2 : (markR k l)[i]? = (markR (k + lenR (l.take i)) (l.drop i))[0]? := by rw [e, List.getElem?_append_right (by omega), hl, Nat.sub_self]
  rw [List.drop_eq_getElem_cons h] at e2
  have := List.getElem?_eq_getElem (l := markR k l) (i := i) (by rw [markR_len]; exact h)
  rw [e2] at this
  simp only [markR, List.getElem?_cons_zero, Option.some.injEq] at this
  exact this.symm

set_option maxRecDepth 100000 in
set_option maxHeartbeats 2000000 in
theorem markRecS_any (x : Loc LRec) (k lo : Nat) (w : World) (hx : x.At w) (hf : Fr lo w x.fp) (hk0 : 1 ≤ k) (hk : k + lenR (x.xs.map LRec.er) ≤ 1099511627776) :
    Calls Try.prog 34 #[x.val, .int .i64 k] w (MarkPost lo x ((k + lenR (x.xs.map LRec.er) : Nat) : Int) (fun ys => ys.map LRec.er = markR k (x.xs.map LRec.er)) w) := by
  obtain ⟨xa, xc, xs⟩ := x
  simp only [Loc.val]
  have h1 := hx.lenMax
  simp only at hk h1
  have HX := Lib.hid hx
  have HF := Lib.hid hf
  have HK := Lib.hid hk
  clear hx hf hk
  generalize hL : xs.map LRec.er = L at *
  have HLL : Hid (L.length = xs.length) := Lib.hid (by rw [← hL]; simp)
  have HLE := Lib.hid hL
  clear hL
  go_enter Try.func34, Try.ntmps34
  go_wp2_with fail
  go_loopw [1, 5] (fun c i wr => ∃ (j kj : Nat) (ys : List LRec), j ≤ xs.length ∧ i = .int .i64 j ∧ c = .int .i64 kj ∧ kj = k + lenR (L.take j) ∧ ys.map Dat.fp = xs.map Dat.fp ∧ ys.map LRec.er = markR k (L.take j) ++ L.drop j ∧ (⟨xa, xc, ys⟩ : Loc LRec).At wr ∧ Fr lo wr (Loc.fp ⟨xa, xc, xs⟩) ∧ Touch (Loc.fp ⟨xa, xc, xs⟩) w wr) (fun _ i _ => xs.length - (intOf i).toNat)
  case atStart => exact ⟨0, k, xs, Nat.zero_le _, rfl, rfl, rfl, rfl, by simpa [markR] using HLE.out, HX.out, HF.out, Touch.refl _ _⟩
  case round =>
    obtain ⟨j, kj, ys, hj, rfl, rfl, hkj, hyf, hy, hA, hFr, hT⟩ := hrel
    have HKJ := Lib.hid hkj
    have HY := Lib.hid hy
    have HT := Lib.hid hT
    have HYF := Lib.hid hyf
    have HA := Lib.hid hA
    have HFR := Lib.hid hFr
    have HL : Hid (ys.length = xs.length) := Lib.hid (by have := congrArg List.length hyf; simpa using this)
    have hkb : kj ≤ 1099511627776 := by have := HK.out; have := lenR_take_le L j; omega
    have hkp : 1 ≤ kj := by omega
    clear hy hA hFr hT hyf hkj
    by_cases hlt : j < xs.length
    · have hlt2 : j < ys.length := by have := HL.out; omega
      have hlL : j < L.length := by have := HLL.out; omega
      have hej : ys[j].er = L[j] := by
        have h := congrArg (fun l => l[j]?) HY.out
        simp only [List.getElem?_map, List.getElem?_eq_getElem hlt2, Option.map_some] at h
        rw [List.getElem?_append_right (by rw [markR_len, List.length_take]; omega), markR_len, List.length_take_of_le (by omega), Nat.sub_self, List.drop_eq_getElem_cons hlL] at h
        rw [List.getElem?_cons_zero] at h
        exact Option.some.inj h
      have HSIB := Lib.hid (show ys[j].sibs.xs.map LSib.er = L[j].sibs from congrArg Rec.sibs hej)
      have hn : kj + (4 + lenS L[j].sibs) ≤ 1099511627776 := by
        have h2 := lenR_take hlL
        have h3 := lenR_take_le L (j + 1)
        have h4 := HK.out
        have h6 := HKJ.out
        omega
      generalize hnn : lenS L[j].sibs = n at *
      have HNN := Lib.hid hnn
      obtain ⟨a, ao, ha⟩ := HA.out.place hlt2
      simp only at ha
      subst ha
      have E0 := Lib.hid (EW.start (x := (⟨some ⟨a, ao, none⟩, xc, xs⟩ : Loc LRec)) hlt2 HA.out HFR.out HYF.out)
      generalize hye : ys[j] = y at *
      obtain ⟨yk, yn, ⟨sa, sc, ss⟩, ym, yq⟩ := y
      clear hej hnn
      -- the kind
      have c0 := E0.out.cell (g := a) (o := ao) rfl (j := 0) (v := .int .i64 yk) rfl
      have z0 := E0.out.frozen (g := a) (o := ao) rfl (ao + j * 5)
      have e1 := E0.out.store (g := a) (o := ao) rfl (⟨(kj : Int), yn, ⟨sa, sc, ss⟩, ym, yq⟩ : LRec) 0 (.int .i64 (kj : Int)) (by decide) rfl rfl E0.out.elem
      simp only [show Dat.k LRec = 5 from rfl, Nat.add_zero] at c0 e1
      have E1 := Lib.hid e1.1
      have T1 := Lib.hid e1.2
      have hm := markText_any (kj + 1) (wr.setCell ⟨a, ao + j * 5, none⟩ (.int .i64 (kj : Int))) (by omega) (by omega)
      rw [show ((kj + 1 : Nat) : Int) = (kj : Int) + 1 from by omega] at hm
      have HM := Lib.hid hm
      clear hm e1
      go_wp2_with fail
      refine HM.out.mono ?_
      rintro e w1 ⟨rfl, hmt, hb1⟩
      have HMT := Lib.hid hmt
      have E2 := Lib.hid (E1.out.later hb1)
      have T2 := Lib.hid (T1.out.trans (Touch.of_below _ hb1))
      clear hmt hb1 c0 z0 HM E0 E1 T1
      -- the name
      have c1 := E2.out.cell (g := a) (o := ao) rfl (j := 1) (v := .string yn) rfl
      have c2 := E2.out.cell (g := a) (o := ao) rfl (j := 2) (v := .slice sa ss.length sc) rfl
      have z1 := E2.out.frozen (g := a) (o := ao) rfl (ao + j * 5 + 1)
      have e3 := E2.out.store (g := a) (o := ao) rfl (⟨(kj : Int), markT (kj + 1), ⟨sa, sc, ss⟩, ym, yq⟩ : LRec) 1 (.string (markT (kj + 1))) (by decide) rfl rfl ⟨E2.out.elem.1, HMT.out⟩
      simp only [show Dat.k LRec = 5 from rfl] at c1 c2 e3
      have E3 := Lib.hid e3.1
      have T3 := Lib.hid (T2.out.trans e3.2)
      have hs := markSibS_any ⟨sa, sc, ss⟩ (kj + 2) lo (w1.setCell ⟨a, ao + j * 5 + 1, none⟩ (.string (markT (kj + 1)))) E3.out.elem.1 E3.out.frE (by omega) (by rw [show (⟨sa, sc, ss⟩ : Loc LSib).xs.map LSib.er = L[j].sibs from HSIB.out, HNN.out]; omega)
      rw [show (⟨sa, sc, ss⟩ : Loc LSib).xs.map LSib.er = L[j].sibs from HSIB.out, HNN.out, show ((kj + 2 : Nat) : Int) = (kj : Int) + 1 + 1 from by omega] at hs
      have HSC := Lib.hid hs
      clear hs e3 E2 T2
      go_wp2_with fail
      refine HSC.out.mono ?_
      rintro e w2 ⟨vs, rfl, hvs, hvf, hA2, hF2, hT2⟩
      have HVS := Lib.hid hvs
      have hvl : vs.length = ss.length := by have := congrArg List.length hvf; simpa using this
      have e4 := E3.out.inner (⟨(kj : Int), markT (kj + 1), ⟨sa, sc, vs⟩, ym, yq⟩ : LRec) hT2 (by simp only [Dat.enc, LRec.cells, Loc.val, hvl]) (Loc.re_fp ⟨sa, sc, ss⟩ vs hvf) ⟨hA2, HMT.out⟩ hF2
      have E4 := Lib.hid e4.1
      have T4 := Lib.hid (T3.out.trans e4.2)
      clear e4 hvs hvf hA2 hF2 hT2 c1 c2 z1 HSC E3 T3 hvl
      -- the number
      have c3 := E4.out.cell (g := a) (o := ao) rfl (j := 3) (v := .int .i64 ym) rfl
      have z3 := E4.out.frozen (g := a) (o := ao) rfl (ao + j * 5 + 3)
      have e5 := E4.out.store (g := a) (o := ao) rfl (⟨(kj : Int), markT (kj + 1), ⟨sa, sc, vs⟩, ((kj + 2 + n : Nat) : Int), yq⟩ : LRec) 3 (.int .i64 ((kj + 2 + n : Nat) : Int)) (by decide) rfl rfl E4.out.elem
      simp only [show Dat.k LRec = 5 from rfl] at c3 e5
      have E5 := Lib.hid e5.1
      have T5 := Lib.hid (T4.out.trans e5.2)
      clear e5
      -- the sum
      have c4 := E5.out.cell (g := a) (o := ao) rfl (j := 4) (v := .int .i64 yq) rfl
      have z4 := E5.out.frozen (g := a) (o := ao) rfl (ao + j * 5 + 4)
      have e6 := E5.out.store (g := a) (o := ao) rfl (⟨(kj : Int), markT (kj + 1), ⟨sa, sc, vs⟩, ((kj + 2 + n : Nat) : Int), ((kj + 3 + n : Nat) : Int)⟩ : LRec) 4 (.int .i64 ((kj + 3 + n : Nat) : Int)) (by decide) rfl rfl E5.out.elem
      simp only [show Dat.k LRec = 5 from rfl] at c4 e6
      have c4' := E4.out.cell (g := a) (o := ao) rfl (j := 4) (v := .int .i64 yq) rfl
      simp only [show Dat.k LRec = 5 from rfl] at c4'
      have z4' := E4.out.frozen (g := a) (o := ao) rfl (ao + j * 5 + 4)
      have E6 := Lib.hid e6.1
      have T6 := Lib.hid (T5.out.trans e6.2)
      clear e6 c4 z4 E4 T4 E5 T5
      rw [show ((kj + 3 + n : Nat) : Int) = ((kj + 2 + n : Nat) : Int) + 1 from by omega] at E6 T6
      generalize hq : kj + 2 + n = q at *
      have HQ := Lib.hid hq
      have hqb : q ≤ 1099511627776 := by omega
      clear hq
      go_wp2_with fail
      go_roundw
      case rel =>
        have hlL2 := lenR_take hlL
        refine ⟨j + 1, kj + 4 + n, _, by omega, by go_num, ?_, ?_, E6.out.fpEq, ?_, E6.out.at_, E6.out.fr, HT.out.trans T6.out⟩
        · have := HQ.out
          rw [show ((kj + 4 + n : Nat) : Int) = (q : Int) + 1 + 1 from by omega]
        · rw [hlL2, HNN.out, HKJ.out]; omega
        · rw [List.map_set, HY.out, List.drop_eq_getElem_cons hlL, set_mid (by rw [markR_len, List.length_take]; omega), markR_take hlL, List.append_assoc, List.singleton_append]
          congr 2
          have f1 := HKJ.out
          have f2 : vs.map LSib.er = markS (kj + 2) L[j].sibs := HVS.out
          have f3 := HQ.out
          simp only [LRec.er, f2, ← f1, HNN.out]
          congr 1
          · omega
          · omega
      case measure => simp [intOf]; omega
    · have hjj : j = xs.length := by omega
      subst hjj
      go_wp2_with fail
      go_ret
      have e1 : L.take xs.length = L := List.take_of_length_le (by rw [HLL.out]; exact Nat.le_refl _)
      have e2 : L.drop xs.length = [] := List.drop_of_length_le (by rw [HLL.out]; exact Nat.le_refl _)
      refine ⟨ys, ret_int (by have := HKJ.out; rw [e1] at this; rw [this]), by have := HY.out; rwa [e1, e2, List.append_nil] at this, HYF.out, HA.out, HFR.out, HT.out⟩
end Go.Proofs.Ytcfbppdfiehlnaa
