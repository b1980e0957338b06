/- The walk of FnExactTreeAt over located arguments. -/
import Derived.Test.YtjlaaoecockfjaaDoorAt
import Derived.Test.YtjlaaoecockfjaaDoorMerge
import Derived.Test.YtjlaaoecockfjaaDoorMark3
import Derived.Test.YtjlaaoecockfjaaDoorOkLaws
namespace Go.Proofs.YtjlaaoecockfjaaDoor
open Go Go.RowKit

theorem mergeL_id {l : List Sib} (h : l = [] ∨ SibsOK l) : mergeL l [] = l := by
  show keptL l = l
  rcases h with rfl | h
  · rfl
  · unfold keptL
    rw [List.filter_eq_self]
    intro s hs
    rw [Bool.not_eq_true', List.any_eq_false]
    intro t ht
    simp [h.free s hs t ht]

theorem atL_ok {t : List File} (h : TreeOK t) (n : ByteArray) : atL n t = [] ∨ SibsOK (atL n t) := by
  have key : ∀ l : List File, (∀ f ∈ l, SibsOK f.sibs) → atL n l = [] ∨ SibsOK (atL n l) := by
    intro l
    induction l with
    | nil => intro _; exact .inl rfl
    | cons f l ih =>
      intro hl
      unfold atL
      split
      · exact .inr (hl f List.mem_cons_self)
      · exact ih fun g hg => hl g (List.mem_cons_of_mem _ hg)
  refine key t fun f hf => ?_
  obtain ⟨i, hi, rfl⟩ := List.getElem_of_mem hf
  exact h.sibs i hi

theorem sibsOk_len3 {l : List LSib} (h : l.map LSib.er = [] ∨ SibsOK (l.map LSib.er)) : (∀ s ∈ l, s.vv.xs.length = 3) ∧ l.length ≤ 12 := by
  rcases h with h | h
  · have : l = [] := by simpa using h
    subst this
    exact ⟨fun s hs => (by cases hs), Nat.zero_le _⟩
  · refine ⟨fun s hs => ?_, by have := h.few; simpa using this⟩
    obtain ⟨i, hi, rfl⟩ := List.getElem_of_mem hs
    have := h.each i (by simpa using hi)
    rw [List.getElem_map] at this
    exact sibB_len this

set_option maxRecDepth 100000 in
theorem l3Sibs_any (x : Loc LSib) (w : World) (hx : x.At w) (hk : x.xs.map LSib.er = [] ∨ SibsOK (x.xs.map LSib.er)) :
    Calls Tryd.prog 64 #[x.val] w (NewPost w (fun ys : List LSib => ys.map LSib.er = x.xs.map LSib.er)) := by
  obtain ⟨h3, h12⟩ := sibsOk_len3 hk
  have hG := Grows.start (α := LSib) w 88
  have hc := Lib.hid (l2Merge_any x ⟨some ⟨w.heap.size, 0, none⟩, 0, []⟩ _ (hx.belowAll hG.bel) hG.done.1 (by omega) (by simp) h3 (by simp))
  have HB := Lib.hid hG.bel
  have HK := Lib.hid hk
  clear hG hx h3 h12 hk
  go_enter Tryd.func64, Tryd.ntmps64
  go_wp2_with fail
  refine hc.out.mono ?_
  rintro e w' ⟨y, rfl, hy, hyA, hyF, hb⟩
  have HY := Lib.hid hy
  have HA := Lib.hid hyA
  have HF := Lib.hid hyF
  have HB2 := Lib.hid hb
  clear hy hyA hyF hb
  go_wp2_with fail
  go_ret
  exact ⟨y, rfl, (by have h : y.xs.map LSib.er = mergeL (x.xs.map LSib.er) ([] : List Sib) := HY.out; exact h.trans (mergeL_id HK.out)), HA.out, HF.out.mono HB.out.size, HB.out.trans (HB2.out.mono HB.out.size)⟩

/-- What both TreeAts answer. -/
noncomputable def atZ (n : ByteArray) (t : List File) : List Sib := if treeB t = true then atL n t else []
theorem atZ_ok (n : ByteArray) (t : List File) : atZ n t = [] ∨ SibsOK (atZ n t) := by
  unfold atZ
  split
  · exact atL_ok (TreeOK.of ‹_›) n
  · exact .inl rfl

set_option maxRecDepth 100000 in
theorem iTreeAt_any (x : Loc LFile) (n : ByteArray) (w : World) (hx : x.At w) :
    Calls Tryd.prog 29 #[x.val, .string n] w (NewPost w (fun ys : List LSib => ys.map LSib.er = atZ n (x.xs.map LFile.er))) := by
  have hc := Lib.hid (isTree_any x w hx)
  generalize hb : treeB (x.xs.map LFile.er) = b at hc
  have HB := Lib.hid hb
  have HX := Lib.hid hx
  clear hb hx
  go_enter Tryd.func29, Tryd.ntmps29
  go_wp2_with fail
  refine hc.out.mono ?_
  rintro e w1 ⟨rfl, hb1⟩
  have HB1 := Lib.hid hb1
  clear hb1
  cases b with
  | false =>
    go_wp2_with fail
    go_ret
    exact ⟨⟨none, 0, []⟩, rfl, by simp [atZ, HB.out], ⟨Nat.le_refl _, Nat.zero_le _, by simp, by simp, by simp⟩, by simpa [Loc.fp, Loc.blk] using Fr.nil _ _, HB1.out⟩
  | true =>
    have hX1 := Loc.At.belowAll HX.out HB1.out
    have HX1 := Lib.hid hX1
    clear hX1
    go_wp2_with fail
    refine (treeAt_any x n w1 HX1.out).mono ?_
    rintro e w2 ⟨rfl, hb2⟩
    have HB2 := Lib.hid (nextB HB1.out hb2)
    have HA2 := Lib.hid (atLoc_At n x.xs fun f hf => Dat.belowAll (HX1.out.elem hf) hb2)
    have hok := Lib.hid (sibsOk_len3 (l := (atLoc n x.xs).xs) (by rw [atLoc_er]; exact atL_ok (TreeOK.of HB.out) n))
    have HE := Lib.hid (atLoc_er n x.xs)
    generalize atLoc n x.xs = y at *
    clear hb2
    go_wp2_with fail
    refine (copySibs_any y w2 HA2.out (by have := hok.out.2; omega) (fun s hs => by have := hok.out.1 s hs; omega)).mono ?_
    rintro e w3 ⟨z, rfl, hz, hzA, hzF, hb3⟩
    have HZ := Lib.hid hz
    have HZA := Lib.hid hzA
    have HZF := Lib.hid hzF
    have HB3 := Lib.hid hb3
    clear hz hzA hzF hb3
    go_wp2_with fail
    go_ret
    refine ⟨z, rfl, ?_, HZA.out, HZF.out.mono HB2.out.size, nextB HB2.out HB3.out⟩
    have := HZ.out
    show z.xs.map LSib.er = atZ n (x.xs.map LFile.er)
    rw [this, HE.out, atZ, if_pos HB.out]

set_option maxRecDepth 100000 in
theorem sTreeAt_any (x : Loc LFile) (n : ByteArray) (w : World) (hx : x.At w) :
    Calls Tryd.prog 31 #[x.val, .string n] w (NewPost w (fun ys : List LSib => ys.map LSib.er = atZ n (x.xs.map LFile.er))) := by
  have hc := Lib.hid (sTreeOk_any x w hx)
  generalize hb : treeB (x.xs.map LFile.er) = b at hc
  have HB := Lib.hid hb
  have HX := Lib.hid hx
  clear hb hx
  go_enter Tryd.func31, Tryd.ntmps31
  go_wp2_with fail
  refine hc.out.mono ?_
  rintro e w1 ⟨rfl, hb1⟩
  have HB1 := Lib.hid hb1
  clear hb1
  cases b with
  | false =>
    have HG := Lib.hid (Grows.start (α := LSib) w1 88)
    go_wp2_with fail
    go_ret
    exact ⟨⟨some ⟨w1.heap.size, 0, none⟩, 0, []⟩, rfl, by simp [atZ, HB.out], HG.out.done.1, HG.out.done.2.mono HB1.out.size, nextB HB1.out HG.out.bel⟩
  | true =>
    have hX1 := Loc.At.belowAll HX.out HB1.out
    have HX1 := Lib.hid hX1
    clear hX1
    go_wp2_with fail
    refine (sl3At_any x n w1 HX1.out).mono ?_
    rintro e w2 ⟨y, rfl, hyx, hyA, hb2⟩
    have HB2 := Lib.hid (nextB HB1.out hb2)
    have HE := Lib.hid (show y.xs.map LSib.er = atL n (x.xs.map LFile.er) by rw [hyx, atLoc_er])
    have HYA := Lib.hid hyA
    have hok := Lib.hid (show y.xs.map LSib.er = [] ∨ SibsOK (y.xs.map LSib.er) by rw [HE.out]; exact atL_ok (TreeOK.of HB.out) n)
    clear hb2 hyx hyA
    go_wp2_with fail
    refine (l3Sibs_any y w2 HYA.out hok.out).mono ?_
    rintro e w3 ⟨z, rfl, hz, hzA, hzF, hb3⟩
    have HZ := Lib.hid hz
    have HZA := Lib.hid hzA
    have HZF := Lib.hid hzF
    have HB3 := Lib.hid hb3
    clear hz hzA hzF hb3
    go_wp2_with fail
    go_ret
    refine ⟨z, rfl, ?_, HZA.out, HZF.out.mono HB2.out.size, nextB HB2.out HB3.out⟩
    have := HZ.out
    show z.xs.map LSib.er = atZ n (x.xs.map LFile.er)
    rw [this, HE.out, atZ, if_pos HB.out]

theorem lenS_le : ∀ l : List LSib, lenS (l.map LSib.er) ≤ 2 * bulkSibs l
  | [] => Nat.le_refl _
  | s :: r => by
    have h := lenS_le r
    simp only [List.map_cons, lenS, bulkSibs, List.length_cons, List.sum_cons, bulkSib] at h ⊢
    have : s.er.vv.length = s.vv.xs.length := rfl
    omega
theorem lenF_le : ∀ l : List LFile, lenF (l.map LFile.er) ≤ 2 * bulkFiles l
  | [] => Nat.le_refl _
  | f :: r => by
    have h := lenF_le r
    have h2 := lenS_le f.sibs.xs
    simp only [List.map_cons, lenF, bulkFiles, List.length_cons, List.sum_cons, bulkFile] at h ⊢
    have : f.er.sibs = f.sibs.xs.map LSib.er := rfl
    rw [this]
    omega
theorem lenS_ok {l : List Sib} (h : l = [] ∨ SibsOK l) : lenS l ≤ 60 := by
  rcases h with rfl | h
  · exact Nat.zero_le _
  · have key : ∀ (l : List Sib), (∀ s ∈ l, s.vv.length = 3) → lenS l = 5 * l.length := by
      intro l
      induction l with
      | nil => intro _; rfl
      | cons s l ih => intro hl; rw [lenS, ih fun t ht => hl t (List.mem_cons_of_mem _ ht), hl s List.mem_cons_self, List.length_cons]; omega
    rw [key l fun s hs => by obtain ⟨i, hi, rfl⟩ := List.getElem_of_mem hs; exact sibB_len (h.each i hi)]
    have := h.few
    omega

set_option maxRecDepth 100000 in
set_option maxHeartbeats 1000000 in
theorem exactTreeAt_walk (x : Loc LFile) (n : ByteArray) (w : World) (hx : x.At w) (hn0 : n.size ≤ 9223372036854775807) :
    Calls Tryd.prog 12 #[x.val, .string n] w fun e w' => e = .returned (.bool true) ∧ Below w.heap.size w w' := by
  generalize hb : atZ n (x.xs.map LFile.er) = Z
  have HX0 := Lib.hid hx
  have HZ := Lib.hid hb
  have LX0 := Lib.hid (Loc.lt_of_At hx)
  have HZO := Lib.hid (show Z = [] ∨ SibsOK Z by rw [← hb]; exact atZ_ok n _)
  clear hx hb
  by_cases hbig : (1048576 : Int) < (n.size : Int)
  · go_enter Tryd.func12, Tryd.ntmps12
    go_wp2_with fail
    go_ret
    exact ⟨rfl, Below.refl _ _⟩
  · go_enter Tryd.func12, Tryd.ntmps12
    go_wp2_with fail
    refine (szFileS_any x 1048576 w HX0.out (by decide)).mono ?_
    rintro e w1 ⟨⟨r, rfl, hr⟩, b1⟩
    have B1 := Lib.hid b1
    have HX1 := Lib.hid (Loc.At.belowAll HX0.out b1)
    have HR := Lib.hid hr
    clear hr b1 HX0
    by_cases hr0 : r < 0
    · go_wp2_with fail
      go_ret
      exact ⟨rfl, B1.out⟩
    · have HN : Hid (bulkFiles x.xs ≤ 1048576) := Lib.hid (by rcases HR.out with h | h <;> omega)
      go_wp2_with fail
      refine (toFileS_any x w1 HX1.out HN.out).mono ?_
      rintro e w2 ⟨y, rfl, hy, hyA, -, b2⟩
      have B2 := Lib.hid (nextB B1.out b2)
      have HX2 := Lib.hid (Loc.At.belowAll HX1.out b2)
      have HY := Lib.hid hy
      have HYA := Lib.hid hyA
      clear b2 hy hyA B1 HX1
      go_wp2_with fail
      refine (sTreeAt_any y n w2 HYA.out).mono ?_
      rintro e w3 ⟨v0, rfl, hv0, hvA, -, b3⟩
      have B3 := Lib.hid (nextB B2.out b3)
      have HX3 := Lib.hid (Loc.At.belowAll HX2.out b3)
      have HV := Lib.hid (show v0.xs.map LSib.er = Z by rw [← HZ.out]; exact hv0.trans (congrArg (atZ n) HY.out))
      have HV3 := Lib.hid hvA
      clear b3 hv0 hvA B2 HX2 HYA
      go_wp2_with fail
      refine (toFileS_any x w3 HX3.out HN.out).mono ?_
      rintro e w4 ⟨z, rfl, hz, hzA, hzF, b4⟩
      have B4 := Lib.hid (nextB B3.out b4)
      have HX4 := Lib.hid (Loc.At.belowAll HX3.out b4)
      have HV4 := Lib.hid (Loc.At.belowAll HV3.out b4)
      have HZE := Lib.hid hz
      have HZ4 := Lib.hid hzA
      have FZ4 := Lib.hid hzF
      have LV := Lib.hid (Loc.lt_of_At HV3.out)
      have S3 := Lib.hid B3.out.size
      have S34 := Lib.hid b4.size
      clear b4 hz hzA hzF B3 HX3 HV3
      go_wp2_with fail
      refine (iTreeAt_any z n w4 HZ4.out).mono ?_
      rintro e w5 ⟨g, rfl, hg, hgA, hgF, b5⟩
      have B5 := Lib.hid (nextB B4.out b5)
      have HX5 := Lib.hid (Loc.At.belowAll HX4.out b5)
      have HV5 := Lib.hid (Loc.At.belowAll HV4.out b5)
      have HZ5 := Lib.hid (Loc.At.belowAll HZ4.out b5)
      have FZ5 := Lib.hid (FZ4.out.belowAll b5)
      have HG := Lib.hid (show g.xs.map LSib.er = Z by rw [← HZ.out]; exact hg.trans (congrArg (atZ n) HZE.out))
      have HG5 := Lib.hid hgA
      have FG5 := Lib.hid hgF
      have LZ := Lib.hid FZ4.out.lt
      have S4 := Lib.hid B4.out.size
      clear b5 hg hgA hgF B4 HX4 HV4 HZ4 FZ4
      go_wp2_with fail
      refine (eqSibS_any g v0 w5 HG5.out HV5.out).mono ?_
      rintro e w6 ⟨⟨q, rfl, hq⟩, b6⟩
      obtain rfl : q = true := hq.2 (HG.out.trans HV.out.symm)
      have B6 := Lib.hid (nextB B5.out b6)
      have HX6 := Lib.hid (Loc.At.belowAll HX5.out b6)
      have HV6 := Lib.hid (Loc.At.belowAll HV5.out b6)
      have HZ6 := Lib.hid (Loc.At.belowAll HZ5.out b6)
      have FZ6 := Lib.hid (FZ5.out.belowAll b6)
      have HG6 := Lib.hid (Loc.At.belowAll HG5.out b6)
      have FG6 := Lib.hid (FG5.out.belowAll b6)
      clear b6 hq B5 HX5 HV5 HZ5 FZ5 HG5 FG5
      go_wp2_with fail
      refine (toFileS_any x w6 HX6.out HN.out).mono ?_
      rintro e w7 ⟨t, rfl, ht, htA, -, b7⟩
      have B7 := Lib.hid (nextB B6.out b7)
      have HX7 := Lib.hid (Loc.At.belowAll HX6.out b7)
      have HV7 := Lib.hid (Loc.At.belowAll HV6.out b7)
      have HZ7 := Lib.hid (Loc.At.belowAll HZ6.out b7)
      have FZ7 := Lib.hid (FZ6.out.belowAll b7)
      have HG7 := Lib.hid (Loc.At.belowAll HG6.out b7)
      have FG7 := Lib.hid (FG6.out.belowAll b7)
      have HT := Lib.hid ht
      have HTA := Lib.hid htA
      clear b7 ht htA B6 HX6 HV6 HZ6 FZ6 HG6 FG6
      go_wp2_with fail
      refine (eqFileS_any z t w7 HZ7.out HTA.out).mono ?_
      rintro e w8 ⟨⟨q, rfl, hq⟩, b8⟩
      obtain rfl : q = true := hq.2 (HZE.out.trans HT.out.symm)
      have B8 := Lib.hid (nextB B7.out b8)
      have HX8 := Lib.hid (Loc.At.belowAll HX7.out b8)
      have HV8 := Lib.hid (Loc.At.belowAll HV7.out b8)
      have HZ8 := Lib.hid (Loc.At.belowAll HZ7.out b8)
      have FZ8 := Lib.hid (FZ7.out.belowAll b8)
      have HG8 := Lib.hid (Loc.At.belowAll HG7.out b8)
      have FG8 := Lib.hid (FG7.out.belowAll b8)
      clear b8 hq B7 HX7 HV7 HZ7 FZ7 HG7 FG7 HT HTA
      have hm0 := markFileS_any z 1 w.heap.size w8 HZ8.out (FZ8.out.mono S3.out) (Nat.le_refl _) (by have h := lenF_le x.xs; have h2 := HN.out; rw [← show z.xs.map LFile.er = x.xs.map LFile.er from HZE.out] at h; omega)
      have HM0 := Lib.hid hm0
      have hmb : 1 + lenF (z.xs.map LFile.er) ≤ 1099511627776 := by have h := lenF_le x.xs; have h2 := HN.out; rw [← show z.xs.map LFile.er = x.xs.map LFile.er from HZE.out] at h; omega
      generalize hke : 1 + lenF (z.xs.map LFile.er) = kk at *
      clear hm0 hke
      go_wp2_with fail
      refine HM0.out.mono ?_
      rintro e w9 ⟨zs, rfl, -, -, -, -, hT⟩
      have B9 := Lib.hid (B8.out.trans (hT.below B8.out.size (fun b hb => by have := FZ8.out.ge b hb; have := S3.out; omega)))
      have HX9 := Lib.hid (hT.keepLoc HX8.out (fun b hb hb2 => by have := LX0.out b hb; have := FZ8.out.ge b hb2; have := S3.out; omega))
      have HV9 := Lib.hid (hT.keepLoc HV8.out (fun b hb hb2 => by have := LV.out b hb; have := FZ8.out.ge b hb2; omega))
      have HG9 := Lib.hid (hT.keepLoc HG8.out (fun b hb hb2 => by have := FG8.out.ge b hb; have := LZ.out b hb2; omega))
      have FG9 := Lib.hid (hT.keepFr FG8.out (fun b hb hb2 => by have := FG8.out.ge b hb; have := LZ.out b hb2; omega))
      clear hT B8 HX8 HV8 HZ8 FZ8 HG8 FG8 HM0
      have hkn : ¬ ((kk : Nat) : Int) < 0 := by omega
      have hkd : decide (((kk : Nat) : Int) < 0) = false := decide_eq_false hkn
      go_wp2_with fail
      refine (eqSibS_any g v0 w9 HG9.out HV9.out).mono ?_
      rintro e w10 ⟨⟨q, rfl, hq⟩, b10⟩
      obtain rfl : q = true := hq.2 (HG.out.trans HV.out.symm)
      have B10 := Lib.hid (nextB B9.out b10)
      have HX10 := Lib.hid (Loc.At.belowAll HX9.out b10)
      have HV10 := Lib.hid (Loc.At.belowAll HV9.out b10)
      have HG10 := Lib.hid (Loc.At.belowAll HG9.out b10)
      have FG10 := Lib.hid (FG9.out.belowAll b10)
      clear b10 hq B9 HX9 HV9 HG9 FG9 hkn hkd hmb
      have hlz := lenS_ok HZO.out
      have hmg := markSibS_any g 1 w.heap.size w10 HG10.out (FG10.out.mono S4.out) (Nat.le_refl _) (by rw [show g.xs.map LSib.er = Z from HG.out]; omega)
      rw [show g.xs.map LSib.er = Z from HG.out] at hmg
      have HMG := Lib.hid hmg
      generalize hme : 1 + lenS Z = mm at *
      have hmm : mm ≤ 100 := by omega
      have HME := Lib.hid hme
      clear hmg hlz hme
      go_wp2_with fail
      refine HMG.out.mono ?_
      rintro e w11 ⟨gs, rfl, hgs, hgf, hgA, -, hT⟩
      have B11 := Lib.hid (B10.out.trans (hT.below B10.out.size (fun b hb => by have := FG10.out.ge b hb; have := S4.out; omega)))
      have HX11 := Lib.hid (hT.keepLoc HX10.out (fun b hb hb2 => by have := LX0.out b hb; have := FG10.out.ge b hb2; have := S4.out; omega))
      have HV11 := Lib.hid (hT.keepLoc HV10.out (fun b hb hb2 => by have := LV.out b hb; have := FG10.out.ge b hb2; have := S34.out; omega))
      have HGS := Lib.hid (show (g.re gs).xs.map LSib.er = markS 1 Z from hgs)
      have HGA11 := Lib.hid hgA
      have HVAL : Hid ((g.re gs).val = g.val) := Lib.hid (by
        have := congrArg List.length hgf
        simp only [List.length_map] at this
        simp only [Loc.val, Loc.re, this])
      have HH : Hid (∀ W, (g.re gs).At W → Calls Tryd.prog 43 #[g.val, .int .i64 1] W fun e w' => e = .returned (.int .i64 (mm : Int)) ∧ Below W.heap.size W w') := Lib.hid (fun W hW => by
        have h := heldSibS_any (g.re gs) 1 Z W hW HGS.out (Nat.le_refl _) (by have := HME.out; omega)
        rw [HME.out, show (g.re gs).val = g.val from HVAL.out] at h
        exact h)
      clear hT hgs hgf hgA B10 HX10 HV10 HG10 FG10 HMG
      have hmn : ¬ ((mm : Nat) : Int) < 0 := by omega
      have hmne : (((mm : Nat) : Int) != ((mm : Nat) : Int)) = false := by simp
      go_wp2_with fail
      refine (HH.out w11 HGA11.out).mono ?_
      rintro e w12 ⟨rfl, b12⟩
      have B12 := Lib.hid (nextB B11.out b12)
      have HX12 := Lib.hid (Loc.At.belowAll HX11.out b12)
      have HV12 := Lib.hid (Loc.At.belowAll HV11.out b12)
      have HGA12 := Lib.hid (Loc.At.belowAll HGA11.out b12)
      clear b12 B11 HX11 HV11 HGA11
      go_wp2_with fail
      refine (toFileS_any x w12 HX12.out HN.out).mono ?_
      rintro e w13 ⟨u, rfl, hu, huA, -, b13⟩
      have B13 := Lib.hid (nextB B12.out b13)
      have HV13 := Lib.hid (Loc.At.belowAll HV12.out b13)
      have HGA13 := Lib.hid (Loc.At.belowAll HGA12.out b13)
      have HU := Lib.hid hu
      have HUA := Lib.hid huA
      clear b13 hu huA B12 HX12 HV12 HGA12
      go_wp2_with fail
      refine (iTreeAt_any u n w13 HUA.out).mono ?_
      rintro e w14 ⟨h, rfl, hh, hhA, -, b14⟩
      have B14 := Lib.hid (nextB B13.out b14)
      have HV14 := Lib.hid (Loc.At.belowAll HV13.out b14)
      have HGA14 := Lib.hid (Loc.At.belowAll HGA13.out b14)
      have HHE := Lib.hid (show h.xs.map LSib.er = Z by rw [← HZ.out]; exact hh.trans (congrArg (atZ n) HU.out))
      have HHA := Lib.hid hhA
      clear b14 hh hhA B13 HV13 HGA13
      go_wp2_with fail
      refine (eqSibS_any h v0 w14 HHA.out HV14.out).mono ?_
      rintro e w15 ⟨⟨q, rfl, hq⟩, b15⟩
      obtain rfl : q = true := hq.2 (HHE.out.trans HV.out.symm)
      have B15 := Lib.hid (nextB B14.out b15)
      have HGA15 := Lib.hid (Loc.At.belowAll HGA14.out b15)
      clear b15 hq B14 HV14 HGA14
      go_wp2_with fail
      refine (HH.out w15 HGA15.out).mono ?_
      rintro e w16 ⟨rfl, b16⟩
      have B16 := Lib.hid (nextB B15.out b16)
      clear b16 B15 HGA15
      go_wp2_with fail
      go_ret
      exact ⟨rfl, B16.out⟩
end Go.Proofs.YtjlaaoecockfjaaDoor
