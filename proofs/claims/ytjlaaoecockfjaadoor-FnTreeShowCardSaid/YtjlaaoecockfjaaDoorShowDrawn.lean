/- The walk of FnTreeShow: lines are counted. -/
import Derived.Test.YtjlaaoecockfjaaDoorDraw6
import Derived.Test.YtjlaaoecockfjaaDoorShowLaw
namespace Go.Proofs.YtjlaaoecockfjaaDoor
open Go Go.RowKit

def cnt10 (l : List UInt8) : Nat := l.countP fun c => c.toNat == 10
theorem cnt10_append (a b : List UInt8) : cnt10 (a ++ b) = cnt10 a + cnt10 b := List.countP_append
theorem cnt10_le (l : List UInt8) : cnt10 l ≤ l.length := List.countP_le_length
theorem bytes_append (a b : ByteArray) : (a ++ b).data.toList = a.data.toList ++ b.data.toList := by rw [ByteArray.data_append, Array.toList_append]
def cntB (s : ByteArray) : Nat := cnt10 s.data.toList
theorem cntB_append (a b : ByteArray) : cntB (a ++ b) = cntB a + cntB b := by unfold cntB; rw [bytes_append, cnt10_append]
def shownF (t : List File) : Nat := t.countP fun f => !(showTexts f.sibs).isEmpty

theorem cntB_body (ts : List ByteArray) (h : ∀ t ∈ ts, cntB t = 0) : ∀ acc, cntB (showBody acc ts) = cntB acc := by
  unfold showBody
  induction ts with
  | nil => intro acc; rfl
  | cons t ts ih =>
    intro acc
    rw [List.foldl_cons, ih (fun x hx => h x (List.mem_cons_of_mem _ hx)), cntB_append, quoT, cntB_append, cntB_append, h t List.mem_cons_self]
    rfl

theorem cntB_zero {s : ByteArray} (h : ∀ c ∈ s.data.toList, c.toNat ≠ 10) : cntB s = 0 := by
  unfold cntB cnt10
  rw [List.countP_eq_zero]
  intro c hc
  simpa using h c hc

theorem cntB_text {l : List Sib} (h : SibsOK l) : ∀ t ∈ showTexts l, cntB t = 0 := by
  intro t ht
  unfold showTexts at ht
  obtain ⟨s, hs, rfl⟩ := List.mem_map.1 ht
  obtain ⟨i, hi, rfl⟩ := List.getElem_of_mem (List.mem_filter.1 hs).1
  have := h.each i hi
  simp only [sibB, textB, Bool.and_eq_true, decide_eq_true_eq, List.all_eq_true] at this
  refine cntB_zero fun c hc => ?_
  have h2 := this.1.2.2 c hc
  simp only [isAD, decide_eq_true_eq] at h2
  omega
theorem cntB_name {n : ByteArray} (h : nameB n = true) : cntB n = 0 := by
  obtain ⟨⟨l⟩⟩ := n
  match l, h with
  | [c], h =>
    refine cntB_zero fun d hd => ?_
    simp only [List.mem_singleton] at hd
    subst hd
    simp only [nameB, decide_eq_true_eq] at h
    omega

theorem showTree_lines {t : List File} (h : ∀ f ∈ t, nameB f.name = true ∧ SibsOK f.sibs) : cntB (showTree t) = shownF t := by
  have key : ∀ (t : List File), (∀ f ∈ t, nameB f.name = true ∧ SibsOK f.sibs) → ∀ acc, cntB (t.foldl showStep acc) = cntB acc + shownF t := by
    intro t
    induction t with
    | nil => intro _ acc; rfl
    | cons f t ih =>
      intro h acc
      rw [List.foldl_cons, ih fun g hg => h g (List.mem_cons_of_mem _ hg)]
      obtain ⟨h1, h2⟩ := h f List.mem_cons_self
      unfold showStep shownF
      by_cases he : showTexts f.sibs = []
      · rw [if_pos he, List.countP_cons_of_neg (by simp [he])]
      · rw [if_neg he, List.countP_cons_of_pos (by simpa using he), cntB_append, cntB_body _ (cntB_text h2), cntB_append, cntB_name h1]
        have : cntB ⟨#[10]⟩ = 1 := rfl
        omega
  have := key t h ⟨#[]⟩
  unfold showTree
  rw [this]
  show 0 + _ = _
  omega

theorem showBody_size (ts : List ByteArray) (h : ∀ t ∈ ts, t.size ≤ 4) : ∀ acc, (showBody acc ts).size ≤ acc.size + 7 * ts.length := by
  unfold showBody
  induction ts with
  | nil => intro acc; simp
  | cons t ts ih =>
    intro acc
    have h1 := ih (fun x hx => h x (List.mem_cons_of_mem _ hx)) (acc ++ quoT t)
    have h2 := h t List.mem_cons_self
    have h3 : (quoT t).size = t.size + 3 := by
      rw [quoT, ByteArray.size_append, ByteArray.size_append]
      show 2 + t.size + 1 = _
      omega
    rw [ByteArray.size_append] at h1
    rw [List.foldl_cons, List.length_cons]
    omega
theorem showTree_size {t : List File} (h : ∀ f ∈ t, nameB f.name = true ∧ SibsOK f.sibs) : (showTree t).size ≤ 100 * t.length := by
  have key : ∀ (t : List File), (∀ f ∈ t, nameB f.name = true ∧ SibsOK f.sibs) → ∀ acc, (t.foldl showStep acc).size ≤ acc.size + 100 * t.length := by
    intro t
    induction t with
    | nil => intro _ acc; simp
    | cons f t ih =>
      intro h acc
      have h3 := ih (fun g hg => h g (List.mem_cons_of_mem _ hg)) (showStep acc f)
      obtain ⟨h1, h2⟩ := h f List.mem_cons_self
      have h4 : (showStep acc f).size ≤ acc.size + 100 := by
        unfold showStep
        split
        · omega
        · have h5 := showBody_size (showTexts f.sibs) (text_le h2) (acc ++ f.name)
          have h6 := showTexts_le f.sibs
          have h7 := h2.few
          have h8 := name_len h1
          rw [ByteArray.size_append] at h5 ⊢
          have h9 : (ByteArray.mk #[10]).size = 1 := rfl
          omega
      rw [List.foldl_cons, List.length_cons]
      omega
  have := key t h ⟨#[]⟩
  have h0 : (ByteArray.mk #[]).size = 0 := rfl
  unfold showTree
  omega

theorem TreeOK.all {t : List File} (h : TreeOK t) : ∀ f ∈ t, nameB f.name = true ∧ SibsOK f.sibs := by
  intro f hf
  obtain ⟨i, hi, rfl⟩ := List.getElem_of_mem hf
  exact ⟨h.name i hi, h.sibs i hi⟩

set_option maxRecDepth 100000 in
theorem iSibsShow_any (x : Loc LSib) (w : World) (hx : x.At w) :
    Calls Tryd.prog 27 #[x.val] w (NewPost w (fun ys : List ByteArray => ys = if sibsB (x.xs.map LSib.er) = true then showTexts (x.xs.map LSib.er) else [])) := by
  have hc := Lib.hid (areSibs_any x w hx)
  generalize hb : sibsB (x.xs.map LSib.er) = b at hc
  have HB := Lib.hid hb
  have HX := Lib.hid hx
  clear hb hx
  go_enter Tryd.func27, Tryd.ntmps27
  go_wp2_with fail
  refine hc.out.mono ?_
  rintro e w1 ⟨rfl, hb1⟩
  have HB1 := Lib.hid hb1
  have HX1 := Lib.hid (HX.out.belowAll hb1)
  clear hb1
  cases b with
  | false =>
    go_wp2_with fail
    go_ret
    exact ⟨⟨none, 0, []⟩, rfl, rfl, ⟨Nat.le_refl _, Nat.zero_le _, by simp, by simp, by simp⟩, by simpa [Loc.fp, Loc.blk] using Fr.nil _ _, HB1.out⟩
  | true =>
    go_wp2_with fail
    refine (sibsShow_any x w1 HX1.out (by have := (SibsOK.of HB.out).few; simp at this; omega)).mono ?_
    rintro e w2 ⟨y, rfl, hy, hyA, hyF, hb2⟩
    have HY := Lib.hid hy
    have HA := Lib.hid hyA
    have HF := Lib.hid hyF
    have HB2 := Lib.hid hb2
    clear hy hyA hyF hb2
    go_wp2_with fail
    go_ret
    exact ⟨y, rfl, HY.out, HA.out, HF.out.mono HB1.out.size, nextB HB1.out HB2.out⟩

set_option maxRecDepth 100000 in
set_option maxHeartbeats 1000000 in
theorem treeShow_walk (x : Loc UInt8) (w : World) (hx : x.At w) :
    Calls Tryd.prog 6 #[x.val] w fun e w' => e = .returned (.bool true) ∧ Below w.heap.size w w' := by
  have h1 := hx.lenMax
  have HX := Lib.hid hx
  clear hx
  by_cases hbig : (1048576 : Int) < (x.xs.length : Int)
  · obtain ⟨xa, xc, xs⟩ := x
    simp only [Loc.val] at hbig ⊢
    go_enter Tryd.func6, Tryd.ntmps6
    go_wp2_with fail
    go_ret
    exact ⟨rfl, Below.refl _ _⟩
  · have hc := Lib.hid (drawTreeShow_any x w HX.out)
    obtain ⟨xa, xc, xs⟩ := x
    simp only [Loc.val] at hbig hc ⊢
    go_enter Tryd.func6, Tryd.ntmps6
    go_wp2_with fail
    refine hc.out.mono ?_
    rintro e w1 ⟨t, rfl, ht5, htA, b1⟩
    have B1 := Lib.hid b1
    have T1 := Lib.hid htA
    have HT5 := Lib.hid ht5
    clear b1 htA ht5 hc
    generalize hs : showZ (t.xs.map LFile.er) = s
    have HSZ := Lib.hid hs
    clear hs
    go_wp2_with fail
    refine (iTreeShow_any t w1 T1.out).mono ?_
    rintro e w2 ⟨he, b2⟩
    obtain rfl : e = .returned (.string s) := he.trans (by rw [HSZ.out])
    have B2 := Lib.hid (nextB B1.out b2)
    have T2 := Lib.hid (T1.out.belowAll b2)
    clear b2 he B1 T1
    go_wp2_with fail
    refine (sTreeShow_any t w2 T2.out).mono ?_
    rintro e w3 ⟨he, b3⟩
    obtain rfl : e = .returned (.string s) := he.trans (by rw [HSZ.out])
    have B3 := Lib.hid (nextB B2.out b3)
    have T3 := Lib.hid (T2.out.belowAll b3)
    clear b3 he B2 T2
    go_wp2_with fail
    refine (sTreeOk_any t w3 T3.out).mono ?_
    rintro e w4 ⟨rfl, b4⟩
    have B4 := Lib.hid (nextB B3.out b4)
    have T4 := Lib.hid (T3.out.belowAll b4)
    clear b4 B3 T3
    generalize hb : treeB (t.xs.map LFile.er) = b
    have HB := Lib.hid hb
    clear hb
    cases b with
    | false =>
      go_wp2_with fail
      refine (sTreeShow_any t w4 T4.out).mono ?_
      rintro e w5 ⟨he, b5⟩
      obtain rfl : e = .returned (.string s) := he.trans (by rw [HSZ.out])
      have B5 := Lib.hid (nextB B4.out b5)
      clear b5 he
      go_wp2_with fail
      go_ret
      exact ⟨rfl, B5.out⟩
    | true =>
      have hT := TreeOK.of HB.out
      have HT := Lib.hid hT
      have hsz : s.size ≤ 1000 := by
        have h2 := showTree_size hT.all
        have h3 := hT.few
        have h4 := HSZ.out
        rw [showZ, if_pos HB.out] at h4
        rw [← h4]; omega
      have HCN : Hid (cnt10 s.data.toList = shownF (t.xs.map LFile.er)) := Lib.hid (by
        have h2 := showTree_lines hT.all
        have h4 := HSZ.out
        rw [showZ, if_pos HB.out] at h4
        rw [← h4]; exact h2)
      clear hT
      go_wp2_with fail
      go_loop [5, 6] (fun n i => ∃ k : Nat, k ≤ s.size ∧ i = .int .i64 k ∧ n = .int .i64 (cnt10 (s.data.toList.take k))) (fun _ i => s.size - (intOf i).toNat)
      case atStart => exact ⟨0, Nat.zero_le _, rfl, rfl⟩
      case round =>
        obtain ⟨k, hk, rfl, rfl⟩ := hrel
        have hcl := cnt10_le (s.data.toList.take k)
        have hcl2 : (s.data.toList.take k).length ≤ k := List.length_take_le _ _
        by_cases hlt : k < s.size
        · have HTS : Hid (s.data.toList.take (k + 1) = s.data.toList.take k ++ [s[k]]) := Lib.hid (by
            rw [List.take_succ_eq_append_getElem (by simpa using hlt)]; rfl)
          have HSN : Hid (cnt10 (s.data.toList.take (k + 1)) = cnt10 (s.data.toList.take k) + if s[k].toNat = 10 then 1 else 0) := Lib.hid (by
            rw [HTS.out, cnt10_append]
            unfold cnt10
            by_cases h : s[k].toNat = 10 <;> simp [h])
          clear HTS
          by_cases h10 : s[k].toNat = 10
          · have e1 : (((s[k].toNat : Nat) : Int) == 10) = true := by simp [h10]
            have H10 := Lib.hid h10
            clear h10
            go_wp2_with fail
            go_round
            case rel => exact ⟨k + 1, by omega, by go_num, by rw [HSN.out, if_pos H10.out]; go_num⟩
            case measure => simp [intOf]; omega
          · have e1 : (((s[k].toNat : Nat) : Int) == 10) = false := by rw [beq_eq_false_iff_ne]; omega
            have H10 := Lib.hid h10
            clear h10
            go_wp2_with fail
            go_round
            case rel => exact ⟨k + 1, by omega, by go_num, by rw [HSN.out, if_neg H10.out]; rfl⟩
            case measure => simp [intOf]; omega
        · have hkk : k = s.size := by omega
          subst hkk
          have hfull : s.data.toList.take s.size = s.data.toList := List.take_of_length_le (by simp)
          rw [hfull, HCN.out] at hcl
          rw [hfull, HCN.out]
          clear hcl2 hfull
          obtain ⟨ta, tc, ts⟩ := t
          have ht6 : ts.length ≤ 5 := HT5.out
          have hsh : shownF (ts.map LFile.er) ≤ ts.length := by
            have := List.countP_le_length (p := fun f : File => !(showTexts f.sibs).isEmpty) (l := ts.map LFile.er)
            simpa [shownF] using this
          simp only [Loc.val] at T4 HCN HT HB HSZ ⊢
          generalize hC : shownF (ts.map LFile.er) = C at *
          have HCC := Lib.hid hC
          have hC0 : (C : Int) ≤ 5 := by omega
          clear hC hcl
          go_wp2_with fail
          go_loopw [5, 7] (fun n i wr => ∃ k : Nat, k ≤ ts.length ∧ i = .int .i64 k ∧ n = .int .i64 ((C : Int) - (shownF ((ts.take k).map LFile.er) : Nat)) ∧ Below w.heap.size w wr ∧ (⟨ta, tc, ts⟩ : Loc LFile).At wr) (fun _ i _ => ts.length - (intOf i).toNat)
          case atStart => exact ⟨0, Nat.zero_le _, rfl, by simp [shownF], B4.out, T4.out⟩
          case round =>
            obtain ⟨k, hk, rfl, rfl, hb, hA⟩ := hrel
            have HBW := Lib.hid hb
            have HA := Lib.hid hA
            have hsk : shownF ((ts.take k).map LFile.er) ≤ k := by
              have := List.countP_le_length (p := fun f : File => !(showTexts f.sibs).isEmpty) (l := (ts.take k).map LFile.er)
              have h2 : ((ts.take k).map LFile.er).length ≤ k := by rw [List.length_map]; exact List.length_take_le _ _
              exact Nat.le_trans this h2
            clear hb hA
            by_cases hlt : k < ts.length
            · obtain ⟨a, ao, ha⟩ := HA.out.place hlt
              simp only at ha
              subst ha
              have c1 := (HA.out.file rfl hlt).2
              simp only at c1
              have HSN : Hid (shownF ((ts.take (k + 1)).map LFile.er) = shownF ((ts.take k).map LFile.er) + if showTexts (ts[k].sibs.xs.map LSib.er) = [] then 0 else 1) := Lib.hid (by
                rw [List.take_succ_eq_append_getElem hlt, List.map_append]
                unfold shownF
                rw [List.countP_append, List.map_singleton, List.countP_singleton]
                have : ts[k].er.sibs = ts[k].sibs.xs.map LSib.er := rfl
                rw [this]
                by_cases h : showTexts (ts[k].sibs.xs.map LSib.er) = [] <;> simp [h])
              generalize hshv : shownF ((ts.take k).map LFile.er) = sh at *
              have HSHV := Lib.hid hshv
              have hsh5 : (sh : Int) ≤ 5 := by omega
              clear hshv
              have HSO := Lib.hid (show SibsOK (ts[k].sibs.xs.map LSib.er) by have := HT.out.sibs k (by simpa using hlt); rwa [List.getElem_map] at this)
              have hc := Lib.hid (iSibsShow_any ts[k].sibs wr (HA.out.elem (List.getElem_mem hlt)).1)
              go_wp2_with fail
              refine hc.out.mono ?_
              rintro e w5 ⟨⟨ya, yc, ys⟩, rfl, hy, -, -, b5⟩
              rw [if_pos (sibsB_true HSO.out)] at hy
              have HYS := Lib.hid (show ys = showTexts (ts[k].sibs.xs.map LSib.er) from hy)
              have hy12 : ys.length ≤ 12 := by have := showTexts_le (ts[k].sibs.xs.map LSib.er); have h2 := HSO.out.few; rw [HYS.out]; omega
              have B5 := Lib.hid (HBW.out.trans (b5.mono HBW.out.size))
              have A5 := Lib.hid (HA.out.belowAll b5)
              clear hy b5 c1 hc
              simp only [Loc.val]
              by_cases h0 : ys.length = 0
              · have hz : decide ((0 : Int) < (ys.length : Int)) = false := decide_eq_false (by omega)
                have hz2 : decide (0 < ys.length) = false := decide_eq_false (by omega)
                have H0 : Hid (showTexts (ts[k].sibs.xs.map LSib.er) = []) := Lib.hid (by rw [← HYS.out]; exact List.eq_nil_of_length_eq_zero h0)
                clear h0
                go_wp2_with fail
                go_roundw
                case rel => exact ⟨k + 1, by omega, by go_num, by rw [HSN.out, if_pos H0.out]; rfl, B5.out, A5.out⟩
                case measure => simp [intOf]; omega
              · have hz : decide ((0 : Int) < (ys.length : Int)) = true := decide_eq_true (by omega)
                have hz2 : decide (0 < ys.length) = true := decide_eq_true (by omega)
                have H0 : Hid (¬ showTexts (ts[k].sibs.xs.map LSib.er) = []) := Lib.hid (by rw [← HYS.out]; intro h; rw [h] at h0; exact h0 rfl)
                clear h0
                go_wp2_with fail
                go_roundw
                case rel => exact ⟨k + 1, by omega, by go_num, by rw [HSN.out, if_neg H0.out]; congr 1; omega, B5.out, A5.out⟩
                case measure => simp [intOf]; omega
            · have hkk : k = ts.length := by omega
              subst hkk
              have hfull : (C : Int) - (shownF ((ts.take ts.length).map LFile.er) : Nat) = 0 := by rw [List.take_length, HCC.out]; omega
              rw [hfull]
              clear hfull hsk
              have hc := Lib.hid (iTreeShow_any ⟨none, 0, []⟩ wr ⟨Nat.le_refl _, Nat.zero_le _, by simp, by simp, by simp⟩)
              go_wp2_with fail
              refine hc.out.mono ?_
              rintro e w6 ⟨he, b6⟩
              obtain rfl : e = .returned (.string ⟨#[]⟩) := he.trans (by unfold showZ; split <;> rfl)
              have B6 := Lib.hid (HBW.out.trans (b6.mono HBW.out.size))
              clear he b6 hc
              go_wp2_with fail
              go_ret
              exact ⟨rfl, B6.out⟩
end Go.Proofs.YtjlaaoecockfjaaDoor
