/- What is shown of a tree: the program's and the reference's sibsShow and treeShow. -/
import Derived.Test.YtjlaaoecockfjaaDoorOwn
import Derived.Test.YtjlaaoecockfjaaDoorTo
import Derived.Test.YtjlaaoecockfjaaDoorSpec5
namespace Go.Proofs.YtjlaaoecockfjaaDoor
open Go Go.RowKit

theorem elem_string : Elem Tryd.prog ByteArray 49 9 :=
  ⟨Tryd.underlying49, by
    obtain ⟨i, h1, h2, h3, h4⟩ := info_parts (show (Tryd.prog.info? 9).map (fun i => (i.zero, i.size, i.bytes)) = some (some (.string ⟨#[]⟩), 1, 16) by kernel_rfl)
    exact ⟨i, _, h1, h2, h3, by omega, rfl⟩⟩

theorem ret_string {a b : ByteArray} (h : a = b) : Ending.returned (.string a) = .returned (.string b) := by rw [h]

/-- The texts of what is not gone. -/
def showTexts (l : List Sib) : List ByteArray := (l.filter fun s => !s.gone).map (·.text)

theorem showTexts_snoc (l : List Sib) (s : Sib) : showTexts (l ++ [s]) = showTexts l ++ if s.gone then [] else [s.text] := by
  unfold showTexts
  rw [List.filter_append, List.map_append]
  cases h : s.gone <;> simp [List.filter, h]

theorem showTexts_le (l : List Sib) : (showTexts l).length ≤ l.length := by
  unfold showTexts
  rw [List.length_map]
  exact List.length_filter_le _ _

set_option maxRecDepth 100000 in
set_option maxHeartbeats 1000000 in
theorem sibsShow_any (x : Loc LSib) (w : World) (hx : x.At w) (hn : x.xs.length ≤ 1048576) :
    Calls Tryd.prog 60 #[x.val] w (NewPost w (fun ys : List ByteArray => ys = showTexts (x.xs.map LSib.er))) := by
  obtain ⟨xa, xc, xs⟩ := x
  simp only [Loc.val]
  simp only at hn
  have h1 : xs.length ≤ 9223372036854775807 := by omega
  have HX := Lib.hid hx
  have HN := Lib.hid hn
  have HG0 := Lib.hid (Grows.start (α := ByteArray) w 9)
  clear hx hn
  go_enter Tryd.func60, Tryd.ntmps60
  go_wp2_with fail
  go_loopw [3, 9] (fun o i wr => ∃ (k : Nat) (l : Loc ByteArray), k ≤ xs.length ∧ i = .int .i64 k ∧ o = l.val ∧ l.xs = showTexts ((xs.take k).map LSib.er) ∧ Grows w.heap.size 9 w l wr) (fun _ i _ => xs.length - (intOf i).toNat)
  case atStart => exact ⟨0, _, Nat.zero_le _, rfl, rfl, rfl, HG0.out⟩
  case round =>
    obtain ⟨k, l, hk, rfl, rfl, hl, hG⟩ := hrel
    have HL := Lib.hid hl
    have HG := Lib.hid hG
    clear hl hG
    by_cases hlt : k < xs.length
    · obtain ⟨a, ao, ha⟩ := HX.out.place hlt
      simp only at ha
      subst ha
      have hc1 := (HX.out.belowAll (HG.out.bel)).sib rfl hlt
      simp only at hc1
      obtain ⟨c0, c1, c2⟩ := hc1
      have hts := showTexts_snoc ((xs.take k).map LSib.er) xs[k].er
      have htk : (xs.take (k + 1)).map LSib.er = (xs.take k).map LSib.er ++ [xs[k].er] := by rw [List.take_succ_eq_append_getElem hlt, List.map_append]; rfl
      rw [← htk] at hts
      cases hg : xs[k].gone with
      | true =>
        rw [hg] at c1
        have HGO := Lib.hid hg
        have HTS := Lib.hid hts
        have HV := Lib.hid (((Below.refl wr.heap.size wr).alloc (Nat.le_refl _) (Obj.cells #[xs[k].vv.val, .bool true, .string xs[k].text] 88)))
        clear hts htk hg
        go_wp2_with fail
        go_roundw
        case rel =>
          refine ⟨k + 1, l, by omega, by go_num, rfl, ?_, HG.out.later (Nat.le_refl _) HV.out⟩
          rw [HTS.out, HL.out, LSib.er, HGO.out]; simp
        case measure => simp [intOf]; omega
      | false =>
        rw [hg] at c1
        have HGO := Lib.hid hg
        have HTS := Lib.hid hts
        clear hts htk hg
        have hts : xs[k].text.size ≤ maxLen := (HX.out.elem (List.getElem_mem hlt)).2
        have hll : l.xs.length + 1 ≤ 1099511627776 := by
          have h := showTexts_le ((xs.take k).map LSib.er)
          have h2 := HN.out
          rw [List.length_map, List.length_take] at h
          rw [HL.out]; omega
        have HLL := Lib.hid hll
        have HTX := Lib.hid hts
        have HW := Lib.hid (HG.out.later (Nat.le_refl _) (((Below.refl wr.heap.size wr).alloc (Nat.le_refl _) (Obj.cells #[xs[k].vv.val, .bool false, .string xs[k].text] 88)).alloc (by simp) (Obj.cells #[.string xs[k].text] 9)))
        clear hts hll
        go_wp2_with (at_builtin; go_loud (refine wpList_append_loc rfl _ _ 49 rfl w.heap.size 9 elem_string l rfl HW.out.own ⟨wr.heap.size + 1, 0, none⟩ 1 1 [xs[k].text] rfl rfl ?c1 ?c2 ?c3 ?c4 ?c5 ?_))
        case c1 => exact news_new (by simp) _ rfl
        case c2 => intro y hy; rw [List.mem_singleton.1 hy]; exact HTX.out
        case c3 => intro y hy b hb; cases hb
        case c4 => exact HLL.out
        case c5 => exact HW.out.bel.size
        intro l' w' hap
        have HAP := Lib.hid hap
        clear hap c0 c1 c2
        go_wp2_with fail
        go_roundw
        case rel =>
          refine ⟨k + 1, l', by omega, by go_num, rfl, ?_, HW.out.step (Nat.le_refl _) HAP.out (Fr.nil _ _) (fun a _ b hb => by cases hb) (fun y _ b hb => by cases hb)⟩
          rw [HAP.out.xs, HTS.out, HL.out, LSib.er, HGO.out]; simp
        case measure => simp [intOf]; omega
    · have hkk : k = xs.length := by omega
      subst hkk
      go_wp2_with fail
      go_ret
      have hd := HG.out.done
      refine ⟨l, rfl, ?_, hd.1, hd.2, HG.out.bel⟩
      have := HL.out
      rwa [List.take_length] at this

set_option maxRecDepth 100000 in
set_option maxHeartbeats 1000000 in
theorem sSibsShow_any (x : Loc LSib) (w : World) (hx : x.At w) :
    Calls Tryd.prog 83 #[x.val] w (NewPost w (fun ys : List ByteArray => ys = if sibsB (x.xs.map LSib.er) = true then showTexts (x.xs.map LSib.er) else [])) := by
  have hG0 := Grows.start (α := ByteArray) w 9
  have hc := Lib.hid (sSibsOk_any x _ (hx.belowAll hG0.bel))
  obtain ⟨xa, xc, xs⟩ := x
  simp only [Loc.val] at hc ⊢
  have h1 := hx.lenMax
  simp only at h1
  have HX := Lib.hid hx
  have HG0 := Lib.hid hG0
  clear hx hG0
  generalize hb : sibsB (xs.map LSib.er) = b at hc ⊢
  have HB := Lib.hid hb
  clear hb
  go_enter Tryd.func83, Tryd.ntmps83
  go_wp2_with fail
  refine hc.out.mono ?_
  rintro e w1 ⟨rfl, hb1⟩
  have HG1 := Lib.hid (HG0.out.later (Nat.le_refl _) hb1)
  clear hb1 hc
  cases b with
  | false =>
    go_wp2_with fail
    go_ret
    have hd := HG1.out.done
    exact ⟨⟨some ⟨w.heap.size, 0, none⟩, 0, []⟩, rfl, rfl, hd.1, hd.2, HG1.out.bel⟩
  | true =>
    have hn : xs.length ≤ 12 := by have := (SibsOK.of HB.out).few; simpa using this
    have HN := Lib.hid hn
    clear hn
    go_wp2_with fail
    go_loopw [3, 4] (fun o i wr => ∃ (k : Nat) (l : Loc ByteArray), k ≤ xs.length ∧ i = .int .i64 k ∧ o = l.val ∧ l.xs = showTexts ((xs.take k).map LSib.er) ∧ Grows w.heap.size 9 w l wr) (fun _ i _ => xs.length - (intOf i).toNat)
    case atStart => exact ⟨0, _, Nat.zero_le _, rfl, rfl, rfl, HG1.out⟩
    case round =>
      obtain ⟨k, l, hk, rfl, rfl, hl, hG⟩ := hrel
      have HL := Lib.hid hl
      have HG := Lib.hid hG
      clear hl hG
      by_cases hlt : k < xs.length
      · obtain ⟨a, ao, ha⟩ := HX.out.place hlt
        simp only at ha
        subst ha
        have hc1 := (HX.out.belowAll (HG.out.bel)).sib rfl hlt
        simp only at hc1
        obtain ⟨c0, c1, c2⟩ := hc1
        have hts := showTexts_snoc ((xs.take k).map LSib.er) xs[k].er
        have htk : (xs.take (k + 1)).map LSib.er = (xs.take k).map LSib.er ++ [xs[k].er] := by rw [List.take_succ_eq_append_getElem hlt, List.map_append]; rfl
        rw [← htk] at hts
        cases hg : xs[k].gone with
        | true =>
          rw [hg] at c1
          have HGO := Lib.hid hg
          have HTS := Lib.hid hts
          clear hts htk hg
          go_wp2_with fail
          go_roundw
          case rel =>
            refine ⟨k + 1, l, by omega, by go_num, rfl, ?_, HG.out⟩
            rw [HTS.out, HL.out, LSib.er, HGO.out]; simp
          case measure => simp [intOf]; omega
        | false =>
          rw [hg] at c1
          have HGO := Lib.hid hg
          have HTS := Lib.hid hts
          clear hts htk hg
          have hts : xs[k].text.size ≤ maxLen := (HX.out.elem (List.getElem_mem hlt)).2
          have hll : l.xs.length + 1 ≤ 1099511627776 := by
            have h := showTexts_le ((xs.take k).map LSib.er)
            have h2 := HN.out
            rw [List.length_map, List.length_take] at h
            rw [HL.out]; omega
          have HLL := Lib.hid hll
          have HTX := Lib.hid hts
          have HW := Lib.hid (HG.out.later (Nat.le_refl _) ((Below.refl wr.heap.size wr).alloc (Nat.le_refl _) (Obj.cells #[.string xs[k].text] 9)))
          clear hts hll
          go_wp2_with (at_builtin; refine wpList_append_loc rfl _ _ 49 rfl w.heap.size 9 elem_string l rfl HW.out.own ⟨wr.heap.size, 0, none⟩ 1 1 [xs[k].text] rfl rfl ?c1 ?c2 ?c3 ?c4 ?c5 ?_)
          case c1 => exact news_new rfl _ rfl
          case c2 => intro y hy; rw [List.mem_singleton.1 hy]; exact HTX.out
          case c3 => intro y hy b hb; cases hb
          case c4 => exact HLL.out
          case c5 => exact HW.out.bel.size
          intro l' w' hap
          have HAP := Lib.hid hap
          clear hap c0 c1 c2
          go_wp2_with fail
          go_roundw
          case rel =>
            refine ⟨k + 1, l', by omega, by go_num, rfl, ?_, HW.out.step (Nat.le_refl _) HAP.out (Fr.nil _ _) (fun a _ b hb => by cases hb) (fun y _ b hb => by cases hb)⟩
            rw [HAP.out.xs, HTS.out, HL.out, LSib.er, HGO.out]; simp
          case measure => simp [intOf]; omega
      · have hkk : k = xs.length := by omega
        subst hkk
        go_wp2_with fail
        go_ret
        have hd := HG.out.done
        refine ⟨l, rfl, ?_, hd.1, hd.2, HG.out.bel⟩
        have := HL.out
        rwa [List.take_length] at this

def quoT (t : ByteArray) : ByteArray := ⟨#[32, 39]⟩ ++ t ++ ⟨#[39]⟩
def showBody (acc : ByteArray) (ts : List ByteArray) : ByteArray := ts.foldl (fun a t => a ++ quoT t) acc
def showStep (acc : ByteArray) (f : File) : ByteArray := if showTexts f.sibs = [] then acc else showBody (acc ++ f.name) (showTexts f.sibs) ++ ⟨#[10]⟩
def showTree (t : List File) : ByteArray := t.foldl showStep ⟨#[]⟩

theorem showTree_take {xs : List LFile} {k : Nat} (h : k < xs.length) : showTree ((xs.take (k + 1)).map LFile.er) = showStep (showTree ((xs.take k).map LFile.er)) xs[k].er := by
  unfold showTree
  rw [List.take_succ_eq_append_getElem h, List.map_append, List.foldl_append]; rfl
theorem showBody_take {acc : ByteArray} {ts : List ByteArray} {k : Nat} (h : k < ts.length) : showBody acc (ts.take (k + 1)) = showBody acc (ts.take k) ++ quoT ts[k] := by
  unfold showBody
  rw [List.take_succ_eq_append_getElem h, List.foldl_append]; rfl
theorem text_le {l : List Sib} (h : SibsOK l) : ∀ t ∈ showTexts l, t.size ≤ 4 := by
  intro t ht
  unfold showTexts at ht
  obtain ⟨s, hs, rfl⟩ := List.mem_map.1 ht
  obtain ⟨i, hi, rfl⟩ := List.getElem_of_mem (List.mem_filter.1 hs).1
  have := h.each i hi
  simp only [sibB, textB, Bool.and_eq_true, decide_eq_true_eq] at this
  exact this.1.2.1
theorem name_len {n : ByteArray} (h : nameB n = true) : n.size = 1 := by
  obtain ⟨⟨l⟩⟩ := n
  match l, h with
  | [c], _ => rfl

set_option maxRecDepth 100000 in
set_option maxHeartbeats 1000000 in
theorem treeShow_any (x : Loc LFile) (w : World) (hx : x.At w) (ht : treeB (x.xs.map LFile.er) = true) :
    Calls Tryd.prog 57 #[x.val] w fun e w' => e = .returned (.string (showTree (x.xs.map LFile.er))) ∧ Below w.heap.size w w' := by
  have hT := TreeOK.of ht
  obtain ⟨xa, xc, xs⟩ := x
  simp only [Loc.val]
  have h1 := hx.lenMax
  simp only at h1 hT
  have hfew : xs.length ≤ 6 := by have := hT.few; simpa using this
  have HT := Lib.hid hT
  have HX := Lib.hid hx
  clear hT hx ht
  go_enter Tryd.func57, Tryd.ntmps57
  go_wp2_with fail
  go_loopw [3, 11] (fun o i wr => ∃ (k : Nat) (acc : ByteArray), k ≤ xs.length ∧ i = .int .i64 k ∧ o = .string acc ∧ acc = showTree ((xs.take k).map LFile.er) ∧ acc.size ≤ 100 * k ∧ Below w.heap.size w wr) (fun _ i _ => xs.length - (intOf i).toNat)
  case atStart => exact ⟨0, _, Nat.zero_le _, rfl, rfl, rfl, Nat.le_refl _, Below.refl _ _⟩
  case round =>
    obtain ⟨k, acc, hk, rfl, rfl, hacc, hsz, hb⟩ := hrel
    have HA := Lib.hid hacc
    have HBW := Lib.hid hb
    clear hacc hb
    by_cases hlt : k < xs.length
    · obtain ⟨a, ao, ha⟩ := HX.out.place hlt
      simp only at ha
      subst ha
      have hc1 := (HX.out.belowAll HBW.out).file rfl hlt
      simp only at hc1
      have HE := Lib.hid ((HX.out.belowAll HBW.out).elem (List.getElem_mem hlt))
      have hso : SibsOK xs[k].er.sibs := by have := HT.out.sibs k (by simpa using hlt); rwa [List.getElem_map] at this
      have hnm : xs[k].name.size = 1 := by have := HT.out.name k (by simpa using hlt); rw [List.getElem_map] at this; exact name_len this
      have HS := Lib.hid hso
      have HV := Lib.hid ((Below.refl wr.heap.size wr).alloc (Nat.le_refl _) (Obj.cells #[.string xs[k].name, xs[k].sibs.val] 25))
      have hc := Lib.hid (sibsShow_any xs[k].sibs _ (Loc.At.belowAll HE.out.1 HV.out) (by have := HS.out.few; simp [LFile.er] at this; omega))
      have hst := showTree_take hlt
      have HST := Lib.hid hst
      have HNM := Lib.hid hnm
      clear hso hst hnm
      go_wp2_with fail
      refine hc.out.mono ?_
      rintro e w1 ⟨⟨ta, tc, ts⟩, rfl, hts, htA, -, hb1⟩
      have hn0 : w1.cell? ⟨wr.heap.size, 0, none⟩ = some (.string xs[k].name) := by rw [hb1.cell (by simp)]; go_simp
      have HB1 := Lib.hid (HBW.out.trans ((HV.out.trans (hb1.mono (by simp))).mono HBW.out.size))
      have HTS := Lib.hid hts
      have HTA := Lib.hid htA
      have htl : ts.length ≤ 12 := by
        have h := showTexts_le xs[k].er.sibs
        have h2 := HS.out.few
        have h3 : ts = showTexts xs[k].er.sibs := HTS.out
        rw [h3]; simp only [LFile.er] at h h2 ⊢; omega
      have HT4 : Hid (∀ t ∈ ts, t.size ≤ 4) := Lib.hid (by have := text_le HS.out; have h3 := HTS.out; simp only at h3; rw [h3]; exact this)
      simp only [Loc.val]
      clear hts htA hb1 hc hc1
      by_cases h0 : ts.length = 0
      · have HN0 := Lib.hid h0
        go_wp2_with fail
        go_roundw
        case rel =>
          refine ⟨k + 1, acc, by omega, by go_num, rfl, ?_, by omega, HB1.out⟩
          have h3 : ts = showTexts xs[k].er.sibs := HTS.out
          rw [HST.out, showStep, if_pos (by have := List.eq_nil_of_length_eq_zero HN0.out; rw [this] at h3; exact h3.symm), HA.out]
        case measure => simp [intOf]; omega
      · have hz : (((ts.length : Nat) : Int) == 0) = false := by rw [beq_eq_false_iff_ne]; omega
        have hns : acc.size + xs[k].name.size ≤ 1000 := by have := HNM.out; omega
        go_wp2_with fail
        have hns2 := HNM.out
        have HNS := Lib.hid hns2
        clear hns2
        go_loop [3, 27] (fun o i => ∃ (j : Nat) (b : ByteArray), j ≤ ts.length ∧ i = .int .i64 j ∧ o = .string b ∧ b = showBody (acc ++ xs[k].name) (ts.take j) ∧ b.size ≤ acc.size + 1 + 7 * j) (fun _ i => ts.length - (intOf i).toNat)
        case atStart => exact ⟨0, _, Nat.zero_le _, rfl, rfl, rfl, by rw [ByteArray.size_append]; have := HNM.out; omega⟩
        case round =>
          obtain ⟨j, b, hj, rfl, rfl, hb, hbs⟩ := hrel
          have HBB := Lib.hid hb
          clear hb
          by_cases hjl : j < ts.length
          · obtain ⟨a', ao', ha'⟩ := HTA.out.place hjl
            simp only at ha'
            subst ha'
            have hcj : w1.cell? ⟨a', ao' + j, none⟩ = some (.string ts[j]) := by
              have := HTA.out.cellK (b := a') (o := ao') rfl hjl (j := 0) (v := .string ts[j]) rfl
              simpa [Dat.k] using this
            have hs4 : ts[j].size ≤ 4 := HT4.out _ (List.getElem_mem hjl)
            have hq := showBody_take (acc := acc ++ xs[k].name) hjl
            have HQ := Lib.hid hq
            clear hq
            go_wp2_with fail
            go_round
            case rel =>
              refine ⟨j + 1, _, by omega, by go_num, rfl, ?_, ?_⟩
              · rw [HQ.out, HBB.out]; rfl
              · simp only [ByteArray.size_append]; have h1 : (ByteArray.mk #[32, 39]).size = 2 := rfl; have h2 : (ByteArray.mk #[39]).size = 1 := rfl; omega
            case measure => simp [intOf]; omega
          · have hkj : j = ts.length := by omega
            subst hkj
            have hb10 : b.size ≤ 10000 := by omega
            go_wp2_with fail
            go_roundw
            case rel =>
              refine ⟨k + 1, _, by omega, by go_num, rfl, ?_, ?_, HB1.out⟩
              · have h3 : ts = showTexts xs[k].er.sibs := HTS.out
                rw [HST.out, ← HA.out, showStep, if_neg (by rw [← h3]; intro h4; rw [h4] at h0; exact h0 rfl), ← h3, HBB.out, List.take_length]; rfl
              · simp only [ByteArray.size_append]; have h1 : (ByteArray.mk #[10]).size = 1 := rfl; omega
            case measure => simp [intOf]; omega
    · have hkk : k = xs.length := by omega
      subst hkk
      go_wp2_with fail
      go_ret
      have h := HA.out
      rw [List.take_length] at h
      exact ⟨ret_string h, HBW.out⟩
set_option maxRecDepth 100000 in
set_option maxHeartbeats 1000000 in
theorem sl3Show_any (x : Loc LFile) (w : World) (hx : x.At w) (ht : treeB (x.xs.map LFile.er) = true) :
    Calls Tryd.prog 58 #[x.val] w fun e w' => e = .returned (.string (showTree (x.xs.map LFile.er))) ∧ Below w.heap.size w w' := by
  have hT := TreeOK.of ht
  obtain ⟨xa, xc, xs⟩ := x
  simp only [Loc.val]
  have h1 := hx.lenMax
  simp only at h1 hT
  have hfew : xs.length ≤ 6 := by have := hT.few; simpa using this
  have HT := Lib.hid hT
  have HX := Lib.hid hx
  clear hT hx ht
  go_enter Tryd.func58, Tryd.ntmps58
  go_wp2_with fail
  go_loopw [3, 4] (fun o i wr => ∃ (k : Nat) (acc : ByteArray), k ≤ xs.length ∧ i = .int .i64 k ∧ o = .string acc ∧ acc = showTree ((xs.take k).map LFile.er) ∧ acc.size ≤ 100 * k ∧ Below w.heap.size w wr) (fun _ i _ => xs.length - (intOf i).toNat)
  case atStart => exact ⟨0, _, Nat.zero_le _, rfl, rfl, rfl, Nat.le_refl _, Below.refl _ _⟩
  case round =>
    obtain ⟨k, acc, hk, rfl, rfl, hacc, hsz, hb⟩ := hrel
    have HA := Lib.hid hacc
    have HBW := Lib.hid hb
    clear hacc hb
    by_cases hlt : k < xs.length
    · obtain ⟨a, ao, ha⟩ := HX.out.place hlt
      simp only at ha
      subst ha
      have hc1 := (HX.out.belowAll HBW.out).file rfl hlt
      simp only at hc1
      have HE := Lib.hid ((HX.out.belowAll HBW.out).elem (List.getElem_mem hlt))
      have hso : SibsOK xs[k].er.sibs := by have := HT.out.sibs k (by simpa using hlt); rwa [List.getElem_map] at this
      have hnm : xs[k].name.size = 1 := by have := HT.out.name k (by simpa using hlt); rw [List.getElem_map] at this; exact name_len this
      have HS := Lib.hid hso
      have hc := Lib.hid (sSibsShow_any xs[k].sibs wr HE.out.1)
      have hst := showTree_take hlt
      have HST := Lib.hid hst
      have HNM := Lib.hid hnm
      clear hso hst hnm
      go_wp2_with fail
      refine hc.out.mono ?_
      rintro e w1 ⟨⟨ta, tc, ts⟩, rfl, hts, htA, -, hb1⟩
      have hn0 := (((HX.out.belowAll HBW.out).belowAll hb1).file rfl hlt).1
      simp only at hn0
      have HB1 := Lib.hid (HBW.out.trans (hb1.mono HBW.out.size))
      rw [if_pos (sibsB_true (show SibsOK (xs[k].sibs.xs.map LSib.er) from HS.out))] at hts
      have HTS := Lib.hid hts
      have HTA := Lib.hid htA
      have htl : ts.length ≤ 12 := by
        have h := showTexts_le xs[k].er.sibs
        have h2 := HS.out.few
        have h3 : ts = showTexts xs[k].er.sibs := HTS.out
        rw [h3]; simp only [LFile.er] at h h2 ⊢; omega
      have HT4 : Hid (∀ t ∈ ts, t.size ≤ 4) := Lib.hid (by have := text_le HS.out; have h3 := HTS.out; simp only at h3; rw [h3]; exact this)
      simp only [Loc.val]
      clear hts htA hb1 hc
      by_cases h0 : ts.length = 0
      · have HN0 := Lib.hid h0
        go_wp2_with fail
        go_roundw
        case rel =>
          refine ⟨k + 1, acc, by omega, by go_num, rfl, ?_, by omega, HB1.out⟩
          have h3 : ts = showTexts xs[k].er.sibs := HTS.out
          rw [HST.out, showStep, if_pos (by have := List.eq_nil_of_length_eq_zero HN0.out; rw [this] at h3; exact h3.symm), HA.out]
        case measure => simp [intOf]; omega
      · have hz : decide (0 < ts.length) = true := decide_eq_true (by omega)
        have hz2 : decide ((0 : Int) < (ts.length : Int)) = true := decide_eq_true (by omega)
        have hns : acc.size + xs[k].name.size ≤ 1000 := by have := HNM.out; omega
        go_wp2_with fail
        have hns2 := HNM.out
        have HNS := Lib.hid hns2
        clear hns2
        go_loop [3, 6] (fun o i => ∃ (j : Nat) (b : ByteArray), j ≤ ts.length ∧ i = .int .i64 j ∧ o = .string b ∧ b = showBody (acc ++ xs[k].name) (ts.take j) ∧ b.size ≤ acc.size + 1 + 7 * j) (fun _ i => ts.length - (intOf i).toNat)
        case atStart => exact ⟨0, _, Nat.zero_le _, rfl, rfl, rfl, by rw [ByteArray.size_append]; have := HNM.out; omega⟩
        case round =>
          obtain ⟨j, b, hj, rfl, rfl, hb, hbs⟩ := hrel
          have HBB := Lib.hid hb
          clear hb
          by_cases hjl : j < ts.length
          · obtain ⟨a', ao', ha'⟩ := HTA.out.place hjl
            simp only at ha'
            subst ha'
            have hcj : w1.cell? ⟨a', ao' + j, none⟩ = some (.string ts[j]) := by
              have := HTA.out.cellK (b := a') (o := ao') rfl hjl (j := 0) (v := .string ts[j]) rfl
              simpa [Dat.k] using this
            have hs4 : ts[j].size ≤ 4 := HT4.out _ (List.getElem_mem hjl)
            have hq := showBody_take (acc := acc ++ xs[k].name) hjl
            have HQ := Lib.hid hq
            clear hq
            go_wp2_with fail
            go_round
            case rel =>
              refine ⟨j + 1, _, by omega, by go_num, rfl, ?_, ?_⟩
              · rw [HQ.out, HBB.out, quoT]; simp only [ByteArray.append_assoc]
              · simp only [ByteArray.size_append]; have h1 : (ByteArray.mk #[32, 39]).size = 2 := rfl; have h2 : (ByteArray.mk #[39]).size = 1 := rfl; omega
            case measure => simp [intOf]; omega
          · have hkj : j = ts.length := by omega
            subst hkj
            have hb10 : b.size ≤ 10000 := by omega
            go_wp2_with fail
            go_roundw
            case rel =>
              refine ⟨k + 1, _, by omega, by go_num, rfl, ?_, ?_, HB1.out⟩
              · have h3 : ts = showTexts xs[k].er.sibs := HTS.out
                rw [HST.out, ← HA.out, showStep, if_neg (by rw [← h3]; intro h4; rw [h4] at h0; exact h0 rfl), ← h3, HBB.out, List.take_length]; rfl
              · simp only [ByteArray.size_append]; have h1 : (ByteArray.mk #[10]).size = 1 := rfl; omega
            case measure => simp [intOf]; omega
    · have hkk : k = xs.length := by omega
      subst hkk
      go_wp2_with fail
      go_ret
      have h := HA.out
      rw [List.take_length] at h
      exact ⟨ret_string h, HBW.out⟩
end Go.Proofs.YtjlaaoecockfjaaDoor
