/- What is shown of a tree: the program's and the reference's sibsShow and treeShow. -/
import Derived.Test.YtdidkfadiaafiaaDoorOwn
import Derived.Test.YtdidkfadiaafiaaDoorSpec5
import Derived.Test.YtdidkfadiaafiaaDoorInfo
namespace Go.Proofs.YtdidkfadiaafiaaDoor
open Go Go.RowKit

/-- The texts of what is not gone. -/
def showTexts (l : List Sib) : List ByteArray := (l.filter fun s => !s.gone).map (·.text)

theorem showTexts_snoc (l : List Sib) (s : Sib) : showTexts (l ++ [s]) = showTexts l ++ if s.gone then [] else [s.text] := by
  unfold showTexts
  rw [List.filter_append, List.map_append]
  cases h : s.gone <;> simp [List.filter, h]

theorem showTexts_le (l : List Sib) : (showTexts l).length ≤ l.length := by
  unfold showTexts
  rw [List.length_map]
  exact List.length_filter_le _ _

set_option maxRecDepth 100000 in
set_option maxHeartbeats 1000000 in
theorem sibsShow_any (x : Loc LSib) (w : World) (hx : x.At w) (hn : x.xs.length ≤ 1048576) :
    Calls Tryd.prog 40 #[x.val] w (NewPost w (fun ys : List ByteArray => ys = showTexts (x.xs.map LSib.er))) := by
  obtain ⟨xa, xc, xs⟩ := x
  simp only [Loc.val]
  simp only at hn
  have h1 : xs.length ≤ 9223372036854775807 := by omega
  have HX := Lib.hid hx
  have HN := Lib.hid hn
  have HG0 := Lib.hid (Grows.start (α := ByteArray) w 9)
  clear hx hn
  go_enter Tryd.func40, Tryd.ntmps40
  go_wp2_with fail
  go_loopw [3, 9] (fun o i wr => ∃ (k : Nat) (l : Loc ByteArray), k ≤ xs.length ∧ i = .int .i64 k ∧ o = l.val ∧ l.xs = showTexts ((xs.take k).map LSib.er) ∧ Grows w.heap.size 9 w l wr) (fun _ i _ => xs.length - (intOf i).toNat)
  case atStart => exact ⟨0, _, Nat.zero_le _, rfl, rfl, rfl, HG0.out⟩
  case round =>
    obtain ⟨k, l, hk, rfl, rfl, hl, hG⟩ := hrel
    have HL := Lib.hid hl
    have HG := Lib.hid hG
    clear hl hG
    by_cases hlt : k < xs.length
    · obtain ⟨a, ao, ha⟩ := HX.out.place hlt
      simp only at ha
      subst ha
      have hc1 := (HX.out.belowAll (HG.out.bel)).sib rfl hlt
      simp only at hc1
      obtain ⟨c0, c1, c2⟩ := hc1
      have hts := showTexts_snoc ((xs.take k).map LSib.er) xs[k].er
      have htk : (xs.take (k + 1)).map LSib.er = (xs.take k).map LSib.er ++ [xs[k].er] := by rw [List.take_succ_eq_append_getElem hlt, List.map_append]; rfl
      rw [← htk] at hts
      cases hg : xs[k].gone with
      | true =>
        rw [hg] at c1
        have HGO := Lib.hid hg
        have HTS := Lib.hid hts
        have HV := Lib.hid (((Below.refl wr.heap.size wr).alloc (Nat.le_refl _) (Obj.cells #[xs[k].vv.val, .bool true, .string xs[k].text] 38)))
        clear hts htk hg
        go_wp2_with fail
        go_roundw
        case rel =>
          refine ⟨k + 1, l, by omega, by go_num, rfl, ?_, HG.out.later (Nat.le_refl _) HV.out⟩
          rw [HTS.out, HL.out, LSib.er, HGO.out]; simp
        case measure => simp [intOf]; omega
      | false =>
        rw [hg] at c1
        have HGO := Lib.hid hg
        have HTS := Lib.hid hts
        clear hts htk hg
        have hts : xs[k].text.size ≤ maxLen := (HX.out.elem (List.getElem_mem hlt)).2
        have hll : l.xs.length + 1 ≤ 1099511627776 := by
          have h := showTexts_le ((xs.take k).map LSib.er)
          have h2 := HN.out
          rw [List.length_map, List.length_take] at h
          rw [HL.out]; omega
        have HLL := Lib.hid hll
        have HTX := Lib.hid hts
        have HW := Lib.hid (HG.out.later (Nat.le_refl _) (((Below.refl wr.heap.size wr).alloc (Nat.le_refl _) (Obj.cells #[xs[k].vv.val, .bool false, .string xs[k].text] 38)).alloc (by simp) (Obj.cells #[.string xs[k].text] 9)))
        clear hts hll
        go_wp2_with (at_builtin; go_loud (refine wpList_append_loc rfl _ _ 35 rfl w.heap.size 9 elem_string l rfl HW.out.own ⟨wr.heap.size + 1, 0, none⟩ 1 1 [xs[k].text] rfl rfl ?c1 ?c2 ?c3 ?c4 ?c5 ?_))
        case c1 => exact news_new (by simp) _ rfl
        case c2 => intro y hy; rw [List.mem_singleton.1 hy]; exact HTX.out
        case c3 => intro y hy b hb; cases hb
        case c4 => exact HLL.out
        case c5 => exact HW.out.bel.size
        intro l' w' hap
        have HAP := Lib.hid hap
        clear hap c0 c1 c2
        go_wp2_with fail
        go_roundw
        case rel =>
          refine ⟨k + 1, l', by omega, by go_num, rfl, ?_, HW.out.step (Nat.le_refl _) HAP.out (Fr.nil _ _) (fun a _ b hb => by cases hb) (fun y _ b hb => by cases hb)⟩
          rw [HAP.out.xs, HTS.out, HL.out, LSib.er, HGO.out]; simp
        case measure => simp [intOf]; omega
    · have hkk : k = xs.length := by omega
      subst hkk
      go_wp2_with fail
      go_ret
      have hd := HG.out.done
      refine ⟨l, rfl, ?_, hd.1, hd.2, HG.out.bel⟩
      have := HL.out
      rwa [List.take_length] at this

def quoT (t : ByteArray) : ByteArray := ⟨#[32, 39]⟩ ++ t ++ ⟨#[39]⟩
def showBody (acc : ByteArray) (ts : List ByteArray) : ByteArray := ts.foldl (fun a t => a ++ quoT t) acc
def showStep (acc : ByteArray) (f : File) : ByteArray := if showTexts f.sibs = [] then acc else showBody (acc ++ f.name) (showTexts f.sibs) ++ ⟨#[10]⟩
def showTree (t : List File) : ByteArray := t.foldl showStep ⟨#[]⟩

theorem showTree_take {xs : List LFile} {k : Nat} (h : k < xs.length) : showTree ((xs.take (k + 1)).map LFile.er) = showStep (showTree ((xs.take k).map LFile.er)) xs[k].er := by
  unfold showTree
  rw [List.take_succ_eq_append_getElem h, List.map_append, List.foldl_append]; rfl
theorem showBody_take {acc : ByteArray} {ts : List ByteArray} {k : Nat} (h : k < ts.length) : showBody acc (ts.take (k + 1)) = showBody acc (ts.take k) ++ quoT ts[k] := by
  unfold showBody
  rw [List.take_succ_eq_append_getElem h, List.foldl_append]; rfl
theorem text_le {l : List Sib} (h : SibsOK l) : ∀ t ∈ showTexts l, t.size ≤ 4 := by
  intro t ht
  unfold showTexts at ht
  obtain ⟨s, hs, rfl⟩ := List.mem_map.1 ht
  obtain ⟨i, hi, rfl⟩ := List.getElem_of_mem (List.mem_filter.1 hs).1
  have := h.each i hi
  simp only [sibB, textB, Bool.and_eq_true, decide_eq_true_eq] at this
  exact this.1.2.1
theorem name_len {n : ByteArray} (h : nameB n = true) : n.size = 1 := by
  obtain ⟨⟨l⟩⟩ := n
  match l, h with
  | [c], _ => rfl

end Go.Proofs.YtdidkfadiaafiaaDoor
