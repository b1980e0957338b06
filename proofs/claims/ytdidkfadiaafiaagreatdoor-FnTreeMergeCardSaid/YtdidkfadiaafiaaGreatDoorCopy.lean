/- Lists of versions anew: the program's copySibs. -/
import Derived.Test.YtdidkfadiaafiaaGreatDoorOwn
import Derived.Test.YtdidkfadiaafiaaGreatDoorInfo
namespace Go.Proofs.YtdidkfadiaafiaaGreatDoor
open Go Go.RowKit

theorem vv_len_of {s : LSib} (h : s.vv.xs.length ≤ 1099511627776) (l : Loc Int) (hl : l.xs = []) : l.xs.length + s.vv.xs.length ≤ 1099511627776 := by rw [hl]; simpa using h

/-- A new copy of a version: a block with its cells, then its counts anew. -/
theorem copied {w w1 : World} {lo : Nat} {t e : TypeId} {x : LSib} {lv : Loc Int} (hlo : lo ≤ w.heap.size)
    (hap : Appended (w.heap.size + 1) e ((w.alloc (.cells #[x.vv.val, .bool x.gone, .string x.text] t)).alloc (.cells #[] e)) (⟨some ⟨w.heap.size + 1, 0, none⟩, 0, []⟩ : Loc Int) x.vv.xs lv w1) :
    Below w.heap.size w w1 ∧ lv.xs = x.vv.xs ∧ Own (w.heap.size + 1) e w1 lv ∧ w.heap.size + 1 ≤ w1.heap.size ∧ Fr (w.heap.size + 1) w1 lv.fp ∧
      (∀ j, w1.cell? ⟨w.heap.size, j, none⟩ = #[x.vv.val, Value.bool x.gone, Value.string x.text][j]?) ∧ (∀ j, w1.frozen? ⟨w.heap.size, j, none⟩ = false) := by
  have hW : Below (w.heap.size + 1) (w.alloc (.cells #[x.vv.val, .bool x.gone, .string x.text] t)) ((w.alloc (.cells #[x.vv.val, .bool x.gone, .string x.text] t)).alloc (.cells #[] e)) := (Below.refl _ _).alloc (by simp) _
  have hown0 : Own (α := Int) (w.heap.size + 1) e ((w.alloc (.cells #[x.vv.val, .bool x.gone, .string x.text] t)).alloc (.cells #[] e)) ⟨some ⟨w.heap.size + 1, 0, none⟩, 0, []⟩ := by
    have := Own.made (α := Int) (w.alloc (.cells #[x.vv.val, .bool x.gone, .string x.text] t)) e
    simpa using this
  have hb := hap.below hown0 hW (Nat.le_refl _) (by simp)
  have hB := ((Below.refl w.heap.size w).alloc (Nat.le_refl _) (Obj.cells #[x.vv.val, .bool x.gone, .string x.text] t)).trans (hb.mono (by omega))
  refine ⟨hB, by rw [hap.xs]; rfl, hap.own, by have := hb.size; simpa using this, hap.own.fr ?_ (Nat.le_refl _), fun j => ?_, fun j => ?_⟩
  · have : lv.xs.flatMap Dat.fp = [] := by rw [List.flatMap_eq_nil_iff]; intro z _; rfl
    rw [this]; exact Fr.nil _ _
  · rw [hb.cell (by simp)]
    exact cell_of_row _ _ _ _ _ (0, 0) (heap_alloc_new w _)
  · rw [hb.frozen (by simp)]
    exact frozen_of_row _ _ _ _ _ (heap_alloc_new w _)

set_option maxRecDepth 100000 in
set_option maxHeartbeats 1000000 in
theorem copySibs_any (x : Loc LSib) (w : World) (hx : x.At w) (hn : x.xs.length ≤ 1048576) (hv : ∀ s ∈ x.xs, s.vv.xs.length ≤ 1048576) :
    Calls Tryz.prog 52 #[x.val] w (NewPost w (fun ys : List LSib => ys.map LSib.er = x.xs.map LSib.er)) := by
  obtain ⟨xa, xc, xs⟩ := x
  simp only [Loc.val]
  simp only at hn hv
  have h1 : xs.length ≤ 9223372036854775807 := by omega
  have HX := Lib.hid hx
  have HN := Lib.hid hn
  have HVL := Lib.hid hv
  have HG0 := Lib.hid (Grows.start (α := LSib) w 42)
  clear hx hn hv
  go_enter Tryz.func52, Tryz.ntmps52
  go_wp2_with fail
  go_loopw [3, 9] (fun o i wr => ∃ (k : Nat) (l : Loc LSib), k ≤ xs.length ∧ i = .int .i64 k ∧ o = l.val ∧ l.xs.map LSib.er = (xs.take k).map LSib.er ∧ Grows w.heap.size 42 w l wr) (fun _ i _ => xs.length - (intOf i).toNat)
  case atStart => exact ⟨0, _, Nat.zero_le _, rfl, rfl, rfl, HG0.out⟩
  case round =>
    obtain ⟨k, l, hk, rfl, rfl, hl, hG⟩ := hrel
    have HL := Lib.hid hl
    have HG := Lib.hid hG
    clear hl hG
    by_cases hlt : k < xs.length
    · obtain ⟨a, ao, ha⟩ := HX.out.place hlt
      simp only at ha
      subst ha
      have hc1 := (HX.out.belowAll (HG.out.bel)).sib rfl hlt
      simp only at hc1
      obtain ⟨c0, c1, c2⟩ := hc1
      have HE := Lib.hid ((HX.out.belowAll (HG.out.bel)).elem (List.getElem_mem hlt))
      have hvk : xs[k].vv.xs.length ≤ 1048576 := HVL.out _ (List.getElem_mem hlt)
      have HVK := Lib.hid hvk
      clear hvk
      have hll : l.xs.length + 1 ≤ 1099511627776 := by
        have h := congrArg List.length HL.out
        simp only [List.length_map, List.length_take] at h
        have := HN.out
        omega
      have HLL := Lib.hid hll
      clear hll
      have HO := Lib.hid (Own.made (α := Int) (wr.alloc (Obj.cells #[xs[k].vv.val, .bool xs[k].gone, .string xs[k].text] 42)) 3)
      have HB2 := Lib.hid (((Below.refl wr.heap.size wr).alloc (Nat.le_refl _) (Obj.cells #[xs[k].vv.val, .bool xs[k].gone, .string xs[k].text] 42)).alloc (by simp) (Obj.cells #[] 3))
      go_wp2_with (at_builtin; refine wpList_append_all rfl _ _ 40 rfl (wr.heap.size + 1) 3 elem_int ⟨some ⟨wr.heap.size + 1, 0, none⟩, 0, []⟩ rfl (by have := HO.out; simpa using this) xs[k].vv rfl (Loc.At.belowAll HE.out.1 HB2.out) (fun z _ b hb => by cases hb) (by have := HVK.out; simp; omega) (by simp) ?_)
      intro lv wc hap
      obtain ⟨b1, e1, o1, s1, f1, q1, z1⟩ := copied HG.out.bel.size hap
      have B1 := Lib.hid b1
      have E1 := Lib.hid e1
      have O1 := Lib.hid o1
      have S1 := Lib.hid s1
      have F1 := Lib.hid f1
      have d0 := q1 0
      have z10 := z1 0
      have d1 := q1 1
      have d2 := q1 2
      simp only [List.getElem?_toArray, List.getElem?_cons_zero, List.getElem?_cons_succ] at d0 d1 d2
      clear hap b1 e1 o1 s1 f1 q1 c0 c1 c2 z1
      have hW3 : Below wr.heap.size wr ((wc.setCell ⟨wr.heap.size, 0, none⟩ lv.val).alloc (Obj.cells #[lv.val, .bool xs[k].gone, .string xs[k].text] 42)) :=
        (B1.out.setCell (Nat.le_refl _) _).alloc (by have := S1.out; simp; omega) _
      have hs3 : Below (wc.setCell ⟨wr.heap.size, 0, none⟩ lv.val).heap.size (wc.setCell ⟨wr.heap.size, 0, none⟩ lv.val) ((wc.setCell ⟨wr.heap.size, 0, none⟩ lv.val).alloc (Obj.cells #[lv.val, .bool xs[k].gone, .string xs[k].text] 42)) :=
        (Below.refl _ _).alloc (Nat.le_refl _) _
      have hk3 : ∀ b, wr.heap.size + 1 ≤ b → b < wc.heap.size → ((wc.setCell ⟨wr.heap.size, 0, none⟩ lv.val).alloc (Obj.cells #[lv.val, .bool xs[k].gone, .string xs[k].text] 42)).heap[b]? = wc.heap[b]? := by
        intro b h1 h2
        rw [Below.heap_alloc _ _ _ (by simpa using h2), Below.heap_setCell _ _ _ _ (by simp; omega)]
      have hA3 : Dat.At ((wc.setCell ⟨wr.heap.size, 0, none⟩ lv.val).alloc (Obj.cells #[lv.val, .bool xs[k].gone, .string xs[k].text] 42)) (⟨lv, xs[k].gone, xs[k].text⟩ : LSib) :=
        ⟨Loc.keep_At O1.out.at_ fun b hb => hk3 b (F1.out.ge b hb) (F1.out.lt b hb), HE.out.2⟩
      have hF3 := (F1.out.mono (lo' := wr.heap.size) (by omega)).keep (w' := (wc.setCell ⟨wr.heap.size, 0, none⟩ lv.val).alloc (Obj.cells #[lv.val, .bool xs[k].gone, .string xs[k].text] 42)) fun b hb => hk3 b (F1.out.ge b hb) (F1.out.lt b hb)
      have HG3 := Lib.hid (HG.out.later (Nat.le_refl _) hW3)
      have A3 := Lib.hid hA3
      have F3 := Lib.hid hF3
      have hnew : Hid (∀ b ∈ lv.fp, b ∉ l.xs.flatMap Dat.fp ∧ some b ≠ l.val.ownBlock) := Lib.hid (by
        intro b hb
        have h1 := F1.out.ge b hb
        refine ⟨fun h => ?_, fun h => ?_⟩
        · have := HG.out.fr.lt b h; omega
        · have := (HG.out.own.lt b h.symm).2; omega)
      clear hW3 hs3 hk3 hA3 hF3
      obtain ⟨la, lc, ls⟩ := lv
      simp only [Loc.val] at HG3 A3 F3 ⊢
      have C1 := Lib.hid (news_new (w := wc.setCell ⟨wr.heap.size, 0, none⟩ (.slice la ls.length lc)) (g := wc.heap.size) (cs := #[.slice la ls.length lc, .bool xs[k].gone, .string xs[k].text]) (e := 42) (by simp) [(⟨⟨la, lc, ls⟩, xs[k].gone, xs[k].text⟩ : LSib)] rfl)
      have C2 : Hid (∀ y ∈ [(⟨⟨la, lc, ls⟩, xs[k].gone, xs[k].text⟩ : LSib)], Dat.At _ y) := Lib.hid (fun y hy => by rw [List.mem_singleton.1 hy]; exact A3.out)
      have C3 : Hid (∀ y ∈ [(⟨⟨la, lc, ls⟩, xs[k].gone, xs[k].text⟩ : LSib)], ∀ b ∈ Dat.fp y, some b ≠ l.val.ownBlock) := Lib.hid (fun y hy b hb => by rw [List.mem_singleton.1 hy] at hb; exact (hnew.out b hb).2)
      go_wp2_with (at_builtin; (refine wpList_append_loc rfl _ _ 37 rfl w.heap.size 42 elem_sib l rfl HG3.out.own ⟨wc.heap.size, 0, none⟩ 1 1 [⟨⟨la, lc, ls⟩, xs[k].gone, xs[k].text⟩] rfl rfl C1.out C2.out C3.out HLL.out HG3.out.bel.size ?_))
      intro l' wd hap
      have HAP := Lib.hid hap
      clear hap d0 d1 d2 z10
      have HNX : Hid (l'.xs = l.xs ++ [(⟨⟨la, lc, ls⟩, xs[k].gone, xs[k].text⟩ : LSib)]) := Lib.hid HAP.out.xs
      have HNE : Hid ((⟨⟨la, lc, ls⟩, xs[k].gone, xs[k].text⟩ : LSib).er = xs[k].er) := Lib.hid (by have h : ls = xs[k].vv.xs := E1.out; simp only [LSib.er, h])
      have HNG := Lib.hid (HG3.out.step (Nat.le_refl _) HAP.out (by simp only [List.flatMap_cons, List.flatMap_nil, List.append_nil]; exact F3.out.mono HG.out.bel.size) (fun a ha b hb => by
        simp only [List.flatMap_cons, List.flatMap_nil, List.append_nil] at hb
        rintro rfl
        exact (hnew.out a hb).1 ha) (fun y hy b hb => by rw [List.mem_singleton.1 hy] at hb; exact (hnew.out b hb).2))
      have HNB := Lib.hid ((B1.out.setCell (p := ⟨wr.heap.size, 0, none⟩) (Nat.le_refl _) (.slice la ls.length lc)).alloc (by have := S1.out; simp; omega) (Obj.cells #[.slice la ls.length lc, .bool xs[k].gone, .string xs[k].text] 42))
      have HND := Lib.hid (HAP.out.below HG3.out.own (HNB.out.mono HG.out.bel.size) (Nat.le_refl _) HG3.out.bel.size)
      clear HAP C1 C2 C3 HG3 A3 F3 hnew B1 E1 O1 S1 F1 HO HB2 HNB
      go_wp2_with fail
      go_roundw
      case rel =>
        refine ⟨k + 1, l', by omega, by go_num, rfl, ?_, HNG.out⟩
        rw [HNX.out, List.map_append, HL.out, List.take_succ_eq_append_getElem hlt, List.map_append, List.map_singleton, HNE.out, List.map_singleton]
      case measure => simp [intOf]; omega
    · have hkk : k = xs.length := by omega
      subst hkk
      go_wp2_with fail
      go_ret
      have hd := HG.out.done
      refine ⟨l, rfl, ?_, hd.1, hd.2, HG.out.bel⟩
      have := HL.out
      rwa [List.take_length] at this
end Go.Proofs.YtdidkfadiaafiaaGreatDoor
