/- Records anew: the program's copyRecs, the reference's l12Recs. -/
import Derived.Test.YtdbejmnfnbkndaaGreatDoorAnew
import Derived.Test.YtdbejmnfnbkndaaGreatDoorInfo
namespace Go.Proofs.YtdbejmnfnbkndaaGreatDoor
open Go Go.RowKit


/-- Records whose lists are lists, or nothing. -/
def recsK (l : List Rec) : Prop := ∀ r ∈ l, r.sibs = [] ∨ SibsOK r.sibs

set_option maxRecDepth 100000 in
set_option maxHeartbeats 2000000 in
theorem copyRecs_own (x : Loc LRec) (w : World) (hx : x.At w) (hn : x.xs.length ≤ 1048576) (hk : recsK (x.xs.map LRec.er)) :
    Calls Tryz.prog 23 #[x.val] w (NewOwn 53 w (fun ys : List LRec => ys.map LRec.er = x.xs.map LRec.er)) := by
  obtain ⟨xa, xc, xs⟩ := x
  simp only [Loc.val]
  simp only at hn hk
  have h1 : xs.length ≤ 9223372036854775807 := by omega
  have HX := Lib.hid hx
  have HN := Lib.hid hn
  have HK := Lib.hid hk
  have HG0 := Lib.hid (Grows.start (α := LRec) w 53)
  clear hx hn hk
  go_enter Tryz.func23, Tryz.ntmps23
  go_wp2_with fail
  go_loopw [3, 9] (fun o i wr => ∃ (k : Nat) (l : Loc LRec), k ≤ xs.length ∧ i = .int .i64 k ∧ o = l.val ∧ l.xs.map LRec.er = (xs.take k).map LRec.er ∧ Grows w.heap.size 53 w l wr) (fun _ i _ => xs.length - (intOf i).toNat)
  case atStart => exact ⟨0, _, Nat.zero_le _, rfl, rfl, rfl, HG0.out⟩
  case round =>
    obtain ⟨k, l, hk, rfl, rfl, hl, hG⟩ := hrel
    have HL := Lib.hid hl
    have HG := Lib.hid hG
    clear hl hG
    by_cases hlt : k < xs.length
    · obtain ⟨a, ao, ha⟩ := HX.out.place hlt
      simp only at ha
      subst ha
      have hc1 := (HX.out.belowAll (HG.out.bel)).rec_ rfl hlt
      simp only at hc1
      obtain ⟨c0, c1, c2, c3, c4⟩ := hc1
      have HE := Lib.hid ((HX.out.belowAll (HG.out.bel)).elem (List.getElem_mem hlt))
      have HSK := Lib.hid (show xs[k].sibs.xs.map LSib.er = [] ∨ SibsOK (xs[k].sibs.xs.map LSib.er) from HK.out _ (List.mem_map.2 ⟨_, List.getElem_mem hlt, rfl⟩))
      have HB2 := Lib.hid ((Below.refl wr.heap.size wr).alloc (Nat.le_refl _) (Obj.cells #[.int .i64 xs[k].kind, .string xs[k].name, xs[k].sibs.val, .int .i64 xs[k].n, .int .i64 xs[k].sum] 53))
      have HR2 := Lib.hid (heap_alloc_new wr (Obj.cells #[.int .i64 xs[k].kind, .string xs[k].name, xs[k].sibs.val, .int .i64 xs[k].n, .int .i64 xs[k].sum] 53))
      have HZ2 : Hid ((wr.alloc (Obj.cells #[.int .i64 xs[k].kind, .string xs[k].name, xs[k].sibs.val, .int .i64 xs[k].n, .int .i64 xs[k].sum] 53)).heap.size = wr.heap.size + 1) := Lib.hid (by simp)
      have hok := sibsOk_len3 HSK.out
      have hc := Lib.hid (copySibs_any xs[k].sibs _ (Loc.At.belowAll HE.out.1 HB2.out) (by omega) (fun s hs => by have := hok.1 s hs; omega))
      clear hok
      go_wp2_with fail
      refine hc.out.mono ?_
      rintro e w1 ⟨⟨sa, sc, ss⟩, rfl, hs, hsA, hsF, hb1⟩
      have hrow := (hb1.block wr.heap.size (by rw [HZ2.out]; omega)).trans HR2.out
      have HS := Lib.hid (show ss.map LSib.er = xs[k].sibs.xs.map LSib.er from hs)
      have HSA := Lib.hid hsA
      have HSF := Lib.hid hsF
      have HB1 := Lib.hid (HB2.out.trans (hb1.mono HB2.out.size))
      have HSZ : Hid (wr.heap.size + 1 ≤ w1.heap.size) := Lib.hid (by have := hb1.size; rw [HZ2.out] at this; exact this)
      have d0 : w1.cell? ⟨wr.heap.size, 0, none⟩ = some (.int .i64 xs[k].kind) := by rw [cell_of_row _ _ _ _ _ _ hrow]; rfl
      have d1 : w1.cell? ⟨wr.heap.size, 1, none⟩ = some (.string xs[k].name) := by rw [cell_of_row _ _ _ _ _ _ hrow]; rfl
      have d2 : w1.cell? ⟨wr.heap.size, 2, none⟩ = some xs[k].sibs.val := by rw [cell_of_row _ _ _ _ _ _ hrow]; rfl
      have d3 : w1.cell? ⟨wr.heap.size, 3, none⟩ = some (.int .i64 xs[k].n) := by rw [cell_of_row _ _ _ _ _ _ hrow]; rfl
      have d4 : w1.cell? ⟨wr.heap.size, 4, none⟩ = some (.int .i64 xs[k].sum) := by rw [cell_of_row _ _ _ _ _ _ hrow]; rfl
      have z2 := frozen_of_row _ _ 2 _ _ hrow
      clear hrow hs hsA hsF hb1 hc c0 c1 c2 c3 c4
      simp only [Loc.val] at d2 ⊢
      have hB3 : Below wr.heap.size wr (w1.setCell ⟨wr.heap.size, 2, none⟩ (.slice sa ss.length sc)) := HB1.out.setCell (Nat.le_refl _) _
      have hk3 : ∀ b ∈ (⟨sa, sc, ss⟩ : Loc LSib).fp, (w1.setCell ⟨wr.heap.size, 2, none⟩ (.slice sa ss.length sc)).heap[b]? = w1.heap[b]? := fun b hb => by
        have := HSF.out.ge b hb
        rw [HZ2.out] at this
        exact Below.heap_setCell _ _ _ _ (by simp only; omega)
      have hY3 : Dat.At (w1.setCell ⟨wr.heap.size, 2, none⟩ (.slice sa ss.length sc)) (⟨xs[k].kind, xs[k].name, ⟨sa, sc, ss⟩, xs[k].n, xs[k].sum⟩ : LRec) := ⟨Loc.keep_At HSA.out hk3, HE.out.2⟩
      have HG3 := Lib.hid (HG.out.later (Nat.le_refl _) hB3)
      have HF3 := Lib.hid ((HSF.out.mono (lo' := wr.heap.size) (by rw [HZ2.out]; omega)).keep hk3)
      have hll : l.xs.length + 1 ≤ 1099511627776 := by
        have h := congrArg List.length HL.out
        simp only [List.length_map, List.length_take] at h
        have := HN.out
        omega
      have hnew : Hid (∀ b ∈ (⟨sa, sc, ss⟩ : Loc LSib).fp, b ∉ l.xs.flatMap Dat.fp ∧ some b ≠ l.val.ownBlock) := Lib.hid (by
        intro b hb
        have h1 := HSF.out.ge b hb
        rw [HZ2.out] at h1
        refine ⟨fun h => ?_, fun h => ?_⟩
        · have := HG.out.fr.lt b h; omega
        · have := (HG.out.own.lt b h.symm).2; omega)
      have HM := Lib.hid (one_more (W := w1.setCell ⟨wr.heap.size, 2, none⟩ (.slice sa ss.length sc)) (e' := 53) (cs := #[.int .i64 xs[k].kind, .string xs[k].name, .slice sa ss.length sc, .int .i64 xs[k].n, .int .i64 xs[k].sum]) (g := w1.heap.size) l (⟨xs[k].kind, xs[k].name, ⟨sa, sc, ss⟩, xs[k].n, xs[k].sum⟩ : LRec) (by simp) rfl HG3.out.own hY3 (fun b hb => (hnew.out b hb).2) hll HG3.out.bel.size)
      have HB4 := Lib.hid ((Below.refl (w1.setCell ⟨wr.heap.size, 2, none⟩ (.slice sa ss.length sc)).heap.size (w1.setCell ⟨wr.heap.size, 2, none⟩ (.slice sa ss.length sc))).alloc (Nat.le_refl _) (Obj.cells #[.int .i64 xs[k].kind, .string xs[k].name, .slice sa ss.length sc, .int .i64 xs[k].n, .int .i64 xs[k].sum] 53))
      clear hB3 hk3 hY3 hll
      go_wp2_with (at_builtin; refine wpList_append_one rfl _ _ 23 rfl _ 53 elem_rec l rfl (w1.heap.size) (⟨xs[k].kind, xs[k].name, ⟨sa, sc, ss⟩, xs[k].n, xs[k].sum⟩ : LRec) rfl HM.out ?_)
      intro l' w5 hap
      have HAP := Lib.hid hap
      have HG4 := Lib.hid (HG3.out.later (Nat.le_refl _) HB4.out)
      have HF4 := Lib.hid (HF3.out.belowAll HB4.out)
      clear hap d0 d1 d2 d3 d4 z2
      go_wp2_with fail
      go_roundw
      case rel =>
        refine ⟨k + 1, l', by omega, by go_num, rfl, ?_, HG4.out.step (Nat.le_refl _) HAP.out ?_ ?_ ?_⟩
        · rw [HAP.out.xs, List.map_append, HL.out, List.take_succ_eq_append_getElem hlt, List.map_append, List.map_singleton, List.map_singleton]
          simp only [LRec.er, HS.out]
        · simp only [List.flatMap_cons, List.flatMap_nil, List.append_nil]; exact HF4.out.mono HG.out.bel.size
        · intro a ha b hb
          simp only [List.flatMap_cons, List.flatMap_nil, List.append_nil] at hb
          rintro rfl
          exact (hnew.out a hb).1 ha
        · intro y hy b hb; rw [List.mem_singleton.1 hy] at hb; exact (hnew.out b hb).2
      case measure => simp [intOf]; omega
    · have hkk : k = xs.length := by omega
      subst hkk
      go_wp2_with fail
      go_ret
      refine ⟨l, rfl, ?_, HG.out.own, HG.out.fr, HG.out.bel⟩
      have := HL.out
      rwa [List.take_length] at this
set_option maxRecDepth 100000 in
set_option maxHeartbeats 2000000 in
theorem l12Recs_own (x : Loc LRec) (w : World) (hx : x.At w) (hn : x.xs.length ≤ 1048576) (hk : recsK (x.xs.map LRec.er)) :
    Calls Tryz.prog 19 #[x.val] w (NewOwn 53 w (fun ys : List LRec => ys.map LRec.er = x.xs.map LRec.er)) := by
  obtain ⟨xa, xc, xs⟩ := x
  simp only [Loc.val]
  simp only at hn hk
  have h1 : xs.length ≤ 9223372036854775807 := by omega
  have HX := Lib.hid hx
  have HN := Lib.hid hn
  have HK := Lib.hid hk
  have HG0 := Lib.hid (Grows.start (α := LRec) w 53)
  clear hx hn hk
  go_enter Tryz.func19, Tryz.ntmps19
  go_wp2_with fail
  go_loopw [3, 4] (fun o i wr => ∃ (k : Nat) (l : Loc LRec), k ≤ xs.length ∧ i = .int .i64 k ∧ o = l.val ∧ l.xs.map LRec.er = (xs.take k).map LRec.er ∧ Grows w.heap.size 53 w l wr) (fun _ i _ => xs.length - (intOf i).toNat)
  case atStart => exact ⟨0, _, Nat.zero_le _, rfl, rfl, rfl, HG0.out⟩
  case round =>
    obtain ⟨k, l, hk, rfl, rfl, hl, hG⟩ := hrel
    have HL := Lib.hid hl
    have HG := Lib.hid hG
    clear hl hG
    by_cases hlt : k < xs.length
    · obtain ⟨a, ao, ha⟩ := HX.out.place hlt
      simp only at ha
      subst ha
      have hc1 := (HX.out.belowAll (HG.out.bel)).rec_ rfl hlt
      simp only at hc1
      obtain ⟨c0, c1, c2, c3, c4⟩ := hc1
      have HE := Lib.hid ((HX.out.belowAll (HG.out.bel)).elem (List.getElem_mem hlt))
      have HSK := Lib.hid (show xs[k].sibs.xs.map LSib.er = [] ∨ SibsOK (xs[k].sibs.xs.map LSib.er) from HK.out _ (List.mem_map.2 ⟨_, List.getElem_mem hlt, rfl⟩))
      have HB2 := Lib.hid ((Below.refl wr.heap.size wr).alloc (Nat.le_refl _) (Obj.cells #[.int .i64 xs[k].kind, .string xs[k].name, xs[k].sibs.val, .int .i64 xs[k].n, .int .i64 xs[k].sum] 53))
      have HR2 := Lib.hid (heap_alloc_new wr (Obj.cells #[.int .i64 xs[k].kind, .string xs[k].name, xs[k].sibs.val, .int .i64 xs[k].n, .int .i64 xs[k].sum] 53))
      have HZ2 : Hid ((wr.alloc (Obj.cells #[.int .i64 xs[k].kind, .string xs[k].name, xs[k].sibs.val, .int .i64 xs[k].n, .int .i64 xs[k].sum] 53)).heap.size = wr.heap.size + 1) := Lib.hid (by simp)
      have hok := sibsOk_len3 HSK.out
      have hc := Lib.hid (l3Sibs_any xs[k].sibs _ (Loc.At.belowAll HE.out.1 HB2.out) HSK.out)
      clear hok
      go_wp2_with fail
      refine hc.out.mono ?_
      rintro e w1 ⟨⟨sa, sc, ss⟩, rfl, hs, hsA, hsF, hb1⟩
      have hrow := (hb1.block wr.heap.size (by rw [HZ2.out]; omega)).trans HR2.out
      have HS := Lib.hid (show ss.map LSib.er = xs[k].sibs.xs.map LSib.er from hs)
      have HSA := Lib.hid hsA
      have HSF := Lib.hid hsF
      have HB1 := Lib.hid (HB2.out.trans (hb1.mono HB2.out.size))
      have HSZ : Hid (wr.heap.size + 1 ≤ w1.heap.size) := Lib.hid (by have := hb1.size; rw [HZ2.out] at this; exact this)
      have d0 : w1.cell? ⟨wr.heap.size, 0, none⟩ = some (.int .i64 xs[k].kind) := by rw [cell_of_row _ _ _ _ _ _ hrow]; rfl
      have d1 : w1.cell? ⟨wr.heap.size, 1, none⟩ = some (.string xs[k].name) := by rw [cell_of_row _ _ _ _ _ _ hrow]; rfl
      have d2 : w1.cell? ⟨wr.heap.size, 2, none⟩ = some xs[k].sibs.val := by rw [cell_of_row _ _ _ _ _ _ hrow]; rfl
      have d3 : w1.cell? ⟨wr.heap.size, 3, none⟩ = some (.int .i64 xs[k].n) := by rw [cell_of_row _ _ _ _ _ _ hrow]; rfl
      have d4 : w1.cell? ⟨wr.heap.size, 4, none⟩ = some (.int .i64 xs[k].sum) := by rw [cell_of_row _ _ _ _ _ _ hrow]; rfl
      have z2 := frozen_of_row _ _ 2 _ _ hrow
      clear hrow hs hsA hsF hb1 hc c0 c1 c2 c3 c4
      simp only [Loc.val] at d2 ⊢
      have hB3 : Below wr.heap.size wr (w1.setCell ⟨wr.heap.size, 2, none⟩ (.slice sa ss.length sc)) := HB1.out.setCell (Nat.le_refl _) _
      have hk3 : ∀ b ∈ (⟨sa, sc, ss⟩ : Loc LSib).fp, (w1.setCell ⟨wr.heap.size, 2, none⟩ (.slice sa ss.length sc)).heap[b]? = w1.heap[b]? := fun b hb => by
        have := HSF.out.ge b hb
        rw [HZ2.out] at this
        exact Below.heap_setCell _ _ _ _ (by simp only; omega)
      have hY3 : Dat.At (w1.setCell ⟨wr.heap.size, 2, none⟩ (.slice sa ss.length sc)) (⟨xs[k].kind, xs[k].name, ⟨sa, sc, ss⟩, xs[k].n, xs[k].sum⟩ : LRec) := ⟨Loc.keep_At HSA.out hk3, HE.out.2⟩
      have HG3 := Lib.hid (HG.out.later (Nat.le_refl _) hB3)
      have HF3 := Lib.hid ((HSF.out.mono (lo' := wr.heap.size) (by rw [HZ2.out]; omega)).keep hk3)
      have hll : l.xs.length + 1 ≤ 1099511627776 := by
        have h := congrArg List.length HL.out
        simp only [List.length_map, List.length_take] at h
        have := HN.out
        omega
      have hnew : Hid (∀ b ∈ (⟨sa, sc, ss⟩ : Loc LSib).fp, b ∉ l.xs.flatMap Dat.fp ∧ some b ≠ l.val.ownBlock) := Lib.hid (by
        intro b hb
        have h1 := HSF.out.ge b hb
        rw [HZ2.out] at h1
        refine ⟨fun h => ?_, fun h => ?_⟩
        · have := HG.out.fr.lt b h; omega
        · have := (HG.out.own.lt b h.symm).2; omega)
      have HM := Lib.hid (one_more (W := w1.setCell ⟨wr.heap.size, 2, none⟩ (.slice sa ss.length sc)) (e' := 53) (cs := #[.int .i64 xs[k].kind, .string xs[k].name, .slice sa ss.length sc, .int .i64 xs[k].n, .int .i64 xs[k].sum]) (g := w1.heap.size) l (⟨xs[k].kind, xs[k].name, ⟨sa, sc, ss⟩, xs[k].n, xs[k].sum⟩ : LRec) (by simp) rfl HG3.out.own hY3 (fun b hb => (hnew.out b hb).2) hll HG3.out.bel.size)
      have HB4 := Lib.hid ((Below.refl (w1.setCell ⟨wr.heap.size, 2, none⟩ (.slice sa ss.length sc)).heap.size (w1.setCell ⟨wr.heap.size, 2, none⟩ (.slice sa ss.length sc))).alloc (Nat.le_refl _) (Obj.cells #[.int .i64 xs[k].kind, .string xs[k].name, .slice sa ss.length sc, .int .i64 xs[k].n, .int .i64 xs[k].sum] 53))
      clear hB3 hk3 hY3 hll
      go_wp2_with (at_builtin; refine wpList_append_one rfl _ _ 23 rfl _ 53 elem_rec l rfl (w1.heap.size) (⟨xs[k].kind, xs[k].name, ⟨sa, sc, ss⟩, xs[k].n, xs[k].sum⟩ : LRec) rfl HM.out ?_)
      intro l' w5 hap
      have HAP := Lib.hid hap
      have HG4 := Lib.hid (HG3.out.later (Nat.le_refl _) HB4.out)
      have HF4 := Lib.hid (HF3.out.belowAll HB4.out)
      clear hap d0 d1 d2 d3 d4 z2
      go_wp2_with fail
      go_roundw
      case rel =>
        refine ⟨k + 1, l', by omega, by go_num, rfl, ?_, HG4.out.step (Nat.le_refl _) HAP.out ?_ ?_ ?_⟩
        · rw [HAP.out.xs, List.map_append, HL.out, List.take_succ_eq_append_getElem hlt, List.map_append, List.map_singleton, List.map_singleton]
          simp only [LRec.er, HS.out]
        · simp only [List.flatMap_cons, List.flatMap_nil, List.append_nil]; exact HF4.out.mono HG.out.bel.size
        · intro a ha b hb
          simp only [List.flatMap_cons, List.flatMap_nil, List.append_nil] at hb
          rintro rfl
          exact (hnew.out a hb).1 ha
        · intro y hy b hb; rw [List.mem_singleton.1 hy] at hb; exact (hnew.out b hb).2
      case measure => simp [intOf]; omega
    · have hkk : k = xs.length := by omega
      subst hkk
      go_wp2_with fail
      go_ret
      refine ⟨l, rfl, ?_, HG.out.own, HG.out.fr, HG.out.bel⟩
      have := HL.out
      rwa [List.take_length] at this
end Go.Proofs.YtdbejmnfnbkndaaGreatDoor
