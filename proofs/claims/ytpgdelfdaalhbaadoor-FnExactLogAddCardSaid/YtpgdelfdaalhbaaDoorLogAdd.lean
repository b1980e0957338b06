/- LogAdd, the program's and the reference's. -/
import Derived.Test.YtpgdelfdaalhbaaDoorLogCut3
import Derived.Deep.Cut
namespace Go.Proofs.YtpgdelfdaalhbaaDoor
open Go Go.RowKit

/-- Whether more records have room. -/
def roomZ (l : Log) (ms : List Rec) : Prop := l.recs.length + ms.length ≤ 40 ∧ l.from_ ≤ 4900
instance (l : Log) (ms : List Rec) : Decidable (roomZ l ms) := by unfold roomZ; infer_instance
/-- What both LogAdds answer. -/
noncomputable def addZ (l : Log) (ms : List Rec) : Log × Bool :=
  if logB l = true ∧ recsB ms = true ∧ ms.length ≤ 40 then (if roomZ l ms then (⟨l.from_, l.recs ++ ms⟩, true) else (l, false)) else (⟨0, []⟩, false)
/-- A log and whether there was room; the log's memory is one's own from lo on. -/
def AddPost (lo : Nat) (w : World) (p : Log × Bool) (e : Ending) (w' : World) : Prop :=
  ∃ z : LLog, e = .returned (.tuple #[z.val, .bool p.2]) ∧ z.er = p.1 ∧ z.At w' ∧ Fr lo w' z.recs.fp ∧ Below w.heap.size w w'

set_option maxRecDepth 100000 in
set_option maxHeartbeats 4000000 in
theorem l12Add_any (x : LLog) (y : Loc LRec) (lo : Nat) (w : World) (hx : x.At w) (hy : y.At w) (hxF : Fr lo w x.recs.fp) (hyF : Fr lo w y.fp) (hd : ∀ a ∈ x.recs.fp, ∀ b ∈ y.fp, a ≠ b) (hlo : lo ≤ w.heap.size)
    (hf : 0 ≤ x.from_ ∧ x.from_ ≤ 5000) (hl : x.recs.xs.length ≤ 1048576) (hm : y.xs.length ≤ 1048576) :
    Calls Tryd.prog 55 #[x.val, y.val] w (AddPost lo w (if roomZ x.er (y.xs.map LRec.er) then (⟨x.from_, x.recs.xs.map LRec.er ++ y.xs.map LRec.er⟩, true) else (x.er, false))) := by
  obtain ⟨xf, xa, xc, xs⟩ := x
  obtain ⟨ya, yc, ys⟩ := y
  have h1 := Loc.At.lenMax hx
  have h2 := Loc.At.lenMax hy
  simp only at h1 h2 hf hl hm hxF hyF hd
  simp only [LLog.val, Loc.val]
  have hB := ((Below.refl w.heap.size w).alloc (Nat.le_refl _) (Obj.cells #[.int .i64 xf, .slice xa xs.length xc] 29)).alloc (by simp) (Obj.cells #[.int .i64 0, .slice none 0 0] 29)
  have b2 : Below (w.alloc (Obj.cells #[.int .i64 xf, .slice xa xs.length xc] 29)).heap.size (w.alloc (Obj.cells #[.int .i64 xf, .slice xa xs.length xc] 29)) ((w.alloc (Obj.cells #[.int .i64 xf, .slice xa xs.length xc] 29)).alloc (Obj.cells #[.int .i64 0, .slice none 0 0] 29)) := (Below.refl _ _).alloc (Nat.le_refl _) _
  have HX := Lib.hid (show Loc.At _ (⟨xa, xc, xs⟩ : Loc LRec) from Loc.At.belowAll hx hB)
  have HY := Lib.hid (show Loc.At _ (⟨ya, yc, ys⟩ : Loc LRec) from Loc.At.belowAll hy hB)
  have FX := Lib.hid (hxF.belowAll hB)
  have FY := Lib.hid (hyF.belowAll hB)
  have LX := Lib.hid (Loc.lt_of_At hx)
  have LY := Lib.hid (Loc.lt_of_At hy)
  have HD := Lib.hid hd
  have BX := Lib.hid ((Boxed.new w #[.int .i64 xf, .slice xa xs.length xc] 29).keep b2)
  have HRX := Lib.hid ((b2.block w.heap.size (by simp)).trans (heap_alloc_new w (Obj.cells #[.int .i64 xf, .slice xa xs.length xc] 29)))
  have BP := Lib.hid (Boxed.new (w.alloc (Obj.cells #[.int .i64 xf, .slice xa xs.length xc] 29)) #[.int .i64 0, .slice none 0 0] 29)
  have HRP := Lib.hid (heap_alloc_new (w.alloc (Obj.cells #[.int .i64 xf, .slice xa xs.length xc] 29)) (Obj.cells #[.int .i64 0, .slice none 0 0] 29))
  have HZ1 : (w.alloc (Obj.cells #[.int .i64 xf, .slice xa xs.length xc] 29)).heap.size = w.heap.size + 1 := by simp
  rw [HZ1] at BP HRP
  have HZ2 : Hid (((w.alloc (Obj.cells #[.int .i64 xf, .slice xa xs.length xc] 29)).alloc (Obj.cells #[.int .i64 0, .slice none 0 0] 29)).heap.size = w.heap.size + 2) := Lib.hid (by simp)
  have HB := Lib.hid hB
  have hrm : roomZ (LLog.er ⟨xf, ⟨xa, xc, xs⟩⟩) (ys.map LRec.er) ↔ xs.length + ys.length ≤ 40 ∧ xf ≤ 4900 := by simp only [roomZ, LLog.er, List.length_map]
  obtain ⟨hf1, hf2⟩ := hf
  clear hB b2 hx hy hxF hyF hd HZ1
  by_cases hr : xs.length + ys.length ≤ 40 ∧ xf ≤ 4900
  · rw [if_pos (hrm.2 hr)]
    clear hrm
    go_enter Tryd.func55, Tryd.ntmps55
    go_upto_region 1 with fail
    generalize (w.alloc (Obj.cells #[.int .i64 xf, .slice xa xs.length xc] 29)).alloc (Obj.cells #[.int .i64 0, .slice none 0 0] 29) = w0 at *
    have xc0 := BX.out.2 0 _ rfl
    have xc1 := BX.out.2 1 _ rfl
    have p0 := BP.out.2 0 _ rfl
    have p1 := BP.out.2 1 _ rfl
    have z0 := frozen_of_row _ (w.heap.size + 1) 0 _ _ HRP.out
    have z1 := frozen_of_row _ (w.heap.size + 1) 1 _ _ HRP.out
    have hlt0 : w.heap.size < w0.heap.size := by have := HZ2.out; omega
    have hlt1 : w.heap.size + 1 < w0.heap.size := by have := HZ2.out; omega
    obtain ⟨hr1, hr2⟩ := hr
    have d1 : decide ((40 : Int) < (xs.length : Int) + (ys.length : Int)) = false := decide_eq_false (by omega)
    have d2 : decide ((4900 : Int) < xf) = false := decide_eq_false (by omega)
    have k1 := frozen_of_row _ w.heap.size 1 _ _ HRX.out
    have HO0 := Lib.hid (Own.made (α := LRec) w0 71)
    have HB0 := Lib.hid ((Below.refl w0.heap.size w0).alloc (Nat.le_refl _) (Obj.cells #[] 71))
    go_wp2_with (at_builtin; refine wpList_append_all rfl _ _ 26 rfl w0.heap.size 71 elem_rec ⟨some ⟨w0.heap.size, 0, none⟩, 0, []⟩ rfl HO0.out ⟨xa, xc, xs⟩ rfl (HX.out.belowAll HB0.out) (fun z hz b hb h => by have := LX.out b (List.mem_append_right _ (List.mem_flatMap.2 ⟨z, hz, hb⟩)); have := HZ2.out; simp [Loc.val, Value.ownBlock] at h; omega) (by simp; omega) (by simp) ?_)
    intro l1 w1 hap
    have O1 := Lib.hid hap.own
    have X1 := Lib.hid (show l1.xs = xs from hap.xs)
    have B1 := Lib.hid (hap.below HO0.out HB0.out (Nat.le_refl _) (by simp))
    have e1 : w1.cell? ⟨w.heap.size, 1, none⟩ = some (.slice xa xs.length xc) := (B1.out.cell hlt0).trans xc1
    obtain ⟨la, lc, ls⟩ := l1
    clear hap
    go_wp2_with (at_builtin; refine wpList_append_all rfl _ _ 26 rfl w0.heap.size 71 elem_rec ⟨la, lc, ls⟩ rfl O1.out ⟨ya, yc, ys⟩ rfl (HY.out.belowAll B1.out) (fun z hz b hb h => by have := LY.out b (List.mem_append_right _ (List.mem_flatMap.2 ⟨z, hz, hb⟩)); have := (O1.out.lt b h.symm).1; omega) (by rw [X1.out]; simp only; omega) (B1.out.size) ?_)
    intro l2 w2 hap
    have B2 := Lib.hid (hap.below O1.out B1.out (Nat.le_refl _) B1.out.size)
    have X2 : l2.xs = xs ++ ys := by rw [hap.xs, X1.out]
    have HF2 := Lib.hid (hap.own.fr (lo := lo) (by
      rw [X2, List.flatMap_append]
      exact ((FX.out.belowAll B2.out).sub (List.sublist_append_right _ _)).append ((FY.out.belowAll B2.out).sub (List.sublist_append_right _ _)) (fun a ha b hb => HD.out a (List.mem_append_right _ ha) b (List.mem_append_right _ hb))) (by omega))
    have HA2 := Lib.hid hap.own.at_
    have HN2 := Lib.hid (show ∀ b ∈ l2.fp, b ≠ w.heap.size ∧ b ≠ w.heap.size + 1 from fun b hb => by
      rcases List.mem_append.1 hb with h | h
      · have h2 := (hap.own.lt b (Loc.blk_own h)).1
        omega
      · rw [X2, List.flatMap_append] at h
        rcases List.mem_append.1 h with h | h
        · have := LX.out b (List.mem_append_right _ h); omega
        · have := LY.out b (List.mem_append_right _ h); omega)
    have HX2 := Lib.hid X2
    obtain ⟨ma, mc, ms⟩ := l2
    clear hap X2
    have f0 : w2.cell? ⟨w.heap.size, 0, none⟩ = some (.int .i64 xf) := (B2.out.cell hlt0).trans xc0
    have f1 : w2.cell? ⟨w.heap.size, 1, none⟩ = some (.slice xa xs.length xc) := (B2.out.cell hlt0).trans xc1
    have g1 : w2.frozen? ⟨w.heap.size, 1, none⟩ = false := (B2.out.frozen hlt0).trans k1
    have q0 : w2.cell? ⟨w.heap.size + 1, 0, none⟩ = some (.int .i64 0) := (B2.out.cell hlt1).trans p0
    have q1 : w2.cell? ⟨w.heap.size + 1, 1, none⟩ = some (.slice none 0 0) := (B2.out.cell hlt1).trans p1
    have r0 : w2.frozen? ⟨w.heap.size + 1, 0, none⟩ = false := (B2.out.frozen hlt1).trans z0
    have r1 : w2.frozen? ⟨w.heap.size + 1, 1, none⟩ = false := (B2.out.frozen hlt1).trans z1
    simp only [Loc.val]
    clear xc0 xc1 e1 p0 p1 z0 z1 k1
    go_wp2_with fail
    refine bodyPost_ret (v := .tuple #[.agg #[.int .i64 xf, .slice ma ms.length mc], .bool true]) ?_ rfl ⟨⟨xf, ⟨ma, mc, ms⟩⟩, rfl, ?_, ?_, ?_, ?_⟩
    · simp only [results, Tryd.results55]
      go_simp
    · have h : ms = xs ++ ys := HX2.out
      simp only [LLog.er, h, List.map_append]
    · refine Loc.keep_At HA2.out fun c hc => ?_
      have h1 := HN2.out c hc
      rw [Below.heap_setCell _ _ _ _ h1.2, Below.heap_setCell _ _ _ _ h1.2, Below.heap_setCell _ _ _ _ h1.1]
    · refine HF2.out.keep fun c hc => ?_
      have h1 := HN2.out c hc
      rw [Below.heap_setCell _ _ _ _ h1.2, Below.heap_setCell _ _ _ _ h1.2, Below.heap_setCell _ _ _ _ h1.1]
    · exact (((HB.out.trans (B2.out.mono HB.out.size)).setCell (by simp) _).setCell (by simp) _).setCell (by simp) _
  · rw [if_neg (fun h => hr (hrm.1 h))]
    go_enter Tryd.func55, Tryd.ntmps55
    go_upto_region 1 with fail
    generalize (w.alloc (Obj.cells #[.int .i64 xf, .slice xa xs.length xc] 29)).alloc (Obj.cells #[.int .i64 0, .slice none 0 0] 29) = w0 at *
    have xc0 := BX.out.2 0 _ rfl
    have xc1 := BX.out.2 1 _ rfl
    have p0 := BP.out.2 0 _ rfl
    have p1 := BP.out.2 1 _ rfl
    have z0 := frozen_of_row _ (w.heap.size + 1) 0 _ _ HRP.out
    have z1 := frozen_of_row _ (w.heap.size + 1) 1 _ _ HRP.out
    have hlt0 : w.heap.size < w0.heap.size := by have := HZ2.out; omega
    have hlt1 : w.heap.size + 1 < w0.heap.size := by have := HZ2.out; omega
    have hd : (decide ((40 : Int) < (xs.length : Int) + (ys.length : Int)) || decide ((4900 : Int) < xf)) = true := by
      rcases Classical.not_and_iff_not_or_not.1 hr with h | h
      · simp; omega
      · simp; omega
    clear hrm hr
    by_cases h40 : (40 : Int) < (xs.length : Int) + (ys.length : Int)
    · have d1 : decide ((40 : Int) < (xs.length : Int) + (ys.length : Int)) = true := decide_eq_true h40
      clear hd
      go_wp2_with fail
      refine bodyPost_ret (v := .tuple #[.agg #[.int .i64 xf, .slice xa xs.length xc], .bool false]) ?_ rfl ⟨⟨xf, ⟨xa, xc, xs⟩⟩, rfl, rfl, ?_, ?_, ?_⟩
      · simp only [results, Tryd.results55]
        go_simp
      · refine Loc.keep_At HX.out fun c hc => ?_
        have h1 := LX.out c hc
        rw [Below.heap_setCell _ _ _ _ (by simp only; omega), Below.heap_setCell _ _ _ _ (by simp only; omega)]
      · refine FX.out.keep fun c hc => ?_
        have h1 := LX.out c hc
        rw [Below.heap_setCell _ _ _ _ (by simp only; omega), Below.heap_setCell _ _ _ _ (by simp only; omega)]
      · exact (HB.out.setCell (by simp) _).setCell (by simp) _
    · have d1 : decide ((40 : Int) < (xs.length : Int) + (ys.length : Int)) = false := decide_eq_false h40
      rw [d1, Bool.false_or] at hd
      go_wp2_with fail
      refine bodyPost_ret (v := .tuple #[.agg #[.int .i64 xf, .slice xa xs.length xc], .bool false]) ?_ rfl ⟨⟨xf, ⟨xa, xc, xs⟩⟩, rfl, rfl, ?_, ?_, ?_⟩
      · simp only [results, Tryd.results55]
        go_simp
      · refine Loc.keep_At HX.out fun c hc => ?_
        have h1 := LX.out c hc
        rw [Below.heap_setCell _ _ _ _ (by simp only; omega), Below.heap_setCell _ _ _ _ (by simp only; omega)]
      · refine FX.out.keep fun c hc => ?_
        have h1 := LX.out c hc
        rw [Below.heap_setCell _ _ _ _ (by simp only; omega), Below.heap_setCell _ _ _ _ (by simp only; omega)]
      · exact (HB.out.setCell (by simp) _).setCell (by simp) _
end Go.Proofs.YtpgdelfdaalhbaaDoor
