/- LogAdd, the program's and the reference's. LogAdd of the reference. LogAdd of the program. -/
import Derived.Test.YtdbejmnfnbkndaaGreatDoorLogCut
import Derived.Deep.Cut
import Derived.Deep.RegionLaw
namespace Go.Proofs.YtdbejmnfnbkndaaGreatDoor
open Go Go.RowKit

/-- Whether more records have room. -/
def roomZ (l : Log) (ms : List Rec) : Prop := l.recs.length + ms.length ≤ 40 ∧ l.from_ ≤ 4900
instance (l : Log) (ms : List Rec) : Decidable (roomZ l ms) := by unfold roomZ; infer_instance
/-- What both LogAdds answer. -/
noncomputable def addZ (l : Log) (ms : List Rec) : Log × Bool :=
  if logB l = true ∧ recsB ms = true ∧ ms.length ≤ 40 then (if roomZ l ms then (⟨l.from_, l.recs ++ ms⟩, true) else (l, false)) else (⟨0, []⟩, false)
/-- A log and whether there was room; the log's memory is one's own from lo on. -/
def AddPost (lo : Nat) (w : World) (p : Log × Bool) (e : Ending) (w' : World) : Prop :=
  ∃ z : LLog, e = .returned (.tuple #[z.val, .bool p.2]) ∧ z.er = p.1 ∧ z.At w' ∧ Fr lo w' z.recs.fp ∧ Below w.heap.size w w'

set_option maxRecDepth 100000 in
set_option maxHeartbeats 4000000 in
theorem l12Add_any (x : LLog) (y : Loc LRec) (lo : Nat) (w : World) (hx : x.At w) (hy : y.At w) (hxF : Fr lo w x.recs.fp) (hyF : Fr lo w y.fp) (hd : ∀ a ∈ x.recs.fp, ∀ b ∈ y.fp, a ≠ b) (hlo : lo ≤ w.heap.size)
    (hf : 0 ≤ x.from_ ∧ x.from_ ≤ 5000) (hl : x.recs.xs.length ≤ 1048576) (hm : y.xs.length ≤ 1048576) :
    Calls Tryz.prog 17 #[x.val, y.val] w (AddPost lo w (if roomZ x.er (y.xs.map LRec.er) then (⟨x.from_, x.recs.xs.map LRec.er ++ y.xs.map LRec.er⟩, true) else (x.er, false))) := by
  obtain ⟨xf, xa, xc, xs⟩ := x
  obtain ⟨ya, yc, ys⟩ := y
  have h1 := Loc.At.lenMax hx
  have h2 := Loc.At.lenMax hy
  simp only at h1 h2 hf hl hm hxF hyF hd
  simp only [LLog.val, Loc.val]
  have hB := ((Below.refl w.heap.size w).alloc (Nat.le_refl _) (Obj.cells #[.int .i64 xf, .slice xa xs.length xc] 25)).alloc (by simp) (Obj.cells #[.int .i64 0, .slice none 0 0] 25)
  have b2 : Below (w.alloc (Obj.cells #[.int .i64 xf, .slice xa xs.length xc] 25)).heap.size (w.alloc (Obj.cells #[.int .i64 xf, .slice xa xs.length xc] 25)) ((w.alloc (Obj.cells #[.int .i64 xf, .slice xa xs.length xc] 25)).alloc (Obj.cells #[.int .i64 0, .slice none 0 0] 25)) := (Below.refl _ _).alloc (Nat.le_refl _) _
  have HX := Lib.hid (show Loc.At _ (⟨xa, xc, xs⟩ : Loc LRec) from Loc.At.belowAll hx hB)
  have HY := Lib.hid (show Loc.At _ (⟨ya, yc, ys⟩ : Loc LRec) from Loc.At.belowAll hy hB)
  have FX := Lib.hid (hxF.belowAll hB)
  have FY := Lib.hid (hyF.belowAll hB)
  have LX := Lib.hid (Loc.lt_of_At hx)
  have LY := Lib.hid (Loc.lt_of_At hy)
  have HD := Lib.hid hd
  have BX := Lib.hid ((Boxed.new w #[.int .i64 xf, .slice xa xs.length xc] 25).keep b2)
  have HRX := Lib.hid ((b2.block w.heap.size (by simp)).trans (heap_alloc_new w (Obj.cells #[.int .i64 xf, .slice xa xs.length xc] 25)))
  have BP := Lib.hid (Boxed.new (w.alloc (Obj.cells #[.int .i64 xf, .slice xa xs.length xc] 25)) #[.int .i64 0, .slice none 0 0] 25)
  have HRP := Lib.hid (heap_alloc_new (w.alloc (Obj.cells #[.int .i64 xf, .slice xa xs.length xc] 25)) (Obj.cells #[.int .i64 0, .slice none 0 0] 25))
  have HZ1 : (w.alloc (Obj.cells #[.int .i64 xf, .slice xa xs.length xc] 25)).heap.size = w.heap.size + 1 := by simp
  rw [HZ1] at BP HRP
  have HZ2 : Hid (((w.alloc (Obj.cells #[.int .i64 xf, .slice xa xs.length xc] 25)).alloc (Obj.cells #[.int .i64 0, .slice none 0 0] 25)).heap.size = w.heap.size + 2) := Lib.hid (by simp)
  have HB := Lib.hid hB
  have hrm : roomZ (LLog.er ⟨xf, ⟨xa, xc, xs⟩⟩) (ys.map LRec.er) ↔ xs.length + ys.length ≤ 40 ∧ xf ≤ 4900 := by simp only [roomZ, LLog.er, List.length_map]
  obtain ⟨hf1, hf2⟩ := hf
  clear hB b2 hx hy hxF hyF hd HZ1
  by_cases hr : xs.length + ys.length ≤ 40 ∧ xf ≤ 4900
  · rw [if_pos (hrm.2 hr)]
    clear hrm
    go_enter Tryz.func17, Tryz.ntmps17
    go_upto_region 1 with fail
    generalize (w.alloc (Obj.cells #[.int .i64 xf, .slice xa xs.length xc] 25)).alloc (Obj.cells #[.int .i64 0, .slice none 0 0] 25) = w0 at *
    have xc0 := BX.out.2 0 _ rfl
    have xc1 := BX.out.2 1 _ rfl
    have p0 := BP.out.2 0 _ rfl
    have p1 := BP.out.2 1 _ rfl
    have z0 := frozen_of_row _ (w.heap.size + 1) 0 _ _ HRP.out
    have z1 := frozen_of_row _ (w.heap.size + 1) 1 _ _ HRP.out
    have hlt0 : w.heap.size < w0.heap.size := by have := HZ2.out; omega
    have hlt1 : w.heap.size + 1 < w0.heap.size := by have := HZ2.out; omega
    obtain ⟨hr1, hr2⟩ := hr
    have d1 : decide ((40 : Int) < (xs.length : Int) + (ys.length : Int)) = false := decide_eq_false (by omega)
    have d2 : decide ((4900 : Int) < xf) = false := decide_eq_false (by omega)
    have k1 := frozen_of_row _ w.heap.size 1 _ _ HRX.out
    have HO0 := Lib.hid (Own.made (α := LRec) w0 53)
    have HB0 := Lib.hid ((Below.refl w0.heap.size w0).alloc (Nat.le_refl _) (Obj.cells #[] 53))
    go_wp2_with (at_builtin; refine wpList_append_all rfl _ _ 23 rfl w0.heap.size 53 elem_rec ⟨some ⟨w0.heap.size, 0, none⟩, 0, []⟩ rfl HO0.out ⟨xa, xc, xs⟩ rfl (HX.out.belowAll HB0.out) (fun z hz b hb h => by have := LX.out b (List.mem_append_right _ (List.mem_flatMap.2 ⟨z, hz, hb⟩)); have := HZ2.out; simp [Loc.val, Value.ownBlock] at h; omega) (by simp; omega) (by simp) ?_)
    intro l1 w1 hap
    have O1 := Lib.hid hap.own
    have X1 := Lib.hid (show l1.xs = xs from hap.xs)
    have B1 := Lib.hid (hap.below HO0.out HB0.out (Nat.le_refl _) (by simp))
    have e1 : w1.cell? ⟨w.heap.size, 1, none⟩ = some (.slice xa xs.length xc) := (B1.out.cell hlt0).trans xc1
    obtain ⟨la, lc, ls⟩ := l1
    clear hap
    go_wp2_with (at_builtin; refine wpList_append_all rfl _ _ 23 rfl w0.heap.size 53 elem_rec ⟨la, lc, ls⟩ rfl O1.out ⟨ya, yc, ys⟩ rfl (HY.out.belowAll B1.out) (fun z hz b hb h => by have := LY.out b (List.mem_append_right _ (List.mem_flatMap.2 ⟨z, hz, hb⟩)); have := (O1.out.lt b h.symm).1; omega) (by rw [X1.out]; simp only; omega) (B1.out.size) ?_)
    intro l2 w2 hap
    have B2 := Lib.hid (hap.below O1.out B1.out (Nat.le_refl _) B1.out.size)
    have X2 : l2.xs = xs ++ ys := by rw [hap.xs, X1.out]
    have HF2 := Lib.hid (hap.own.fr (lo := lo) (by
      rw [X2, List.flatMap_append]
      exact ((FX.out.belowAll B2.out).sub (List.sublist_append_right _ _)).append ((FY.out.belowAll B2.out).sub (List.sublist_append_right _ _)) (fun a ha b hb => HD.out a (List.mem_append_right _ ha) b (List.mem_append_right _ hb))) (by omega))
    have HA2 := Lib.hid hap.own.at_
    have HN2 := Lib.hid (show ∀ b ∈ l2.fp, b ≠ w.heap.size ∧ b ≠ w.heap.size + 1 from fun b hb => by
      rcases List.mem_append.1 hb with h | h
      · have h2 := (hap.own.lt b (Loc.blk_own h)).1
        omega
      · rw [X2, List.flatMap_append] at h
        rcases List.mem_append.1 h with h | h
        · have := LX.out b (List.mem_append_right _ h); omega
        · have := LY.out b (List.mem_append_right _ h); omega)
    have HX2 := Lib.hid X2
    obtain ⟨ma, mc, ms⟩ := l2
    clear hap X2
    have f0 : w2.cell? ⟨w.heap.size, 0, none⟩ = some (.int .i64 xf) := (B2.out.cell hlt0).trans xc0
    have f1 : w2.cell? ⟨w.heap.size, 1, none⟩ = some (.slice xa xs.length xc) := (B2.out.cell hlt0).trans xc1
    have g1 : w2.frozen? ⟨w.heap.size, 1, none⟩ = false := (B2.out.frozen hlt0).trans k1
    have q0 : w2.cell? ⟨w.heap.size + 1, 0, none⟩ = some (.int .i64 0) := (B2.out.cell hlt1).trans p0
    have q1 : w2.cell? ⟨w.heap.size + 1, 1, none⟩ = some (.slice none 0 0) := (B2.out.cell hlt1).trans p1
    have r0 : w2.frozen? ⟨w.heap.size + 1, 0, none⟩ = false := (B2.out.frozen hlt1).trans z0
    have r1 : w2.frozen? ⟨w.heap.size + 1, 1, none⟩ = false := (B2.out.frozen hlt1).trans z1
    simp only [Loc.val]
    clear xc0 xc1 e1 p0 p1 z0 z1 k1
    go_wp2_with fail
    refine bodyPost_ret (v := .tuple #[.agg #[.int .i64 xf, .slice ma ms.length mc], .bool true]) ?_ rfl ⟨⟨xf, ⟨ma, mc, ms⟩⟩, rfl, ?_, ?_, ?_, ?_⟩
    · simp only [results, Tryz.results17]
      go_simp
    · have h : ms = xs ++ ys := HX2.out
      simp only [LLog.er, h, List.map_append]
    · refine Loc.keep_At HA2.out fun c hc => ?_
      have h1 := HN2.out c hc
      rw [Below.heap_setCell _ _ _ _ h1.2, Below.heap_setCell _ _ _ _ h1.2, Below.heap_setCell _ _ _ _ h1.1]
    · refine HF2.out.keep fun c hc => ?_
      have h1 := HN2.out c hc
      rw [Below.heap_setCell _ _ _ _ h1.2, Below.heap_setCell _ _ _ _ h1.2, Below.heap_setCell _ _ _ _ h1.1]
    · exact (((HB.out.trans (B2.out.mono HB.out.size)).setCell (by simp) _).setCell (by simp) _).setCell (by simp) _
  · rw [if_neg (fun h => hr (hrm.1 h))]
    go_enter Tryz.func17, Tryz.ntmps17
    go_upto_region 1 with fail
    generalize (w.alloc (Obj.cells #[.int .i64 xf, .slice xa xs.length xc] 25)).alloc (Obj.cells #[.int .i64 0, .slice none 0 0] 25) = w0 at *
    have xc0 := BX.out.2 0 _ rfl
    have xc1 := BX.out.2 1 _ rfl
    have p0 := BP.out.2 0 _ rfl
    have p1 := BP.out.2 1 _ rfl
    have z0 := frozen_of_row _ (w.heap.size + 1) 0 _ _ HRP.out
    have z1 := frozen_of_row _ (w.heap.size + 1) 1 _ _ HRP.out
    have hlt0 : w.heap.size < w0.heap.size := by have := HZ2.out; omega
    have hlt1 : w.heap.size + 1 < w0.heap.size := by have := HZ2.out; omega
    have hd : (decide ((40 : Int) < (xs.length : Int) + (ys.length : Int)) || decide ((4900 : Int) < xf)) = true := by
      rcases Classical.not_and_iff_not_or_not.1 hr with h | h
      · simp; omega
      · simp; omega
    clear hrm hr
    by_cases h40 : (40 : Int) < (xs.length : Int) + (ys.length : Int)
    · have d1 : decide ((40 : Int) < (xs.length : Int) + (ys.length : Int)) = true := decide_eq_true h40
      clear hd
      go_wp2_with fail
      refine bodyPost_ret (v := .tuple #[.agg #[.int .i64 xf, .slice xa xs.length xc], .bool false]) ?_ rfl ⟨⟨xf, ⟨xa, xc, xs⟩⟩, rfl, rfl, ?_, ?_, ?_⟩
      · simp only [results, Tryz.results17]
        go_simp
      · refine Loc.keep_At HX.out fun c hc => ?_
        have h1 := LX.out c hc
        rw [Below.heap_setCell _ _ _ _ (by simp only; omega), Below.heap_setCell _ _ _ _ (by simp only; omega)]
      · refine FX.out.keep fun c hc => ?_
        have h1 := LX.out c hc
        rw [Below.heap_setCell _ _ _ _ (by simp only; omega), Below.heap_setCell _ _ _ _ (by simp only; omega)]
      · exact (HB.out.setCell (by simp) _).setCell (by simp) _
    · have d1 : decide ((40 : Int) < (xs.length : Int) + (ys.length : Int)) = false := decide_eq_false h40
      rw [d1, Bool.false_or] at hd
      go_wp2_with fail
      refine bodyPost_ret (v := .tuple #[.agg #[.int .i64 xf, .slice xa xs.length xc], .bool false]) ?_ rfl ⟨⟨xf, ⟨xa, xc, xs⟩⟩, rfl, rfl, ?_, ?_, ?_⟩
      · simp only [results, Tryz.results17]
        go_simp
      · refine Loc.keep_At HX.out fun c hc => ?_
        have h1 := LX.out c hc
        rw [Below.heap_setCell _ _ _ _ (by simp only; omega), Below.heap_setCell _ _ _ _ (by simp only; omega)]
      · refine FX.out.keep fun c hc => ?_
        have h1 := LX.out c hc
        rw [Below.heap_setCell _ _ _ _ (by simp only; omega), Below.heap_setCell _ _ _ _ (by simp only; omega)]
      · exact (HB.out.setCell (by simp) _).setCell (by simp) _
end Go.Proofs.YtdbejmnfnbkndaaGreatDoor

namespace Go.Proofs.YtdbejmnfnbkndaaGreatDoor
open Go Go.RowKit

theorem AddPost.of {lo : Nat} {w w' : World} {p : Log × Bool} {z : LLog} {b : Bool} (h : p = (z.er, b)) (hA : z.At w') (hF : Fr lo w' z.recs.fp) (hB : Below w.heap.size w w') : AddPost lo w p (.returned (.tuple #[z.val, .bool b])) w' := by
  subst h; exact ⟨z, rfl, rfl, hA, hF, hB⟩
theorem logB_zero (ms : List Rec) : logB ⟨0, ms⟩ = true ↔ recsB ms = true ∧ ms.length ≤ 40 := by
  rw [logB_iff]; simp only; constructor
  · rintro ⟨-, -, -, h1, h2⟩; exact ⟨h2, h1⟩
  · rintro ⟨h1, h2⟩; exact ⟨by omega, by omega, by omega, h2, h1⟩
theorem recsB_K {l : List Rec} (h : recsB l = true) : recsK l := fun r hr => recB_sibs (List.all_eq_true.1 h r hr)

theorem addZ_room {l c : Log} {ms ds : List Rec} (h1 : logB l = true) (h2 : recsB ms = true ∧ ms.length ≤ 40) (hc : c = l) (hd : ds = ms) :
    (if roomZ c ds then ((⟨c.from_, c.recs ++ ds⟩ : Log), true) else (c, false)) = addZ l ms := by
  subst hc; subst hd
  exact (if_pos ⟨h1, h2⟩).symm

set_option maxRecDepth 100000 in
set_option maxHeartbeats 2000000 in
theorem sLogAdd_any (x : LLog) (y : Loc LRec) (w : World) (hx : x.At w) (hy : y.At w) :
    Calls Tryz.prog 5 #[x.val, y.val] w (AddPost w.heap.size w (addZ x.er (y.xs.map LRec.er))) := by
  have hy0 := hy
  have hB := ((Below.refl w.heap.size w).alloc (Nat.le_refl _) (Obj.cells #[.int .i64 x.from_, x.recs.val] 25)).alloc (by simp) (Obj.cells #[.int .i64 0, .slice none 0 0] 25)
  have b2 : Below (w.alloc (Obj.cells #[.int .i64 x.from_, x.recs.val] 25)).heap.size (w.alloc (Obj.cells #[.int .i64 x.from_, x.recs.val] 25)) ((w.alloc (Obj.cells #[.int .i64 x.from_, x.recs.val] 25)).alloc (Obj.cells #[.int .i64 0, .slice none 0 0] 25)) := (Below.refl _ _).alloc (Nat.le_refl _) _
  have hc := Lib.hid (sLogOk_any x _ (Loc.At.belowAll hx hB))
  have HX := Lib.hid (show LLog.At _ x from Loc.At.belowAll hx hB)
  have BX := Lib.hid ((Boxed.new w #[.int .i64 x.from_, x.recs.val] 25).keep b2)
  have BP := Lib.hid (Boxed.new (w.alloc (Obj.cells #[.int .i64 x.from_, x.recs.val] 25)) #[.int .i64 0, .slice none 0 0] 25)
  have HRP := Lib.hid (heap_alloc_new (w.alloc (Obj.cells #[.int .i64 x.from_, x.recs.val] 25)) (Obj.cells #[.int .i64 0, .slice none 0 0] 25))
  have HZ1 : (w.alloc (Obj.cells #[.int .i64 x.from_, x.recs.val] 25)).heap.size = w.heap.size + 1 := by simp
  rw [HZ1] at BP HRP
  have HZ2 : Hid (((w.alloc (Obj.cells #[.int .i64 x.from_, x.recs.val] 25)).alloc (Obj.cells #[.int .i64 0, .slice none 0 0] 25)).heap.size = w.heap.size + 2) := Lib.hid (by simp)
  have HB := Lib.hid hB
  generalize hb : logB x.er = b at hc
  have HBB := Lib.hid hb
  clear hb hB b2 HZ1 hx
  have HY := Lib.hid (show y.At _ from hy0.belowAll HB.out)
  have LY := Lib.hid (Loc.lt_of_At hy0)
  have HCO := Lib.hid (fun W (hW : x.At W) (h3 : x.recs.xs.length ≤ 1048576) (h4 : recsK (x.recs.xs.map LRec.er)) => l12Copy_any x W hW h3 h4)
  have HOY := Lib.hid (fun W (hW : y.At W) => sLogOk_any ⟨0, y⟩ W hW)
  have HRY := Lib.hid (fun W (hW : y.At W) (h3 : y.xs.length ≤ 1048576) (h4 : recsK (y.xs.map LRec.er)) => l12Recs_own y W hW h3 h4)
  generalize hxx : x = x' at *
  obtain ⟨xf, xa, xc, xs⟩ := x
  subst hxx
  obtain ⟨ya, yc, ys⟩ := y
  simp only [LLog.val, Loc.val] at hc HCO HOY HRY HX HY BX BP HRP HZ2 HB ⊢
  clear hy hy0
  go_enter Tryz.func5, Tryz.ntmps5
  go_wp2_with fail
  generalize (w.alloc (Obj.cells #[.int .i64 xf, .slice xa xs.length xc] 25)).alloc (Obj.cells #[.int .i64 0, .slice none 0 0] 25) = w0 at *
  refine hc.out.mono ?_
  rintro e w1 ⟨rfl, hb1⟩
  have B1 := Lib.hid (HB.out.trans (hb1.mono HB.out.size))
  have X1 := Lib.hid (LLog.below' HX.out hb1)
  have Y1 := Lib.hid (HY.out.belowAll hb1)
  have BX1 := Lib.hid (BX.out.keep hb1)
  have BP1 := Lib.hid (BP.out.keep hb1)
  have HR1 := Lib.hid ((hb1.block _ BP.out.1).trans HRP.out)
  have HSZ1 := Lib.hid (show w.heap.size + 2 ≤ w1.heap.size by have := hb1.size; have := HZ2.out; omega)
  have xc0 := BX1.out.2 0 _ rfl
  have xc1 := BX1.out.2 1 _ rfl
  clear hb1 hc
  cases b with
  | false =>
    have z0 := frozen_of_row _ (w.heap.size + 1) 0 _ _ HR1.out
    have z1 := frozen_of_row _ (w.heap.size + 1) 1 _ _ HR1.out
    have pc0 := BP1.out.2 0 _ rfl
    have pc1 := BP1.out.2 1 _ rfl
    go_wp2_with fail
    refine bodyPost_ret (v := .tuple #[.agg #[.int .i64 0, .slice none 0 0], .bool false]) ?_ rfl (AddPost.of (z := ⟨0, ⟨none, 0, []⟩⟩) (b := false) ?_ ⟨Nat.le_refl _, Nat.zero_le _, by simp, by simp, by simp⟩ (by simpa [Loc.fp, Loc.blk] using Fr.nil _ _) ?_)
    · simp only [results, Tryz.results5]
      go_simp
    · rw [addZ, if_neg (fun h => by have := HBB.out; rw [h.1] at this; cases this)]; rfl
    · exact (B1.out.setCell (by simp) _).setCell (by simp) _
  | true =>
    have HLB := Lib.hid ((logB_iff _).1 HBB.out)
    go_wp2_with fail
    refine (HOY.out w1 Y1.out).mono ?_
    rintro e w2 ⟨rfl, hb2⟩
    generalize hyb : logB (LLog.er ⟨0, ⟨ya, yc, ys⟩⟩) = c
    have HYB := Lib.hid hyb
    have B2 := Lib.hid (B1.out.trans (hb2.mono B1.out.size))
    have X2 := Lib.hid (LLog.below' X1.out hb2)
    have Y2 := Lib.hid (Y1.out.belowAll hb2)
    have BX2 := Lib.hid (BX1.out.keep hb2)
    have BP2 := Lib.hid (BP1.out.keep hb2)
    have HR2 := Lib.hid ((hb2.block _ BP1.out.1).trans HR1.out)
    have HSZ2 := Lib.hid (Nat.le_trans HSZ1.out hb2.size)
    clear hb2 hyb xc0 xc1 B1 X1 Y1 BX1 BP1 HR1 HSZ1 HOY
    cases c with
    | false =>
      have B1 := B2
      have BP1 := BP2
      have HR1 := HR2
      clear B2 BP2 HR2
      have z0 := frozen_of_row _ (w.heap.size + 1) 0 _ _ HR1.out
      have z1 := frozen_of_row _ (w.heap.size + 1) 1 _ _ HR1.out
      have pc0 := BP1.out.2 0 _ rfl
      have pc1 := BP1.out.2 1 _ rfl
      go_wp2_with fail
      refine bodyPost_ret (v := .tuple #[.agg #[.int .i64 0, .slice none 0 0], .bool false]) ?_ rfl (AddPost.of (z := ⟨0, ⟨none, 0, []⟩⟩) (b := false) ?_ ⟨Nat.le_refl _, Nat.zero_le _, by simp, by simp, by simp⟩ (by simpa [Loc.fp, Loc.blk] using Fr.nil _ _) ?_)
      · simp only [results, Tryz.results5]
        go_simp
      · rw [addZ, if_neg (fun h => by have h2 := (logB_zero (ys.map LRec.er)).2 h.2; have h3 : logB ⟨0, ys.map LRec.er⟩ = false := HYB.out; rw [h2] at h3; cases h3)]; rfl
      · exact (B1.out.setCell (by simp) _).setCell (by simp) _
    | true =>
      have HYR := Lib.hid ((logB_zero (ys.map LRec.er)).1 HYB.out)
      have HXL := Lib.hid (show xs.length ≤ 40 by have h4 : (xs.map LRec.er).length ≤ 40 := HLB.out.2.2.2.1; rwa [List.length_map] at h4)
      have HYL := Lib.hid (show ys.length ≤ 40 by have h4 := HYR.out.2; rwa [List.length_map] at h4)
      have xc0 := BX2.out.2 0 _ rfl
      have xc1 := BX2.out.2 1 _ rfl
      go_wp2_with fail
      refine (HCO.out w2 X2.out (Nat.le_trans HXL.out (by decide)) (logB_recsK HBB.out)).mono ?_
      rintro e w3 ⟨⟨cf, ⟨ca, cc, cs⟩⟩, rfl, hc, hcO, hcF, hb3⟩
      have HCE := Lib.hid (show (⟨cf, cs.map LRec.er⟩ : Log) = ⟨xf, xs.map LRec.er⟩ from hc)
      have CA3 := Lib.hid (show LLog.At w3 ⟨cf, ⟨ca, cc, cs⟩⟩ from Own.at_ hcO)
      have CF3 := Lib.hid (show Fr w2.heap.size w3 (Loc.fp (⟨ca, cc, cs⟩ : Loc LRec)) from Own.fr hcO hcF (Nat.le_refl _))
      have B3 := Lib.hid (B2.out.trans (hb3.mono B2.out.size))
      have Y3 := Lib.hid (Y2.out.belowAll hb3)
      have BP3 := Lib.hid (BP2.out.keep hb3)
      have HR3 := Lib.hid ((hb3.block _ BP2.out.1).trans HR2.out)
      have HSZ3 := Lib.hid hb3.size
      clear hc hcO hcF hb3 xc0 xc1 X2 Y2 BX2 B2 BP2 HR2
      simp only [LLog.val, Loc.val]
      go_wp2_with fail
      refine (HRY.out w3 Y3.out (Nat.le_trans HYL.out (by decide)) (recsB_K HYR.out.1)).mono ?_
      rintro e w4 ⟨⟨da, dc, ds⟩, rfl, hd, hdO, hdF, hb4⟩
      have HDE := Lib.hid (show ds.map LRec.er = ys.map LRec.er from hd)
      have DA4 := Lib.hid (Own.at_ hdO)
      have DF4 := Lib.hid (show Fr w3.heap.size w4 (Loc.fp (⟨da, dc, ds⟩ : Loc LRec)) from Own.fr hdO hdF (Nat.le_refl _))
      have CL3 := Lib.hid CF3.out.lt
      have CA4 := Lib.hid (LLog.below' CA3.out hb4)
      have CF4 := Lib.hid (CF3.out.belowAll hb4)
      have B4 := Lib.hid (B3.out.trans (hb4.mono B3.out.size))
      have BP4 := Lib.hid (BP3.out.keep hb4)
      have HR4 := Lib.hid ((hb4.block _ BP3.out.1).trans HR3.out)
      have HSZ4 := Lib.hid (Nat.le_trans HSZ3.out hb4.size)
      clear hd hdO hdF hb4 CA3 CF3 B3 Y3 BP3 HR3
      have hcf : cf = xf := congrArg Log.from_ HCE.out
      have hcl : cs.map LRec.er = xs.map LRec.er := congrArg Log.recs HCE.out
      have hcn : cs.length = xs.length := by have := congrArg List.length hcl; simpa using this
      have hdn : ds.length = ys.length := by have := congrArg List.length HDE.out; simpa using this
      have hadd := l12Add_any ⟨cf, ⟨ca, cc, cs⟩⟩ ⟨da, dc, ds⟩ w2.heap.size w4 CA4.out DA4.out CF4.out (DF4.out.mono HSZ3.out) (fun a ha b hb => by have h1 := CL3.out a ha; have h2 := DF4.out.ge b hb; omega) HSZ4.out
        (by rw [hcf]; exact ⟨HLB.out.1, HLB.out.2.1⟩) (by have := HXL.out; simp only; omega) (by have := HYL.out; simp only; omega)
      have hz : (if roomZ (LLog.er ⟨cf, ⟨ca, cc, cs⟩⟩) (ds.map LRec.er) then ((⟨cf, cs.map LRec.er ++ ds.map LRec.er⟩ : Log), true) else (LLog.er ⟨cf, ⟨ca, cc, cs⟩⟩, false)) = addZ (LLog.er ⟨xf, ⟨xa, xc, xs⟩⟩) (ys.map LRec.er) := by
        exact addZ_room HBB.out HYR.out HCE.out HDE.out
      simp only [LLog.val, Loc.val] at hadd
      rw [hz] at hadd
      have HADD := Lib.hid hadd
      clear hadd hz hcf hcl hcn hdn
      simp only [Loc.val]
      go_wp2_with fail
      refine HADD.out.mono ?_
      rintro e w5 ⟨⟨zf, ⟨za, zc, zs⟩⟩, rfl, hz, hzA, hzF, hb5⟩
      generalize hbz : (addZ (LLog.er ⟨xf, ⟨xa, xc, xs⟩⟩) (ys.map LRec.er)).2 = bz
      have HZE := Lib.hid (show addZ (LLog.er ⟨xf, ⟨xa, xc, xs⟩⟩) (ys.map LRec.er) = (LLog.er ⟨zf, ⟨za, zc, zs⟩⟩, bz) from Prod.ext hz.symm hbz)
      have HZA := Lib.hid hzA
      have HZF := Lib.hid hzF
      have B5 := Lib.hid (B4.out.trans (hb5.mono B4.out.size))
      have BP5 := Lib.hid (BP4.out.keep hb5)
      have HR5 := Lib.hid ((hb5.block _ BP4.out.1).trans HR4.out)
      clear hz hbz hzA hzF hb5 HADD B4 BP4 HR4
      have z0 := frozen_of_row _ (w.heap.size + 1) 0 _ _ HR5.out
      have z1 := frozen_of_row _ (w.heap.size + 1) 1 _ _ HR5.out
      have pc0 := BP5.out.2 0 _ rfl
      have pc1 := BP5.out.2 1 _ rfl
      simp only [LLog.val, Loc.val]
      go_wp2_with fail
      refine bodyPost_ret (v := .tuple #[.agg #[.int .i64 zf, .slice za zs.length zc], .bool bz]) ?_ rfl (AddPost.of (z := ⟨zf, ⟨za, zc, zs⟩⟩) (b := bz) HZE.out ?_ ?_ ?_)
      · simp only [results, Tryz.results5]
        go_simp
      · refine Loc.keep_At HZA.out fun b hb => ?_
        have h1 := HZF.out.ge b hb
        have h2 := HSZ2.out
        rw [Below.heap_setCell _ _ _ _ (by simp only; omega), Below.heap_setCell _ _ _ _ (by simp only; omega)]
      · have h2 := HSZ2.out
        exact ((HZF.out.set_low (by simp only; omega) _).set_low (by simp only; omega) _).mono (by omega)
      · exact (B5.out.setCell (by simp) _).setCell (by simp) _
end Go.Proofs.YtdbejmnfnbkndaaGreatDoor

namespace Go.Proofs.YtdbejmnfnbkndaaGreatDoor
open Go Go.RowKit

section
variable {α : Type} [Dat α]
/-- Another slice's elements behind one's own: the run. -/
theorem run_append_all {P : Program} (w : World) (base : Nat) (t ty e : TypeId) (E : Elem P α t e) (l : Loc α) (hown : Own base e w l)
    (y : Loc α) (hy : y.At w) (hoff : ∀ z ∈ y.xs, ∀ b ∈ Dat.fp z, some b ≠ l.val.ownBlock)
    (hlen : l.xs.length + y.xs.length ≤ 1099511627776) (hbase : base ≤ w.heap.size) :
    ∃ l' w', (Builtin.append_ #[t, t] ty #[l.val, y.val]).run P w = .ok l'.val w' ∧ Appended base e w l y.xs l' w' := by
  obtain ⟨ya, yc, ys⟩ := y
  cases ya with
  | some ad => exact run_append_loc w base t ty e E l hown ad ys.length yc ys rfl (flat_cells hy rfl) (fun z hz => hy.elem hz) hoff hlen hbase
  | none =>
    have hn : ys = [] := by
      cases ys with
      | nil => rfl
      | cons z zs => obtain ⟨a, ha⟩ := hy.addr (by simp); cases ha
    subst hn
    obtain ⟨i, z, hi, hz, hsz, hby, hzs⟩ := E.inf
    have hrun : (Builtin.append_ #[t, t] ty #[l.val, .slice none 0 yc]).run P w = .ok l.val w := by
      rcases hown.cases with rfl | ⟨g, cap, xs, cur, rfl, _, _, hnc, _⟩
      · simp [Builtin.append_, Loc.val, run_underlying E.und, sizeOf, typeInfo, hi, Builtin.lenOf, Builtin.firstCells]
      · simp [Builtin.append_, Loc.val, run_underlying E.und, sizeOf, typeInfo, hi, Builtin.lenOf, Builtin.firstCells, hnc, storeCells]
    exact ⟨l, w, hrun, ⟨by simp, hown, ⟨rfl, rfl, rfl, Nat.le_refl _, fun _ _ _ => rfl⟩, fun b hb => .inl hb⟩⟩

/-- At a step of a region that draws its order. -/
theorem step_append_all {P : Program} {w : World} {ops : Array Oper} {o : Oper} {a : Act} {K : Act → World → Prop} {Q : Exit → Act → World → Prop} {X : Prop} (hgd : o.guard = none) (s x : Operand) (t : TypeId)
    (ho : o.op = .call { callee := .builtin .append, args := #[s, x], argTypes := #[t, t] })
    (base : Nat) (e : TypeId) (E : Elem P α t e) (l : Loc α) (hs : a.eval s = l.val) (hown : Own base e w l)
    (y : Loc α) (hx : a.eval x = y.val) (hy : y.At w) (hoff : ∀ z ∈ y.xs, ∀ b ∈ Dat.fp z, some b ≠ l.val.ownBlock)
    (hlen : l.xs.length + y.xs.length ≤ 1099511627776) (hbase : base ≤ w.heap.size)
    (h : ∀ l' w', Appended base e w l y.xs l' w' → K (a.put o.dst l'.val) w') :
    if Region.wanted o (yielded ops a.tmps) = true then Oper.wp P o a w K Q else X := by
  have hw : Region.wanted o (yielded ops a.tmps) = true := by simp [Region.wanted, hgd]
  rw [if_pos hw]
  obtain ⟨l', w', hr, h2⟩ := run_append_all (P := P) w base t o.type e E l hown y hy hoff hlen hbase
  unfold Oper.wp execOp
  simp only [ho, resolve, invoke, builtin, Sem.run_bind, Sem.run_pure, Result.andThen_ok, List.map_toArray, List.map_cons, List.map_nil, hs, hx, hr]
  exact h l' w' h2
end

set_option maxRecDepth 100000 in
set_option maxHeartbeats 4000000 in
theorem iLogAdd_any (x : LLog) (y : Loc LRec) (w : World) (hx : x.At w) (hy : y.At w) :
    Calls Tryz.prog 6 #[x.val, y.val] w (AddPost w.heap.size w (addZ x.er (y.xs.map LRec.er))) := by
  have hy0 := hy
  have hB := ((Below.refl w.heap.size w).alloc (Nat.le_refl _) (Obj.cells #[.int .i64 x.from_, x.recs.val] 25)).alloc (by simp) (Obj.cells #[.int .i64 0, .slice none 0 0] 25)
  have b2 : Below (w.alloc (Obj.cells #[.int .i64 x.from_, x.recs.val] 25)).heap.size (w.alloc (Obj.cells #[.int .i64 x.from_, x.recs.val] 25)) ((w.alloc (Obj.cells #[.int .i64 x.from_, x.recs.val] 25)).alloc (Obj.cells #[.int .i64 0, .slice none 0 0] 25)) := (Below.refl _ _).alloc (Nat.le_refl _) _
  have hc := Lib.hid (isLog_any x _ (Loc.At.belowAll hx hB))
  have HX := Lib.hid (show LLog.At _ x from Loc.At.belowAll hx hB)
  have BX := Lib.hid ((Boxed.new w #[.int .i64 x.from_, x.recs.val] 25).keep b2)
  have BP := Lib.hid (Boxed.new (w.alloc (Obj.cells #[.int .i64 x.from_, x.recs.val] 25)) #[.int .i64 0, .slice none 0 0] 25)
  have HRP := Lib.hid (heap_alloc_new (w.alloc (Obj.cells #[.int .i64 x.from_, x.recs.val] 25)) (Obj.cells #[.int .i64 0, .slice none 0 0] 25))
  have HZ1 : (w.alloc (Obj.cells #[.int .i64 x.from_, x.recs.val] 25)).heap.size = w.heap.size + 1 := by simp
  rw [HZ1] at BP HRP
  have HZ2 : Hid (((w.alloc (Obj.cells #[.int .i64 x.from_, x.recs.val] 25)).alloc (Obj.cells #[.int .i64 0, .slice none 0 0] 25)).heap.size = w.heap.size + 2) := Lib.hid (by simp)
  have HB := Lib.hid hB
  generalize hb : logB x.er = b at hc
  have HBB := Lib.hid hb
  clear hb hB b2 HZ1 hx
  have HY := Lib.hid (show y.At _ from hy0.belowAll HB.out)
  have HCO := Lib.hid (fun W (hW : x.At W) (h3 : x.recs.xs.length ≤ 1048576) (h4 : recsK (x.recs.xs.map LRec.er)) => copyLog_any x W hW h3 h4)
  have HOY := Lib.hid (fun W (hW : y.At W) => areRecs_any y W hW)
  have HRY := Lib.hid (fun W (hW : y.At W) (h3 : y.xs.length ≤ 1048576) (h4 : recsK (y.xs.map LRec.er)) => copyRecs_own y W hW h3 h4)
  generalize hxx : x = x' at *
  obtain ⟨xf, xa, xc, xs⟩ := x
  subst hxx
  obtain ⟨ya, yc, ys⟩ := y
  have hyl := hy0.lenMax
  simp only [LLog.val, Loc.val] at hc HCO HOY HRY HX HY BX BP HRP HZ2 HB hyl ⊢
  clear hy hy0
  go_enter Tryz.func6, Tryz.ntmps6
  go_wp2_with fail
  generalize (w.alloc (Obj.cells #[.int .i64 xf, .slice xa xs.length xc] 25)).alloc (Obj.cells #[.int .i64 0, .slice none 0 0] 25) = w0 at *
  refine hc.out.mono ?_
  rintro e w1 ⟨rfl, hb1⟩
  have B1 := Lib.hid (HB.out.trans (hb1.mono HB.out.size))
  have X1 := Lib.hid (LLog.below' HX.out hb1)
  have Y1 := Lib.hid (HY.out.belowAll hb1)
  have BX1 := Lib.hid (BX.out.keep hb1)
  have BP1 := Lib.hid (BP.out.keep hb1)
  have HR1 := Lib.hid ((hb1.block _ BP.out.1).trans HRP.out)
  have HSZ1 := Lib.hid (show w.heap.size + 2 ≤ w1.heap.size by have := hb1.size; have := HZ2.out; omega)
  have xc0 := BX1.out.2 0 _ rfl
  have xc1 := BX1.out.2 1 _ rfl
  clear hb1 hc
  cases b with
  | false =>
    have z0 := frozen_of_row _ (w.heap.size + 1) 0 _ _ HR1.out
    have z1 := frozen_of_row _ (w.heap.size + 1) 1 _ _ HR1.out
    have pc0 := BP1.out.2 0 _ rfl
    have pc1 := BP1.out.2 1 _ rfl
    go_wp2_with fail
    refine bodyPost_ret (v := .tuple #[.agg #[.int .i64 0, .slice none 0 0], .bool false]) ?_ rfl (AddPost.of (z := ⟨0, ⟨none, 0, []⟩⟩) (b := false) ?_ ⟨Nat.le_refl _, Nat.zero_le _, by simp, by simp, by simp⟩ (by simpa [Loc.fp, Loc.blk] using Fr.nil _ _) ?_)
    · simp only [results, Tryz.results6]
      go_simp
    · rw [addZ, if_neg (fun h => by have := HBB.out; rw [h.1] at this; cases this)]; rfl
    · exact (B1.out.setCell (by simp) _).setCell (by simp) _
  | true =>
    have HLB := Lib.hid ((logB_iff _).1 HBB.out)
    go_wp2_with fail
    refine (HOY.out w1 Y1.out).mono ?_
    rintro e w2 ⟨rfl, hb2⟩
    generalize hyb : recsB (ys.map LRec.er) = c
    have HYB := Lib.hid hyb
    have B2 := Lib.hid (B1.out.trans (hb2.mono B1.out.size))
    have X2 := Lib.hid (LLog.below' X1.out hb2)
    have Y2 := Lib.hid (Y1.out.belowAll hb2)
    have BX2 := Lib.hid (BX1.out.keep hb2)
    have BP2 := Lib.hid (BP1.out.keep hb2)
    have HR2 := Lib.hid ((hb2.block _ BP1.out.1).trans HR1.out)
    have HSZ2 := Lib.hid (Nat.le_trans HSZ1.out hb2.size)
    clear hb2 hyb xc0 xc1 B1 X1 Y1 BX1 BP1 HR1 HSZ1 HOY
    cases c with
    | false =>
      have B1 := B2
      have BP1 := BP2
      have HR1 := HR2
      clear B2 BP2 HR2
      have z0 := frozen_of_row _ (w.heap.size + 1) 0 _ _ HR1.out
      have z1 := frozen_of_row _ (w.heap.size + 1) 1 _ _ HR1.out
      have pc0 := BP1.out.2 0 _ rfl
      have pc1 := BP1.out.2 1 _ rfl
      go_wp2_with fail
      refine bodyPost_ret (v := .tuple #[.agg #[.int .i64 0, .slice none 0 0], .bool false]) ?_ rfl (AddPost.of (z := ⟨0, ⟨none, 0, []⟩⟩) (b := false) ?_ ⟨Nat.le_refl _, Nat.zero_le _, by simp, by simp, by simp⟩ (by simpa [Loc.fp, Loc.blk] using Fr.nil _ _) ?_)
      · simp only [results, Tryz.results6]
        go_simp
      · rw [addZ, if_neg (fun h => by have h2 := h.2.1; rw [HYB.out] at h2; cases h2)]; rfl
      · exact (B1.out.setCell (by simp) _).setCell (by simp) _
    | true =>
      by_cases h40 : (40 : Int) < (ys.length : Int)
      · have d40 : decide ((40 : Int) < (ys.length : Int)) = true := decide_eq_true h40
        have B1 := B2
        have BP1 := BP2
        have HR1 := HR2
        clear B2 BP2 HR2
        have z0 := frozen_of_row _ (w.heap.size + 1) 0 _ _ HR1.out
        have z1 := frozen_of_row _ (w.heap.size + 1) 1 _ _ HR1.out
        have pc0 := BP1.out.2 0 _ rfl
        have pc1 := BP1.out.2 1 _ rfl
        go_wp2_with fail
        refine bodyPost_ret (v := .tuple #[.agg #[.int .i64 0, .slice none 0 0], .bool false]) ?_ rfl (AddPost.of (z := ⟨0, ⟨none, 0, []⟩⟩) (b := false) ?_ ⟨Nat.le_refl _, Nat.zero_le _, by simp, by simp, by simp⟩ (by simpa [Loc.fp, Loc.blk] using Fr.nil _ _) ?_)
        · simp only [results, Tryz.results6]
          go_simp
        · rw [addZ, if_neg (fun h => by have h2 := h.2.2; rw [List.length_map] at h2; omega)]; rfl
        · exact (B1.out.setCell (by simp) _).setCell (by simp) _
      · have d40 : decide ((40 : Int) < (ys.length : Int)) = false := decide_eq_false h40
        have HYR : Hid (recsB (ys.map LRec.er) = true ∧ (ys.map LRec.er).length ≤ 40) := Lib.hid ⟨HYB.out, by rw [List.length_map]; omega⟩
        have hxl : xs.length ≤ 40 := by have h4 : (xs.map LRec.er).length ≤ 40 := HLB.out.2.2.2.1; rwa [List.length_map] at h4
        have HXL := Lib.hid hxl
        clear hyl
        have xc0 := BX2.out.2 0 _ rfl
        have xc1 := BX2.out.2 1 _ rfl
        go_wp2_with fail
        refine (HCO.out w2 X2.out (Nat.le_trans HXL.out (by decide)) (logB_recsK HBB.out)).mono ?_
        rintro e w3 ⟨⟨cf, ⟨ca, cc, cs⟩⟩, rfl, hc, hcO, hcF, hb3⟩
        have HCE := Lib.hid (show (⟨cf, cs.map LRec.er⟩ : Log) = ⟨xf, xs.map LRec.er⟩ from hc)
        obtain rfl : cf = xf := congrArg Log.from_ hc
        have hcn : cs.length = xs.length := by have := congrArg (fun l => l.recs.length) HCE.out; simpa using this
        have HCN := Lib.hid hcn
        have hA3 := (Below.refl w3.heap.size w3).alloc (Nat.le_refl _) (Obj.cells #[.int .i64 cf, .slice ca cs.length cc] 25)
        have hb3' : Below w2.heap.size w2 _ := hb3.trans (hA3.mono hb3.size)
        have CLT := Lib.hid hcO.lt
        have CFL := Lib.hid hcF.lt
        have CO3 := Lib.hid (hcO.belowAll hA3)
        have CF3 := Lib.hid (hcF.belowAll hA3)
        have B3 := Lib.hid (B2.out.trans (hb3'.mono B2.out.size))
        have Y3 := Lib.hid (Y2.out.belowAll hb3')
        have BX3 := Lib.hid (BX2.out.keep hb3')
        have BP3 := Lib.hid (BP2.out.keep hb3')
        have HR3 := Lib.hid ((hb3'.block _ BP2.out.1).trans HR2.out)
        have HS3 := Lib.hid hb3.size
        have BC3 := Lib.hid (Boxed.new w3 #[.int .i64 cf, .slice ca cs.length cc] 25)
        have HRC3 := Lib.hid (heap_alloc_new w3 (Obj.cells #[.int .i64 cf, .slice ca cs.length cc] 25))
        have SC3 := Lib.hid (show (w3.alloc (Obj.cells #[.int .i64 cf, .slice ca cs.length cc] 25)).heap.size = w3.heap.size + 1 by simp)
        clear hc hcO hcF hb3 hb3' hA3 hcn xc0 xc1 X2 Y2 BX2 B2 BP2 HR2 HCO
        simp only [LLog.val, Loc.val]
        have xc0 := BX3.out.2 0 _ rfl
        have xc1 := BX3.out.2 1 _ rfl
        have c0 := BC3.out.2 0 _ rfl
        have c1 := BC3.out.2 1 _ rfl
        have p0 := BP3.out.2 0 _ rfl
        have p1 := BP3.out.2 1 _ rfl
        have z0 := frozen_of_row _ (w.heap.size + 1) 0 _ _ HR3.out
        have z1 := frozen_of_row _ (w.heap.size + 1) 1 _ _ HR3.out
        have hrm : roomZ (LLog.er ⟨cf, ⟨xa, xc, xs⟩⟩) (ys.map LRec.er) ↔ xs.length + ys.length ≤ 40 ∧ cf ≤ 4900 := by simp only [roomZ, LLog.er, List.length_map]
        have HRM := Lib.hid hrm
        have HAZ := Lib.hid (show addZ (LLog.er ⟨cf, ⟨xa, xc, xs⟩⟩) (ys.map LRec.er) = _ from if_pos ⟨HBB.out, HYR.out⟩)
        clear hrm
        go_upto_region 4 with fail
        generalize w3.alloc (Obj.cells #[.int .i64 cf, .slice ca cs.length cc] 25) = wa at *
        by_cases hr : xs.length + ys.length ≤ 40 ∧ cf ≤ 4900
        · have HAR := Lib.hid (HAZ.out.trans (if_pos (HRM.out.2 hr)))
          obtain ⟨hr1, hr2⟩ := hr
          have d1 : decide ((40 : Int) < (xs.length : Int) + (ys.length : Int)) = false := decide_eq_false (by omega)
          have d2 : decide ((4900 : Int) < cf) = false := decide_eq_false (by omega)
          go_upto_region 6 with fail
          have kc0 := frozen_of_row _ w3.heap.size 0 _ _ HRC3.out
          have kc1 := frozen_of_row _ w3.heap.size 1 _ _ HRC3.out
          go_region_law (first
            | (go_simp; go_at_call 23; refine (HRY.out _ ?_ (show ys.length ≤ 1048576 by omega) (recsB_K HYR.out.1)).mono ?_; exact Loc.keep_At Y3.out (fun _ _ => rfl); rintro e w4 ⟨⟨da, dc, ds⟩, rfl, hd, hdO, hdF, hb4⟩; have b4 : Below wa.heap.size wa w4 := ⟨hb4.os, hb4.tape, hb4.output, hb4.size, hb4.block⟩; have HDE := Lib.hid hd; have DA4 := Lib.hid (Own.at_ hdO); have DF4 := Lib.hid (show Fr wa.heap.size w4 _ from hdF); have B4 := Lib.hid b4; have P4 := Lib.hid (BP3.out.keep b4); have R4 := Lib.hid ((b4.block _ BP3.out.1).trans HR3.out); have S4 := Lib.hid (show w3.heap.size < w4.heap.size by have h1 := b4.size; have h2 := SC3.out; omega); have c0' := (BC3.out.keep b4).2 0 _ rfl; have c1' := (BC3.out.keep b4).2 1 _ rfl; have k1' : w4.frozen? ⟨w3.heap.size, 1, none⟩ = false := (b4.frozen (by have := SC3.out; simp only; omega)).trans kc1; (simp only [Loc.val]); clear hd hdO hdF hb4 b4)
            | (refine step_append_all rfl _ _ 23 rfl w2.heap.size 53 elem_rec ⟨ca, cc, cs⟩ rfl (CO3.out.belowAll B4.out) ⟨da, dc, ds⟩ rfl DA4.out (fun z hz b hb h => by have h1 := DF4.out.ge b (List.mem_flatMap.2 ⟨z, hz, hb⟩); have h2 := (CLT.out b h.symm).2; have h3 := SC3.out; omega) (by have h1 := HCN.out; have h2 := congrArg List.length HDE.out; simp only [List.length_map] at h2; show cs.length + ds.length ≤ _; omega) (by have h1 := B4.out.size; have h2 := SC3.out; have h3 := HS3.out; show w2.heap.size ≤ w4.heap.size; omega) ?_; intro l5 w5 hap; obtain ⟨la, lc, ls⟩ := l5; have kb : w5.heap[w3.heap.size]? = w4.heap[w3.heap.size]? := hap.grown.block _ S4.out (fun h => by have := (CLT.out _ h.symm).2; omega); have c0'' := (World.cell?_of_block (w := w4) (a := ⟨w3.heap.size, 0, none⟩) kb).trans c0'; have c1'' := (World.cell?_of_block (w := w4) (a := ⟨w3.heap.size, 1, none⟩) kb).trans c1'; have k1'' : w5.frozen? ⟨w3.heap.size, 1, none⟩ = false := (World.frozen?_of_block (w := w4) kb).trans k1'; have HAP := Lib.hid hap; (simp only [Loc.val]); clear kb hap))
          all_goals
            have hap := HAP.out
            have kp : w5.heap[w.heap.size + 1]? = w4.heap[w.heap.size + 1]? := hap.grown.block _ P4.out.1 (fun h => by have := (CLT.out _ h.symm).1; have := HSZ2.out; omega)
            have p0' := (World.cell?_of_block (w := w4) (a := ⟨w.heap.size + 1, 0, none⟩) kp).trans (P4.out.2 0 _ rfl)
            have p1' := (World.cell?_of_block (w := w4) (a := ⟨w.heap.size + 1, 1, none⟩) kp).trans (P4.out.2 1 _ rfl)
            have z0' := frozen_of_row w5 (w.heap.size + 1) 0 _ _ (kp.trans R4.out)
            have z1' := frozen_of_row w5 (w.heap.size + 1) 1 _ _ (kp.trans R4.out)
            have LX5 := Lib.hid (show ls = cs ++ ds from hap.xs)
            have SW := Lib.hid (show w.heap.size + 2 ≤ w3.heap.size by have := HSZ2.out; have := HS3.out; omega)
            have B5 := Lib.hid (hap.below (CO3.out.belowAll B4.out) (B3.out.trans (B4.out.mono B3.out.size)) (by have := HSZ2.out; omega) (by have := S4.out; have := SW.out; omega))
            have HF5 := Lib.hid (hap.own.fr (lo := w2.heap.size) (by
              rw [show ls = cs ++ ds from LX5.out, List.flatMap_append]
              refine (hap.keepFr (CF3.out.belowAll B4.out) fun b hb h => ?_).append (hap.keepFr (DF4.out.mono (by have := SC3.out; have := HS3.out; omega)) fun b hb h => ?_) (fun a ha b hb => ?_)
              · obtain ⟨z, hz, hb⟩ := List.mem_flatMap.1 hb
                exact CO3.out.off z hz b hb h
              · have h1 := DF4.out.ge b hb; have h2 := (CLT.out b h.symm).2; have h3 := SC3.out; omega
              · have h1 := CFL.out a ha; have h2 := DF4.out.ge b hb; have h3 := SC3.out; omega) (Nat.le_refl _))
            have HA5 := Lib.hid hap.own.at_
            have HN5 := Lib.hid (show ∀ b ∈ (⟨la, lc, ls⟩ : Loc LRec).fp, b ≠ w3.heap.size ∧ b ≠ w.heap.size + 1 from fun b hb => by
              have h0 := HF5.out.ge b hb
              have h9 := HSZ2.out
              refine ⟨?_, by omega⟩
              rcases List.mem_append.1 hb with h | h
              · rcases hap.ob b (Loc.blk_own h) with h2 | h2
                · have := (CLT.out b h2).2; omega
                · have := S4.out; omega
              · rw [show (⟨la, lc, ls⟩ : Loc LRec).xs = cs ++ ds from LX5.out, List.flatMap_append] at h
                rcases List.mem_append.1 h with h | h
                · have := CFL.out b h; omega
                · have := DF4.out.ge b h; have := SC3.out; omega)
            have hw3 : w.heap.size + 1 ≠ w3.heap.size := by have := SW.out; omega
            clear kp hap c0 c1 c0' c1' k1' p0 p1 z0 z1 xc0 xc1 kc0 kc1
            go_wp2_with fail
            refine bodyPost_ret (v := .tuple #[.agg #[.int .i64 cf, .slice la ls.length lc], .bool true]) ?_ rfl (AddPost.of (z := ⟨cf, ⟨la, lc, ls⟩⟩) (b := true) ?_ ?_ ?_ ?_)
            · simp only [results, Tryz.results6]
              go_simp
            · refine HAR.out.trans ?_
              have h1 : cs.map LRec.er = xs.map LRec.er := congrArg Log.recs HCE.out
              have h2 : ds.map LRec.er = ys.map LRec.er := HDE.out
              have h3 : ls = cs ++ ds := LX5.out
              simp only [LLog.er, h3, List.map_append, h1, h2]
            · refine Loc.keep_At HA5.out fun b hb => ?_
              have h1 := HN5.out b hb
              rw [Below.heap_setCell _ _ _ _ h1.2, Below.heap_setCell _ _ _ _ h1.2, Below.heap_setCell _ _ _ _ h1.1]
            · refine (HF5.out.mono (by have := HSZ2.out; omega)).keep fun b hb => ?_
              have h1 := HN5.out b hb
              rw [Below.heap_setCell _ _ _ _ h1.2, Below.heap_setCell _ _ _ _ h1.2, Below.heap_setCell _ _ _ _ h1.1]
            · exact ((B5.out.setCell (by have := SW.out; simp; omega) _).setCell (by simp) _).setCell (by simp) _
        · have HAR := Lib.hid (HAZ.out.trans (if_neg (fun h => hr (HRM.out.1 h))))
          have hd : (decide ((40 : Int) < (xs.length : Int) + (ys.length : Int)) || decide ((4900 : Int) < cf)) = true := by
            rcases Classical.not_and_iff_not_or_not.1 hr with h | h
            · simp; omega
            · simp; omega
          clear hr
          by_cases h41 : (40 : Int) < (xs.length : Int) + (ys.length : Int)
          · have d1 : decide ((40 : Int) < (xs.length : Int) + (ys.length : Int)) = true := decide_eq_true h41
            clear hd
            go_wp2_with fail
            refine bodyPost_ret (v := .tuple #[.agg #[.int .i64 cf, .slice ca cs.length cc], .bool false]) ?_ rfl (AddPost.of (z := ⟨cf, ⟨ca, cc, cs⟩⟩) (b := false) ?_ ?_ ?_ ?_)
            · simp only [results, Tryz.results6]
              go_simp
            · exact HAR.out.trans (congrArg (fun l => (l, false)) HCE.out.symm)
            · refine Loc.keep_At (Own.at_ CO3.out) fun b hb => ?_
              have h1 := (Own.fr CO3.out CF3.out (Nat.le_refl _)).ge b hb
              have h2 := HSZ2.out
              rw [Below.heap_setCell _ _ _ _ (by simp only; omega), Below.heap_setCell _ _ _ _ (by simp only; omega)]
            · have h2 := HSZ2.out
              exact (((Own.fr CO3.out CF3.out (Nat.le_refl _)).set_low (by simp only; omega) _).set_low (by simp only; omega) _).mono (by omega)
            · exact (B3.out.setCell (by simp) _).setCell (by simp) _
          · have d1 : decide ((40 : Int) < (xs.length : Int) + (ys.length : Int)) = false := decide_eq_false h41
            rw [d1, Bool.false_or] at hd
            go_wp2_with fail
            refine bodyPost_ret (v := .tuple #[.agg #[.int .i64 cf, .slice ca cs.length cc], .bool false]) ?_ rfl (AddPost.of (z := ⟨cf, ⟨ca, cc, cs⟩⟩) (b := false) ?_ ?_ ?_ ?_)
            · simp only [results, Tryz.results6]
              go_simp
            · exact HAR.out.trans (congrArg (fun l => (l, false)) HCE.out.symm)
            · refine Loc.keep_At (Own.at_ CO3.out) fun b hb => ?_
              have h1 := (Own.fr CO3.out CF3.out (Nat.le_refl _)).ge b hb
              have h2 := HSZ2.out
              rw [Below.heap_setCell _ _ _ _ (by simp only; omega), Below.heap_setCell _ _ _ _ (by simp only; omega)]
            · have h2 := HSZ2.out
              exact (((Own.fr CO3.out CF3.out (Nat.le_refl _)).set_low (by simp only; omega) _).set_low (by simp only; omega) _).mono (by omega)
            · exact (B3.out.setCell (by simp) _).setCell (by simp) _
end Go.Proofs.YtdbejmnfnbkndaaGreatDoor
