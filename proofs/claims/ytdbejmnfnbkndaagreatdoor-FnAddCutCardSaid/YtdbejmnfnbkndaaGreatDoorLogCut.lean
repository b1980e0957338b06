/- Logs anew: copyLog, l12Copy; LogCut, the program's and the reference's. LogCut, the program's and the reference's. LogCut of the reference. -/
import Derived.Test.YtdbejmnfnbkndaaGreatDoorLogRest
import Derived.Test.YtdbejmnfnbkndaaGreatDoorSpec5
namespace Go.Proofs.YtdbejmnfnbkndaaGreatDoor
open Go Go.RowKit

/-- A log that reads as told. -/
def LogPost (w : World) (p : Log → Prop) (e : Ending) (w' : World) : Prop :=
  ∃ y : LLog, e = .returned y.val ∧ p y.er ∧ y.At w' ∧ Below w.heap.size w w'
/-- A new log, its records all one's own. -/
def LogOwn (w : World) (p : Log → Prop) (e : Ending) (w' : World) : Prop :=
  ∃ y : LLog, e = .returned y.val ∧ p y.er ∧ Own w.heap.size 53 w' y.recs ∧ Fr w.heap.size w' (y.recs.xs.flatMap Dat.fp) ∧ Below w.heap.size w w'

theorem Own.set_low {α : Type} [Dat α] {base : Nat} {e : TypeId} {w : World} {l : Loc α} (h : Own base e w l) (hf : Fr base w (l.xs.flatMap Dat.fp)) {p : Addr} (hp : p.block < base) (v : Value) : Own base e (w.setCell p v) l :=
  h.keep (fun b hb => Below.heap_setCell _ _ _ _ (by have := (h.lt b hb).1; omega)) fun x hx b hb => Below.heap_setCell _ _ _ _ (by have := hf.ge b (List.mem_flatMap.2 ⟨x, hx, hb⟩); omega)
theorem Fr.set_low {base : Nat} {w : World} {f : List Nat} (hf : Fr base w f) {p : Addr} (hp : p.block < base) (v : Value) : Fr base (w.setCell p v) f :=
  hf.keep fun b hb => Below.heap_setCell _ _ _ _ (by have := hf.ge b hb; omega)

theorem LLog.keep_' {w w' : World} {f : Int} {a : Option Addr} {c : Nat} {l : List LRec} (h : Loc.At w (⟨a, c, l⟩ : Loc LRec)) (hk : ∀ b ∈ (⟨a, c, l⟩ : Loc LRec).fp, w'.heap[b]? = w.heap[b]?) : LLog.At w' ⟨f, ⟨a, c, l⟩⟩ := Loc.keep_At h hk

set_option maxRecDepth 100000 in
set_option maxHeartbeats 1000000 in
theorem copyLog_any (x : LLog) (w : World) (hx : x.At w) (hl : x.recs.xs.length ≤ 1048576) (hk : recsK (x.recs.xs.map LRec.er)) :
    Calls Tryz.prog 22 #[x.val] w (LogOwn w (fun l => l = x.er)) := by
  obtain ⟨xf, xa, xc, xs⟩ := x
  simp only [LLog.val, Loc.val]
  simp only at hl hk
  have hB := ((Below.refl w.heap.size w).alloc (Nat.le_refl _) (Obj.cells #[.int .i64 xf, .slice xa xs.length xc] 25)).alloc (by simp) (Obj.cells #[.int .i64 0, .slice none 0 0] 25)
  have b1 : Below w.heap.size w (w.alloc (Obj.cells #[.int .i64 xf, .slice xa xs.length xc] 25)) := (Below.refl _ _).alloc (Nat.le_refl _) _
  have b2 : Below (w.alloc (Obj.cells #[.int .i64 xf, .slice xa xs.length xc] 25)).heap.size (w.alloc (Obj.cells #[.int .i64 xf, .slice xa xs.length xc] 25)) ((w.alloc (Obj.cells #[.int .i64 xf, .slice xa xs.length xc] 25)).alloc (Obj.cells #[.int .i64 0, .slice none 0 0] 25)) := (Below.refl _ _).alloc (Nat.le_refl _) _
  have HX := Lib.hid (show Loc.At _ (⟨xa, xc, xs⟩ : Loc LRec) from Loc.At.belowAll hx hB)
  have BX := Lib.hid ((Boxed.new w #[.int .i64 xf, .slice xa xs.length xc] 25).keep b2)
  have BP := Lib.hid (Boxed.new (w.alloc (Obj.cells #[.int .i64 xf, .slice xa xs.length xc] 25)) #[.int .i64 0, .slice none 0 0] 25)
  have HRP := Lib.hid (heap_alloc_new (w.alloc (Obj.cells #[.int .i64 xf, .slice xa xs.length xc] 25)) (Obj.cells #[.int .i64 0, .slice none 0 0] 25))
  have HZ1 : (w.alloc (Obj.cells #[.int .i64 xf, .slice xa xs.length xc] 25)).heap.size = w.heap.size + 1 := by simp
  rw [HZ1] at BP HRP
  have HZ2 : Hid (((w.alloc (Obj.cells #[.int .i64 xf, .slice xa xs.length xc] 25)).alloc (Obj.cells #[.int .i64 0, .slice none 0 0] 25)).heap.size = w.heap.size + 2) := Lib.hid (by simp)
  have HB := Lib.hid hB
  have HL := Lib.hid hl
  have HK := Lib.hid hk
  clear hB b1 b2 hx hl hk HZ1
  go_enter Tryz.func22, Tryz.ntmps22
  go_wp2_with fail
  generalize (w.alloc (Obj.cells #[.int .i64 xf, .slice xa xs.length xc] 25)).alloc (Obj.cells #[.int .i64 0, .slice none 0 0] 25) = w0 at *
  have xc0 := BX.out.2 0 _ rfl
  have xc1 := BX.out.2 1 _ rfl
  have pc0 := BP.out.2 0 _ rfl
  have pc1 := BP.out.2 1 _ rfl
  go_region_with (go_at_call 23; refine (copyRecs_own ⟨xa, xc, xs⟩ _ ?_ HL.out HK.out).mono ?_; exact Loc.keep_At HX.out (fun _ _ => rfl); rintro e w2 ⟨⟨ya, yc, ys⟩, rfl, hy, hyO, hyF, hb2⟩; have b2 : Below w0.heap.size w0 w2 := ⟨hb2.os, hb2.tape, hb2.output, hb2.size, hb2.block⟩; have HY := Lib.hid hy; have HYO := Lib.hid (show Own w0.heap.size _ w2 _ from hyO); have HYF := Lib.hid (show Fr w0.heap.size w2 _ from hyF); have B2 := Lib.hid b2; have e0 := (BX.out.keep b2).2 0 _ rfl; have e1 := (BX.out.keep b2).2 1 _ rfl; have p0 := (BP.out.keep b2).2 0 _ rfl; have p1 := (BP.out.keep b2).2 1 _ rfl; have z0 := frozen_of_row w2 (w.heap.size + 1) 0 _ _ ((b2.block _ BP.out.1).trans HRP.out); have z1 := frozen_of_row w2 (w.heap.size + 1) 1 _ _ ((b2.block _ BP.out.1).trans HRP.out); (simp only [Loc.val]); clear hy hyO hyF hb2 b2)
  all_goals
    go_wp2_with fail
    refine bodyPost_ret (v := .agg #[.int .i64 xf, .slice ya ys.length yc]) ?_ rfl ⟨⟨xf, ⟨ya, yc, ys⟩⟩, rfl, ?_, ?_, ?_, ?_⟩
    · simp only [results, Tryz.results22]
      go_simp
    · have h : ys.map LRec.er = xs.map LRec.er := HY.out
      simp only [LLog.er, h]
    · exact ((HYO.out.set_low HYF.out (by have := HZ2.out; simp only; omega) _).set_low (HYF.out.set_low (by have := HZ2.out; simp only; omega) _) (by have := HZ2.out; simp only; omega) _).mono (by have := HZ2.out; omega)
    · exact ((HYF.out.set_low (by have := HZ2.out; simp only; omega) _).set_low (by have := HZ2.out; simp only; omega) _).mono (by have := HZ2.out; omega)
    · exact ((HB.out.trans (B2.out.mono HB.out.size)).setCell (by simp) _).setCell (by simp) _
set_option maxRecDepth 100000 in
set_option maxHeartbeats 1000000 in
theorem l12Copy_any (x : LLog) (w : World) (hx : x.At w) (hl : x.recs.xs.length ≤ 1048576) (hk : recsK (x.recs.xs.map LRec.er)) :
    Calls Tryz.prog 18 #[x.val] w (LogOwn w (fun l => l = x.er)) := by
  obtain ⟨xf, xa, xc, xs⟩ := x
  simp only [LLog.val, Loc.val]
  simp only at hl hk
  have hB := ((Below.refl w.heap.size w).alloc (Nat.le_refl _) (Obj.cells #[.int .i64 xf, .slice xa xs.length xc] 25)).alloc (by simp) (Obj.cells #[.int .i64 0, .slice none 0 0] 25)
  have b1 : Below w.heap.size w (w.alloc (Obj.cells #[.int .i64 xf, .slice xa xs.length xc] 25)) := (Below.refl _ _).alloc (Nat.le_refl _) _
  have b2 : Below (w.alloc (Obj.cells #[.int .i64 xf, .slice xa xs.length xc] 25)).heap.size (w.alloc (Obj.cells #[.int .i64 xf, .slice xa xs.length xc] 25)) ((w.alloc (Obj.cells #[.int .i64 xf, .slice xa xs.length xc] 25)).alloc (Obj.cells #[.int .i64 0, .slice none 0 0] 25)) := (Below.refl _ _).alloc (Nat.le_refl _) _
  have HX := Lib.hid (show Loc.At _ (⟨xa, xc, xs⟩ : Loc LRec) from Loc.At.belowAll hx hB)
  have BX := Lib.hid ((Boxed.new w #[.int .i64 xf, .slice xa xs.length xc] 25).keep b2)
  have BP := Lib.hid (Boxed.new (w.alloc (Obj.cells #[.int .i64 xf, .slice xa xs.length xc] 25)) #[.int .i64 0, .slice none 0 0] 25)
  have HRP := Lib.hid (heap_alloc_new (w.alloc (Obj.cells #[.int .i64 xf, .slice xa xs.length xc] 25)) (Obj.cells #[.int .i64 0, .slice none 0 0] 25))
  have HZ1 : (w.alloc (Obj.cells #[.int .i64 xf, .slice xa xs.length xc] 25)).heap.size = w.heap.size + 1 := by simp
  rw [HZ1] at BP HRP
  have HZ2 : Hid (((w.alloc (Obj.cells #[.int .i64 xf, .slice xa xs.length xc] 25)).alloc (Obj.cells #[.int .i64 0, .slice none 0 0] 25)).heap.size = w.heap.size + 2) := Lib.hid (by simp)
  have HB := Lib.hid hB
  have HL := Lib.hid hl
  have HK := Lib.hid hk
  clear hB b1 b2 hx hl hk HZ1
  go_enter Tryz.func18, Tryz.ntmps18
  go_wp2_with fail
  generalize (w.alloc (Obj.cells #[.int .i64 xf, .slice xa xs.length xc] 25)).alloc (Obj.cells #[.int .i64 0, .slice none 0 0] 25) = w0 at *
  have xc0 := BX.out.2 0 _ rfl
  have xc1 := BX.out.2 1 _ rfl
  have pc0 := BP.out.2 0 _ rfl
  have pc1 := BP.out.2 1 _ rfl
  go_region_with (go_at_call 19; refine (l12Recs_own ⟨xa, xc, xs⟩ _ ?_ HL.out HK.out).mono ?_; exact Loc.keep_At HX.out (fun _ _ => rfl); rintro e w2 ⟨⟨ya, yc, ys⟩, rfl, hy, hyO, hyF, hb2⟩; have b2 : Below w0.heap.size w0 w2 := ⟨hb2.os, hb2.tape, hb2.output, hb2.size, hb2.block⟩; have HY := Lib.hid hy; have HYO := Lib.hid (show Own w0.heap.size _ w2 _ from hyO); have HYF := Lib.hid (show Fr w0.heap.size w2 _ from hyF); have B2 := Lib.hid b2; have e0 := (BX.out.keep b2).2 0 _ rfl; have e1 := (BX.out.keep b2).2 1 _ rfl; have p0 := (BP.out.keep b2).2 0 _ rfl; have p1 := (BP.out.keep b2).2 1 _ rfl; have z0 := frozen_of_row w2 (w.heap.size + 1) 0 _ _ ((b2.block _ BP.out.1).trans HRP.out); have z1 := frozen_of_row w2 (w.heap.size + 1) 1 _ _ ((b2.block _ BP.out.1).trans HRP.out); (simp only [Loc.val]); clear hy hyO hyF hb2 b2)
  all_goals
    go_wp2_with fail
    refine bodyPost_ret (v := .agg #[.int .i64 xf, .slice ya ys.length yc]) ?_ rfl ⟨⟨xf, ⟨ya, yc, ys⟩⟩, rfl, ?_, ?_, ?_, ?_⟩
    · simp only [results, Tryz.results18]
      go_simp
    · have h : ys.map LRec.er = xs.map LRec.er := HY.out
      simp only [LLog.er, h]
    · exact ((HYO.out.set_low HYF.out (by have := HZ2.out; simp only; omega) _).set_low (HYF.out.set_low (by have := HZ2.out; simp only; omega) _) (by have := HZ2.out; simp only; omega) _).mono (by have := HZ2.out; omega)
    · exact ((HYF.out.set_low (by have := HZ2.out; simp only; omega) _).set_low (by have := HZ2.out; simp only; omega) _).mono (by have := HZ2.out; omega)
    · exact ((HB.out.trans (B2.out.mono HB.out.size)).setCell (by simp) _).setCell (by simp) _

theorem take_At {w : World} {l : Loc LRec} (h : l.At w) (n : Nat) : Loc.At w ⟨l.a, l.cap, l.xs.take n⟩ := by
  have hl := h.lenCap
  refine ⟨by simp; omega, h.2.1, fun hn => h.2.2.1 (fun h0 => hn (by simp [h0])), fun a ha i x hx j v hv => ?_, fun x hx => h.elem (List.mem_of_mem_take hx)⟩
  have hx2 : l.xs[i]? = some x := by
    have : (l.xs.take n)[i]? = some x := hx
    rw [List.getElem?_take] at this
    split at this
    · exact this
    · cases this
  exact h.cell ha hx2 hv

set_option maxRecDepth 100000 in
set_option maxHeartbeats 2000000 in
theorem cut_any (x : LLog) (n : Int) (w : World) (hx : x.At w) (hf : 0 ≤ x.from_ ∧ x.from_ ≤ 5000) (hn : 0 ≤ n ∧ n ≤ 9223372036854775807) (hl : x.recs.xs.length ≤ 1048576) (hk : recsK (x.recs.xs.map LRec.er)) :
    Calls Tryz.prog 25 #[x.val, .int .i64 n] w (LogOwn w (fun l => l = ⟨x.from_, (x.recs.xs.take (placeN x.from_ n x.recs.xs.length)).map LRec.er⟩)) := by
  have HPO := Lib.hid (fun W (hW : x.At W) => placeOf_any x n W hW hf hn)
  have hple := placeN_le x.from_ n x.recs.xs.length
  obtain ⟨xf, xa, xc, xs⟩ := x
  have hcap := Loc.At.lenCap hx
  have hcm := Loc.At.capMax hx
  simp only at hl hk hple hcap
  simp only [maxLen] at hcm
  simp only [LLog.val, Loc.val] at HPO ⊢
  generalize hp : placeN xf n xs.length = p at *
  have HCR : Hid (∀ W, Loc.At W (⟨xa, xc, xs⟩ : Loc LRec) → Calls Tryz.prog 23 #[.slice xa p xc] W (NewOwn 53 W (fun ys : List LRec => ys.map LRec.er = (xs.take p).map LRec.er))) := Lib.hid (fun W hW => by
    have h := copyRecs_own ⟨xa, xc, xs.take p⟩ W (take_At hW p) (by simp only [List.length_take]; omega) (fun r hr => hk r (by
      obtain ⟨q, hq, rfl⟩ := List.mem_map.1 hr
      exact List.mem_map.2 ⟨q, List.mem_of_mem_take hq, rfl⟩))
    simp only [Loc.val, List.length_take, Nat.min_eq_left hple] at h
    exact h)
  have hB := ((Below.refl w.heap.size w).alloc (Nat.le_refl _) (Obj.cells #[.int .i64 xf, .slice xa xs.length xc] 25)).alloc (by simp) (Obj.cells #[.int .i64 0, .slice none 0 0] 25)
  have b2 : Below (w.alloc (Obj.cells #[.int .i64 xf, .slice xa xs.length xc] 25)).heap.size (w.alloc (Obj.cells #[.int .i64 xf, .slice xa xs.length xc] 25)) ((w.alloc (Obj.cells #[.int .i64 xf, .slice xa xs.length xc] 25)).alloc (Obj.cells #[.int .i64 0, .slice none 0 0] 25)) := (Below.refl _ _).alloc (Nat.le_refl _) _
  have HX := Lib.hid (show Loc.At _ (⟨xa, xc, xs⟩ : Loc LRec) from Loc.At.belowAll hx hB)
  have BX := Lib.hid ((Boxed.new w #[.int .i64 xf, .slice xa xs.length xc] 25).keep b2)
  have BP := Lib.hid (Boxed.new (w.alloc (Obj.cells #[.int .i64 xf, .slice xa xs.length xc] 25)) #[.int .i64 0, .slice none 0 0] 25)
  have HRP := Lib.hid (heap_alloc_new (w.alloc (Obj.cells #[.int .i64 xf, .slice xa xs.length xc] 25)) (Obj.cells #[.int .i64 0, .slice none 0 0] 25))
  have HZ1 : (w.alloc (Obj.cells #[.int .i64 xf, .slice xa xs.length xc] 25)).heap.size = w.heap.size + 1 := by simp
  rw [HZ1] at BP HRP
  have HZ2 : Hid (((w.alloc (Obj.cells #[.int .i64 xf, .slice xa xs.length xc] 25)).alloc (Obj.cells #[.int .i64 0, .slice none 0 0] 25)).heap.size = w.heap.size + 2) := Lib.hid (by simp)
  have HB := Lib.hid hB
  have hpc : p ≤ xc := by omega
  clear hB b2 hx hl hk HZ1 hp hf hn
  go_enter Tryz.func25, Tryz.ntmps25
  go_wp2_with fail
  generalize (w.alloc (Obj.cells #[.int .i64 xf, .slice xa xs.length xc] 25)).alloc (Obj.cells #[.int .i64 0, .slice none 0 0] 25) = w0 at *
  have xc0 := BX.out.2 0 _ rfl
  have xc1 := BX.out.2 1 _ rfl
  have pc0 := BP.out.2 0 _ rfl
  have pc1 := BP.out.2 1 _ rfl
  go_region_with (first
    | (go_at_call 40; refine (HPO.out _ ?_).mono ?_; exact LLog.keep_' HX.out (fun _ _ => rfl); rintro e w1 ⟨rfl, hb1⟩; have b1 : Below w0.heap.size w0 w1 := ⟨hb1.os, hb1.tape, hb1.output, hb1.size, hb1.block⟩; have B1 := Lib.hid b1; have X1 := Lib.hid (HX.out.belowAll b1); have d0 := (BX.out.keep b1).2 0 _ rfl; have d1 := (BX.out.keep b1).2 1 _ rfl; clear hb1 b1)
    | (go_at_call 23; refine (HCR.out _ ?_).mono ?_; exact Loc.keep_At X1.out (fun _ _ => rfl); rintro e w2 ⟨⟨ya, yc, ys⟩, rfl, hy, hyO, hyF, hb2⟩; have b2 : Below w1.heap.size w1 w2 := ⟨hb2.os, hb2.tape, hb2.output, hb2.size, hb2.block⟩; have HY := Lib.hid hy; have HYO := Lib.hid (show Own w1.heap.size _ w2 _ from hyO); have HYF := Lib.hid (show Fr w1.heap.size w2 _ from hyF); have B2 := Lib.hid (nextB B1.out b2); have e0 := (BX.out.keep B2.out).2 0 _ rfl; have e1 := (BX.out.keep B2.out).2 1 _ rfl; have p0 := (BP.out.keep B2.out).2 0 _ rfl; have p1 := (BP.out.keep B2.out).2 1 _ rfl; have z0 := frozen_of_row w2 (w.heap.size + 1) 0 _ _ ((B2.out.block _ BP.out.1).trans HRP.out); have z1 := frozen_of_row w2 (w.heap.size + 1) 1 _ _ ((B2.out.block _ BP.out.1).trans HRP.out); (simp only [Loc.val]); clear hy hyO hyF hb2 b2))
  all_goals
    go_wp2_with fail
    have hs1 : w.heap.size + 2 ≤ w1.heap.size := by have := HZ2.out; have := B1.out.size; omega
    refine bodyPost_ret (v := .agg #[.int .i64 xf, .slice ya ys.length yc]) ?_ rfl ⟨⟨xf, ⟨ya, yc, ys⟩⟩, rfl, ?_, ?_, ?_, ?_⟩
    · simp only [results, Tryz.results25]
      go_simp
    · have h : ys.map LRec.er = (xs.take p).map LRec.er := HY.out
      simp only [LLog.er, h]
    · exact ((HYO.out.set_low HYF.out (by simp only; omega) _).set_low (HYF.out.set_low (by simp only; omega) _) (by simp only; omega) _).mono (by omega)
    · exact ((HYF.out.set_low (by simp only; omega) _).set_low (by simp only; omega) _).mono (by omega)
    · exact ((HB.out.trans (B2.out.mono HB.out.size)).setCell (by simp) _).setCell (by simp) _
end Go.Proofs.YtdbejmnfnbkndaaGreatDoor

namespace Go.Proofs.YtdbejmnfnbkndaaGreatDoor
open Go Go.RowKit

/-- What both LogCuts answer. -/
noncomputable def cutZ (n : Int) (l : Log) : Log := if logB l = true ∧ 0 ≤ n then ⟨l.from_, l.recs.take (placeN l.from_ n l.recs.length)⟩ else ⟨0, []⟩
theorem cutZ_no1 {n : Int} {l : Log} (h : logB l = false) : cutZ n l = ⟨0, []⟩ := by unfold cutZ; rw [if_neg (by simp [h])]
theorem cutZ_no2 {n : Int} {l : Log} (h : n < 0) : cutZ n l = ⟨0, []⟩ := by unfold cutZ; rw [if_neg (by omega)]
/-- A log's records, all one's own. -/
def LogNew (w : World) (p : Log → Prop) (e : Ending) (w' : World) : Prop :=
  ∃ y : LLog, e = .returned y.val ∧ p y.er ∧ y.At w' ∧ Fr w.heap.size w' y.recs.fp ∧ Below w.heap.size w w'

theorem LLog.below' {w w' : World} {x : LLog} (h : x.At w) (hb : Below w.heap.size w w') : x.At w' := Loc.At.belowAll h hb

set_option maxRecDepth 100000 in
set_option maxHeartbeats 1000000 in
theorem iLogCut_any (x : LLog) (n : Int) (w : World) (hx : x.At w) (hn : -9223372036854775808 ≤ n ∧ n ≤ 9223372036854775807) :
    Calls Tryz.prog 9 #[x.val, .int .i64 n] w (LogNew w (fun l => l = cutZ n x.er)) := by
  have hB := ((Below.refl w.heap.size w).alloc (Nat.le_refl _) (Obj.cells #[.int .i64 x.from_, x.recs.val] 25)).alloc (by simp) (Obj.cells #[.int .i64 0, .slice none 0 0] 25)
  have b2 : Below (w.alloc (Obj.cells #[.int .i64 x.from_, x.recs.val] 25)).heap.size (w.alloc (Obj.cells #[.int .i64 x.from_, x.recs.val] 25)) ((w.alloc (Obj.cells #[.int .i64 x.from_, x.recs.val] 25)).alloc (Obj.cells #[.int .i64 0, .slice none 0 0] 25)) := (Below.refl _ _).alloc (Nat.le_refl _) _
  have hc := Lib.hid (isLog_any x _ (Loc.At.belowAll hx hB))
  have HX := Lib.hid (show LLog.At _ x from Loc.At.belowAll hx hB)
  have BX := Lib.hid ((Boxed.new w #[.int .i64 x.from_, x.recs.val] 25).keep b2)
  have BP := Lib.hid (Boxed.new (w.alloc (Obj.cells #[.int .i64 x.from_, x.recs.val] 25)) #[.int .i64 0, .slice none 0 0] 25)
  have HRP := Lib.hid (heap_alloc_new (w.alloc (Obj.cells #[.int .i64 x.from_, x.recs.val] 25)) (Obj.cells #[.int .i64 0, .slice none 0 0] 25))
  have HZ1 : (w.alloc (Obj.cells #[.int .i64 x.from_, x.recs.val] 25)).heap.size = w.heap.size + 1 := by simp
  rw [HZ1] at BP HRP
  have HZ2 : Hid (((w.alloc (Obj.cells #[.int .i64 x.from_, x.recs.val] 25)).alloc (Obj.cells #[.int .i64 0, .slice none 0 0] 25)).heap.size = w.heap.size + 2) := Lib.hid (by simp)
  have HB := Lib.hid hB
  generalize hb : logB x.er = b at hc
  have HBB := Lib.hid hb
  clear hb hB b2 HZ1 hx
  have HCU := Lib.hid (fun W (hW : x.At W) (h1 : 0 ≤ x.from_ ∧ x.from_ ≤ 5000) (h2 : 0 ≤ n) (h3 : x.recs.xs.length ≤ 1048576) (h4 : recsK (x.recs.xs.map LRec.er)) => cut_any x n W hW h1 ⟨h2, hn.2⟩ h3 h4)
  generalize hxx : x = x' at *
  obtain ⟨xf, xa, xc, xs⟩ := x
  subst hxx
  simp only [LLog.val, Loc.val] at hc HCU HX BX BP HRP HZ2 HB ⊢
  go_enter Tryz.func9, Tryz.ntmps9
  go_wp2_with fail
  generalize (w.alloc (Obj.cells #[.int .i64 xf, .slice xa xs.length xc] 25)).alloc (Obj.cells #[.int .i64 0, .slice none 0 0] 25) = w0 at *
  refine hc.out.mono ?_
  rintro e w1 ⟨rfl, hb1⟩
  have B1 := Lib.hid (HB.out.trans (hb1.mono HB.out.size))
  have X1 := Lib.hid (LLog.below' HX.out hb1)
  have BX1 := Lib.hid (BX.out.keep hb1)
  have BP1 := Lib.hid (BP.out.keep hb1)
  have HR1 := Lib.hid ((hb1.block _ BP.out.1).trans HRP.out)
  have HSZ1 := Lib.hid (show w.heap.size + 2 ≤ w1.heap.size by have := hb1.size; have := HZ2.out; omega)
  have xc0 := BX1.out.2 0 _ rfl
  have xc1 := BX1.out.2 1 _ rfl
  clear hb1 hc
  cases b with
  | false =>
    have z0 := frozen_of_row w1 (w.heap.size + 1) 0 _ _ HR1.out
    have z1 := frozen_of_row w1 (w.heap.size + 1) 1 _ _ HR1.out
    have pc0 := BP1.out.2 0 _ rfl
    have pc1 := BP1.out.2 1 _ rfl
    go_wp2_with fail
    refine bodyPost_ret (v := .agg #[.int .i64 0, .slice none 0 0]) ?_ rfl ⟨⟨0, ⟨none, 0, []⟩⟩, rfl, ?_, ⟨Nat.le_refl _, Nat.zero_le _, by simp, by simp, by simp⟩, by simpa [Loc.fp, Loc.blk] using Fr.nil _ _, ?_⟩
    · simp only [results, Tryz.results9]
      go_simp
    · first | exact (cutZ_no1 HBB.out).symm | exact (cutZ_no2 (by omega)).symm
    · exact (B1.out.setCell (by simp) _).setCell (by simp) _
  | true =>
    have HLB := Lib.hid ((logB_iff _).1 HBB.out)
    by_cases hn0 : n < 0
    · skip
      have z0 := frozen_of_row w1 (w.heap.size + 1) 0 _ _ HR1.out
      have z1 := frozen_of_row w1 (w.heap.size + 1) 1 _ _ HR1.out
      have pc0 := BP1.out.2 0 _ rfl
      have pc1 := BP1.out.2 1 _ rfl
      go_wp2_with fail
      refine bodyPost_ret (v := .agg #[.int .i64 0, .slice none 0 0]) ?_ rfl ⟨⟨0, ⟨none, 0, []⟩⟩, rfl, ?_, ⟨Nat.le_refl _, Nat.zero_le _, by simp, by simp, by simp⟩, by simpa [Loc.fp, Loc.blk] using Fr.nil _ _, ?_⟩
      · simp only [results, Tryz.results9]
        go_simp
      · first | exact (cutZ_no1 HBB.out).symm | exact (cutZ_no2 (by omega)).symm
      · exact (B1.out.setCell (by simp) _).setCell (by simp) _
    · have hnd : decide (n < 0) = false := decide_eq_false hn0
      go_wp2_with fail
      refine (HCU.out w1 X1.out ⟨HLB.out.1, HLB.out.2.1⟩ (by omega) (by have h4 : (xs.map LRec.er).length ≤ 40 := HLB.out.2.2.2.1; rw [List.length_map] at h4; exact Nat.le_trans h4 (by decide)) (logB_recsK HBB.out)).mono ?_
      rintro e w2 ⟨⟨yf, ⟨ya, yc, ys⟩⟩, rfl, hy, hyO, hyF, hb2⟩
      have HYE := Lib.hid hy
      have HYA := Lib.hid (Own.at_ hyO)
      have HYF := Lib.hid (Own.fr hyO hyF (Nat.le_refl _))
      have B3 := Lib.hid (B1.out.trans (hb2.mono B1.out.size))
      have SB := Lib.hid (show w.heap.size + 2 ≤ w1.heap.size by have := HSZ1.out; omega)
      have HRW := Lib.hid ((hb2.block (w.heap.size + 1) BP1.out.1).trans HR1.out)
      have BP2 := Lib.hid (BP1.out.keep hb2)
      have z0 := frozen_of_row _ (w.heap.size + 1) 0 _ _ HRW.out
      have z1 := frozen_of_row _ (w.heap.size + 1) 1 _ _ HRW.out
      have pc0 := BP2.out.2 0 _ rfl
      have pc1 := BP2.out.2 1 _ rfl
      simp only [LLog.val, Loc.val]
      clear hy hyO hyF hb2
      go_wp2_with fail
      refine bodyPost_ret (v := .agg #[.int .i64 yf, .slice ya ys.length yc]) ?_ rfl ⟨⟨yf, ⟨ya, yc, ys⟩⟩, rfl, ?_, ?_, ?_, ?_⟩
      · simp only [results, Tryz.results9]
        go_simp
      · exact HYE.out.trans (by rw [cutZ, if_pos ⟨HBB.out, by omega⟩]; simp only [LLog.er, List.length_map, List.map_take])
      · refine Loc.keep_At HYA.out fun b hb => ?_
        have h1 := HYF.out.ge b hb
        have h2 := SB.out
        rw [Below.heap_setCell _ _ _ _ (by simp only; omega), Below.heap_setCell _ _ _ _ (by simp only; omega)]
      · have h2 := SB.out
        exact ((HYF.out.set_low (by simp only; omega) _).set_low (by simp only; omega) _).mono (by omega)
      · exact (B3.out.setCell (by simp) _).setCell (by simp) _
end Go.Proofs.YtdbejmnfnbkndaaGreatDoor

namespace Go.Proofs.YtdbejmnfnbkndaaGreatDoor
open Go Go.RowKit

theorem Loc.fp_take {α : Type} [Dat α] (l : Loc α) (n : Nat) : List.Sublist (Loc.fp ⟨l.a, l.cap, l.xs.take n⟩) l.fp := by
  unfold Loc.fp
  refine List.Sublist.append ?_ ?_
  · unfold Loc.blk
    by_cases h : l.xs = []
    · simp [h]
    · by_cases h2 : l.xs.take n = []
      · simp [h2]
      · simp only [if_neg h, if_neg h2]; exact List.Sublist.refl _
  · simp only
    conv => rhs; rw [← List.take_append_drop n l.xs, List.flatMap_append]
    exact List.sublist_append_left _ _
end Go.Proofs.YtdbejmnfnbkndaaGreatDoor
