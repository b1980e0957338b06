/- Logs anew: copyLog, l12Copy; LogCut, the program's and the reference's. -/
import Derived.Test.YtpgdelfdaalhbaaDoorLogRest
namespace Go.Proofs.YtpgdelfdaalhbaaDoor
open Go Go.RowKit

/-- A log that reads as told. -/
def LogPost (w : World) (p : Log → Prop) (e : Ending) (w' : World) : Prop :=
  ∃ y : LLog, e = .returned y.val ∧ p y.er ∧ y.At w' ∧ Below w.heap.size w w'
/-- A new log, its records all one's own. -/
def LogOwn (w : World) (p : Log → Prop) (e : Ending) (w' : World) : Prop :=
  ∃ y : LLog, e = .returned y.val ∧ p y.er ∧ Own w.heap.size 71 w' y.recs ∧ Fr w.heap.size w' (y.recs.xs.flatMap Dat.fp) ∧ Below w.heap.size w w'

theorem Own.set_low {α : Type} [Dat α] {base : Nat} {e : TypeId} {w : World} {l : Loc α} (h : Own base e w l) (hf : Fr base w (l.xs.flatMap Dat.fp)) {p : Addr} (hp : p.block < base) (v : Value) : Own base e (w.setCell p v) l :=
  h.keep (fun b hb => Below.heap_setCell _ _ _ _ (by have := (h.lt b hb).1; omega)) fun x hx b hb => Below.heap_setCell _ _ _ _ (by have := hf.ge b (List.mem_flatMap.2 ⟨x, hx, hb⟩); omega)
theorem Fr.set_low {base : Nat} {w : World} {f : List Nat} (hf : Fr base w f) {p : Addr} (hp : p.block < base) (v : Value) : Fr base (w.setCell p v) f :=
  hf.keep fun b hb => Below.heap_setCell _ _ _ _ (by have := hf.ge b hb; omega)

theorem LLog.keep_' {w w' : World} {f : Int} {a : Option Addr} {c : Nat} {l : List LRec} (h : Loc.At w (⟨a, c, l⟩ : Loc LRec)) (hk : ∀ b ∈ (⟨a, c, l⟩ : Loc LRec).fp, w'.heap[b]? = w.heap[b]?) : LLog.At w' ⟨f, ⟨a, c, l⟩⟩ := Loc.keep_At h hk

set_option maxRecDepth 100000 in
set_option maxHeartbeats 1000000 in
theorem copyLog_any (x : LLog) (w : World) (hx : x.At w) (hl : x.recs.xs.length ≤ 1048576) (hk : recsK (x.recs.xs.map LRec.er)) :
    Calls Tryd.prog 58 #[x.val] w (LogOwn w (fun l => l = x.er)) := by
  obtain ⟨xf, xa, xc, xs⟩ := x
  simp only [LLog.val, Loc.val]
  simp only at hl hk
  have hB := ((Below.refl w.heap.size w).alloc (Nat.le_refl _) (Obj.cells #[.int .i64 xf, .slice xa xs.length xc] 29)).alloc (by simp) (Obj.cells #[.int .i64 0, .slice none 0 0] 29)
  have b1 : Below w.heap.size w (w.alloc (Obj.cells #[.int .i64 xf, .slice xa xs.length xc] 29)) := (Below.refl _ _).alloc (Nat.le_refl _) _
  have b2 : Below (w.alloc (Obj.cells #[.int .i64 xf, .slice xa xs.length xc] 29)).heap.size (w.alloc (Obj.cells #[.int .i64 xf, .slice xa xs.length xc] 29)) ((w.alloc (Obj.cells #[.int .i64 xf, .slice xa xs.length xc] 29)).alloc (Obj.cells #[.int .i64 0, .slice none 0 0] 29)) := (Below.refl _ _).alloc (Nat.le_refl _) _
  have HX := Lib.hid (show Loc.At _ (⟨xa, xc, xs⟩ : Loc LRec) from Loc.At.belowAll hx hB)
  have BX := Lib.hid ((Boxed.new w #[.int .i64 xf, .slice xa xs.length xc] 29).keep b2)
  have BP := Lib.hid (Boxed.new (w.alloc (Obj.cells #[.int .i64 xf, .slice xa xs.length xc] 29)) #[.int .i64 0, .slice none 0 0] 29)
  have HRP := Lib.hid (heap_alloc_new (w.alloc (Obj.cells #[.int .i64 xf, .slice xa xs.length xc] 29)) (Obj.cells #[.int .i64 0, .slice none 0 0] 29))
  have HZ1 : (w.alloc (Obj.cells #[.int .i64 xf, .slice xa xs.length xc] 29)).heap.size = w.heap.size + 1 := by simp
  rw [HZ1] at BP HRP
  have HZ2 : Hid (((w.alloc (Obj.cells #[.int .i64 xf, .slice xa xs.length xc] 29)).alloc (Obj.cells #[.int .i64 0, .slice none 0 0] 29)).heap.size = w.heap.size + 2) := Lib.hid (by simp)
  have HB := Lib.hid hB
  have HL := Lib.hid hl
  have HK := Lib.hid hk
  clear hB b1 b2 hx hl hk HZ1
  go_enter Tryd.func58, Tryd.ntmps58
  go_wp2_with fail
  generalize (w.alloc (Obj.cells #[.int .i64 xf, .slice xa xs.length xc] 29)).alloc (Obj.cells #[.int .i64 0, .slice none 0 0] 29) = w0 at *
  have xc0 := BX.out.2 0 _ rfl
  have xc1 := BX.out.2 1 _ rfl
  have pc0 := BP.out.2 0 _ rfl
  have pc1 := BP.out.2 1 _ rfl
  go_region_with (go_at_call 45; refine (copyRecs_own ⟨xa, xc, xs⟩ _ ?_ HL.out HK.out).mono ?_; exact Loc.keep_At HX.out (fun _ _ => rfl); rintro e w2 ⟨⟨ya, yc, ys⟩, rfl, hy, hyO, hyF, hb2⟩; have b2 : Below w0.heap.size w0 w2 := ⟨hb2.os, hb2.tape, hb2.output, hb2.size, hb2.block⟩; have HY := Lib.hid hy; have HYO := Lib.hid (show Own w0.heap.size _ w2 _ from hyO); have HYF := Lib.hid (show Fr w0.heap.size w2 _ from hyF); have B2 := Lib.hid b2; have e0 := (BX.out.keep b2).2 0 _ rfl; have e1 := (BX.out.keep b2).2 1 _ rfl; have p0 := (BP.out.keep b2).2 0 _ rfl; have p1 := (BP.out.keep b2).2 1 _ rfl; have z0 := frozen_of_row w2 (w.heap.size + 1) 0 _ _ ((b2.block _ BP.out.1).trans HRP.out); have z1 := frozen_of_row w2 (w.heap.size + 1) 1 _ _ ((b2.block _ BP.out.1).trans HRP.out); (simp only [Loc.val]); clear hy hyO hyF hb2 b2)
  all_goals
    go_wp2_with fail
    refine bodyPost_ret (v := .agg #[.int .i64 xf, .slice ya ys.length yc]) ?_ rfl ⟨⟨xf, ⟨ya, yc, ys⟩⟩, rfl, ?_, ?_, ?_, ?_⟩
    · simp only [results, Tryd.results58]
      go_simp
    · have h : ys.map LRec.er = xs.map LRec.er := HY.out
      simp only [LLog.er, h]
    · exact ((HYO.out.set_low HYF.out (by have := HZ2.out; simp only; omega) _).set_low (HYF.out.set_low (by have := HZ2.out; simp only; omega) _) (by have := HZ2.out; simp only; omega) _).mono (by have := HZ2.out; omega)
    · exact ((HYF.out.set_low (by have := HZ2.out; simp only; omega) _).set_low (by have := HZ2.out; simp only; omega) _).mono (by have := HZ2.out; omega)
    · exact ((HB.out.trans (B2.out.mono HB.out.size)).setCell (by simp) _).setCell (by simp) _
set_option maxRecDepth 100000 in
set_option maxHeartbeats 1000000 in
theorem l12Copy_any (x : LLog) (w : World) (hx : x.At w) (hl : x.recs.xs.length ≤ 1048576) (hk : recsK (x.recs.xs.map LRec.er)) :
    Calls Tryd.prog 52 #[x.val] w (LogOwn w (fun l => l = x.er)) := by
  obtain ⟨xf, xa, xc, xs⟩ := x
  simp only [LLog.val, Loc.val]
  simp only at hl hk
  have hB := ((Below.refl w.heap.size w).alloc (Nat.le_refl _) (Obj.cells #[.int .i64 xf, .slice xa xs.length xc] 29)).alloc (by simp) (Obj.cells #[.int .i64 0, .slice none 0 0] 29)
  have b1 : Below w.heap.size w (w.alloc (Obj.cells #[.int .i64 xf, .slice xa xs.length xc] 29)) := (Below.refl _ _).alloc (Nat.le_refl _) _
  have b2 : Below (w.alloc (Obj.cells #[.int .i64 xf, .slice xa xs.length xc] 29)).heap.size (w.alloc (Obj.cells #[.int .i64 xf, .slice xa xs.length xc] 29)) ((w.alloc (Obj.cells #[.int .i64 xf, .slice xa xs.length xc] 29)).alloc (Obj.cells #[.int .i64 0, .slice none 0 0] 29)) := (Below.refl _ _).alloc (Nat.le_refl _) _
  have HX := Lib.hid (show Loc.At _ (⟨xa, xc, xs⟩ : Loc LRec) from Loc.At.belowAll hx hB)
  have BX := Lib.hid ((Boxed.new w #[.int .i64 xf, .slice xa xs.length xc] 29).keep b2)
  have BP := Lib.hid (Boxed.new (w.alloc (Obj.cells #[.int .i64 xf, .slice xa xs.length xc] 29)) #[.int .i64 0, .slice none 0 0] 29)
  have HRP := Lib.hid (heap_alloc_new (w.alloc (Obj.cells #[.int .i64 xf, .slice xa xs.length xc] 29)) (Obj.cells #[.int .i64 0, .slice none 0 0] 29))
  have HZ1 : (w.alloc (Obj.cells #[.int .i64 xf, .slice xa xs.length xc] 29)).heap.size = w.heap.size + 1 := by simp
  rw [HZ1] at BP HRP
  have HZ2 : Hid (((w.alloc (Obj.cells #[.int .i64 xf, .slice xa xs.length xc] 29)).alloc (Obj.cells #[.int .i64 0, .slice none 0 0] 29)).heap.size = w.heap.size + 2) := Lib.hid (by simp)
  have HB := Lib.hid hB
  have HL := Lib.hid hl
  have HK := Lib.hid hk
  clear hB b1 b2 hx hl hk HZ1
  go_enter Tryd.func52, Tryd.ntmps52
  go_wp2_with fail
  generalize (w.alloc (Obj.cells #[.int .i64 xf, .slice xa xs.length xc] 29)).alloc (Obj.cells #[.int .i64 0, .slice none 0 0] 29) = w0 at *
  have xc0 := BX.out.2 0 _ rfl
  have xc1 := BX.out.2 1 _ rfl
  have pc0 := BP.out.2 0 _ rfl
  have pc1 := BP.out.2 1 _ rfl
  go_region_with (go_at_call 42; refine (l12Recs_own ⟨xa, xc, xs⟩ _ ?_ HL.out HK.out).mono ?_; exact Loc.keep_At HX.out (fun _ _ => rfl); rintro e w2 ⟨⟨ya, yc, ys⟩, rfl, hy, hyO, hyF, hb2⟩; have b2 : Below w0.heap.size w0 w2 := ⟨hb2.os, hb2.tape, hb2.output, hb2.size, hb2.block⟩; have HY := Lib.hid hy; have HYO := Lib.hid (show Own w0.heap.size _ w2 _ from hyO); have HYF := Lib.hid (show Fr w0.heap.size w2 _ from hyF); have B2 := Lib.hid b2; have e0 := (BX.out.keep b2).2 0 _ rfl; have e1 := (BX.out.keep b2).2 1 _ rfl; have p0 := (BP.out.keep b2).2 0 _ rfl; have p1 := (BP.out.keep b2).2 1 _ rfl; have z0 := frozen_of_row w2 (w.heap.size + 1) 0 _ _ ((b2.block _ BP.out.1).trans HRP.out); have z1 := frozen_of_row w2 (w.heap.size + 1) 1 _ _ ((b2.block _ BP.out.1).trans HRP.out); (simp only [Loc.val]); clear hy hyO hyF hb2 b2)
  all_goals
    go_wp2_with fail
    refine bodyPost_ret (v := .agg #[.int .i64 xf, .slice ya ys.length yc]) ?_ rfl ⟨⟨xf, ⟨ya, yc, ys⟩⟩, rfl, ?_, ?_, ?_, ?_⟩
    · simp only [results, Tryd.results52]
      go_simp
    · have h : ys.map LRec.er = xs.map LRec.er := HY.out
      simp only [LLog.er, h]
    · exact ((HYO.out.set_low HYF.out (by have := HZ2.out; simp only; omega) _).set_low (HYF.out.set_low (by have := HZ2.out; simp only; omega) _) (by have := HZ2.out; simp only; omega) _).mono (by have := HZ2.out; omega)
    · exact ((HYF.out.set_low (by have := HZ2.out; simp only; omega) _).set_low (by have := HZ2.out; simp only; omega) _).mono (by have := HZ2.out; omega)
    · exact ((HB.out.trans (B2.out.mono HB.out.size)).setCell (by simp) _).setCell (by simp) _

theorem take_At {w : World} {l : Loc LRec} (h : l.At w) (n : Nat) : Loc.At w ⟨l.a, l.cap, l.xs.take n⟩ := by
  have hl := h.lenCap
  refine ⟨by simp; omega, h.2.1, fun hn => h.2.2.1 (fun h0 => hn (by simp [h0])), fun a ha i x hx j v hv => ?_, fun x hx => h.elem (List.mem_of_mem_take hx)⟩
  have hx2 : l.xs[i]? = some x := by
    have : (l.xs.take n)[i]? = some x := hx
    rw [List.getElem?_take] at this
    split at this
    · exact this
    · cases this
  exact h.cell ha hx2 hv

set_option maxRecDepth 100000 in
set_option maxHeartbeats 2000000 in
theorem cut_any (x : LLog) (n : Int) (w : World) (hx : x.At w) (hf : 0 ≤ x.from_ ∧ x.from_ ≤ 5000) (hn : 0 ≤ n ∧ n ≤ 9223372036854775807) (hl : x.recs.xs.length ≤ 1048576) (hk : recsK (x.recs.xs.map LRec.er)) :
    Calls Tryd.prog 53 #[x.val, .int .i64 n] w (LogOwn w (fun l => l = ⟨x.from_, (x.recs.xs.take (placeN x.from_ n x.recs.xs.length)).map LRec.er⟩)) := by
  have HPO := Lib.hid (fun W (hW : x.At W) => placeOf_any x n W hW hf hn)
  have hple := placeN_le x.from_ n x.recs.xs.length
  obtain ⟨xf, xa, xc, xs⟩ := x
  have hcap := Loc.At.lenCap hx
  have hcm := Loc.At.capMax hx
  simp only at hl hk hple hcap
  simp only [maxLen] at hcm
  simp only [LLog.val, Loc.val] at HPO ⊢
  generalize hp : placeN xf n xs.length = p at *
  have HCR : Hid (∀ W, Loc.At W (⟨xa, xc, xs⟩ : Loc LRec) → Calls Tryd.prog 45 #[.slice xa p xc] W (NewOwn 71 W (fun ys : List LRec => ys.map LRec.er = (xs.take p).map LRec.er))) := Lib.hid (fun W hW => by
    have h := copyRecs_own ⟨xa, xc, xs.take p⟩ W (take_At hW p) (by simp only [List.length_take]; omega) (fun r hr => hk r (by
      obtain ⟨q, hq, rfl⟩ := List.mem_map.1 hr
      exact List.mem_map.2 ⟨q, List.mem_of_mem_take hq, rfl⟩))
    simp only [Loc.val, List.length_take, Nat.min_eq_left hple] at h
    exact h)
  have hB := ((Below.refl w.heap.size w).alloc (Nat.le_refl _) (Obj.cells #[.int .i64 xf, .slice xa xs.length xc] 29)).alloc (by simp) (Obj.cells #[.int .i64 0, .slice none 0 0] 29)
  have b2 : Below (w.alloc (Obj.cells #[.int .i64 xf, .slice xa xs.length xc] 29)).heap.size (w.alloc (Obj.cells #[.int .i64 xf, .slice xa xs.length xc] 29)) ((w.alloc (Obj.cells #[.int .i64 xf, .slice xa xs.length xc] 29)).alloc (Obj.cells #[.int .i64 0, .slice none 0 0] 29)) := (Below.refl _ _).alloc (Nat.le_refl _) _
  have HX := Lib.hid (show Loc.At _ (⟨xa, xc, xs⟩ : Loc LRec) from Loc.At.belowAll hx hB)
  have BX := Lib.hid ((Boxed.new w #[.int .i64 xf, .slice xa xs.length xc] 29).keep b2)
  have BP := Lib.hid (Boxed.new (w.alloc (Obj.cells #[.int .i64 xf, .slice xa xs.length xc] 29)) #[.int .i64 0, .slice none 0 0] 29)
  have HRP := Lib.hid (heap_alloc_new (w.alloc (Obj.cells #[.int .i64 xf, .slice xa xs.length xc] 29)) (Obj.cells #[.int .i64 0, .slice none 0 0] 29))
  have HZ1 : (w.alloc (Obj.cells #[.int .i64 xf, .slice xa xs.length xc] 29)).heap.size = w.heap.size + 1 := by simp
  rw [HZ1] at BP HRP
  have HZ2 : Hid (((w.alloc (Obj.cells #[.int .i64 xf, .slice xa xs.length xc] 29)).alloc (Obj.cells #[.int .i64 0, .slice none 0 0] 29)).heap.size = w.heap.size + 2) := Lib.hid (by simp)
  have HB := Lib.hid hB
  have hpc : p ≤ xc := by omega
  clear hB b2 hx hl hk HZ1 hp hf hn
  go_enter Tryd.func53, Tryd.ntmps53
  go_wp2_with fail
  generalize (w.alloc (Obj.cells #[.int .i64 xf, .slice xa xs.length xc] 29)).alloc (Obj.cells #[.int .i64 0, .slice none 0 0] 29) = w0 at *
  have xc0 := BX.out.2 0 _ rfl
  have xc1 := BX.out.2 1 _ rfl
  have pc0 := BP.out.2 0 _ rfl
  have pc1 := BP.out.2 1 _ rfl
  go_region_with (first
    | (go_at_call 86; refine (HPO.out _ ?_).mono ?_; exact LLog.keep_' HX.out (fun _ _ => rfl); rintro e w1 ⟨rfl, hb1⟩; have b1 : Below w0.heap.size w0 w1 := ⟨hb1.os, hb1.tape, hb1.output, hb1.size, hb1.block⟩; have B1 := Lib.hid b1; have X1 := Lib.hid (HX.out.belowAll b1); have d0 := (BX.out.keep b1).2 0 _ rfl; have d1 := (BX.out.keep b1).2 1 _ rfl; clear hb1 b1)
    | (go_at_call 45; refine (HCR.out _ ?_).mono ?_; exact Loc.keep_At X1.out (fun _ _ => rfl); rintro e w2 ⟨⟨ya, yc, ys⟩, rfl, hy, hyO, hyF, hb2⟩; have b2 : Below w1.heap.size w1 w2 := ⟨hb2.os, hb2.tape, hb2.output, hb2.size, hb2.block⟩; have HY := Lib.hid hy; have HYO := Lib.hid (show Own w1.heap.size _ w2 _ from hyO); have HYF := Lib.hid (show Fr w1.heap.size w2 _ from hyF); have B2 := Lib.hid (nextB B1.out b2); have e0 := (BX.out.keep B2.out).2 0 _ rfl; have e1 := (BX.out.keep B2.out).2 1 _ rfl; have p0 := (BP.out.keep B2.out).2 0 _ rfl; have p1 := (BP.out.keep B2.out).2 1 _ rfl; have z0 := frozen_of_row w2 (w.heap.size + 1) 0 _ _ ((B2.out.block _ BP.out.1).trans HRP.out); have z1 := frozen_of_row w2 (w.heap.size + 1) 1 _ _ ((B2.out.block _ BP.out.1).trans HRP.out); (simp only [Loc.val]); clear hy hyO hyF hb2 b2))
  all_goals
    go_wp2_with fail
    have hs1 : w.heap.size + 2 ≤ w1.heap.size := by have := HZ2.out; have := B1.out.size; omega
    refine bodyPost_ret (v := .agg #[.int .i64 xf, .slice ya ys.length yc]) ?_ rfl ⟨⟨xf, ⟨ya, yc, ys⟩⟩, rfl, ?_, ?_, ?_, ?_⟩
    · simp only [results, Tryd.results53]
      go_simp
    · have h : ys.map LRec.er = (xs.take p).map LRec.er := HY.out
      simp only [LLog.er, h]
    · exact ((HYO.out.set_low HYF.out (by simp only; omega) _).set_low (HYF.out.set_low (by simp only; omega) _) (by simp only; omega) _).mono (by omega)
    · exact ((HYF.out.set_low (by simp only; omega) _).set_low (by simp only; omega) _).mono (by omega)
    · exact ((HB.out.trans (B2.out.mono HB.out.size)).setCell (by simp) _).setCell (by simp) _
end Go.Proofs.YtpgdelfdaalhbaaDoor
