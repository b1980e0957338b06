/- LogCut, the program's and the reference's. -/
import Derived.Test.YtpgdelfdaalhbaaDoorLogCut
namespace Go.Proofs.YtpgdelfdaalhbaaDoor
open Go Go.RowKit

/-- What both LogCuts answer. -/
noncomputable def cutZ (n : Int) (l : Log) : Log := if logB l = true ∧ 0 ≤ n then ⟨l.from_, l.recs.take (placeN l.from_ n l.recs.length)⟩ else ⟨0, []⟩
theorem cutZ_no1 {n : Int} {l : Log} (h : logB l = false) : cutZ n l = ⟨0, []⟩ := by unfold cutZ; rw [if_neg (by simp [h])]
theorem cutZ_no2 {n : Int} {l : Log} (h : n < 0) : cutZ n l = ⟨0, []⟩ := by unfold cutZ; rw [if_neg (by omega)]
/-- A log's records, all one's own. -/
def LogNew (w : World) (p : Log → Prop) (e : Ending) (w' : World) : Prop :=
  ∃ y : LLog, e = .returned y.val ∧ p y.er ∧ y.At w' ∧ Fr w.heap.size w' y.recs.fp ∧ Below w.heap.size w w'

theorem LLog.below' {w w' : World} {x : LLog} (h : x.At w) (hb : Below w.heap.size w w') : x.At w' := Loc.At.belowAll h hb

set_option maxRecDepth 100000 in
set_option maxHeartbeats 1000000 in
theorem iLogCut_any (x : LLog) (n : Int) (w : World) (hx : x.At w) (hn : -9223372036854775808 ≤ n ∧ n ≤ 9223372036854775807) :
    Calls Tryd.prog 21 #[x.val, .int .i64 n] w (LogNew w (fun l => l = cutZ n x.er)) := by
  have hB := ((Below.refl w.heap.size w).alloc (Nat.le_refl _) (Obj.cells #[.int .i64 x.from_, x.recs.val] 29)).alloc (by simp) (Obj.cells #[.int .i64 0, .slice none 0 0] 29)
  have b2 : Below (w.alloc (Obj.cells #[.int .i64 x.from_, x.recs.val] 29)).heap.size (w.alloc (Obj.cells #[.int .i64 x.from_, x.recs.val] 29)) ((w.alloc (Obj.cells #[.int .i64 x.from_, x.recs.val] 29)).alloc (Obj.cells #[.int .i64 0, .slice none 0 0] 29)) := (Below.refl _ _).alloc (Nat.le_refl _) _
  have hc := Lib.hid (isLog_any x _ (Loc.At.belowAll hx hB))
  have HX := Lib.hid (show LLog.At _ x from Loc.At.belowAll hx hB)
  have BX := Lib.hid ((Boxed.new w #[.int .i64 x.from_, x.recs.val] 29).keep b2)
  have BP := Lib.hid (Boxed.new (w.alloc (Obj.cells #[.int .i64 x.from_, x.recs.val] 29)) #[.int .i64 0, .slice none 0 0] 29)
  have HRP := Lib.hid (heap_alloc_new (w.alloc (Obj.cells #[.int .i64 x.from_, x.recs.val] 29)) (Obj.cells #[.int .i64 0, .slice none 0 0] 29))
  have HZ1 : (w.alloc (Obj.cells #[.int .i64 x.from_, x.recs.val] 29)).heap.size = w.heap.size + 1 := by simp
  rw [HZ1] at BP HRP
  have HZ2 : Hid (((w.alloc (Obj.cells #[.int .i64 x.from_, x.recs.val] 29)).alloc (Obj.cells #[.int .i64 0, .slice none 0 0] 29)).heap.size = w.heap.size + 2) := Lib.hid (by simp)
  have HB := Lib.hid hB
  generalize hb : logB x.er = b at hc
  have HBB := Lib.hid hb
  clear hb hB b2 HZ1 hx
  have HCU := Lib.hid (fun W (hW : x.At W) (h1 : 0 ≤ x.from_ ∧ x.from_ ≤ 5000) (h2 : 0 ≤ n) (h3 : x.recs.xs.length ≤ 1048576) (h4 : recsK (x.recs.xs.map LRec.er)) => cut_any x n W hW h1 ⟨h2, hn.2⟩ h3 h4)
  generalize hxx : x = x' at *
  obtain ⟨xf, xa, xc, xs⟩ := x
  subst hxx
  simp only [LLog.val, Loc.val] at hc HCU HX BX BP HRP HZ2 HB ⊢
  go_enter Tryd.func21, Tryd.ntmps21
  go_wp2_with fail
  generalize (w.alloc (Obj.cells #[.int .i64 xf, .slice xa xs.length xc] 29)).alloc (Obj.cells #[.int .i64 0, .slice none 0 0] 29) = w0 at *
  refine hc.out.mono ?_
  rintro e w1 ⟨rfl, hb1⟩
  have B1 := Lib.hid (HB.out.trans (hb1.mono HB.out.size))
  have X1 := Lib.hid (LLog.below' HX.out hb1)
  have BX1 := Lib.hid (BX.out.keep hb1)
  have BP1 := Lib.hid (BP.out.keep hb1)
  have HR1 := Lib.hid ((hb1.block _ BP.out.1).trans HRP.out)
  have HSZ1 := Lib.hid (show w.heap.size + 2 ≤ w1.heap.size by have := hb1.size; have := HZ2.out; omega)
  have xc0 := BX1.out.2 0 _ rfl
  have xc1 := BX1.out.2 1 _ rfl
  clear hb1 hc
  cases b with
  | false =>
    have z0 := frozen_of_row w1 (w.heap.size + 1) 0 _ _ HR1.out
    have z1 := frozen_of_row w1 (w.heap.size + 1) 1 _ _ HR1.out
    have pc0 := BP1.out.2 0 _ rfl
    have pc1 := BP1.out.2 1 _ rfl
    go_wp2_with fail
    refine bodyPost_ret (v := .agg #[.int .i64 0, .slice none 0 0]) ?_ rfl ⟨⟨0, ⟨none, 0, []⟩⟩, rfl, ?_, ⟨Nat.le_refl _, Nat.zero_le _, by simp, by simp, by simp⟩, by simpa [Loc.fp, Loc.blk] using Fr.nil _ _, ?_⟩
    · simp only [results, Tryd.results21]
      go_simp
    · first | exact (cutZ_no1 HBB.out).symm | exact (cutZ_no2 (by omega)).symm
    · exact (B1.out.setCell (by simp) _).setCell (by simp) _
  | true =>
    have HLB := Lib.hid ((logB_iff _).1 HBB.out)
    by_cases hn0 : n < 0
    · skip
      have z0 := frozen_of_row w1 (w.heap.size + 1) 0 _ _ HR1.out
      have z1 := frozen_of_row w1 (w.heap.size + 1) 1 _ _ HR1.out
      have pc0 := BP1.out.2 0 _ rfl
      have pc1 := BP1.out.2 1 _ rfl
      go_wp2_with fail
      refine bodyPost_ret (v := .agg #[.int .i64 0, .slice none 0 0]) ?_ rfl ⟨⟨0, ⟨none, 0, []⟩⟩, rfl, ?_, ⟨Nat.le_refl _, Nat.zero_le _, by simp, by simp, by simp⟩, by simpa [Loc.fp, Loc.blk] using Fr.nil _ _, ?_⟩
      · simp only [results, Tryd.results21]
        go_simp
      · first | exact (cutZ_no1 HBB.out).symm | exact (cutZ_no2 (by omega)).symm
      · exact (B1.out.setCell (by simp) _).setCell (by simp) _
    · have hnd : decide (n < 0) = false := decide_eq_false hn0
      go_wp2_with fail
      refine (HCU.out w1 X1.out ⟨HLB.out.1, HLB.out.2.1⟩ (by omega) (by have h4 : (xs.map LRec.er).length ≤ 40 := HLB.out.2.2.2.1; rw [List.length_map] at h4; exact Nat.le_trans h4 (by decide)) (logB_recsK HBB.out)).mono ?_
      rintro e w2 ⟨⟨yf, ⟨ya, yc, ys⟩⟩, rfl, hy, hyO, hyF, hb2⟩
      have HYE := Lib.hid hy
      have HYA := Lib.hid (Own.at_ hyO)
      have HYF := Lib.hid (Own.fr hyO hyF (Nat.le_refl _))
      have B3 := Lib.hid (B1.out.trans (hb2.mono B1.out.size))
      have SB := Lib.hid (show w.heap.size + 2 ≤ w1.heap.size by have := HSZ1.out; omega)
      have HRW := Lib.hid ((hb2.block (w.heap.size + 1) BP1.out.1).trans HR1.out)
      have BP2 := Lib.hid (BP1.out.keep hb2)
      have z0 := frozen_of_row _ (w.heap.size + 1) 0 _ _ HRW.out
      have z1 := frozen_of_row _ (w.heap.size + 1) 1 _ _ HRW.out
      have pc0 := BP2.out.2 0 _ rfl
      have pc1 := BP2.out.2 1 _ rfl
      simp only [LLog.val, Loc.val]
      clear hy hyO hyF hb2
      go_wp2_with fail
      refine bodyPost_ret (v := .agg #[.int .i64 yf, .slice ya ys.length yc]) ?_ rfl ⟨⟨yf, ⟨ya, yc, ys⟩⟩, rfl, ?_, ?_, ?_, ?_⟩
      · simp only [results, Tryd.results21]
        go_simp
      · exact HYE.out.trans (by rw [cutZ, if_pos ⟨HBB.out, by omega⟩]; simp only [LLog.er, List.length_map, List.map_take])
      · refine Loc.keep_At HYA.out fun b hb => ?_
        have h1 := HYF.out.ge b hb
        have h2 := SB.out
        rw [Below.heap_setCell _ _ _ _ (by simp only; omega), Below.heap_setCell _ _ _ _ (by simp only; omega)]
      · have h2 := SB.out
        exact ((HYF.out.set_low (by simp only; omega) _).set_low (by simp only; omega) _).mono (by omega)
      · exact (B3.out.setCell (by simp) _).setCell (by simp) _
end Go.Proofs.YtpgdelfdaalhbaaDoor
