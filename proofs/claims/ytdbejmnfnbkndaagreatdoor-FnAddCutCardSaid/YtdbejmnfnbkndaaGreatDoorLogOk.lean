/- LogOk and LogEnd of the program and of the reference. -/
import Derived.Test.YtdbejmnfnbkndaaGreatDoorRec
import Derived.Test.YtdbejmnfnbkndaaGreatDoorSpec5
import Derived.Test.YtdbejmnfnbkndaaGreatDoorInfo
import Derived.Test.YtdbejmnfnbkndaaGreatDoorBox
namespace Go.Proofs.YtdbejmnfnbkndaaGreatDoor
open Go Go.RowKit

theorem LLog.belowAll {w w' : World} {x : LLog} (h : x.At w) (hb : Below w.heap.size w w') : x.At w' := Loc.At.belowAll h hb

theorem LLog.keep {w w' : World} {x : LLog} (h : x.At w) (hk : ∀ b ∈ x.recs.fp, w'.heap[b]? = w.heap[b]?) : x.At w' := Loc.keep_At h hk

/-- What both LogEnds answer. -/
noncomputable def endZ (l : Log) : Int := if logB l = true then wrap64 (l.from_ + (l.recs.length : Nat)) else -1

set_option maxRecDepth 100000 in
theorem logEnd_any (x : LLog) (w : World) (hx : x.At w) :
    Calls Tryz.prog 24 #[x.val] w fun e w' => e = .returned (.int .i64 (wrap64 (x.from_ + (x.recs.xs.length : Nat)))) ∧ Below w.heap.size w w' := by
  obtain ⟨xf, xa, xc, xs⟩ := x
  have h1 := Loc.At.lenMax hx
  simp only at h1
  simp only [LLog.val, Loc.val]
  go_enter Tryz.func24, Tryz.ntmps24
  go_wp2_with fail
  go_ret
  exact ⟨rfl, (Below.refl w.heap.size w).alloc (Nat.le_refl _) _⟩

theorem iLogEnd_any (x : LLog) (w : World) (hx : x.At w) :
    Calls Tryz.prog 8 #[x.val] w fun e w' => e = .returned (.int .i64 (endZ x.er)) ∧ Below w.heap.size w w' := by
  have hB := (Below.refl w.heap.size w).alloc (Nat.le_refl _) (Obj.cells #[.int .i64 x.from_, x.recs.val] 25)
  have hxB := Loc.At.belowAll hx hB
  have hc := Lib.hid (isLog_any x _ hxB)
  have hd := Lib.hid (fun W h => logEnd_any x W h)
  obtain ⟨xf, xr⟩ := x
  simp only [LLog.val] at hc hd ⊢
  generalize hl : logB _ = b at hc
  have HL := Lib.hid hl
  have HB := Lib.hid hB
  have HX := Lib.hid hxB
  clear hB hl hx hxB
  go_enter Tryz.func8, Tryz.ntmps8
  go_wp2_with fail
  refine hc.out.mono ?_
  rintro e w' ⟨rfl, hb⟩
  have c0 : w'.cell? ⟨w.heap.size, 0, none⟩ = some (.int .i64 xf) := by rw [hb.cell (by simp)]; go_simp
  have c1 : w'.cell? ⟨w.heap.size, 1, none⟩ = some xr.val := by rw [hb.cell (by simp)]; go_simp
  have HB2 := Lib.hid hb
  clear hb
  cases b with
  | false =>
    go_wp2_with fail
    go_ret
    exact ⟨ret_int (by simp [endZ, HL.out]), HB.out.trans (HB2.out.mono (by simp))⟩
  | true =>
    go_wp2_with fail
    refine (hd.out w' (Loc.At.belowAll HX.out HB2.out)).mono ?_
    rintro e w2 ⟨rfl, hb3⟩
    have HB3 := Lib.hid hb3
    clear hb3
    go_wp2_with fail
    go_ret
    exact ⟨ret_int (by have h := HL.out; simp only [LLog.er] at h; simp [endZ, LLog.er, h]), nextB (HB.out.trans (HB2.out.mono (by simp))) HB3.out⟩

end Go.Proofs.YtdbejmnfnbkndaaGreatDoor
