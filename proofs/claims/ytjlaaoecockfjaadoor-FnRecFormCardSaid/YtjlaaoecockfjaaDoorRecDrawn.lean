/- The walk of FnRecForm: a record has what its kind has. -/
import Derived.Test.YtjlaaoecockfjaaDoorDraw8
import Derived.Test.YtjlaaoecockfjaaDoorOkLawsR
namespace Go.Proofs.YtjlaaoecockfjaaDoor
open Go Go.RowKit

theorem recB_kind (r : Rec) : recB ⟨3, r.name, r.sibs, r.n, r.sum⟩ = false := by simp [recB]
theorem recB_name {r : Rec} : recB ⟨r.kind, ⟨#[71]⟩, r.sibs, r.n, r.sum⟩ = false := by
  have h1 : nameB ⟨#[71]⟩ = false := by decide
  have h2 : decide ((⟨#[71]⟩ : ByteArray) = ByteArray.empty) = false := by decide
  unfold recB
  simp only [h1, h2]
  split
  · simp
  · split <;> simp
theorem recB_sum {r : Rec} : recB ⟨r.kind, r.name, r.sibs, r.n, 97⟩ = false := by
  unfold recB
  simp only
  split
  · simp
  · split <;> simp
theorem recB_n {r : Rec} : recB ⟨r.kind, r.name, r.sibs, 7, r.sum⟩ = false := by
  unfold recB
  simp only
  split
  · simp
  · split <;> simp

set_option maxRecDepth 100000 in
set_option maxHeartbeats 2000000 in
theorem recForm_walk (x : Loc UInt8) (w : World) (hx : x.At w) :
    Calls Tryd.prog 3 #[x.val] w fun e w' => e = .returned (.bool true) ∧ Below w.heap.size w w' := by
  have h1 := hx.lenMax
  have HX := Lib.hid hx
  clear hx
  by_cases hbig : (1048576 : Int) < (x.xs.length : Int)
  · obtain ⟨xa, xc, xs⟩ := x
    simp only [Loc.val] at hbig ⊢
    go_enter Tryd.func3, Tryd.ntmps3
    go_wp2_with fail
    go_ret
    exact ⟨rfl, Below.refl _ _⟩
  · have hc := Lib.hid (drawRecOk_any x w HX.out)
    obtain ⟨xa, xc, xs⟩ := x
    simp only [Loc.val] at hbig hc ⊢
    go_enter Tryd.func3, Tryd.ntmps3
    go_wp2_with fail
    refine hc.out.mono ?_
    rintro e w1 ⟨⟨k, nm, ⟨sa, sc, ss⟩, n, m⟩, rfl, hA, b1⟩
    simp only [LRec.val, Loc.val]
    generalize hb : recB (LRec.er ⟨k, nm, ⟨sa, sc, ss⟩, n, m⟩) = b
    have HB := Lib.hid hb
    have hB2 : Below w1.heap.size w1 (w1.alloc (Obj.cells #[.int .i64 k, .string nm, .slice sa ss.length sc, .int .i64 n, .int .i64 m] 27)) := (Below.refl _ _).alloc (Nat.le_refl _) _
    have B2 := Lib.hid (nextB b1 hB2)
    have BX2 := Lib.hid (Boxed.new w1 #[.int .i64 k, .string nm, .slice sa ss.length sc, .int .i64 n, .int .i64 m] 27)
    have A2 := Lib.hid (Dat.belowAll hA hB2)
    clear hB2 b1 hA hc hb
    go_wp2_with fail
    generalize w1.alloc (Obj.cells #[.int .i64 k, .string nm, .slice sa ss.length sc, .int .i64 n, .int .i64 m] 27) = w2 at *
    generalize w1.heap.size = p at *
    refine (iRecOk_any ⟨k, nm, ⟨sa, sc, ss⟩, n, m⟩ w2 A2.out).mono ?_
    rintro e w3 ⟨he, b3⟩
    obtain rfl : e = .returned (.bool b) := he.trans (by rw [HB.out])
    have B3 := Lib.hid (nextB B2.out b3)
    have BX3 := Lib.hid (BX2.out.keep b3)
    have A3 := Lib.hid (Dat.belowAll A2.out b3)
    clear b3 he B2 BX2 A2
    have xc0 := BX3.out.2 0 _ rfl
    have xc1 := BX3.out.2 1 _ rfl
    have xc2 := BX3.out.2 2 _ rfl
    have xc3 := BX3.out.2 3 _ rfl
    have xc4 := BX3.out.2 4 _ rfl
    go_wp2_with fail
    refine (sRecOk_any ⟨k, nm, ⟨sa, sc, ss⟩, n, m⟩ w3 A3.out).mono ?_
    rintro e w4 ⟨he, b4⟩
    obtain rfl : e = .returned (.bool b) := he.trans (by rw [HB.out])
    have B4 := Lib.hid (nextB B3.out b4)
    have BX4 := Lib.hid (BX3.out.keep b4)
    have A4 := Lib.hid (Dat.belowAll A3.out b4)
    clear b4 he B3 BX3 A3 xc0 xc1 xc2 xc3 xc4
    have hbb : (b != b) = false := by simp
    have xc0 := BX4.out.2 0 _ rfl
    have xc1 := BX4.out.2 1 _ rfl
    have xc2 := BX4.out.2 2 _ rfl
    have xc3 := BX4.out.2 3 _ rfl
    have xc4 := BX4.out.2 4 _ rfl
    cases b with
    | false =>
      go_wp2_with fail
      refine (sRecOk_any ⟨k, nm, ⟨sa, sc, ss⟩, n, m⟩ w4 A4.out).mono ?_
      rintro e w5 ⟨he, b5⟩
      obtain rfl : e = .returned (.bool false) := he.trans (by rw [HB.out])
      have B5 := Lib.hid (nextB B4.out b5)
      clear b5 he
      go_wp2_with fail
      go_ret
      exact ⟨rfl, B5.out⟩
    | true =>
      have hpl := BX4.out.1
      have hp0 : ¬ p = w4.heap.size := by omega
      have hp0' : ¬ w4.heap.size = p := by omega
      have hp1 : ¬ p = w4.heap.size + 1 := by omega
      have hp2 : ¬ p = w4.heap.size + 1 + 1 := by omega
      have hp3 : ¬ p = w4.heap.size + 1 + 1 + 1 := by omega
      have hp4 : ¬ p = w4.heap.size + 2 := by omega
      have hp5 : ¬ p = w4.heap.size + 3 := by omega
      have hq0 : p < w4.heap.size + 1 := by omega
      have hq1 : p < w4.heap.size + 1 + 1 := by omega
      have hq2 : p < w4.heap.size + 1 + 1 + 1 := by omega
      have hBa : Below w4.heap.size w4 (w4.alloc (Obj.cells #[.int .i64 3, .string nm, .slice sa ss.length sc, .int .i64 n, .int .i64 m] 27)) := (Below.refl _ _).alloc (Nat.le_refl _) _
      have ba := Boxed.new w4 #[.int .i64 3, .string nm, .slice sa ss.length sc, .int .i64 n, .int .i64 m] 27
      generalize hwa : w4.alloc (Obj.cells #[.int .i64 3, .string nm, .slice sa ss.length sc, .int .i64 n, .int .i64 m] 27) = wa at *
      have hBb : Below wa.heap.size wa (wa.alloc (Obj.cells #[.int .i64 k, .string ⟨#[71]⟩, .slice sa ss.length sc, .int .i64 n, .int .i64 m] 27)) := (Below.refl _ _).alloc (Nat.le_refl _) _
      have bb := Boxed.new wa #[.int .i64 k, .string ⟨#[71]⟩, .slice sa ss.length sc, .int .i64 n, .int .i64 m] 27
      generalize hwb : wa.alloc (Obj.cells #[.int .i64 k, .string ⟨#[71]⟩, .slice sa ss.length sc, .int .i64 n, .int .i64 m] 27) = wb at *
      have hBc : Below wb.heap.size wb (wb.alloc (Obj.cells #[.int .i64 k, .string nm, .slice sa ss.length sc, .int .i64 n, .int .i64 97] 27)) := (Below.refl _ _).alloc (Nat.le_refl _) _
      have bc := Boxed.new wb #[.int .i64 k, .string nm, .slice sa ss.length sc, .int .i64 n, .int .i64 97] 27
      generalize hwc : wb.alloc (Obj.cells #[.int .i64 k, .string nm, .slice sa ss.length sc, .int .i64 n, .int .i64 97] 27) = wc at *
      have hBd : Below wc.heap.size wc (wc.alloc (Obj.cells #[.int .i64 k, .string nm, .slice sa ss.length sc, .int .i64 7, .int .i64 m] 27)) := (Below.refl _ _).alloc (Nat.le_refl _) _
      have bd := Boxed.new wc #[.int .i64 k, .string nm, .slice sa ss.length sc, .int .i64 7, .int .i64 m] 27
      generalize hwd : wc.alloc (Obj.cells #[.int .i64 k, .string nm, .slice sa ss.length sc, .int .i64 7, .int .i64 m] 27) = wd at *
      have sa1 : wa.heap.size = w4.heap.size + 1 := by rw [← hwa]; simp
      have sb1 : wb.heap.size = w4.heap.size + 1 + 1 := by rw [← hwb, ← sa1]; simp
      have sc1 : wc.heap.size = w4.heap.size + 1 + 1 + 1 := by rw [← hwc, ← sb1]; simp
      have EW : Hid ((((w4.alloc (Obj.cells #[.int .i64 3, .string nm, .slice sa ss.length sc, .int .i64 n, .int .i64 m] 27)).alloc (Obj.cells #[.int .i64 k, .string ⟨#[71]⟩, .slice sa ss.length sc, .int .i64 n, .int .i64 m] 27)).alloc (Obj.cells #[.int .i64 k, .string nm, .slice sa ss.length sc, .int .i64 n, .int .i64 97] 27)).alloc (Obj.cells #[.int .i64 k, .string nm, .slice sa ss.length sc, .int .i64 7, .int .i64 m] 27) = wd) := Lib.hid (by rw [hwa, hwb, hwc, hwd])
      have BD := Lib.hid (nextB (nextB (nextB (nextB B4.out hBa) hBb) hBc) hBd)
      have XA := Lib.hid (((ba.keep hBb).keep hBc).keep hBd)
      have XB := Lib.hid ((bb.keep hBc).keep hBd)
      have XC := Lib.hid (bc.keep hBd)
      have XD := Lib.hid bd
      have AD := Lib.hid (Dat.belowAll A4.out (nextB (nextB (nextB hBa hBb) hBc) hBd))
      rw [sa1] at XB
      rw [sb1] at XC
      rw [sc1] at XD
      clear hBa hBb hBc hBd ba bb bc bd hwa hwb hwc hwd sa1 sb1 sc1
      go_wp2_with fail
      rw [EW.out]
      clear xc0 xc1 xc2 xc3 xc4
      refine (iRecOk_any ⟨3, nm, ⟨sa, sc, ss⟩, n, m⟩ wd AD.out).mono ?_
      rintro e we ⟨he, be⟩
      obtain rfl : e = .returned (.bool false) := he.trans (by rw [show recB (LRec.er ⟨3, nm, ⟨sa, sc, ss⟩, n, m⟩) = false from recB_kind (LRec.er ⟨k, nm, ⟨sa, sc, ss⟩, n, m⟩)])
      have BE := Lib.hid (nextB BD.out be)
      have XB2 := Lib.hid (XB.out.keep be)
      have XC2 := Lib.hid (XC.out.keep be)
      have XD2 := Lib.hid (XD.out.keep be)
      have AE := Lib.hid (Dat.belowAll AD.out be)
      clear be he BD XA XB XC XD AD EW
      have yc0 := XB2.out.2 0 _ rfl
      have yc1 := XB2.out.2 1 _ rfl
      have yc2 := XB2.out.2 2 _ rfl
      have yc3 := XB2.out.2 3 _ rfl
      have yc4 := XB2.out.2 4 _ rfl
      go_wp2_with fail
      refine (iRecOk_any ⟨k, ⟨#[71]⟩, ⟨sa, sc, ss⟩, n, m⟩ we ⟨AE.out.1, (show (1 : Nat) ≤ maxLen by decide)⟩).mono ?_
      rintro e wf ⟨he, be⟩
      obtain rfl : e = .returned (.bool false) := he.trans (by rw [show recB (LRec.er ⟨k, ⟨#[71]⟩, ⟨sa, sc, ss⟩, n, m⟩) = false from recB_name (r := LRec.er ⟨k, nm, ⟨sa, sc, ss⟩, n, m⟩)])
      have BF := Lib.hid (nextB BE.out be)
      have XC3 := Lib.hid (XC2.out.keep be)
      have XD3 := Lib.hid (XD2.out.keep be)
      have AF := Lib.hid (Dat.belowAll AE.out be)
      clear be he BE XB2 XC2 XD2 AE yc0 yc1 yc2 yc3 yc4
      have yc0 := XC3.out.2 0 _ rfl
      have yc1 := XC3.out.2 1 _ rfl
      have yc2 := XC3.out.2 2 _ rfl
      have yc3 := XC3.out.2 3 _ rfl
      have yc4 := XC3.out.2 4 _ rfl
      go_wp2_with fail
      refine (iRecOk_any ⟨k, nm, ⟨sa, sc, ss⟩, n, 97⟩ wf AF.out).mono ?_
      rintro e wg ⟨he, be⟩
      obtain rfl : e = .returned (.bool false) := he.trans (by rw [show recB (LRec.er ⟨k, nm, ⟨sa, sc, ss⟩, n, 97⟩) = false from recB_sum (r := LRec.er ⟨k, nm, ⟨sa, sc, ss⟩, n, m⟩)])
      have BG := Lib.hid (nextB BF.out be)
      have XD4 := Lib.hid (XD3.out.keep be)
      have AG := Lib.hid (Dat.belowAll AF.out be)
      clear be he BF XC3 XD3 AF yc0 yc1 yc2 yc3 yc4
      have yc0 := XD4.out.2 0 _ rfl
      have yc1 := XD4.out.2 1 _ rfl
      have yc2 := XD4.out.2 2 _ rfl
      have yc3 := XD4.out.2 3 _ rfl
      have yc4 := XD4.out.2 4 _ rfl
      go_wp2_with fail
      refine (iRecOk_any ⟨k, nm, ⟨sa, sc, ss⟩, 7, m⟩ wg AG.out).mono ?_
      rintro e wh ⟨he, be⟩
      obtain rfl : e = .returned (.bool false) := he.trans (by rw [show recB (LRec.er ⟨k, nm, ⟨sa, sc, ss⟩, 7, m⟩) = false from recB_n (r := LRec.er ⟨k, nm, ⟨sa, sc, ss⟩, n, m⟩)])
      have BH := Lib.hid (nextB BG.out be)
      clear be he BG XD4 AG yc0 yc1 yc2 yc3 yc4
      go_wp2_with fail
      go_ret
      exact ⟨rfl, BH.out⟩
end Go.Proofs.YtjlaaoecockfjaaDoor
