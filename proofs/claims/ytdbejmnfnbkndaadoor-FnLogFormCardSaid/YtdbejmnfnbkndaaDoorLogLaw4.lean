/- The walk of FnLogForm. -/
import Derived.Test.YtdbejmnfnbkndaaDoorLogKit
import Derived.Test.YtdbejmnfnbkndaaDoorStab
namespace Go.Proofs.YtdbejmnfnbkndaaDoor
open Go Go.RowKit

theorem logB_odd {l : Log} (h : logB l = true) : logB ⟨l.from_ + 1, l.recs⟩ = false := by
  have h1 := (logB_iff l).1 h
  rw [← Bool.not_eq_true, logB_iff]
  rintro ⟨a, b, c, d⟩
  simp only at c
  omega
theorem logB_none : logB ⟨0, []⟩ = true := by
  rw [logB_iff]
  exact ⟨by decide, by decide, by decide, by simp, rfl⟩

set_option maxRecDepth 100000 in
set_option maxHeartbeats 4000000 in
theorem logForm_walk (x y : Loc UInt8) (w : World) (hx : x.At w) (hy : y.At w) :
    Calls Tryd.prog 3 #[x.val, y.val] w fun e w' => e = .returned (.bool true) ∧ Below w.heap.size w w' := by
  have h1 := hx.lenMax
  have h2 := hy.lenMax
  have HX0 := Lib.hid hx
  clear hx hy
  by_cases hbig : (1048576 : Int) < (x.xs.length : Int)
  · obtain ⟨xa, xc, xs⟩ := x
    obtain ⟨ya, yc, ys⟩ := y
    simp only [Loc.val] at hbig ⊢
    go_enter Tryd.func3, Tryd.ntmps3
    go_wp2_with fail
    go_ret
    exact ⟨rfl, Below.refl _ _⟩
  by_cases hbig2 : (1048576 : Int) < (y.xs.length : Int)
  · obtain ⟨xa, xc, xs⟩ := x
    obtain ⟨ya, yc, ys⟩ := y
    simp only [Loc.val] at hbig hbig2 ⊢
    go_enter Tryd.func3, Tryd.ntmps3
    go_wp2_with fail
    go_ret
    exact ⟨rfl, Below.refl _ _⟩
  have hc := Lib.hid (drawLogOk_any x w HX0.out)
  obtain ⟨ua, uc, us⟩ := x
  obtain ⟨ma, mc, ms⟩ := y
  simp only [Loc.val] at hbig hbig2 hc ⊢
  go_enter Tryd.func3, Tryd.ntmps3
  go_wp2_with fail
  refine hc.out.mono ?_
  rintro e w1 ⟨⟨f, ⟨a, c, s⟩⟩, rfl, ⟨hlo, hhi, hfew, hA, hb, hge⟩⟩
  simp only [LLog.val, Loc.val]
  simp only at hlo hhi hfew
  have hB2 : Below w1.heap.size w1 (w1.alloc (Obj.cells #[.int .i64 f, .slice a s.length c] 25)) := (Below.refl _ _).alloc (Nat.le_refl _) _
  have B := Lib.hid (nextB hb hB2)
  have BL := Lib.hid (Boxed.new w1 #[.int .i64 f, .slice a s.length c] 25)
  have AL : Hid (LLog.At _ ⟨f, ⟨a, c, s⟩⟩) := Lib.hid (LLog.belowAll hA hB2)

  generalize hL : LLog.er ⟨f, ⟨a, c, s⟩⟩ = L
  have HL := Lib.hid hL
  clear hb hA hge hc hL
  go_wp2_with fail
  generalize w1.alloc (Obj.cells #[.int .i64 f, .slice a s.length c] 25) = w2 at *
  generalize w1.heap.size = p at *
  clear hB2
  generalize hb : logB L = b
  have HLB := Lib.hid hb
  have HOK : Hid (∀ W, LLog.At W ⟨f, ⟨a, c, s⟩⟩ → Calls Tryd.prog 12 #[.agg #[.int .i64 f, .slice a s.length c]] W fun e w' => e = .returned (.bool b) ∧ Below W.heap.size W w') := Lib.hid (fun W hW => by
    have h := sLogOk_any ⟨f, ⟨a, c, s⟩⟩ W hW
    rw [HL.out, HLB.out] at h
    exact h)
  clear hb
  have HOI : Hid (∀ W, LLog.At W ⟨f, ⟨a, c, s⟩⟩ → Calls Tryd.prog 11 #[.agg #[.int .i64 f, .slice a s.length c]] W fun e w' => e = .returned (.bool b) ∧ Below W.heap.size W w') := Lib.hid (fun W hW => by
    have h := iLogOk_any ⟨f, ⟨a, c, s⟩⟩ W hW
    rw [HL.out, HLB.out] at h
    exact h)
  refine (HOI.out w2 AL.out).mono ?_
  rintro e w3 ⟨rfl, b3⟩
  replace B := Lib.hid (nextB B.out (b3))
  replace AL := Lib.hid (LLog.belowAll AL.out (b3))
  replace BL := Lib.hid (BL.out.keep (b3))
  clear b3
  have hl0 := BL.out.2 0 _ rfl
  have hl1 := BL.out.2 1 _ rfl
  have hbb : (b != b) = false := by simp
  go_wp2_with fail
  clear hl0 hl1
  refine (HOK.out w3 AL.out).mono ?_
  rintro e w4 ⟨rfl, b4⟩
  replace B := Lib.hid (nextB B.out (b4))
  replace AL := Lib.hid (LLog.belowAll AL.out (b4))
  replace BL := Lib.hid (BL.out.keep (b4))
  clear b4
  have hl0 := BL.out.2 0 _ rfl
  have hl1 := BL.out.2 1 _ rfl
  cases b with
  | false =>
    go_wp2_with fail
    clear hl0 hl1
    refine (HOK.out w4 AL.out).mono ?_
    rintro e w5 ⟨rfl, b5⟩
    replace B := Lib.hid (nextB B.out (b5))
    replace AL := Lib.hid (LLog.belowAll AL.out (b5))
    replace BL := Lib.hid (BL.out.keep (b5))
    go_wp2_with fail
    go_ret
    exact ⟨rfl, B.out⟩
  | true =>
    have hfw : IntKind.i64.wrap (f + 1) = f + 1 := IntWalk.i64_in _ (by omega)
    have hlw : IntKind.i64.wrap ((s.length : Int) + 1) = (s.length : Int) + 1 := IntWalk.i64_in _ (by omega)
    obtain ⟨k, hk⟩ : ∃ k, k = ms.length % (s.length + 1) := ⟨_, rfl⟩
    have hk1 : k ≤ s.length := by have := Nat.mod_lt ms.length (show 0 < s.length + 1 by omega); omega
    have hrem : (ms.length : Int).tmod ((s.length : Int) + 1) = (k : Int) := by
      rw [Int.tmod_eq_emod_of_nonneg (by omega), hk]; rfl
    have hrw : IntKind.i64.wrap (k : Int) = (k : Int) := IntWalk.i64_in _ (by omega)
    have hz : ((s.length : Int) + 1 == 0) = false := by rw [beq_eq_false_iff_ne]; omega
    have hlc := AL.out.lenCap
    have hlm := AL.out.capMax
    simp only [maxLen] at hlc hlm
    have hkc : k ≤ c := by omega
    have hkc2 : (k : Int) ≤ (c : Int) := by omega
    clear hk
    have b5 : Below w4.heap.size w4 (w4.alloc (Obj.cells #[.int .i64 (f + 1), .slice a s.length c] 25)) := (Below.refl _ _).alloc (Nat.le_refl _) _
    have hla := (BL.out.keep ((Below.refl w4.heap.size w4).alloc (Nat.le_refl _) (Obj.cells #[.int .i64 f, .slice a s.length c] 25))).2 0 _ rfl
    have hlb := (BL.out.keep b5).2 0 _ rfl
    have hlc2 := (BL.out.keep b5).2 1 _ rfl
    have BX5 := Lib.hid (Boxed.new w4 #[.int .i64 (f + 1), .slice a s.length c] 25)
    have b6 : Below (w4.alloc (Obj.cells #[.int .i64 (f + 1), .slice a s.length c] 25)).heap.size (w4.alloc (Obj.cells #[.int .i64 (f + 1), .slice a s.length c] 25)) ((w4.alloc (Obj.cells #[.int .i64 (f + 1), .slice a s.length c] 25)).alloc (Obj.cells #[.int .i64 f, .slice a s.length c] 25)) := (Below.refl _ _).alloc (Nat.le_refl _) _
    have HR6 := Lib.hid (heap_alloc_new (w4.alloc (Obj.cells #[.int .i64 (f + 1), .slice a s.length c] 25)) (Obj.cells #[.int .i64 f, .slice a s.length c] 25))
    have HZ5 : Hid ((w4.alloc (Obj.cells #[.int .i64 (f + 1), .slice a s.length c] 25)).heap.size = w4.heap.size + 1) := Lib.hid (by simp)
    rw [HZ5.out] at HR6
    go_upto_region 10 with fail
    clear hl0 hl1 hla hlb hlc2
    have HAQ := Lib.hid (Loc.lt_of_At AL.out)
    have HPQ := Lib.hid BL.out.1
    have HWQ := Lib.hid B.out.size
    replace B := Lib.hid (nextB B.out (nextB b5 b6))
    replace AL := Lib.hid (LLog.belowAll AL.out (nextB b5 b6))
    replace BL := Lib.hid (BL.out.keep (nextB b5 b6))
    replace BX5 := Lib.hid (BX5.out.keep b6)
    have HQL := Lib.hid (show w4.heap.size < w4.heap.size + 1 by omega)
    have HR6S := Lib.hid (Array.getElem?_eq_some_iff.1 HR6.out).1
    clear b5 b6 HZ5
    generalize (w4.alloc (Obj.cells #[.int .i64 (f + 1), .slice a s.length c] 25)).alloc (Obj.cells #[.int .i64 f, .slice a s.length c] 25) = w6 at *
    generalize w4.heap.size + 1 = r at *
    generalize w4.heap.size = q at *
    have hl0 := BL.out.2 0 _ rfl
    have hl1 := BL.out.2 1 _ rfl
    have hc0 := cell_of_row _ r 0 _ _ (0, 0) HR6.out
    have hc1 := cell_of_row _ r 1 _ _ (0, 0) HR6.out
    have hz1 := frozen_of_row _ r 1 _ _ HR6.out
    simp only [List.getElem?_toArray, List.getElem?_cons_zero, List.getElem?_cons_succ] at hc0 hc1
    go_region
    go_upto_region 11 with fail
    have hk7 : ∀ b, b ≠ r → ((w6.setCell ⟨r, 1, none⟩ (.slice a k c)).drew).heap[b]? = w6.heap[b]? := fun b hb => Below.heap_setCell w6 _ _ _ hb
    have HR7 : Hid (((w6.setCell ⟨r, 1, none⟩ (.slice a k c)).drew).heap[r]? = some (.cells #[.int .i64 f, .slice a k c] 25 (0, 0))) := Lib.hid (by
      have h := heap_setCell_same w6 r 1 _ _ (.slice a k c) HR6.out
      exact h)
    have B7 := Lib.hid (show Below w.heap.size w ((w6.setCell ⟨r, 1, none⟩ (.slice a k c)).drew) from (B.out.setCell (by have := HWQ.out; have := HQL.out; simp; omega) _).drew)
    have A7 : Hid (LLog.At ((w6.setCell ⟨r, 1, none⟩ (.slice a k c)).drew) ⟨f, ⟨a, c, s⟩⟩) := Lib.hid (Loc.keep_At AL.out (fun b hb => hk7 b (by have := HAQ.out b hb; have := HQL.out; omega)))
    have q0 := (World.cell?_of_block (w := w6) (a := ⟨q, 0, none⟩) (hk7 q (by have := HQL.out; omega))).trans (BX5.out.2 0 _ rfl)
    have q1 := (World.cell?_of_block (w := w6) (a := ⟨q, 1, none⟩) (hk7 q (by have := HQL.out; omega))).trans (BX5.out.2 1 _ rfl)
    have BP7 := Lib.hid (show Boxed ((w6.setCell ⟨r, 1, none⟩ (.slice a k c)).drew) p [.int .i64 f, .slice a s.length c] from ⟨by have := BL.out.1; simpa using this, fun j v hv => (World.cell?_of_block (w := w6) (a := ⟨p, j, none⟩) (hk7 p (by have := HPQ.out; have := HQL.out; omega))).trans (BL.out.2 j v hv)⟩)
    have BR7 := Lib.hid (show Boxed ((w6.setCell ⟨r, 1, none⟩ (.slice a k c)).drew) r [.int .i64 f, .slice a k c] from ⟨(Array.getElem?_eq_some_iff.1 HR7.out).1, fun j v hv => by
      rw [cell_of_row _ _ _ _ _ (0, 0) HR7.out, ← Array.getElem?_toList]; exact hv⟩)
    clear hl0 hl1 hc0 hc1 hz1 hk7 HR7 B AL BL BX5 HR6 HR6S HAQ HPQ HWQ HQL
    generalize (w6.setCell ⟨r, 1, none⟩ (.slice a k c)).drew = w7 at *
    have hEx : logB (LLog.er ⟨f + 1, ⟨a, c, s⟩⟩) = false := by
      have h := logB_odd HLB.out
      rw [← HL.out] at h
      exact h
    have hEy : logB (LLog.er ⟨f, ⟨a, c, s.take k⟩⟩) = true := by
      have h := logB_take HLB.out k
      rw [← HL.out] at h
      simpa [LLog.er, List.map_take] using h
    have KT : Hid ((s.take k).length = k) := Lib.hid (by rw [List.length_take]; omega)
    have HCX : Hid (∀ W, Loc.At W (⟨a, c, s⟩ : Loc LRec) → Calls Tryd.prog 11 #[.agg #[.int .i64 (f + 1), .slice a s.length c]] W fun e w' => e = .returned (.bool false) ∧ Below W.heap.size W w') := Lib.hid (fun W hW => by
      have h := iLogOk_any ⟨f + 1, ⟨a, c, s⟩⟩ W hW
      rw [hEx] at h
      exact h)
    have HCY : Hid (∀ W, Loc.At W (⟨a, c, s⟩ : Loc LRec) → Calls Tryd.prog 11 #[.agg #[.int .i64 f, .slice a k c]] W fun e w' => e = .returned (.bool true) ∧ Below W.heap.size W w') := Lib.hid (fun W hW => by
      have h := iLogOk_any ⟨f, ⟨a, c, s.take k⟩⟩ W (take_At hW k)
      rw [hEy] at h
      simp only [LLog.val, Loc.val, KT.out] at h
      exact h)
    have HC0 : Hid (∀ W, Calls Tryd.prog 11 #[.agg #[.int .i64 0, .slice none 0 0]] W fun e w' => e = .returned (.bool true) ∧ Below W.heap.size W w') := Lib.hid (fun W => by
      have h := iLogOk_any ⟨0, ⟨none, 0, []⟩⟩ W ⟨Nat.le_refl _, Nat.zero_le _, by simp, by simp, by simp⟩
      have e : logB (LLog.er ⟨0, ⟨none, 0, []⟩⟩) = true := logB_none
      rw [e] at h
      exact h)
    clear hEx hEy
    have hs40 : (s.length : Int) ≤ 40 := by
      have h := ((logB_iff L).1 HLB.out).2.2.2.1
      rw [← HL.out] at h
      simp only [LLog.er, List.length_map] at h
      omega
    have hsd : decide ((s.length : Int) ≤ 40) = true := decide_eq_true hs40
    go_wp2_with fail
    refine (HCX.out w7 A7.out).mono ?_
    rintro e w8 ⟨rfl, b8⟩
    replace B7 := Lib.hid (nextB B7.out b8)
    replace A7 := Lib.hid (LLog.belowAll A7.out b8)
    replace BP7 := Lib.hid (BP7.out.keep b8)
    replace BR7 := Lib.hid (BR7.out.keep b8)
    clear b8 q0 q1
    have r0 := BR7.out.2 0 _ rfl
    have r1 := BR7.out.2 1 _ rfl
    go_wp2_with fail
    refine (HCY.out w8 A7.out).mono ?_
    rintro e w9 ⟨rfl, b9⟩
    replace B7 := Lib.hid (nextB B7.out b9)
    replace BP7 := Lib.hid (BP7.out.keep b9)
    clear b9 r0 r1
    go_wp2_with fail
    refine (HC0.out w9).mono ?_
    rintro e w10 ⟨rfl, b10⟩
    replace B7 := Lib.hid (nextB B7.out b10)
    replace BP7 := Lib.hid (BP7.out.keep b10)
    clear b10
    have p1 := BP7.out.2 1 _ rfl
    go_wp2_with fail
    go_ret
    exact ⟨rfl, B7.out⟩
end Go.Proofs.YtdbejmnfnbkndaaDoor
