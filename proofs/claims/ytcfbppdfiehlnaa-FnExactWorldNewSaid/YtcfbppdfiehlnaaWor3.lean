/- The reference's new world; WorldNew. -/
import Derived.Test.YtcfbppdfiehlnaaWor2
namespace Go.Proofs.Ytcfbppdfiehlnaa
open Go Go.RowKit

theorem three_new {W : World} {N : Nat} (x1 x2 x3 : LStore) {s1 s2 : Nat} (A1 : Dat.At W x1) (A2 : Dat.At W x2) (A3 : Dat.At W x3) (F1 : Fr N W x1.checks.fp) (F2 : Fr s1 W x2.checks.fp) (F3 : Fr s2 W x3.checks.fp)
    (L1 : ∀ b ∈ x1.checks.fp, b < s1) (L2 : ∀ b ∈ x2.checks.fp, b < s2) (h1 : N ≤ s1) (h2 : s1 ≤ s2) (hW : N ≤ W.heap.size) (cs : Array Value) (e : TypeId) (hcs : cs.toList = [x1, x2, x3].flatMap Dat.enc) :
    Loc.At (W.alloc (.cells cs e)) (⟨some ⟨W.heap.size, 0, none⟩, 3, [x1, x2, x3]⟩ : Loc LStore) ∧ Fr N (W.alloc (.cells cs e)) (⟨some ⟨W.heap.size, 0, none⟩, 3, [x1, x2, x3]⟩ : Loc LStore).fp := by
  have hb : Below W.heap.size W (W.alloc (.cells cs e)) := (Below.refl _ _).alloc (Nat.le_refl _) _
  refine ⟨new_At W [x1, x2, x3] cs e hcs (by simp [maxLen]) (fun x hx => ?_), ?_⟩
  · simp only [List.mem_cons, List.not_mem_nil, or_false] at hx
    rcases hx with rfl | rfl | rfl <;> assumption
  · have hfl : ([x1, x2, x3] : List LStore).flatMap Dat.fp = x1.checks.fp ++ (x2.checks.fp ++ x3.checks.fp) := by
      show x1.checks.fp ++ (x2.checks.fp ++ (x3.checks.fp ++ [])) = _
      rw [List.append_nil]
    have hall : Fr N W (x1.checks.fp ++ (x2.checks.fp ++ x3.checks.fp)) := by
      refine F1.append ((F2.mono h1).append (F3.mono (Nat.le_trans h1 h2)) fun a ha b hb hab => ?_) fun a ha b hb hab => ?_
      · have := L2 a ha; have := F3.ge b hb; omega
      · have h3 := L1 a ha
        rcases List.mem_append.1 hb with hb | hb
        · have := F2.ge b hb; omega
        · have := F3.ge b hb; omega
    unfold Loc.fp
    rw [hfl]
    refine Fr.append ?_ (hall.belowAll hb) fun a ha b hb hab => ?_
    · unfold Loc.blk
      rw [if_neg (by simp)]
      exact ⟨fun b hb => by rw [List.mem_singleton.1 hb]; exact hW, by simp, fun b hb => by rw [List.mem_singleton.1 hb]; exact ⟨_, _, heap_alloc_new W _⟩⟩
    · unfold Loc.blk at ha
      rw [if_neg (by simp)] at ha
      have h3 := List.mem_singleton.1 ha
      have h4 := hall.lt b hb
      simp only at h3
      omega

set_option maxRecDepth 100000 in
set_option maxHeartbeats 2000000 in
theorem sWorldNew_any (w : World) : Calls Try.prog 10 #[] w (WorldP w) := by
  go_enter Try.func10, Try.ntmps10
  go_wp2_with fail
  have b0 : Below w.heap.size w (w.alloc (Obj.cells #[.slice none 0 0] 35)) := (Below.refl _ _).alloc (Nat.le_refl _) _
  have HR0 := Lib.hid (heap_alloc_new w (Obj.cells #[.slice none 0 0] 35))
  have B := Lib.hid b0
  have S0 : Hid (w.heap.size + 1 ≤ (w.alloc (Obj.cells #[.slice none 0 0] 35)).heap.size) := Lib.hid (by simp)
  clear b0
  generalize w.alloc (Obj.cells #[.slice none 0 0] 35) = W0 at *
  refine (sStoreNew_any _).mono ?_
  rintro e w1 ⟨x1, rfl, e1, a1, f1, b1⟩
  have E1 := Lib.hid e1
  have A1 := Lib.hid a1
  have F1 := Lib.hid f1
  have L1 := Lib.hid f1.lt
  have HR1 := Lib.hid (show w1.heap[w.heap.size]? = _ from (b1.block _ (by have := S0.out; omega)).trans HR0.out)
  have S1 := Lib.hid b1.size
  first
    | replace B := Lib.hid (Loc.At.belowAll B.out (b1))
    | replace B := Lib.hid (nextB B.out (b1))
    | replace B := Lib.hid (Boxed.keep B.out (b1))
    | replace B := Lib.hid (Dat.belowAll B.out (b1))
    | replace B := Lib.hid (Fr.belowAll B.out (b1))
    | replace B := Lib.hid (Own.belowAll B.out (b1))
    | replace B := Lib.hid (Grows.next B.out (b1))
  clear e1 a1 f1 b1 HR0
  go_wp2_with fail
  refine (sStoreNew_any _).mono ?_
  rintro e w2 ⟨x2, rfl, e2, a2, f2, b2⟩
  have E2 := Lib.hid e2
  have A2 := Lib.hid a2
  have F2 := Lib.hid f2
  have L2 := Lib.hid f2.lt
  have HR2 := Lib.hid (show w2.heap[w.heap.size]? = _ from (b2.block _ (by have := S0.out; have := S1.out; omega)).trans HR1.out)
  have S2 := Lib.hid b2.size
  first
    | replace B := Lib.hid (Loc.At.belowAll B.out (b2))
    | replace B := Lib.hid (nextB B.out (b2))
    | replace B := Lib.hid (Boxed.keep B.out (b2))
    | replace B := Lib.hid (Dat.belowAll B.out (b2))
    | replace B := Lib.hid (Fr.belowAll B.out (b2))
    | replace B := Lib.hid (Own.belowAll B.out (b2))
    | replace B := Lib.hid (Grows.next B.out (b2))
  first
    | replace A1 := Lib.hid (Loc.At.belowAll A1.out (b2))
    | replace A1 := Lib.hid (nextB A1.out (b2))
    | replace A1 := Lib.hid (Boxed.keep A1.out (b2))
    | replace A1 := Lib.hid (Dat.belowAll A1.out (b2))
    | replace A1 := Lib.hid (Fr.belowAll A1.out (b2))
    | replace A1 := Lib.hid (Own.belowAll A1.out (b2))
    | replace A1 := Lib.hid (Grows.next A1.out (b2))
  first
    | replace F1 := Lib.hid (Loc.At.belowAll F1.out (b2))
    | replace F1 := Lib.hid (nextB F1.out (b2))
    | replace F1 := Lib.hid (Boxed.keep F1.out (b2))
    | replace F1 := Lib.hid (Dat.belowAll F1.out (b2))
    | replace F1 := Lib.hid (Fr.belowAll F1.out (b2))
    | replace F1 := Lib.hid (Own.belowAll F1.out (b2))
    | replace F1 := Lib.hid (Grows.next F1.out (b2))
  clear e2 a2 f2 b2 HR1
  go_wp2_with fail
  refine (sStoreNew_any _).mono ?_
  rintro e w3 ⟨x3, rfl, e3, a3, f3, b3⟩
  have E3 := Lib.hid e3
  have A3 := Lib.hid a3
  have F3 := Lib.hid f3
  have HR3 := Lib.hid (show w3.heap[w.heap.size]? = _ from (b3.block _ (by have := S0.out; have := S1.out; have := S2.out; omega)).trans HR2.out)
  have S3 := Lib.hid b3.size
  first
    | replace B := Lib.hid (Loc.At.belowAll B.out (b3))
    | replace B := Lib.hid (nextB B.out (b3))
    | replace B := Lib.hid (Boxed.keep B.out (b3))
    | replace B := Lib.hid (Dat.belowAll B.out (b3))
    | replace B := Lib.hid (Fr.belowAll B.out (b3))
    | replace B := Lib.hid (Own.belowAll B.out (b3))
    | replace B := Lib.hid (Grows.next B.out (b3))
  first
    | replace A1 := Lib.hid (Loc.At.belowAll A1.out (b3))
    | replace A1 := Lib.hid (nextB A1.out (b3))
    | replace A1 := Lib.hid (Boxed.keep A1.out (b3))
    | replace A1 := Lib.hid (Dat.belowAll A1.out (b3))
    | replace A1 := Lib.hid (Fr.belowAll A1.out (b3))
    | replace A1 := Lib.hid (Own.belowAll A1.out (b3))
    | replace A1 := Lib.hid (Grows.next A1.out (b3))
  first
    | replace F1 := Lib.hid (Loc.At.belowAll F1.out (b3))
    | replace F1 := Lib.hid (nextB F1.out (b3))
    | replace F1 := Lib.hid (Boxed.keep F1.out (b3))
    | replace F1 := Lib.hid (Dat.belowAll F1.out (b3))
    | replace F1 := Lib.hid (Fr.belowAll F1.out (b3))
    | replace F1 := Lib.hid (Own.belowAll F1.out (b3))
    | replace F1 := Lib.hid (Grows.next F1.out (b3))
  first
    | replace A2 := Lib.hid (Loc.At.belowAll A2.out (b3))
    | replace A2 := Lib.hid (nextB A2.out (b3))
    | replace A2 := Lib.hid (Boxed.keep A2.out (b3))
    | replace A2 := Lib.hid (Dat.belowAll A2.out (b3))
    | replace A2 := Lib.hid (Fr.belowAll A2.out (b3))
    | replace A2 := Lib.hid (Own.belowAll A2.out (b3))
    | replace A2 := Lib.hid (Grows.next A2.out (b3))
  first
    | replace F2 := Lib.hid (Loc.At.belowAll F2.out (b3))
    | replace F2 := Lib.hid (nextB F2.out (b3))
    | replace F2 := Lib.hid (Boxed.keep F2.out (b3))
    | replace F2 := Lib.hid (Dat.belowAll F2.out (b3))
    | replace F2 := Lib.hid (Fr.belowAll F2.out (b3))
    | replace F2 := Lib.hid (Own.belowAll F2.out (b3))
    | replace F2 := Lib.hid (Grows.next F2.out (b3))
  clear e3 a3 f3 b3 HR2
  obtain ⟨ta1, tc1, g1, ra1, rc1, q1, ⟨ca1, cc1, cs1⟩⟩ := x1
  obtain ⟨ta2, tc2, g2, ra2, rc2, q2, ⟨ca2, cc2, cs2⟩⟩ := x2
  obtain ⟨ta3, tc3, g3, ra3, rc3, q3, ⟨ca3, cc3, cs3⟩⟩ := x3
  simp only [LStore.val, Loc.val]
  have SS : w.heap.size + 1 ≤ w3.heap.size := by have := S0.out; have := S1.out; have := S2.out; have := S3.out; omega
  have hN := three_new (W := w3) (N := w.heap.size + 1) _ _ _ A1.out A2.out A3.out (F1.out.mono S0.out) F2.out F3.out L1.out L2.out (Nat.le_trans S0.out S1.out) S2.out SS #[.slice ta1 0 tc1, .int .i64 g1, .slice ra1 0 rc1, .int .i64 q1, .slice ca1 cs1.length cc1, .slice ta2 0 tc2, .int .i64 g2, .slice ra2 0 rc2, .int .i64 q2, .slice ca2 cs2.length cc2, .slice ta3 0 tc3, .int .i64 g3, .slice ra3 0 rc3, .int .i64 q3, .slice ca3 cs3.length cc3] 28 rfl
  have b4 : Below w3.heap.size w3 (w3.alloc (.cells #[.slice ta1 0 tc1, .int .i64 g1, .slice ra1 0 rc1, .int .i64 q1, .slice ca1 cs1.length cc1, .slice ta2 0 tc2, .int .i64 g2, .slice ra2 0 rc2, .int .i64 q2, .slice ca2 cs2.length cc2, .slice ta3 0 tc3, .int .i64 g3, .slice ra3 0 rc3, .int .i64 q3, .slice ca3 cs3.length cc3] 28)) := (Below.refl _ _).alloc (Nat.le_refl _) _
  have HP := Lib.hid (WorldP.of (w := w) (l := ⟨some ⟨w3.heap.size, 0, none⟩, 3, [⟨ta1, tc1, g1, ra1, rc1, q1, ⟨ca1, cc1, cs1⟩⟩, ⟨ta2, tc2, g2, ra2, rc2, q2, ⟨ca2, cc2, cs2⟩⟩, ⟨ta3, tc3, g3, ra3, rc3, q3, ⟨ca3, cc3, cs3⟩⟩]⟩) (v := .agg #[.slice (some ⟨w3.heap.size, 0, none⟩) 3 3]) rfl (show _ = _ from congr (congrArg List.cons E1.out) (congr (congrArg List.cons E2.out) (congrArg (fun z => [z]) E3.out))) hN.1 hN.2 (nextB B.out b4) (.slice (some ⟨w3.heap.size, 0, none⟩) 3 3))
  have HR4 : (w3.alloc (.cells #[.slice ta1 0 tc1, .int .i64 g1, .slice ra1 0 rc1, .int .i64 q1, .slice ca1 cs1.length cc1, .slice ta2 0 tc2, .int .i64 g2, .slice ra2 0 rc2, .int .i64 q2, .slice ca2 cs2.length cc2, .slice ta3 0 tc3, .int .i64 g3, .slice ra3 0 rc3, .int .i64 q3, .slice ca3 cs3.length cc3] 28)).heap[w.heap.size]? = some (.cells #[.slice none 0 0] 35 (0, 0)) := (b4.block _ (by omega)).trans HR3.out
  have hz0 := frozen_of_row _ _ 0 _ _ HR4
  have hcc : (w3.alloc (.cells #[.slice ta1 0 tc1, .int .i64 g1, .slice ra1 0 rc1, .int .i64 q1, .slice ca1 cs1.length cc1, .slice ta2 0 tc2, .int .i64 g2, .slice ra2 0 rc2, .int .i64 q2, .slice ca2 cs2.length cc2, .slice ta3 0 tc3, .int .i64 g3, .slice ra3 0 rc3, .int .i64 q3, .slice ca3 cs3.length cc3] 28)).cell? ⟨w.heap.size, 0, none⟩ = some (.slice none 0 0) := by rw [cell_of_row _ _ _ _ _ _ HR4]; rfl
  have hz3 := frozen_of_row _ _ 0 _ _ HR3.out
  have hc3 : w3.cell? ⟨w.heap.size, 0, none⟩ = some (.slice none 0 0) := by rw [cell_of_row _ _ _ _ _ _ HR3.out]; rfl
  have hne : ¬ w.heap.size = w3.heap.size := by omega
  clear hN b4 HR4
  go_wp2_with fail
  refine bodyPost_ret (v := .agg #[.slice (some ⟨w3.heap.size, 0, none⟩) 3 3]) ?_ rfl HP.out
  simp only [results, Try.results10]
  go_simp
end Go.Proofs.Ytcfbppdfiehlnaa
