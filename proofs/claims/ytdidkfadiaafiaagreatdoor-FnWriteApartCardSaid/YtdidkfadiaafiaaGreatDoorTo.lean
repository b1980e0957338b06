/- The laws' own copies: toIntS, toSib, toSibS, toFile, toFileS: new memory that reads the same. -/
import Derived.Test.YtdidkfadiaafiaaGreatDoorEq
import Derived.Test.YtdidkfadiaafiaaGreatDoorFill
import Derived.Test.YtdidkfadiaafiaaGreatDoorInfo
namespace Go.Proofs.YtdidkfadiaafiaaGreatDoor
open Go Go.RowKit

theorem wpList_make_exact {P : Program} (w : World) {ops : Array Oper} {rest : List Oper} {o : Oper} {a : Act} {Q : Exit → Act → World → Prop}
    (hg : o.guard = none) (l c : Operand) (t : TypeId) (hop : o.op = Op.makeSlice t l c) (e : TypeId) (i : TypeInfo) (z : Value)
    (h1 : P.underlying t = some (.slice e)) (h2 : P.info? e = some i) (h3 : i.zero = some z) (kl kc : IntKind) (n : Nat)
    (hl : a.eval l = .int kl (n : Int)) (hc : a.eval c = .int kc (n : Int)) (b2 : i.bytes * n ≤ 281474976710656) (b3 : n ≤ 9223372036854775807)
    (hK : wpList P ops Q rest (a.put o.dst (.slice (some ⟨w.heap.size, 0, none⟩) n n)) (w.alloc (.cells (madeCells z.cells (n * i.size)) e))) :
    wpList P ops Q (o :: rest) a w := by
  refine wpList_plain hg fun K hK' => ?_
  have hbn : ((i.bytes : Nat) : Int) * ((n : Nat) : Int) ≤ 281474976710656 := by
    have : ((i.bytes * n : Nat) : Int) ≤ 281474976710656 := by omega
    rwa [Int.natCast_mul] at this
  have hr := run_make (P := P) w t e i z h1 h2 h3 kl kc n n (by omega) (Int.le_refl _) hbn (by omega)
  simp only [Int.toNat_natCast] at hr
  unfold Oper.wp
  simp [execOp, hop, hl, hc, hr, Result.andThen]
  exact hK' _ _ hK

set_option maxHeartbeats 1000000 in
theorem toIntS_any (x : Loc Int) (w : World) (hx : x.At w) (hn : x.xs.length ≤ 1048576) :
    Calls Tryz.prog 121 #[x.val] w (NewPost w (fun ys : List Int => ys = x.xs)) := by
  obtain ⟨xa, xc, xs⟩ := x
  simp only [Loc.val]
  simp only at hn
  obtain ⟨i0, hi, hz, hs, hb⟩ := info_parts int_info
  have HN := Lib.hid hn
  have h1 : xs.length ≤ 9223372036854775807 := by omega
  have HX := Lib.hid hx
  have hm : i0.bytes * xs.length ≤ 281474976710656 := by rw [hb]; omega
  have HS := Lib.hid hs
  have HM := Lib.hid hm
  have HI := Lib.hid hi
  have HZ := Lib.hid hz
  clear hn hb hs hm hi hz hx
  go_enter Tryz.func121, Tryz.ntmps121
  go_wp2_with (at_make; refine wpList_make_exact _ rfl _ _ _ rfl _ i0 _ Tryz.underlying40 HI.out HZ.out _ _ xs.length rfl rfl HM.out h1 ?_)
  have hS0 : Filling (α := Int) w w.heap.size 3 xs.length [] (w.alloc (.cells (madeCells (Value.int .i64 0).cells (xs.length * i0.size)) 3)) :=
    Filling.start w _ _ _ (by rw [size_madeCells, HS.out]; rfl)
  have HF0 := Lib.hid hS0
  clear hS0
  go_loopw [4] (fun i wr => ∃ k : Nat, k ≤ xs.length ∧ i = .int .i64 k ∧ Filling (α := Int) w w.heap.size 3 xs.length (xs.take k) wr) (fun i _ => xs.length - (intOf i).toNat)
  case atStart => exact ⟨0, Nat.zero_le _, rfl, by rw [List.take_zero]; exact HF0.out⟩
  case round =>
    obtain ⟨k, hk, rfl, hF⟩ := hrel
    have HF := Lib.hid hF
    clear hF
    by_cases hlt : k < xs.length
    · obtain ⟨a, ao, ha⟩ := HX.out.place hlt
      simp only at ha
      subst ha
      have hc1 := (HX.out.belowAll HF.out.bel).int rfl hlt
      simp only at hc1
      have hlen : (xs.take k).length = k := List.length_take_of_le hk
      have hsl := HF.out.slot (Below.refl _ _) (by rw [hlen]; exact hlt) (j := 0) (by decide)
      rw [hlen, show k * Dat.k Int + 0 = k from by simp [Dat.k]] at hsl
      obtain ⟨⟨v0, s0⟩, z0⟩ := hsl
      have HL := Lib.hid hlen
      clear hlen
      go_wp2_with fail
      go_roundw
      case rel =>
        refine ⟨k + 1, by omega, by go_num, ?_⟩
        have := HF.out.step (Below.refl _ _) (by rw [HL.out]; exact hlt) (y := xs[k]) trivial (Fr.nil _ _)
        rw [HL.out, ← List.take_succ_eq_append_getElem hlt] at this
        simpa [putCells, Dat.enc, Dat.k] using this
      case measure => simp [intOf]; omega
    · have hkk : k = xs.length := by omega
      subst hkk
      go_wp2_with fail
      go_ret
      have hd := HF.out.done (by rw [List.take_length]) (by simp only [maxLen]; exact h1)
      rw [List.take_length] at hd
      exact ⟨⟨some ⟨w.heap.size, 0, none⟩, xs.length, xs⟩, rfl, rfl, hd.1, hd.2, HF.out.bel⟩

set_option maxRecDepth 100000 in
set_option maxHeartbeats 1000000 in
theorem toSib_any (x : LSib) (w : World) (hx : Dat.At w x) (hn : bulkSib x ≤ 1048576) :
    Calls Tryz.prog 95 #[x.val] w fun e w' => ∃ y : LSib, e = .returned y.val ∧ y.er = x.er ∧ Dat.At w' y ∧ Fr w.heap.size w' (Dat.fp y) ∧ Below w.heap.size w w' := by
  obtain ⟨xv, xg, xt⟩ := x
  simp only [LSib.val]
  have hB := (((Below.refl w.heap.size w).alloc (Nat.le_refl _) (Obj.cells #[xv.val, Value.bool xg, Value.string xt] 101)).alloc (by simp) (Obj.cells #[Value.slice none 0 0, Value.bool false, Value.string ⟨#[]⟩] 42)).alloc (by simp; omega) (Obj.cells #[Value.slice none 0 0, Value.bool false, Value.string ⟨#[]⟩] 42)
  have hc := Lib.hid (toIntS_any xv _ (Loc.At.belowAll hx.1 hB) (by simp only [bulkSib] at hn; omega))
  have HB := Lib.hid hB
  have HXT := Lib.hid hx.2
  clear hB hn
  go_enter Tryz.func95, Tryz.ntmps95
  go_wp2_with fail
  refine hc.out.mono ?_
  rintro e w' ⟨⟨ya, yc, ys⟩, rfl, hy, hyA, hyF, hb⟩
  simp only [Loc.val]
  have HY := Lib.hid hy
  have HA := Lib.hid hyA
  have HFR := Lib.hid hyF
  have HB2 := Lib.hid hb
  clear hy hyA hyF
  have c1 : w'.cell? ⟨w.heap.size, 1, none⟩ = some (.bool xg) := by rw [hb.cell (by simp <;> omega)]; go_simp
  have c2 : w'.cell? ⟨w.heap.size, 2, none⟩ = some (.string xt) := by rw [hb.cell (by first | (simp; done) | (simp; omega))]; go_simp
  have d0 : w'.cell? ⟨w.heap.size + 1, 0, none⟩ = some (.slice none 0 0) := by rw [hb.cell (by first | (simp; done) | (simp; omega))]; go_simp
  have d1 : w'.cell? ⟨w.heap.size + 1, 1, none⟩ = some (.bool false) := by rw [hb.cell (by first | (simp; done) | (simp; omega))]; go_simp
  have d2 : w'.cell? ⟨w.heap.size + 1, 2, none⟩ = some (.string ⟨#[]⟩) := by rw [hb.cell (by first | (simp; done) | (simp; omega))]; go_simp
  have o0 : w'.cell? ⟨w.heap.size + 1 + 1, 0, none⟩ = some (.slice none 0 0) := by rw [hb.cell (by simp)]; go_simp
  have o1 : w'.cell? ⟨w.heap.size + 1 + 1, 1, none⟩ = some (.bool false) := by rw [hb.cell (by simp)]; go_simp
  have o2 : w'.cell? ⟨w.heap.size + 1 + 1, 2, none⟩ = some (.string ⟨#[]⟩) := by rw [hb.cell (by simp)]; go_simp
  have g0 : ∀ j, w'.frozen? ⟨w.heap.size + 1, j, none⟩ = false := fun j => by rw [hb.frozen (by first | (simp; done) | (simp; omega))]; go_simp
  have g1 : ∀ j, w'.frozen? ⟨w.heap.size + 1 + 1, j, none⟩ = false := fun j => by rw [hb.frozen (by simp)]; go_simp
  clear hb
  go_wp2_with fail
  have hk : ∀ (W : World) (a0 a1 a2 a3 a4 a5 : Addr) (v0 v1 v2 v3 v4 v5 : Value) (b : Nat), b ≠ a0.block → b ≠ a1.block → b ≠ a2.block → b ≠ a3.block → b ≠ a4.block → b ≠ a5.block →
      ((((((W.setCell a0 v0).setCell a1 v1).setCell a2 v2).setCell a3 v3).setCell a4 v4).setCell a5 v5).heap[b]? = W.heap[b]? := by
    intro W a0 a1 a2 a3 a4 a5 v0 v1 v2 v3 v4 v5 b h0 h1 h2 h3 h4 h5
    rw [Below.heap_setCell _ _ _ _ h5, Below.heap_setCell _ _ _ _ h4, Below.heap_setCell _ _ _ _ h3, Below.heap_setCell _ _ _ _ h2, Below.heap_setCell _ _ _ _ h1, Below.heap_setCell _ _ _ _ h0]
  have HK := Lib.hid hk
  clear hk
  refine bodyPost_ret (v := .agg #[.slice ya ys.length yc, .bool xg, .string xt]) ?_ rfl ⟨⟨⟨ya, yc, ys⟩, xg, xt⟩, rfl, ?_, ?_, ?_, ?_⟩
  · simp only [results, Tryz.results95]
    go_simp
  · simp only [LSib.er, HY.out]
  · refine ⟨Loc.keep_At HA.out fun b hb => ?_, HXT.out⟩
    have h := HFR.out.ge b hb
    simp at h
    apply HK.out <;> (simp; omega)
  · refine (HFR.out.mono (by simp; omega)).keep fun b hb => ?_
    have h := HFR.out.ge b hb
    simp at h
    apply HK.out <;> (simp; omega)
  · refine (HB.out.trans (HB2.out.mono (by simp; omega))).trans ?_
    exact ((((((Below.refl _ _).setCell (by simp; omega) _).setCell (by simp; omega) _).setCell (by simp; omega) _).setCell (by simp) _).setCell (by simp) _).setCell (by simp) _

theorem mem_le_sum : ∀ (l : List Nat) {n : Nat}, n ∈ l → n ≤ l.sum
  | a :: l, n, h => by
    rcases List.mem_cons.1 h with rfl | h
    · simp
    · have := mem_le_sum l h; simp; omega

set_option maxRecDepth 100000 in
set_option maxHeartbeats 1000000 in
theorem toSibS_any (x : Loc LSib) (w : World) (hx : x.At w) (hn : bulkSibs x.xs ≤ 1048576) :
    Calls Tryz.prog 65 #[x.val] w (NewPost w (fun ys : List LSib => ys.map LSib.er = x.xs.map LSib.er)) := by
  obtain ⟨xa, xc, xs⟩ := x
  simp only [Loc.val]
  simp only at hn
  obtain ⟨i0, hi, hz, hs, hb⟩ := info_parts sib_info
  have HN := Lib.hid hn
  have h1 : xs.length ≤ 9223372036854775807 := by simp only [bulkSibs] at hn; omega
  have HX := Lib.hid hx
  have hm : i0.bytes * xs.length ≤ 281474976710656 := by rw [hb]; simp only [bulkSibs] at hn; omega
  have HS := Lib.hid hs
  have HM := Lib.hid hm
  have HI := Lib.hid hi
  have HZ := Lib.hid hz
  clear hn hb hs hm hi hz hx
  go_enter Tryz.func65, Tryz.ntmps65
  go_wp2_with (at_make; refine wpList_make_exact _ rfl _ _ _ rfl _ i0 _ Tryz.underlying37 HI.out HZ.out _ _ xs.length rfl rfl HM.out h1 ?_)
  have hS0 : Filling (α := LSib) w w.heap.size 42 xs.length [] (w.alloc (.cells (madeCells (Value.agg #[.slice none 0 0, .bool false, .string ⟨#[]⟩]).cells (xs.length * i0.size)) 42)) :=
    Filling.start w _ _ _ (by rw [size_madeCells, HS.out]; rfl)
  have HF0 := Lib.hid hS0
  clear hS0
  go_loopw [4] (fun i wr => ∃ (k : Nat) (ys : List LSib), k ≤ xs.length ∧ i = .int .i64 k ∧ ys.length = k ∧ ys.map LSib.er = (xs.take k).map LSib.er ∧ Filling (α := LSib) w w.heap.size 42 xs.length ys wr) (fun i _ => xs.length - (intOf i).toNat)
  case atStart => exact ⟨0, [], Nat.zero_le _, rfl, rfl, by simp, HF0.out⟩
  case round =>
    obtain ⟨k, ys, hk, rfl, hlen, hys, hF⟩ := hrel
    have HF := Lib.hid hF
    have HL := Lib.hid hlen
    have HYS := Lib.hid hys
    clear hF hlen hys
    by_cases hlt : k < xs.length
    · obtain ⟨a, ao, ha⟩ := HX.out.place hlt
      simp only at ha
      subst ha
      have hc1 := (HX.out.belowAll HF.out.bel).sib rfl hlt
      simp only at hc1
      have hcall := Lib.hid (toSib_any xs[k] wr ((HX.out.belowAll HF.out.bel).elem (List.getElem_mem hlt)) (by
        have h := HN.out
        have h2 : bulkSib xs[k] ≤ (xs.map bulkSib).sum := mem_le_sum _ (List.mem_map.2 ⟨_, List.getElem_mem hlt, rfl⟩)
        simp only [bulkSibs] at h; omega))
      go_wp2_with fail
      refine hcall.out.mono ?_
      rintro e w' ⟨y, rfl, hy, hyA, hyF, hb2⟩
      simp only [LSib.val]
      have HY := Lib.hid hy
      have HA := Lib.hid hyA
      have HFR := Lib.hid hyF
      have HB2 := Lib.hid hb2
      clear hy hyA hyF hc1
      have hsl := fun j hj => HF.out.slot hb2 (by rw [HL.out]; exact hlt) (j := j) hj
      simp only [HL.out] at hsl
      have HSL := Lib.hid hsl
      clear hsl hb2
      obtain ⟨⟨u0, s0⟩, z0⟩ := HSL.out 0 (by decide)
      obtain ⟨⟨u1, s1⟩, z1⟩ := HSL.out 1 (by decide)
      obtain ⟨⟨u2, s2⟩, z2⟩ := HSL.out 2 (by decide)
      simp only [Dat.k, Nat.add_zero] at s0 z0 s1 z1 s2 z2
      go_wp2_with fail
      go_roundw
      case rel =>
        refine ⟨k + 1, ys ++ [y], by omega, by go_num, by simp [HL.out], ?_, ?_⟩
        · rw [List.map_append, HYS.out, List.take_succ_eq_append_getElem hlt, List.map_append]
          simp [HY.out]
        · have := HF.out.step HB2.out (by rw [HL.out]; exact hlt) (y := y) HA.out HFR.out
          rw [HL.out] at this
          exact this
      case measure => simp [intOf]; omega
    · have hkk : k = xs.length := by omega
      subst hkk
      go_wp2_with fail
      go_ret
      have hd := HF.out.done HL.out (by simp only [maxLen]; exact h1)
      refine ⟨⟨some ⟨w.heap.size, 0, none⟩, xs.length, ys⟩, ?_, ?_, hd.1, hd.2, HF.out.bel⟩
      · simp only [Loc.val, HL.out]; rfl
      · show ys.map LSib.er = xs.map LSib.er
        rw [HYS.out, List.take_length]

set_option maxRecDepth 100000 in
set_option maxHeartbeats 1000000 in
theorem toFile_any (x : LFile) (w : World) (hx : Dat.At w x) (hn : bulkFile x ≤ 1048576) :
    Calls Tryz.prog 32 #[x.val] w fun e w' => ∃ y : LFile, e = .returned y.val ∧ y.er = x.er ∧ Dat.At w' y ∧ Fr w.heap.size w' (Dat.fp y) ∧ Below w.heap.size w w' := by
  obtain ⟨xn, xs⟩ := x
  simp only [LFile.val]
  have hB := (((Below.refl w.heap.size w).alloc (Nat.le_refl _) (Obj.cells #[.string xn, xs.val] 55)).alloc (by simp) (Obj.cells #[.string ⟨#[]⟩, .slice none 0 0] 58)).alloc (by simp; omega) (Obj.cells #[.string xn, .slice none 0 0] 58)
  have hc := Lib.hid (toSibS_any xs _ (Loc.At.belowAll hx.1 hB) (by simp only [bulkFile] at hn; omega))
  have HB := Lib.hid hB
  have HXN := Lib.hid hx.2
  clear hB hn
  go_enter Tryz.func32, Tryz.ntmps32
  go_wp2_with fail
  refine hc.out.mono ?_
  rintro e w' ⟨⟨ya, yc, ys⟩, rfl, hy, hyA, hyF, hb⟩
  simp only [Loc.val]
  have HY := Lib.hid hy
  have HA := Lib.hid hyA
  have HFR := Lib.hid hyF
  have HB2 := Lib.hid hb
  clear hy hyA hyF
  have d0 : w'.cell? ⟨w.heap.size + 1, 0, none⟩ = some (.string ⟨#[]⟩) := by rw [hb.cell (by first | (simp; done) | (simp; omega))]; go_simp
  have d1 : w'.cell? ⟨w.heap.size + 1, 1, none⟩ = some (.slice none 0 0) := by rw [hb.cell (by first | (simp; done) | (simp; omega))]; go_simp
  have o0 : w'.cell? ⟨w.heap.size + 1 + 1, 0, none⟩ = some (.string xn) := by rw [hb.cell (by simp)]; go_simp
  have o1 : w'.cell? ⟨w.heap.size + 1 + 1, 1, none⟩ = some (.slice none 0 0) := by rw [hb.cell (by simp)]; go_simp
  have g0 : ∀ j, w'.frozen? ⟨w.heap.size + 1, j, none⟩ = false := fun j => by rw [hb.frozen (by first | (simp; done) | (simp; omega))]; go_simp
  have g1 : ∀ j, w'.frozen? ⟨w.heap.size + 1 + 1, j, none⟩ = false := fun j => by rw [hb.frozen (by simp)]; go_simp
  clear hb
  go_wp2_with fail
  have hk : ∀ (W : World) (a0 a1 a2 : Addr) (v0 v1 v2 : Value) (b : Nat), b ≠ a0.block → b ≠ a1.block → b ≠ a2.block →
      (((W.setCell a0 v0).setCell a1 v1).setCell a2 v2).heap[b]? = W.heap[b]? := by
    intro W a0 a1 a2 v0 v1 v2 b h0 h1 h2
    rw [Below.heap_setCell _ _ _ _ h2, Below.heap_setCell _ _ _ _ h1, Below.heap_setCell _ _ _ _ h0]
  have HK := Lib.hid hk
  clear hk
  refine bodyPost_ret (v := .agg #[.string xn, .slice ya ys.length yc]) ?_ rfl ⟨⟨xn, ⟨ya, yc, ys⟩⟩, rfl, ?_, ?_, ?_, ?_⟩
  · simp only [results, Tryz.results32]
    go_simp
  · simp only [LFile.er, HY.out]
  · refine ⟨Loc.keep_At HA.out fun b hb => ?_, HXN.out⟩
    have h := HFR.out.ge b hb
    simp at h
    apply HK.out <;> (simp; omega)
  · refine (HFR.out.mono (by simp; omega)).keep fun b hb => ?_
    have h := HFR.out.ge b hb
    simp at h
    apply HK.out <;> (simp; omega)
  · refine (HB.out.trans (HB2.out.mono (by simp; omega))).trans ?_
    exact (((Below.refl _ _).setCell (by simp; omega) _).setCell (by simp) _).setCell (by simp) _

end Go.Proofs.YtdidkfadiaafiaaGreatDoor
