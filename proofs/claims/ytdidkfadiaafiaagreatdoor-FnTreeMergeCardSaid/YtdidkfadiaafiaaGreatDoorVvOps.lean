/- Counts: joined, one more; of the program and of the reference. One write more of a site: VvNext, of the program and of the reference. -/
import Derived.Test.YtdidkfadiaafiaaGreatDoorPureT
import Derived.Test.YtdidkfadiaafiaaGreatDoorSpec1
import Derived.Test.YtdidkfadiaafiaaGreatDoorTouch
import Derived.Test.YtdidkfadiaafiaaGreatDoorStab
import Derived.Test.YtdidkfadiaafiaaGreatDoorRel
import Derived.Test.YtdidkfadiaafiaaGreatDoorTo
import Derived.Test.YtdidkfadiaafiaaGreatDoorDec
namespace Go.Proofs.YtdidkfadiaafiaaGreatDoor
open Go Go.RowKit

/-- A new block with one element's cells. -/
def RowOf {α : Type} [Dat α] (e : TypeId) (y : α) (v : Value) (W : World) : Prop := ∃ g, v = .slice (some ⟨g, 0, none⟩) 1 1 ∧ W.heap[g]? = some (.cells (Dat.enc y).toArray e (0, 0))
theorem RowOf.stable {α : Type} [Dat α] (e : TypeId) (y : α) : StableR (RowOf e y) := fun _ _ _ hb ⟨g, h1, h2⟩ => ⟨g, h1, (hb.block g (Array.getElem?_eq_some_iff.1 h2).1).trans h2⟩
theorem one_row {α : Type} [Dat α] {base g : Nat} {e e' : TypeId} {W : World} (l : Loc α) (y : α) (hg : W.heap[g]? = some (.cells (Dat.enc y).toArray e' (0, 0))) (hown : Own base e W l) (hy : Dat.At W y) (hoff : ∀ b ∈ Dat.fp y, some b ≠ l.val.ownBlock)
    (hlen : l.xs.length + 1 ≤ 1099511627776) (hlo : base ≤ W.heap.size) : OneMore base e W l g y :=
  ⟨hown, fun j u hu => by
    rw [add_lit', Nat.zero_add, cell_of_row _ _ _ _ _ _ hg, ← Array.getElem?_toList]
    simpa using hu, hy, hoff, hlen, hlo⟩
theorem joinV_get {a b : List Int} {k : Nat} (h1 : k < a.length) (h2 : k < b.length) : (joinV a b).take (k + 1) = (joinV a b).take k ++ [max a[k] b[k]] := by
  have h3 : k < (joinV a b).length := by simp [joinV]; omega
  rw [List.take_succ_eq_append_getElem h3]
  simp [joinV]
theorem Grows.ints {lo : Nat} {e : TypeId} {w0 w : World} {l : Loc Int} (h : Grows lo e w0 l w) : l.At w ∧ Fr lo w l.fp := h.done

set_option maxRecDepth 100000 in
set_option maxHeartbeats 1000000 in
theorem vvJoin_any (x y : Loc Int) (w : World) (hx : x.At w) (hy : y.At w) (hle : x.xs.length = y.xs.length) (hn : x.xs.length ≤ 1000) :
    Calls Tryz.prog 68 #[x.val, y.val] w (NewPost w (fun ys : List Int => ys = joinV x.xs y.xs)) := by
  obtain ⟨xa, xc, xs⟩ := x
  obtain ⟨ya, yc, ys⟩ := y
  simp only [Loc.val]
  simp only at hle hn
  have h1 : xs.length ≤ 9223372036854775807 := by omega
  have HX := Lib.hid hx
  have HY := Lib.hid hy
  have HLE := Lib.hid hle
  have HG0 := Lib.hid (Grows.start (α := Int) w 3)
  have HJL := Lib.hid (joinV_len hle)
  have hys : ys.length ≤ 9223372036854775807 := by omega
  clear hx hy hle
  go_enter Tryz.func68, Tryz.ntmps68
  go_wp2_with fail
  go_loopw [5, 11] (fun o i wr => ∃ (k : Nat) (l : Loc Int), k ≤ xs.length ∧ i = .int .i64 k ∧ o = l.val ∧ l.xs = (joinV xs ys).take k ∧ Grows w.heap.size 3 w l wr) (fun _ i _ => xs.length - (intOf i).toNat)
  case atStart => exact ⟨0, _, Nat.zero_le _, rfl, rfl, rfl, HG0.out⟩
  case round =>
    obtain ⟨k, l, hk, rfl, rfl, hl, hG⟩ := hrel
    have HL := Lib.hid hl
    have HG := Lib.hid hG
    clear hl hG
    by_cases hlt : k < xs.length
    · have hlt2 : k < ys.length := by have := HLE.out; omega
      obtain ⟨a, ao, ha⟩ := HX.out.place hlt
      obtain ⟨b, bo, hb⟩ := HY.out.place hlt2
      simp only at ha hb
      subst ha hb
      have c0 := (HX.out.belowAll HG.out.bel).int rfl hlt
      have c1 := (HY.out.belowAll HG.out.bel).int rfl hlt2
      simp only at c0 c1
      have hll : l.xs.length + 1 ≤ 1099511627776 := by rw [HL.out, List.length_take]; omega
      have HM := Lib.hid (one_more (W := wr) (e' := 3) (cs := #[.int .i64 (max xs[k] ys[k])]) (g := wr.heap.size) l (max xs[k] ys[k]) rfl rfl HG.out.own trivial (fun b hb => by cases hb) hll HG.out.bel.size)
      have HB := Lib.hid ((Below.refl wr.heap.size wr).alloc (Nat.le_refl _) (Obj.cells #[.int .i64 (max xs[k] ys[k])] 3))
      clear hll
      go_wp2_with (at_builtin; refine wpList_append_one rfl _ _ 40 rfl _ 3 elem_int l rfl wr.heap.size (max xs[k] ys[k]) rfl HM.out ?_)
      intro l' w5 hap
      have HAP := Lib.hid hap
      clear hap c0 c1
      go_wp2_with fail
      go_roundw
      case rel =>
        refine ⟨k + 1, l', by omega, by go_num, rfl, ?_, (HG.out.later (Nat.le_refl _) HB.out).step (Nat.le_refl _) HAP.out ?_ ?_ ?_⟩
        · rw [HAP.out.xs, HL.out, joinV_get hlt hlt2]
        · simpa [Dat.fp] using Fr.nil _ _
        · intro a _ b hb; simp [Dat.fp] at hb
        · intro y _ b hb; cases hb
      case measure => simp [intOf]; omega
    · have hkk : k = xs.length := by omega
      subst hkk
      go_wp2_with fail
      go_ret
      obtain ⟨d1, d2⟩ := HG.out.done
      exact ⟨l, rfl, by rw [HL.out, List.take_of_length_le (by rw [HJL.out]; exact Nat.le_refl _)], d1, d2, HG.out.bel⟩

theorem isSite_any (n : Int) (w : World) : Calls Tryz.prog 67 #[.int .i64 n] w fun e w' => e = .returned (.bool (decide (1 ≤ n ∧ n ≤ 3))) ∧ w = w' := by
  by_cases h1 : 1 ≤ n
  · by_cases h2 : n ≤ 3
    · have e : decide (1 ≤ n ∧ n ≤ 3) = true := decide_eq_true ⟨h1, h2⟩
      rw [e]
      go_enter Tryz.func67, Tryz.ntmps67
      go_wp2_with fail
      go_ret
      exact ⟨rfl, rfl⟩
    · have e : decide (1 ≤ n ∧ n ≤ 3) = false := decide_eq_false (by omega)
      rw [e]
      go_enter Tryz.func67, Tryz.ntmps67
      go_wp2_with fail
      go_ret
      exact ⟨rfl, rfl⟩
  · have e : decide (1 ≤ n ∧ n ≤ 3) = false := decide_eq_false (by omega)
    rw [e]
    go_enter Tryz.func67, Tryz.ntmps67
    go_wp2_with fail
    go_ret
    exact ⟨rfl, rfl⟩

theorem vvOf_next {xs : List LSib} {k : Nat} (h : k < xs.length) : vvOf ((xs.take (k + 1)).map LSib.er) = joinV (vvOf ((xs.take k).map LSib.er)) xs[k].vv.xs := by
  have := vvOf_take (l := xs.map LSib.er) (k := k) (by simpa using h)
  rw [List.getElem_map, ← List.map_take, ← List.map_take] at this
  exact this
theorem vvOf_len {l : List Sib} (h : V3 l) : (vvOf l).length = 3 := by
  have key : ∀ (l : List Sib) (o : List Int), V3 l → o.length = 3 → (l.foldl (fun o s => joinV o s.vv) o).length = 3 := by
    intro l
    induction l with
    | nil => intro o _ h; exact h
    | cons s l ih =>
      intro o hv ho
      rw [List.foldl_cons]
      have h3 := hv s List.mem_cons_self
      exact ih _ (fun x hx => hv x (List.mem_cons_of_mem _ hx)) (by rw [joinV_len (by omega)]; exact ho)
  exact key l _ h rfl
theorem take_v3 {xs : List LSib} (h : ∀ s ∈ xs, s.vv.xs.length = 3) (k : Nat) : V3 ((xs.take k).map LSib.er) := by
  intro s hs
  obtain ⟨q, hq, rfl⟩ := List.mem_map.1 hs
  exact h q (List.mem_of_mem_take hq)

set_option maxRecDepth 100000 in
set_option maxHeartbeats 1000000 in
theorem sibsVv_any (x : Loc LSib) (w : World) (hx : x.At w) (hk : x.xs.map LSib.er = [] ∨ SibsOK (x.xs.map LSib.er)) :
    Calls Tryz.prog 37 #[x.val] w (NewPost w (fun ys : List Int => ys = vvOf (x.xs.map LSib.er))) := by
  obtain ⟨xa, xc, xs⟩ := x
  simp only [Loc.val]
  simp only at hk
  obtain ⟨h3, h12⟩ := sibsOk_len3 hk
  have h1 : xs.length ≤ 9223372036854775807 := by omega
  have HX := Lib.hid hx
  have H3 := Lib.hid h3
  clear hx h3
  obtain ⟨i0, hi, hz, hs, hb⟩ := info_parts int_info
  have HS := Lib.hid hs
  have HI := Lib.hid hi
  have HZ := Lib.hid hz
  have HM := Lib.hid (show i0.bytes * 3 ≤ 281474976710656 by rw [hb]; omega)
  clear hi hz hs hb
  have HC : Hid (madeCells (Value.int .i64 0).cells (3 * i0.size) = #[.int .i64 0, .int .i64 0, .int .i64 0]) := Lib.hid (by rw [HS.out]; kernel_rfl)
  have HA0 : Hid (Loc.At (w.alloc (.cells (madeCells (Value.int .i64 0).cells (3 * i0.size)) 3)) (⟨some ⟨w.heap.size, 0, none⟩, 3, [0, 0, 0]⟩ : Loc Int)) := Lib.hid (by
    rw [HC.out]; exact new_At (α := Int) w [0, 0, 0] #[.int .i64 0, .int .i64 0, .int .i64 0] 3 rfl (by decide) (fun _ _ => trivial))
  have HF0 : Hid (Fr w.heap.size (w.alloc (.cells (madeCells (Value.int .i64 0).cells (3 * i0.size)) 3)) (⟨some ⟨w.heap.size, 0, none⟩, 3, [0, 0, 0]⟩ : Loc Int).fp) := Lib.hid (by
    refine ⟨fun b hb => ?_, by simp [Loc.fp, Loc.blk, Dat.fp], fun b hb => ?_⟩
    · simp [Loc.fp, Loc.blk, Dat.fp] at hb; subst hb; simp
    · simp [Loc.fp, Loc.blk, Dat.fp] at hb; subst hb; exact ⟨_, _, heap_alloc_new w _⟩)
  have HB0 := Lib.hid ((Below.refl w.heap.size w).alloc (Nat.le_refl _) (Obj.cells (madeCells (Value.int .i64 0).cells (3 * i0.size)) 3))
  go_enter Tryz.func37, Tryz.ntmps37
  go_wp2_with (at_make; refine wpList_make_exact _ rfl _ _ _ rfl _ i0 _ Tryz.underlying40 HI.out HZ.out .i64 .i64 3 rfl rfl HM.out (by decide) ?_)
  go_loopw [3, 9] (fun o i wr => ∃ (k : Nat) (l : Loc Int), k ≤ xs.length ∧ i = .int .i64 k ∧ o = l.val ∧ l.xs = vvOf ((xs.take k).map LSib.er) ∧ l.At wr ∧ Fr w.heap.size wr l.fp ∧ Below w.heap.size w wr) (fun _ i _ => xs.length - (intOf i).toNat)
  case atStart => exact ⟨0, ⟨some ⟨w.heap.size, 0, none⟩, 3, [0, 0, 0]⟩, Nat.zero_le _, rfl, rfl, rfl, HA0.out, HF0.out, HB0.out⟩
  case round =>
    obtain ⟨k, l, hk, rfl, rfl, hl, hA, hF, hB⟩ := hrel
    have HL := Lib.hid hl
    have HA := Lib.hid hA
    have HF := Lib.hid hF
    have HB := Lib.hid hB
    have HLL : Hid (l.xs.length = 3) := Lib.hid (by rw [hl]; exact vvOf_len (take_v3 H3.out k))
    clear hl hA hF hB
    by_cases hlt : k < xs.length
    · obtain ⟨a, ao, ha⟩ := HX.out.place hlt
      simp only at ha
      subst ha
      have hc1 := (HX.out.belowAll HB.out).sib rfl hlt
      simp only at hc1
      obtain ⟨c0, c1, c2⟩ := hc1
      have HE := Lib.hid ((HX.out.belowAll HB.out).elem (List.getElem_mem hlt)).1
      have H3K := Lib.hid (H3.out _ (List.getElem_mem hlt))
      have HBX := Lib.hid ((Below.refl wr.heap.size wr).alloc (Nat.le_refl _) (Obj.cells #[xs[k].vv.val, .bool xs[k].gone, .string xs[k].text] 42))
      go_wp2_with fail
      refine (vvJoin_any l xs[k].vv _ (HA.out.belowAll HBX.out) (HE.out.belowAll HBX.out) (by rw [HLL.out, H3K.out]) (by rw [HLL.out]; first | decide | (constructor <;> decide))).mono ?_
      rintro e w2 ⟨l2, rfl, h2, hA2, hF2, hb2⟩
      have H2 := Lib.hid h2
      have HA2 := Lib.hid hA2
      have HF2 := Lib.hid (hF2.mono (Nat.le_trans HB.out.size HBX.out.size))
      have HB2 := Lib.hid (HB.out.trans ((nextB HBX.out hb2).mono HB.out.size))
      clear h2 hA2 hF2 hb2 c0 c1 c2
      go_wp2_with fail
      go_roundw
      case rel => exact ⟨k + 1, l2, by omega, by go_num, rfl, by rw [H2.out, HL.out, vvOf_next hlt], HA2.out, HF2.out, HB2.out⟩
      case measure => simp [intOf]; omega
    · have hkk : k = xs.length := by omega
      subst hkk
      go_wp2_with fail
      go_ret
      exact ⟨l, rfl, by rw [HL.out, List.take_length], HA.out, HF.out, HB.out⟩

set_option maxRecDepth 100000 in
set_option maxHeartbeats 1000000 in
theorem sl1Join_any (x y : Loc Int) (w : World) (hx : x.At w) (hy : y.At w) (hle : x.xs.length = y.xs.length) (hn : x.xs.length ≤ 1000) (h3 : x.xs.length = 3) :
    Calls Tryz.prog 93 #[x.val, y.val] w (NewPost w (fun ys : List Int => ys = joinV x.xs y.xs)) := by
  obtain ⟨xa, xc, xs⟩ := x
  obtain ⟨ya, yc, ys⟩ := y
  simp only [Loc.val]
  simp only at hle hn h3
  have h1 : xs.length ≤ 9223372036854775807 := by omega
  have HX := Lib.hid hx
  have HY := Lib.hid hy
  have HLE := Lib.hid hle
  have HL3 := Lib.hid h3
  have HG0 := Lib.hid (Grows.start (α := Int) w 3)
  have HJL := Lib.hid (joinV_len hle)
  have hys : ys.length ≤ 9223372036854775807 := by omega
  clear hx hy hle h3
  go_enter Tryz.func93, Tryz.ntmps93
  go_wp2_with fail
  go_loopw [5, 6] (fun o i wr => ∃ (k : Nat) (l : Loc Int), k ≤ 3 ∧ i = .int .i64 k ∧ o = l.val ∧ l.xs = (joinV xs ys).take k ∧ Grows w.heap.size 3 w l wr) (fun _ i _ => 3 - (intOf i).toNat)
  case atStart => exact ⟨0, _, Nat.zero_le _, rfl, rfl, rfl, HG0.out⟩
  case round =>
    obtain ⟨k, l, hk, rfl, rfl, hl, hG⟩ := hrel
    have HL := Lib.hid hl
    have HG := Lib.hid hG
    clear hl hG
    by_cases hk3 : k < 3
    · have hlt : k < xs.length := by have := HL3.out; omega
      have hlt2 : k < ys.length := by have := HLE.out; omega
      obtain ⟨a, ao, ha⟩ := HX.out.place hlt
      obtain ⟨b, bo, hb⟩ := HY.out.place hlt2
      simp only at ha hb
      subst ha hb
      obtain ⟨w0, hw0⟩ : ∃ w0 : World, w0 = wr := ⟨_, rfl⟩
      subst hw0
      have HF : Hid (∀ w', Below w0.heap.size w0 w' → w'.cell? ⟨a, ao + k, none⟩ = some (.int .i64 xs[k]) ∧ w'.cell? ⟨b, bo + k, none⟩ = some (.int .i64 ys[k])) := Lib.hid (fun w' h =>
        ⟨((HX.out.belowAll HG.out.bel).belowAll h).int rfl hlt, ((HY.out.belowAll HG.out.bel).belowAll h).int rfl hlt2⟩)
      have hll : l.xs.length + 1 ≤ 1099511627776 := by rw [HL.out, List.length_take]; omega
      go_wp2_with fail
      refine wp_region_rel 11 (by kernel_rfl) (by kernel_rfl) (by rfl) ?_
      simp only [List.take_succ_cons, List.take_zero, List.drop_succ_cons, List.drop_zero]
      first
        | (refine wpRel_pass (by rfl) (fun U => by rfl) ?_; simp only [Act.put, List.setIfInBounds_toArray, List.set_cons_zero, List.set_cons_succ])
        | (refine' wpRel_fix (by rfl) (fun U => by rfl) (fun m U w' hI hG => ?_) ?_
           rotate_left
           focus (have hf := HF.out w' hI; unfold relAt; go_simp; first | exact ⟨rfl, Below.refl _ _⟩ | exact Below.refl _ _ | exact ⟨trivial, Below.refl _ _⟩)
           simp only [Act.put, List.setIfInBounds_toArray, List.set_cons_zero, List.set_cons_succ])
      first
        | (refine wpRel_pass (by rfl) (fun U => by rfl) ?_; simp only [Act.put, List.setIfInBounds_toArray, List.set_cons_zero, List.set_cons_succ])
        | (refine' wpRel_fix (by rfl) (fun U => by rfl) (fun m U w' hI hG => ?_) ?_
           rotate_left
           focus (have hf := HF.out w' hI; unfold relAt; go_simp; first | exact ⟨rfl, Below.refl _ _⟩ | exact Below.refl _ _ | exact ⟨trivial, Below.refl _ _⟩)
           simp only [Act.put, List.setIfInBounds_toArray, List.set_cons_zero, List.set_cons_succ])
      first
        | (refine wpRel_pass (by rfl) (fun U => by rfl) ?_; simp only [Act.put, List.setIfInBounds_toArray, List.set_cons_zero, List.set_cons_succ])
        | (refine' wpRel_fix (by rfl) (fun U => by rfl) (fun m U w' hI hG => ?_) ?_
           rotate_left
           focus (have hf := HF.out w' hI; unfold relAt; go_simp; first | exact ⟨rfl, Below.refl _ _⟩ | exact Below.refl _ _ | exact ⟨trivial, Below.refl _ _⟩)
           simp only [Act.put, List.setIfInBounds_toArray, List.set_cons_zero, List.set_cons_succ])
      first
        | (refine wpRel_pass (by rfl) (fun U => by rfl) ?_; simp only [Act.put, List.setIfInBounds_toArray, List.set_cons_zero, List.set_cons_succ])
        | (refine' wpRel_fix (by rfl) (fun U => by rfl) (fun m U w' hI hG => ?_) ?_
           rotate_left
           focus (have hf := HF.out w' hI; unfold relAt; go_simp; first | exact ⟨rfl, Below.refl _ _⟩ | exact Below.refl _ _ | exact ⟨trivial, Below.refl _ _⟩)
           simp only [Act.put, List.setIfInBounds_toArray, List.set_cons_zero, List.set_cons_succ])
      first
        | (refine wpRel_pass (by rfl) (fun U => by rfl) ?_; simp only [Act.put, List.setIfInBounds_toArray, List.set_cons_zero, List.set_cons_succ])
        | (refine' wpRel_fix (by rfl) (fun U => by rfl) (fun m U w' hI hG => ?_) ?_
           rotate_left
           focus (have hf := HF.out w' hI; unfold relAt; go_simp; first | exact ⟨rfl, Below.refl _ _⟩ | exact Below.refl _ _ | exact ⟨trivial, Below.refl _ _⟩)
           simp only [Act.put, List.setIfInBounds_toArray, List.set_cons_zero, List.set_cons_succ])
      first
        | (refine wpRel_pass (by rfl) (fun U => by rfl) ?_; simp only [Act.put, List.setIfInBounds_toArray, List.set_cons_zero, List.set_cons_succ])
        | (refine' wpRel_fix (by rfl) (fun U => by rfl) (fun m U w' hI hG => ?_) ?_
           rotate_left
           focus (have hf := HF.out w' hI; unfold relAt; go_simp; first | exact ⟨rfl, Below.refl _ _⟩ | exact Below.refl _ _ | exact ⟨trivial, Below.refl _ _⟩)
           simp only [Act.put, List.setIfInBounds_toArray, List.set_cons_zero, List.set_cons_succ])
      first
        | (refine wpRel_pass (by rfl) (fun U => by rfl) ?_; simp only [Act.put, List.setIfInBounds_toArray, List.set_cons_zero, List.set_cons_succ])
        | (refine' wpRel_fix (by rfl) (fun U => by rfl) (fun m U w' hI hG => ?_) ?_
           rotate_left
           focus (have hf := HF.out w' hI; unfold relAt; go_simp; first | exact ⟨rfl, Below.refl _ _⟩ | exact Below.refl _ _ | exact ⟨trivial, Below.refl _ _⟩)
           simp only [Act.put, List.setIfInBounds_toArray, List.set_cons_zero, List.set_cons_succ])
      first
        | (refine wpRel_pass (by rfl) (fun U => by rfl) ?_; simp only [Act.put, List.setIfInBounds_toArray, List.set_cons_zero, List.set_cons_succ])
        | (refine' wpRel_fix (by rfl) (fun U => by rfl) (fun m U w' hI hG => ?_) ?_
           rotate_left
           focus (have hf := HF.out w' hI; unfold relAt; go_simp; first | exact ⟨rfl, Below.refl _ _⟩ | exact Below.refl _ _ | exact ⟨trivial, Below.refl _ _⟩)
           simp only [Act.put, List.setIfInBounds_toArray, List.set_cons_zero, List.set_cons_succ])
      first
        | (refine wpRel_pass (by rfl) (fun U => by rfl) ?_; simp only [Act.put, List.setIfInBounds_toArray, List.set_cons_zero, List.set_cons_succ])
        | (refine' wpRel_fix (by rfl) (fun U => by rfl) (fun m U w' hI hG => ?_) ?_
           rotate_left
           focus (have hf := HF.out w' hI; unfold relAt; go_simp; first | exact ⟨rfl, Below.refl _ _⟩ | exact Below.refl _ _ | exact ⟨trivial, Below.refl _ _⟩)
           simp only [Act.put, List.setIfInBounds_toArray, List.set_cons_zero, List.set_cons_succ])
      first
        | (refine wpRel_pass (by rfl) (fun U => by rfl) ?_; simp only [Act.put, List.setIfInBounds_toArray, List.set_cons_zero, List.set_cons_succ])
        | (refine' wpRel_fix (by rfl) (fun U => by rfl) (fun m U w' hI hG => ?_) ?_
           rotate_left
           focus (have hf := HF.out w' hI; unfold relAt; go_simp; first | exact ⟨rfl, Below.refl _ _⟩ | exact Below.refl _ _ | exact ⟨trivial, Below.refl _ _⟩)
           simp only [Act.put, List.setIfInBounds_toArray, List.set_cons_zero, List.set_cons_succ])
      refine wpRel_rel (RowOf 3 (max xs[k] ys[k])) rfl (RowOf.stable _ _) (by rfl) (fun U => by rfl) (fun m U w' hI hG => ?_) ?_
      · unfold relAt
        go_simp
        exact ⟨⟨w'.heap.size, rfl, heap_alloc_new w' _⟩, (Below.refl _ _).alloc (Nat.le_refl _) _⟩
      simp only [Act.put, List.setIfInBounds_toArray, List.set_cons_zero, List.set_cons_succ]
      intro U w1 hI hG
      obtain ⟨g, hv, hg⟩ := hG _ (List.Mem.head _)
      simp only at hv
      simp only [hv]
      have hG1 := HG.out.later (Nat.le_refl _) (show Below w0.heap.size w0 w1 from hI)
      have HG1 := Lib.hid hG1
      have HM := Lib.hid (one_row (e' := 3) l (max xs[k] ys[k]) hg hG1.own trivial (fun b hb => by cases hb) hll hG1.bel.size)
      clear hI hG hv hg hG1 hll
      go_wp2_with (at_builtin; refine wpList_append_one rfl _ _ 40 rfl _ 3 elem_int l rfl g (max xs[k] ys[k]) rfl HM.out ?_)
      intro l' w5 hap
      have HAP := Lib.hid hap
      clear hap
      go_wp2_with fail
      go_roundw
      case rel =>
        refine ⟨k + 1, l', by omega, by go_num, rfl, ?_, HG1.out.step (Nat.le_refl _) HAP.out ?_ ?_ ?_⟩
        · rw [HAP.out.xs, HL.out, joinV_get hlt hlt2]
        · simpa [Dat.fp] using Fr.nil _ _
        · intro a _ b hb; simp [Dat.fp] at hb
        · intro y _ b hb; cases hb
      case measure => simp [intOf]; omega
    · have hkk : k = 3 := by omega
      subst hkk
      go_wp2_with fail
      go_ret
      obtain ⟨d1, d2⟩ := HG.out.done
      exact ⟨l, rfl, by rw [HL.out, List.take_of_length_le (by rw [HJL.out, HL3.out]; exact Nat.le_refl _)], d1, d2, HG.out.bel⟩
theorem sl1Join_3 (x y : Loc Int) (w : World) (hx : x.At w) (hy : y.At w) (hle : x.xs.length = y.xs.length) (h3 : x.xs.length ≤ 3 ∧ 3 ≤ x.xs.length) :
    Calls Tryz.prog 93 #[x.val, y.val] w (NewPost w (fun ys : List Int => ys = joinV x.xs y.xs)) := sl1Join_any x y w hx hy hle (by omega) (by omega)
set_option maxRecDepth 100000 in
set_option maxHeartbeats 1000000 in
theorem sl2Vv_any (x : Loc LSib) (w : World) (hx : x.At w) (hk : x.xs.map LSib.er = [] ∨ SibsOK (x.xs.map LSib.er)) :
    Calls Tryz.prog 61 #[x.val] w (NewPost w (fun ys : List Int => ys = vvOf (x.xs.map LSib.er))) := by
  obtain ⟨xa, xc, xs⟩ := x
  simp only [Loc.val]
  simp only at hk
  obtain ⟨h3, h12⟩ := sibsOk_len3 hk
  have h1 : xs.length ≤ 9223372036854775807 := by omega
  have HX := Lib.hid hx
  have H3 := Lib.hid h3
  clear hx h3
  obtain ⟨i0, hi, hz, hs, hb⟩ := info_parts int_info
  have HS := Lib.hid hs
  have HI := Lib.hid hi
  have HZ := Lib.hid hz
  have HM := Lib.hid (show i0.bytes * 3 ≤ 281474976710656 by rw [hb]; omega)
  clear hi hz hs hb
  have HC : Hid (madeCells (Value.int .i64 0).cells (3 * i0.size) = #[.int .i64 0, .int .i64 0, .int .i64 0]) := Lib.hid (by rw [HS.out]; kernel_rfl)
  have HA0 : Hid (Loc.At (w.alloc (.cells (madeCells (Value.int .i64 0).cells (3 * i0.size)) 3)) (⟨some ⟨w.heap.size, 0, none⟩, 3, [0, 0, 0]⟩ : Loc Int)) := Lib.hid (by
    rw [HC.out]; exact new_At (α := Int) w [0, 0, 0] #[.int .i64 0, .int .i64 0, .int .i64 0] 3 rfl (by decide) (fun _ _ => trivial))
  have HF0 : Hid (Fr w.heap.size (w.alloc (.cells (madeCells (Value.int .i64 0).cells (3 * i0.size)) 3)) (⟨some ⟨w.heap.size, 0, none⟩, 3, [0, 0, 0]⟩ : Loc Int).fp) := Lib.hid (by
    refine ⟨fun b hb => ?_, by simp [Loc.fp, Loc.blk, Dat.fp], fun b hb => ?_⟩
    · simp [Loc.fp, Loc.blk, Dat.fp] at hb; subst hb; simp
    · simp [Loc.fp, Loc.blk, Dat.fp] at hb; subst hb; exact ⟨_, _, heap_alloc_new w _⟩)
  have HB0 := Lib.hid ((Below.refl w.heap.size w).alloc (Nat.le_refl _) (Obj.cells (madeCells (Value.int .i64 0).cells (3 * i0.size)) 3))
  go_enter Tryz.func61, Tryz.ntmps61
  go_wp2_with (at_make; refine wpList_make_exact _ rfl _ _ _ rfl _ i0 _ Tryz.underlying40 HI.out HZ.out .i64 .i64 3 rfl rfl HM.out (by decide) ?_)
  go_loopw [3, 4] (fun o i wr => ∃ (k : Nat) (l : Loc Int), k ≤ xs.length ∧ i = .int .i64 k ∧ o = l.val ∧ l.xs = vvOf ((xs.take k).map LSib.er) ∧ l.At wr ∧ Fr w.heap.size wr l.fp ∧ Below w.heap.size w wr) (fun _ i _ => xs.length - (intOf i).toNat)
  case atStart => exact ⟨0, ⟨some ⟨w.heap.size, 0, none⟩, 3, [0, 0, 0]⟩, Nat.zero_le _, rfl, rfl, rfl, HA0.out, HF0.out, HB0.out⟩
  case round =>
    obtain ⟨k, l, hk, rfl, rfl, hl, hA, hF, hB⟩ := hrel
    have HL := Lib.hid hl
    have HA := Lib.hid hA
    have HF := Lib.hid hF
    have HB := Lib.hid hB
    have HLL : Hid (l.xs.length = 3) := Lib.hid (by rw [hl]; exact vvOf_len (take_v3 H3.out k))
    clear hl hA hF hB
    by_cases hlt : k < xs.length
    · obtain ⟨a, ao, ha⟩ := HX.out.place hlt
      simp only at ha
      subst ha
      have hc1 := (HX.out.belowAll HB.out).sib rfl hlt
      simp only at hc1
      obtain ⟨c0, c1, c2⟩ := hc1
      have HE := Lib.hid ((HX.out.belowAll HB.out).elem (List.getElem_mem hlt)).1
      have H3K := Lib.hid (H3.out _ (List.getElem_mem hlt))
      have HBX := Lib.hid (Below.refl wr.heap.size wr)
      go_wp2_with fail
      refine (sl1Join_3 l xs[k].vv _ (HA.out.belowAll HBX.out) (HE.out.belowAll HBX.out) (by rw [HLL.out, H3K.out]) (by rw [HLL.out]; first | decide | (constructor <;> decide))).mono ?_
      rintro e w2 ⟨l2, rfl, h2, hA2, hF2, hb2⟩
      have H2 := Lib.hid h2
      have HA2 := Lib.hid hA2
      have HF2 := Lib.hid (hF2.mono (Nat.le_trans HB.out.size HBX.out.size))
      have HB2 := Lib.hid (HB.out.trans ((nextB HBX.out hb2).mono HB.out.size))
      clear h2 hA2 hF2 hb2 c0 c1 c2
      go_wp2_with fail
      go_roundw
      case rel => exact ⟨k + 1, l2, by omega, by go_num, rfl, by rw [H2.out, HL.out, vvOf_next hlt], HA2.out, HF2.out, HB2.out⟩
      case measure => simp [intOf]; omega
    · have hkk : k = xs.length := by omega
      subst hkk
      go_wp2_with fail
      go_ret
      exact ⟨l, rfl, by rw [HL.out, List.take_length], HA.out, HF.out, HB.out⟩
end Go.Proofs.YtdidkfadiaafiaaGreatDoor

namespace Go.Proofs.YtdidkfadiaafiaaGreatDoor
open Go Go.RowKit

def NextPost (w : World) (v : List Int) (n : Int) (e : Ending) (w' : World) : Prop :=
  ∃ y : Loc Int, e = .returned (.tuple #[y.val, .bool (nextOK v n)]) ∧ (nextOK v n = true → y.xs = nextV v n) ∧ y.At w' ∧ Fr w.heap.size w' y.fp ∧ Below w.heap.size w w'
theorem nil_At {α : Type} [Dat α] (w : World) : Loc.At w (⟨none, 0, []⟩ : Loc α) := ⟨Nat.le_refl _, Nat.zero_le _, by simp, by simp, by simp⟩
theorem nil_Fr {α : Type} [Dat α] (lo : Nat) (w : World) : Fr lo w (⟨none, 0, []⟩ : Loc α).fp := by simpa [Loc.fp, Loc.blk] using Fr.nil _ _

theorem isSite_13 (n a b : Int) (w : World) : Calls Tryz.prog 67 #[.int .i64 n] w fun e w' => e = .returned (.bool (decide (1 ≤ n ∧ n ≤ 3))) ∧ w = w' := isSite_any n w
set_option maxRecDepth 100000 in
set_option maxHeartbeats 1000000 in
theorem vvNext_any (x : Loc Int) (n : Int) (w : World) (hx : x.At w) (hn : -9223372036854775808 ≤ n ∧ n ≤ 9223372036854775807) :
    Calls Tryz.prog 36 #[x.val, .int .i64 n] w (NextPost w x.xs n) := by
  have hc := Lib.hid (isVv_any x w hx)
  have h1 := hx.lenMax
  have HX := Lib.hid hx
  clear hx
  obtain ⟨xa, xc, xs⟩ := x
  simp only [Loc.val] at hc h1 ⊢
  cases hv : vvB xs with
  | false =>
    have HNO : Hid (nextOK xs n = false) := Lib.hid (by simp [nextOK, hv])
    rw [hv] at hc
    clear hv
    go_enter Tryz.func36, Tryz.ntmps36
    go_wp2_with fail
    refine hc.out.mono ?_
    rintro e w1 ⟨rfl, rfl⟩
    have B1 := Lib.hid (Below.refl w.heap.size w)
    go_wp2_with fail
    refine bodyPost_ret (v := .tuple #[.slice none 0 0, .bool false]) ?_ rfl ⟨⟨none, 0, []⟩, by rw [HNO.out]; rfl, fun h => (by rw [HNO.out] at h; cases h), nil_At _, nil_Fr _ _, B1.out⟩
    simp only [results, Tryz.results36]
    go_simp
  | true =>
    have HV := Lib.hid hv
    rw [hv] at hc
    clear hv
    by_cases hs : 1 ≤ n ∧ n ≤ 3
    · have HS := Lib.hid (decide_eq_true hs)
      obtain ⟨i, hi⟩ : ∃ i, i = siteN n := ⟨_, rfl⟩
      have hni : n = (i : Int) + 1 := by rw [hi]; unfold siteN; omega
      have hi3 : i < xs.length := by
        have := (vvB_iff.1 HV.out).1
        omega
      have HI := Lib.hid hi
      have hw : IntKind.i64.wrap (n - 1) = (i : Int) := by rw [hni, show (i : Int) + 1 - 1 = (i : Int) by omega]; exact IntWalk.i64_in _ (by omega)
      have hii : (i : Int) < (xs.length : Int) := by omega
      obtain ⟨a, ao, ha⟩ := HX.out.place hi3
      simp only at ha
      subst ha
      have hcl := HX.out.int rfl hi3
      simp only at hcl
      have HGD : Hid (xs.getD i 0 = xs[i]) := Lib.hid (by simp [List.getD, hi3])
      have HCN := Lib.hid (isSite_13 n 1 3 w)
      have hin := (vvB_iff.1 HV.out).2 xs[i] (List.getElem_mem hi3)
      clear hs hi hni
      by_cases h30 : xs[i] = 30
      · have he : (xs[i] == 30) = true := by simp [h30]
        have he2 : (30 : Int) ≤ xs[i] := by omega
        have HNO : Hid (nextOK xs n = false) := Lib.hid (by simp only [nextOK, ← HI.out, HGD.out, h30]; simp)
        clear h30
        go_enter Tryz.func36, Tryz.ntmps36
        go_wp2_with fail
        refine hc.out.mono ?_
        rintro e w1 ⟨rfl, rfl⟩
        have B1 := Lib.hid (Below.refl w.heap.size w)
        skip
        go_wp2_with fail
        refine HCN.out.mono ?_
        rintro e w2 ⟨rfl, rfl⟩
        rw [HS.out]
        go_wp2_with fail
        refine bodyPost_ret (v := .tuple #[.slice none 0 0, .bool false]) ?_ rfl ⟨⟨none, 0, []⟩, by rw [HNO.out]; rfl, fun h => (by rw [HNO.out] at h; cases h), nil_At _, nil_Fr _ _, B1.out⟩
        simp only [results, Tryz.results36]
        go_simp
      · have he : (xs[i] == 30) = false := by simp [h30]
        have he2 : ¬ (30 : Int) ≤ xs[i] := by omega
        have HYES : Hid (nextOK xs n = true) := Lib.hid (by
          rw [nextOK_iff, ← HI.out, HGD.out]
          exact ⟨HV.out, of_decide_eq_true HS.out, h30⟩)
        clear h30
        go_enter Tryz.func36, Tryz.ntmps36
        go_wp2_with fail
        refine hc.out.mono ?_
        rintro e w1 ⟨rfl, rfl⟩
        have B1 := Lib.hid (Below.refl w.heap.size w)
        skip
        go_wp2_with fail
        refine HCN.out.mono ?_
        rintro e w2 ⟨rfl, rfl⟩
        rw [HS.out]
        have HO := Lib.hid (Own.made (α := Int) w 3)
        have HB2 := Lib.hid ((Below.refl w.heap.size w).alloc (Nat.le_refl _) (Obj.cells #[] 3))
        go_wp2_with (at_builtin; refine wpList_append_all rfl _ _ 40 rfl w.heap.size 3 elem_int ⟨some ⟨w.heap.size, 0, none⟩, 0, []⟩ rfl HO.out ⟨some ⟨a, ao, none⟩, xc, xs⟩ rfl (HX.out.belowAll HB2.out) (fun z _ b hb => by cases hb) (by have := (vvB_iff.1 HV.out).1; simp only [List.length_nil]; omega) (by simp) ?_)
        intro l' w5 hap
        have hap1 := hap.xs
        have hapo := hap.own
        have HB5 := Lib.hid (hap.below HO.out HB2.out (Nat.le_refl _) (by simp))
        clear hap
        rcases hapo.cases with rfl | ⟨g, cap, ys, cur, rfl, hbg, hg, hcl2, hcm, hcs, htk⟩
        · exfalso
          have h3 := (vvB_iff.1 HV.out).1
          have h4 := congrArg List.length hap1
          simp at h4
          omega
        have hys : ys = xs := by simpa using hap1
        subst hys
        have HA5 := Lib.hid hapo.at_
        have HF5 := Lib.hid (hapo.fr (lo := w.heap.size) (by
          have e : (⟨some ⟨g, 0, none⟩, cap, ys⟩ : Loc Int).xs.flatMap Dat.fp = [] := by rw [List.flatMap_eq_nil_iff]; intro z _; rfl
          rw [e]; exact Fr.nil _ _) (Nat.le_refl _))
        have HBG := Lib.hid hbg
        have c5 := HA5.out.int (b := g) (o := 0) rfl hi3
        have z5 := frozen_of_row _ g i _ _ hg
        have HSTO := Lib.hid (HA5.out.store HF5.out (g := g) (o := 0) (i := i) (j := 0) rfl hi3 (ys[i] + 1) (.int .i64 (ys[i] + 1)) (by decide) rfl rfl trivial)
        have hw1 : IntKind.i64.wrap (ys[i] + 1) = ys[i] + 1 := IntWalk.i64_in _ (by omega)
        simp only [Nat.zero_add] at c5 HSTO
        simp only [Dat.k, Nat.mul_one, Nat.add_zero] at HSTO
        clear hap1 hapo hbg hg hcl2 hcm hcs htk
        simp only [Loc.val]
        go_wp2_with fail
        refine bodyPost_ret (v := .tuple #[.slice (some ⟨g, 0, none⟩) ys.length cap, .bool true]) ?_ rfl ⟨(⟨some ⟨g, 0, none⟩, cap, ys⟩ : Loc Int).re (ys.set i (ys[i] + 1)), ?_, fun _ => ?_, HSTO.out.1, ?_, HB5.out.setCell HBG.out _⟩
        · simp only [results, Tryz.results36]
          go_simp
        · rw [HYES.out]; simp only [Loc.val, Loc.re, List.length_set]
        · show ys.set i (ys[i] + 1) = nextV ys n
          rw [nextV, ← HI.out, HGD.out]
        · have e : ((⟨some ⟨g, 0, none⟩, cap, ys⟩ : Loc Int).re (ys.set i (ys[i] + 1))).fp = (⟨some ⟨g, 0, none⟩, cap, ys⟩ : Loc Int).fp := Loc.re_fp _ _ (map_set_fp hi3 rfl)
          rw [e]; exact HSTO.out.2.1
    · have HS := Lib.hid (decide_eq_false hs)
      have HNO : Hid (nextOK xs n = false) := Lib.hid (by simp only [nextOK, HS.out]; simp)
      have HCN := Lib.hid (isSite_13 n 1 3 w)
      clear hs
      go_enter Tryz.func36, Tryz.ntmps36
      go_wp2_with fail
      refine hc.out.mono ?_
      rintro e w1 ⟨rfl, rfl⟩
      have B1 := Lib.hid (Below.refl w.heap.size w)
      skip
      go_wp2_with fail
      refine HCN.out.mono ?_
      rintro e w2 ⟨rfl, rfl⟩
      rw [HS.out]
      go_wp2_with fail
      refine bodyPost_ret (v := .tuple #[.slice none 0 0, .bool false]) ?_ rfl ⟨⟨none, 0, []⟩, by rw [HNO.out]; rfl, fun h => (by rw [HNO.out] at h; cases h), nil_At _, nil_Fr _ _, B1.out⟩
      simp only [results, Tryz.results36]
      go_simp
theorem sVvIn_13 (n a b : Int) (w : World) : Calls Tryz.prog 89 #[.int .i64 n, .int .i64 1, .int .i64 3] w fun e w' => e = .returned (.bool (decide (1 ≤ n ∧ n ≤ 3))) ∧ w = w' := l6In_any n 1 3 w
set_option maxRecDepth 100000 in
set_option maxHeartbeats 1000000 in
theorem sVvNext_any (x : Loc Int) (n : Int) (w : World) (hx : x.At w) (hn : -9223372036854775808 ≤ n ∧ n ≤ 9223372036854775807) :
    Calls Tryz.prog 60 #[x.val, .int .i64 n] w (NextPost w x.xs n) := by
  have hc := Lib.hid (sVvOk_any x w hx)
  have h1 := hx.lenMax
  have HX := Lib.hid hx
  clear hx
  obtain ⟨xa, xc, xs⟩ := x
  simp only [Loc.val] at hc h1 ⊢
  cases hv : vvB xs with
  | false =>
    have HNO : Hid (nextOK xs n = false) := Lib.hid (by simp [nextOK, hv])
    rw [hv] at hc
    clear hv
    go_enter Tryz.func60, Tryz.ntmps60
    go_wp2_with fail
    refine hc.out.mono ?_
    rintro e w1 ⟨rfl, rfl⟩
    have B1 := Lib.hid (Below.refl w.heap.size w)
    have HGN := Lib.hid (Grows.start (α := Int) w 3)
    go_wp2_with fail
    refine bodyPost_ret (v := .tuple #[.slice (some ⟨w.heap.size, 0, none⟩) 0 0, .bool false]) ?_ rfl ⟨⟨some ⟨w.heap.size, 0, none⟩, 0, []⟩, by rw [HNO.out]; rfl, fun h => (by rw [HNO.out] at h; cases h), HGN.out.done.1, HGN.out.done.2.mono B1.out.size, nextB B1.out HGN.out.bel⟩
    simp only [results, Tryz.results60]
    go_simp
  | true =>
    have HV := Lib.hid hv
    rw [hv] at hc
    clear hv
    by_cases hs : 1 ≤ n ∧ n ≤ 3
    · have HS := Lib.hid (decide_eq_true hs)
      obtain ⟨i, hi⟩ : ∃ i, i = siteN n := ⟨_, rfl⟩
      have hni : n = (i : Int) + 1 := by rw [hi]; unfold siteN; omega
      have hi3 : i < xs.length := by
        have := (vvB_iff.1 HV.out).1
        omega
      have HI := Lib.hid hi
      have hw : IntKind.i64.wrap (n - 1) = (i : Int) := by rw [hni, show (i : Int) + 1 - 1 = (i : Int) by omega]; exact IntWalk.i64_in _ (by omega)
      have hii : (i : Int) < (xs.length : Int) := by omega
      obtain ⟨a, ao, ha⟩ := HX.out.place hi3
      simp only at ha
      subst ha
      have hcl := HX.out.int rfl hi3
      simp only at hcl
      have HGD : Hid (xs.getD i 0 = xs[i]) := Lib.hid (by simp [List.getD, hi3])
      have HCN := Lib.hid (sVvIn_13 n 1 3 w)
      have hin := (vvB_iff.1 HV.out).2 xs[i] (List.getElem_mem hi3)
      clear hs hi hni
      by_cases h30 : xs[i] = 30
      · have he : (xs[i] == 30) = true := by simp [h30]
        have he2 : (30 : Int) ≤ xs[i] := by omega
        have HNO : Hid (nextOK xs n = false) := Lib.hid (by simp only [nextOK, ← HI.out, HGD.out, h30]; simp)
        clear h30
        go_enter Tryz.func60, Tryz.ntmps60
        go_wp2_with fail
        refine hc.out.mono ?_
        rintro e w1 ⟨rfl, rfl⟩
        have B1 := Lib.hid (Below.refl w.heap.size w)
        skip
        go_wp2_with fail
        refine HCN.out.mono ?_
        rintro e w2 ⟨rfl, rfl⟩
        rw [HS.out]
        have HGN := Lib.hid (Grows.start (α := Int) w 3)
        go_wp2_with fail
        refine bodyPost_ret (v := .tuple #[.slice (some ⟨w.heap.size, 0, none⟩) 0 0, .bool false]) ?_ rfl ⟨⟨some ⟨w.heap.size, 0, none⟩, 0, []⟩, by rw [HNO.out]; rfl, fun h => (by rw [HNO.out] at h; cases h), HGN.out.done.1, HGN.out.done.2.mono B1.out.size, nextB B1.out HGN.out.bel⟩
        simp only [results, Tryz.results60]
        go_simp
      · have he : (xs[i] == 30) = false := by simp [h30]
        have he2 : ¬ (30 : Int) ≤ xs[i] := by omega
        have HYES : Hid (nextOK xs n = true) := Lib.hid (by
          rw [nextOK_iff, ← HI.out, HGD.out]
          exact ⟨HV.out, of_decide_eq_true HS.out, h30⟩)
        clear h30
        go_enter Tryz.func60, Tryz.ntmps60
        go_wp2_with fail
        refine hc.out.mono ?_
        rintro e w1 ⟨rfl, rfl⟩
        have B1 := Lib.hid (Below.refl w.heap.size w)
        skip
        go_wp2_with fail
        refine HCN.out.mono ?_
        rintro e w2 ⟨rfl, rfl⟩
        rw [HS.out]
        have HO := Lib.hid (Own.made (α := Int) w 3)
        have HB2 := Lib.hid ((Below.refl w.heap.size w).alloc (Nat.le_refl _) (Obj.cells #[] 3))
        go_wp2_with (at_builtin; refine wpList_append_all rfl _ _ 40 rfl w.heap.size 3 elem_int ⟨some ⟨w.heap.size, 0, none⟩, 0, []⟩ rfl HO.out ⟨some ⟨a, ao, none⟩, xc, xs⟩ rfl (HX.out.belowAll HB2.out) (fun z _ b hb => by cases hb) (by have := (vvB_iff.1 HV.out).1; simp only [List.length_nil]; omega) (by simp) ?_)
        intro l' w5 hap
        have hap1 := hap.xs
        have hapo := hap.own
        have HB5 := Lib.hid (hap.below HO.out HB2.out (Nat.le_refl _) (by simp))
        clear hap
        rcases hapo.cases with rfl | ⟨g, cap, ys, cur, rfl, hbg, hg, hcl2, hcm, hcs, htk⟩
        · exfalso
          have h3 := (vvB_iff.1 HV.out).1
          have h4 := congrArg List.length hap1
          simp at h4
          omega
        have hys : ys = xs := by simpa using hap1
        subst hys
        have HA5 := Lib.hid hapo.at_
        have HF5 := Lib.hid (hapo.fr (lo := w.heap.size) (by
          have e : (⟨some ⟨g, 0, none⟩, cap, ys⟩ : Loc Int).xs.flatMap Dat.fp = [] := by rw [List.flatMap_eq_nil_iff]; intro z _; rfl
          rw [e]; exact Fr.nil _ _) (Nat.le_refl _))
        have HBG := Lib.hid hbg
        have c5 := HA5.out.int (b := g) (o := 0) rfl hi3
        have z5 := frozen_of_row _ g i _ _ hg
        have HSTO := Lib.hid (HA5.out.store HF5.out (g := g) (o := 0) (i := i) (j := 0) rfl hi3 (ys[i] + 1) (.int .i64 (ys[i] + 1)) (by decide) rfl rfl trivial)
        have hw1 : IntKind.i64.wrap (ys[i] + 1) = ys[i] + 1 := IntWalk.i64_in _ (by omega)
        simp only [Nat.zero_add] at c5 HSTO
        simp only [Dat.k, Nat.mul_one, Nat.add_zero] at HSTO
        clear hap1 hapo hbg hg hcl2 hcm hcs htk
        simp only [Loc.val]
        go_wp2_with fail
        refine bodyPost_ret (v := .tuple #[.slice (some ⟨g, 0, none⟩) ys.length cap, .bool true]) ?_ rfl ⟨(⟨some ⟨g, 0, none⟩, cap, ys⟩ : Loc Int).re (ys.set i (ys[i] + 1)), ?_, fun _ => ?_, HSTO.out.1, ?_, HB5.out.setCell HBG.out _⟩
        · simp only [results, Tryz.results60]
          go_simp
        · rw [HYES.out]; simp only [Loc.val, Loc.re, List.length_set]
        · show ys.set i (ys[i] + 1) = nextV ys n
          rw [nextV, ← HI.out, HGD.out]
        · have e : ((⟨some ⟨g, 0, none⟩, cap, ys⟩ : Loc Int).re (ys.set i (ys[i] + 1))).fp = (⟨some ⟨g, 0, none⟩, cap, ys⟩ : Loc Int).fp := Loc.re_fp _ _ (map_set_fp hi3 rfl)
          rw [e]; exact HSTO.out.2.1
    · have HS := Lib.hid (decide_eq_false hs)
      have HNO : Hid (nextOK xs n = false) := Lib.hid (by simp only [nextOK, HS.out]; simp)
      have HCN := Lib.hid (sVvIn_13 n 1 3 w)
      clear hs
      go_enter Tryz.func60, Tryz.ntmps60
      go_wp2_with fail
      refine hc.out.mono ?_
      rintro e w1 ⟨rfl, rfl⟩
      have B1 := Lib.hid (Below.refl w.heap.size w)
      skip
      go_wp2_with fail
      refine HCN.out.mono ?_
      rintro e w2 ⟨rfl, rfl⟩
      rw [HS.out]
      have HGN := Lib.hid (Grows.start (α := Int) w 3)
      go_wp2_with fail
      refine bodyPost_ret (v := .tuple #[.slice (some ⟨w.heap.size, 0, none⟩) 0 0, .bool false]) ?_ rfl ⟨⟨some ⟨w.heap.size, 0, none⟩, 0, []⟩, by rw [HNO.out]; rfl, fun h => (by rw [HNO.out] at h; cases h), HGN.out.done.1, HGN.out.done.2.mono B1.out.size, nextB B1.out HGN.out.bel⟩
      simp only [results, Tryz.results60]
      go_simp
end Go.Proofs.YtdidkfadiaafiaaGreatDoor
