/- Trees anew: copyTree of the program, l3Copy of the reference. A file put in its place: the reference's l3Put. -/
import Derived.Test.YtdidkfadiaafiaaGreatDoorVvOps
import Derived.Test.YtdidkfadiaafiaaGreatDoorAtZ
import Derived.Test.YtdidkfadiaafiaaGreatDoorPureT
import Derived.Shelf.SlSorted.Search
namespace Go.Proofs.YtdidkfadiaafiaaGreatDoor
open Go Go.RowKit

def SibsV (lo : Nat) (E : List Sib) (f : Loc LSib → Value) (v : Value) (W : World) : Prop := ∃ y : Loc LSib, v = f y ∧ y.xs.map LSib.er = E ∧ y.At W ∧ Fr lo W y.fp
theorem SibsV.stable (lo : Nat) (E : List Sib) (f : Loc LSib → Value) : StableR (SibsV lo E f) := fun _ _ _ hb ⟨y, h1, h2, h3, h4⟩ => ⟨y, h1, h2, h3.belowAll hb, h4.belowAll hb⟩
/-- A file's own block. -/
def RowF (lo : Nat) (nm : ByteArray) (E : List Sib) (v : Value) (W : World) : Prop :=
  ∃ (y : Loc LSib) (g : Nat), v = .slice (some ⟨g, 0, none⟩) 1 1 ∧ y.xs.map LSib.er = E ∧ y.At W ∧ Fr lo W y.fp ∧ W.heap[g]? = some (.cells #[.string nm, y.val] 58 (0, 0))
theorem RowF.stable (lo : Nat) (nm : ByteArray) (E : List Sib) : StableR (RowF lo nm E) := fun _ _ _ hb ⟨y, g, h1, h2, h3, h4, h5⟩ =>
  ⟨y, g, h1, h2, h3.belowAll hb, h4.belowAll hb, (hb.block g (Array.getElem?_eq_some_iff.1 h5).1).trans h5⟩
/-- Files whose lists are lists, or empty. -/
def filesK (l : List File) : Prop := ∀ f ∈ l, f.sibs = [] ∨ SibsOK f.sibs
theorem TreeOK.filesK {t : List File} (h : TreeOK t) : filesK t := fun f hf => .inr (h.sib f hf)

theorem copySibs_k (x : Loc LSib) (w : World) (hx : x.At w) (hk : x.xs.map LSib.er = [] ∨ SibsOK (x.xs.map LSib.er)) :
    Calls Tryz.prog 52 #[x.val] w (NewPost w (fun ys : List LSib => ys.map LSib.er = x.xs.map LSib.er)) := by
  obtain ⟨h3, h12⟩ := sibsOk_len3 hk
  exact copySibs_any x w hx (by omega) (fun s hs => by have := h3 s hs; omega)

set_option maxRecDepth 100000 in
set_option maxHeartbeats 2000000 in
theorem copyTree_any (x : Loc LFile) (w : World) (hx : x.At w) (hn : x.xs.length ≤ 1000) (hk : filesK (x.xs.map LFile.er)) :
    Calls Tryz.prog 34 #[x.val] w (NewOwn 58 w (fun ys : List LFile => ys.map LFile.er = x.xs.map LFile.er)) := by
  obtain ⟨xa, xc, xs⟩ := x
  simp only [Loc.val]
  simp only at hk hn
  have h1 : xs.length ≤ 9223372036854775807 := by omega
  have HX := Lib.hid hx
  have HK := Lib.hid hk
  have HG0 := Lib.hid (Grows.start (α := LFile) w 58)
  clear hx hk
  go_enter Tryz.func34, Tryz.ntmps34
  go_wp2_with fail
  go_loopw [3, 9] (fun o i wr => ∃ (k : Nat) (l : Loc LFile), k ≤ xs.length ∧ i = .int .i64 k ∧ o = l.val ∧ l.xs.map LFile.er = (xs.take k).map LFile.er ∧ Grows w.heap.size 58 w l wr) (fun _ i _ => xs.length - (intOf i).toNat)
  case atStart => exact ⟨0, _, Nat.zero_le _, rfl, rfl, rfl, HG0.out⟩
  case round =>
    obtain ⟨k, l, hk, rfl, rfl, hl, hG⟩ := hrel
    have HL := Lib.hid hl
    have HGR := Lib.hid hG
    have hll : l.xs.length ≤ 1000 := by
      have h := congrArg List.length hl
      simp only [List.length_map, List.length_take] at h
      omega
    clear hl hG
    by_cases hlt : k < xs.length
    · obtain ⟨a, ao, ha⟩ := HX.out.place hlt
      simp only at ha
      subst ha
      have HSO := Lib.hid (show xs[k].sibs.xs.map LSib.er = [] ∨ SibsOK (xs[k].sibs.xs.map LSib.er) from HK.out xs[k].er (List.mem_map.2 ⟨_, List.getElem_mem hlt, rfl⟩))
      have hnm := Lib.hid (show xs[k].name.size ≤ maxLen from (HX.out.elem (List.getElem_mem hlt)).2)
      have hc1 := (HX.out.belowAll HGR.out.bel).file rfl hlt
      simp only at hc1
      obtain ⟨c0, c1⟩ := hc1
      have hbx := (Below.refl wr.heap.size wr).alloc (Nat.le_refl _) (Obj.cells #[.string xs[k].name, xs[k].sibs.val] 58)
      have HES := Lib.hid (((HX.out.belowAll HGR.out.bel).elem (List.getElem_mem hlt)).1.belowAll hbx)
      have HBX := Lib.hid (Boxed.new wr #[.string xs[k].name, xs[k].sibs.val] 58)
      have HGW := Lib.hid (HGR.out.later (Nat.le_refl _) hbx)
      have HSZ := Lib.hid hbx.size
      go_wp2_with fail
      generalize wr.alloc (Obj.cells #[.string xs[k].name, xs[k].sibs.val] 58) = w0 at *
      have HF : Hid (∀ w', Below w0.heap.size w0 w' → w'.cell? ⟨wr.heap.size, 0, none⟩ = some (.string xs[k].name) ∧ w'.cell? ⟨wr.heap.size, 1, none⟩ = some xs[k].sibs.val) := Lib.hid (fun w' h => ⟨(HBX.out.keep h).2 0 _ rfl, (HBX.out.keep h).2 1 _ rfl⟩)
      clear hbx c0 c1
      refine wp_region_rel 8 (by kernel_rfl) (by kernel_rfl) (by rfl) ?_
      simp only [List.take_succ_cons, List.take_zero, List.drop_succ_cons, List.drop_zero]
      first
        | (refine wpRel_pass (by rfl) (fun U => by rfl) ?_; simp only [Act.put, List.setIfInBounds_toArray, List.set_cons_zero, List.set_cons_succ])
        | (refine' wpRel_fix (by rfl) (fun U => by rfl) (fun m U w' hI hG => ?_) ?_
           rotate_left
           focus (have hf := HF.out w' hI; unfold relAt; go_simp; first | exact ⟨rfl, Below.refl _ _⟩ | exact Below.refl _ _ | exact ⟨trivial, Below.refl _ _⟩)
           simp only [Act.put, List.setIfInBounds_toArray, List.set_cons_zero, List.set_cons_succ])
      first
        | (refine wpRel_pass (by rfl) (fun U => by rfl) ?_; simp only [Act.put, List.setIfInBounds_toArray, List.set_cons_zero, List.set_cons_succ])
        | (refine' wpRel_fix (by rfl) (fun U => by rfl) (fun m U w' hI hG => ?_) ?_
           rotate_left
           focus (have hf := HF.out w' hI; unfold relAt; go_simp; first | exact ⟨rfl, Below.refl _ _⟩ | exact Below.refl _ _ | exact ⟨trivial, Below.refl _ _⟩)
           simp only [Act.put, List.setIfInBounds_toArray, List.set_cons_zero, List.set_cons_succ])
      first
        | (refine wpRel_pass (by rfl) (fun U => by rfl) ?_; simp only [Act.put, List.setIfInBounds_toArray, List.set_cons_zero, List.set_cons_succ])
        | (refine' wpRel_fix (by rfl) (fun U => by rfl) (fun m U w' hI hG => ?_) ?_
           rotate_left
           focus (have hf := HF.out w' hI; unfold relAt; go_simp; first | exact ⟨rfl, Below.refl _ _⟩ | exact Below.refl _ _ | exact ⟨trivial, Below.refl _ _⟩)
           simp only [Act.put, List.setIfInBounds_toArray, List.set_cons_zero, List.set_cons_succ])
      first
        | (refine wpRel_pass (by rfl) (fun U => by rfl) ?_; simp only [Act.put, List.setIfInBounds_toArray, List.set_cons_zero, List.set_cons_succ])
        | (refine' wpRel_fix (by rfl) (fun U => by rfl) (fun m U w' hI hG => ?_) ?_
           rotate_left
           focus (have hf := HF.out w' hI; unfold relAt; go_simp; first | exact ⟨rfl, Below.refl _ _⟩ | exact Below.refl _ _ | exact ⟨trivial, Below.refl _ _⟩)
           simp only [Act.put, List.setIfInBounds_toArray, List.set_cons_zero, List.set_cons_succ])
      first
        | (refine wpRel_pass (by rfl) (fun U => by rfl) ?_; simp only [Act.put, List.setIfInBounds_toArray, List.set_cons_zero, List.set_cons_succ])
        | (refine' wpRel_fix (by rfl) (fun U => by rfl) (fun m U w' hI hG => ?_) ?_
           rotate_left
           focus (have hf := HF.out w' hI; unfold relAt; go_simp; first | exact ⟨rfl, Below.refl _ _⟩ | exact Below.refl _ _ | exact ⟨trivial, Below.refl _ _⟩)
           simp only [Act.put, List.setIfInBounds_toArray, List.set_cons_zero, List.set_cons_succ])
      refine wpRel_rel (SibsV w0.heap.size (xs[k].sibs.xs.map LSib.er) Loc.val) rfl (SibsV.stable _ _ _) (by rfl) (fun U => by rfl) (fun m U w' hI hG => ?_) ?_
      · have hf := HF.out w' hI
        unfold relAt
        go_simp
        refine (copySibs_k xs[k].sibs w' (HES.out.belowAll hI) HSO.out).mono fun e w'' ⟨y, h1, h2, h3, h4, h5⟩ => ⟨⟨_, h1, y, rfl, h2, h3, h4.mono hI.size⟩, h5⟩
      simp only [Act.put, List.setIfInBounds_toArray, List.set_cons_zero, List.set_cons_succ]
      refine wpRel_rel (SibsV w0.heap.size (xs[k].sibs.xs.map LSib.er) (fun y => .agg #[.string xs[k].name, y.val])) rfl (SibsV.stable _ _ _) (by rfl) (fun U => by rfl) (fun m U w' hI hG => ?_) ?_
      · obtain ⟨y, hy, h2, h3, h4⟩ := hG _ (List.Mem.head _) (by rfl)
        simp only at hy
        unfold relAt
        simp only [hy, Loc.val]
        go_simp
        exact ⟨⟨y, rfl, h2, h3, h4⟩, Below.refl _ _⟩
      simp only [Act.put, List.setIfInBounds_toArray, List.set_cons_zero, List.set_cons_succ]
      refine wpRel_rel (RowF w0.heap.size xs[k].name (xs[k].sibs.xs.map LSib.er)) rfl (RowF.stable _ _ _) (by rfl) (fun U => by rfl) (fun m U w' hI hG => ?_) ?_
      · obtain ⟨y, hy, h2, h3, h4⟩ := hG _ (List.Mem.head _) (by rfl)
        simp only at hy
        unfold relAt
        simp only [hy, Loc.val]
        go_simp
        have hb := (Below.refl w'.heap.size w').alloc (Nat.le_refl _) (Obj.cells #[.string xs[k].name, .slice y.a y.xs.length y.cap] 58)
        exact ⟨⟨y, w'.heap.size, rfl, h2, h3.belowAll hb, h4.belowAll hb, heap_alloc_new w' _⟩, hb⟩
      simp only [Act.put, List.setIfInBounds_toArray, List.set_cons_zero, List.set_cons_succ]
      intro U w1 hI hG
      obtain ⟨y, g, hv, h2, h3, h4, h5⟩ := hG _ (List.Mem.head _)
      simp only at hv
      simp only [hv]
      have HG1 := Lib.hid (HGW.out.later (Nat.le_refl _) hI)
      have HE := Lib.hid h2
      have HYF := Lib.hid (h4.mono HSZ.out)
      have hoff : ∀ b ∈ Dat.fp (⟨xs[k].name, y⟩ : LFile), b ∉ l.xs.flatMap Dat.fp ∧ some b ≠ l.val.ownBlock := by
        intro b hb
        have h6 := h4.ge b hb
        have h7 := HSZ.out
        refine ⟨fun h => ?_, fun h => ?_⟩
        · have := HGR.out.fr.lt b h; omega
        · have := (HGR.out.own.lt b h.symm).2; omega
      have HOFF := Lib.hid hoff
      have HM := Lib.hid (one_row (W := w1) (e' := 58) l (⟨xs[k].name, y⟩ : LFile) h5 HG1.out.own ⟨h3, hnm.out⟩ (fun b hb => (hoff b hb).2) (by omega) HG1.out.bel.size)
      clear hI hG hv h2 h3 h4 h5 hoff
      go_wp2_with (at_builtin; refine wpList_append_one rfl _ _ 24 rfl _ 58 elem_file l rfl g (⟨xs[k].name, y⟩ : LFile) rfl HM.out ?_)
      intro l' w5 hap
      have HAP := Lib.hid hap
      clear hap
      go_wp2_with fail
      go_roundw
      case rel =>
        refine ⟨k + 1, l', by omega, by go_num, rfl, ?_, HG1.out.step (Nat.le_refl _) HAP.out ?_ ?_ ?_⟩
        · rw [HAP.out.xs, List.map_append, HL.out, List.take_succ_eq_append_getElem hlt, List.map_append, List.map_singleton, List.map_singleton]
          simp only [LFile.er, HE.out]
        · simp only [List.flatMap_cons, List.flatMap_nil, List.append_nil]; exact HYF.out.mono HGR.out.bel.size
        · intro a ha b hb
          simp only [List.flatMap_cons, List.flatMap_nil, List.append_nil] at hb
          rintro rfl
          exact (HOFF.out a hb).1 ha
        · intro y hy b hb; rw [List.mem_singleton.1 hy] at hb; exact (HOFF.out b hb).2
      case measure => simp [intOf]; omega
    · have hkk : k = xs.length := by omega
      subst hkk
      go_wp2_with fail
      go_ret
      exact ⟨l, rfl, by show l.xs.map LFile.er = xs.map LFile.er; rw [HL.out, List.take_length], HGR.out.own, HGR.out.fr, HGR.out.bel⟩
set_option maxRecDepth 100000 in
set_option maxHeartbeats 2000000 in
theorem l3Copy_any (x : Loc LFile) (w : World) (hx : x.At w) (hn : x.xs.length ≤ 1000) (hk : filesK (x.xs.map LFile.er)) :
    Calls Tryz.prog 31 #[x.val] w (NewOwn 58 w (fun ys : List LFile => ys.map LFile.er = x.xs.map LFile.er)) := by
  obtain ⟨xa, xc, xs⟩ := x
  simp only [Loc.val]
  simp only at hk hn
  have h1 : xs.length ≤ 9223372036854775807 := by omega
  have HX := Lib.hid hx
  have HK := Lib.hid hk
  have HG0 := Lib.hid (Grows.start (α := LFile) w 58)
  clear hx hk
  go_enter Tryz.func31, Tryz.ntmps31
  go_wp2_with fail
  go_loopw [3, 4] (fun o i wr => ∃ (k : Nat) (l : Loc LFile), k ≤ xs.length ∧ i = .int .i64 k ∧ o = l.val ∧ l.xs.map LFile.er = (xs.take k).map LFile.er ∧ Grows w.heap.size 58 w l wr) (fun _ i _ => xs.length - (intOf i).toNat)
  case atStart => exact ⟨0, _, Nat.zero_le _, rfl, rfl, rfl, HG0.out⟩
  case round =>
    obtain ⟨k, l, hk, rfl, rfl, hl, hG⟩ := hrel
    have HL := Lib.hid hl
    have HGR := Lib.hid hG
    have hll : l.xs.length ≤ 1000 := by
      have h := congrArg List.length hl
      simp only [List.length_map, List.length_take] at h
      omega
    clear hl hG
    by_cases hlt : k < xs.length
    · obtain ⟨a, ao, ha⟩ := HX.out.place hlt
      simp only at ha
      subst ha
      have HSO := Lib.hid (show xs[k].sibs.xs.map LSib.er = [] ∨ SibsOK (xs[k].sibs.xs.map LSib.er) from HK.out xs[k].er (List.mem_map.2 ⟨_, List.getElem_mem hlt, rfl⟩))
      have hnm := Lib.hid (show xs[k].name.size ≤ maxLen from (HX.out.elem (List.getElem_mem hlt)).2)
      obtain ⟨w0, hw0⟩ : ∃ w0 : World, w0 = wr := ⟨_, rfl⟩
      subst hw0
      have HA0 := Lib.hid (HX.out.belowAll HGR.out.bel)
      have HES := Lib.hid (HA0.out.elem (List.getElem_mem hlt)).1
      have HGW := Lib.hid HGR.out
      have HSZ : Hid (w0.heap.size ≤ w0.heap.size) := Lib.hid (Nat.le_refl _)
      have HF : Hid (∀ w', Below w0.heap.size w0 w' → w'.cell? ⟨a, ao + k * 2, none⟩ = some (.string xs[k].name) ∧ w'.cell? ⟨a, ao + k * 2 + 1, none⟩ = some xs[k].sibs.val) := Lib.hid (fun w' h => (HA0.out.belowAll h).file rfl hlt)
      go_wp2_with fail
      refine wp_region_rel 14 (by kernel_rfl) (by kernel_rfl) (by rfl) ?_
      simp only [List.take_succ_cons, List.take_zero, List.drop_succ_cons, List.drop_zero]
      first
        | (refine wpRel_pass (by rfl) (fun U => by rfl) ?_; simp only [Act.put, List.setIfInBounds_toArray, List.set_cons_zero, List.set_cons_succ])
        | (refine' wpRel_fix (by rfl) (fun U => by rfl) (fun m U w' hI hG => ?_) ?_
           rotate_left
           focus (have hf := HF.out w' hI; unfold relAt; go_simp; first | exact ⟨rfl, Below.refl _ _⟩ | exact Below.refl _ _ | exact ⟨trivial, Below.refl _ _⟩)
           simp only [Act.put, List.setIfInBounds_toArray, List.set_cons_zero, List.set_cons_succ])
      first
        | (refine wpRel_pass (by rfl) (fun U => by rfl) ?_; simp only [Act.put, List.setIfInBounds_toArray, List.set_cons_zero, List.set_cons_succ])
        | (refine' wpRel_fix (by rfl) (fun U => by rfl) (fun m U w' hI hG => ?_) ?_
           rotate_left
           focus (have hf := HF.out w' hI; unfold relAt; go_simp; first | exact ⟨rfl, Below.refl _ _⟩ | exact Below.refl _ _ | exact ⟨trivial, Below.refl _ _⟩)
           simp only [Act.put, List.setIfInBounds_toArray, List.set_cons_zero, List.set_cons_succ])
      first
        | (refine wpRel_pass (by rfl) (fun U => by rfl) ?_; simp only [Act.put, List.setIfInBounds_toArray, List.set_cons_zero, List.set_cons_succ])
        | (refine' wpRel_fix (by rfl) (fun U => by rfl) (fun m U w' hI hG => ?_) ?_
           rotate_left
           focus (have hf := HF.out w' hI; unfold relAt; go_simp; first | exact ⟨rfl, Below.refl _ _⟩ | exact Below.refl _ _ | exact ⟨trivial, Below.refl _ _⟩)
           simp only [Act.put, List.setIfInBounds_toArray, List.set_cons_zero, List.set_cons_succ])
      first
        | (refine wpRel_pass (by rfl) (fun U => by rfl) ?_; simp only [Act.put, List.setIfInBounds_toArray, List.set_cons_zero, List.set_cons_succ])
        | (refine' wpRel_fix (by rfl) (fun U => by rfl) (fun m U w' hI hG => ?_) ?_
           rotate_left
           focus (have hf := HF.out w' hI; unfold relAt; go_simp; first | exact ⟨rfl, Below.refl _ _⟩ | exact Below.refl _ _ | exact ⟨trivial, Below.refl _ _⟩)
           simp only [Act.put, List.setIfInBounds_toArray, List.set_cons_zero, List.set_cons_succ])
      first
        | (refine wpRel_pass (by rfl) (fun U => by rfl) ?_; simp only [Act.put, List.setIfInBounds_toArray, List.set_cons_zero, List.set_cons_succ])
        | (refine' wpRel_fix (by rfl) (fun U => by rfl) (fun m U w' hI hG => ?_) ?_
           rotate_left
           focus (have hf := HF.out w' hI; unfold relAt; go_simp; first | exact ⟨rfl, Below.refl _ _⟩ | exact Below.refl _ _ | exact ⟨trivial, Below.refl _ _⟩)
           simp only [Act.put, List.setIfInBounds_toArray, List.set_cons_zero, List.set_cons_succ])
      first
        | (refine wpRel_pass (by rfl) (fun U => by rfl) ?_; simp only [Act.put, List.setIfInBounds_toArray, List.set_cons_zero, List.set_cons_succ])
        | (refine' wpRel_fix (by rfl) (fun U => by rfl) (fun m U w' hI hG => ?_) ?_
           rotate_left
           focus (have hf := HF.out w' hI; unfold relAt; go_simp; first | exact ⟨rfl, Below.refl _ _⟩ | exact Below.refl _ _ | exact ⟨trivial, Below.refl _ _⟩)
           simp only [Act.put, List.setIfInBounds_toArray, List.set_cons_zero, List.set_cons_succ])
      first
        | (refine wpRel_pass (by rfl) (fun U => by rfl) ?_; simp only [Act.put, List.setIfInBounds_toArray, List.set_cons_zero, List.set_cons_succ])
        | (refine' wpRel_fix (by rfl) (fun U => by rfl) (fun m U w' hI hG => ?_) ?_
           rotate_left
           focus (have hf := HF.out w' hI; unfold relAt; go_simp; first | exact ⟨rfl, Below.refl _ _⟩ | exact Below.refl _ _ | exact ⟨trivial, Below.refl _ _⟩)
           simp only [Act.put, List.setIfInBounds_toArray, List.set_cons_zero, List.set_cons_succ])
      first
        | (refine wpRel_pass (by rfl) (fun U => by rfl) ?_; simp only [Act.put, List.setIfInBounds_toArray, List.set_cons_zero, List.set_cons_succ])
        | (refine' wpRel_fix (by rfl) (fun U => by rfl) (fun m U w' hI hG => ?_) ?_
           rotate_left
           focus (have hf := HF.out w' hI; unfold relAt; go_simp; first | exact ⟨rfl, Below.refl _ _⟩ | exact Below.refl _ _ | exact ⟨trivial, Below.refl _ _⟩)
           simp only [Act.put, List.setIfInBounds_toArray, List.set_cons_zero, List.set_cons_succ])
      first
        | (refine wpRel_pass (by rfl) (fun U => by rfl) ?_; simp only [Act.put, List.setIfInBounds_toArray, List.set_cons_zero, List.set_cons_succ])
        | (refine' wpRel_fix (by rfl) (fun U => by rfl) (fun m U w' hI hG => ?_) ?_
           rotate_left
           focus (have hf := HF.out w' hI; unfold relAt; go_simp; first | exact ⟨rfl, Below.refl _ _⟩ | exact Below.refl _ _ | exact ⟨trivial, Below.refl _ _⟩)
           simp only [Act.put, List.setIfInBounds_toArray, List.set_cons_zero, List.set_cons_succ])
      first
        | (refine wpRel_pass (by rfl) (fun U => by rfl) ?_; simp only [Act.put, List.setIfInBounds_toArray, List.set_cons_zero, List.set_cons_succ])
        | (refine' wpRel_fix (by rfl) (fun U => by rfl) (fun m U w' hI hG => ?_) ?_
           rotate_left
           focus (have hf := HF.out w' hI; unfold relAt; go_simp; first | exact ⟨rfl, Below.refl _ _⟩ | exact Below.refl _ _ | exact ⟨trivial, Below.refl _ _⟩)
           simp only [Act.put, List.setIfInBounds_toArray, List.set_cons_zero, List.set_cons_succ])
      first
        | (refine wpRel_pass (by rfl) (fun U => by rfl) ?_; simp only [Act.put, List.setIfInBounds_toArray, List.set_cons_zero, List.set_cons_succ])
        | (refine' wpRel_fix (by rfl) (fun U => by rfl) (fun m U w' hI hG => ?_) ?_
           rotate_left
           focus (have hf := HF.out w' hI; unfold relAt; go_simp; first | exact ⟨rfl, Below.refl _ _⟩ | exact Below.refl _ _ | exact ⟨trivial, Below.refl _ _⟩)
           simp only [Act.put, List.setIfInBounds_toArray, List.set_cons_zero, List.set_cons_succ])
      refine wpRel_rel (SibsV w0.heap.size (xs[k].sibs.xs.map LSib.er) Loc.val) rfl (SibsV.stable _ _ _) (by rfl) (fun U => by rfl) (fun m U w' hI hG => ?_) ?_
      · have hf := HF.out w' hI
        unfold relAt
        go_simp
        refine (l3Sibs_any xs[k].sibs w' (HES.out.belowAll hI) HSO.out).mono fun e w'' ⟨y, h1, h2, h3, h4, h5⟩ => ⟨⟨_, h1, y, rfl, h2, h3, h4.mono hI.size⟩, h5⟩
      simp only [Act.put, List.setIfInBounds_toArray, List.set_cons_zero, List.set_cons_succ]
      refine wpRel_rel (SibsV w0.heap.size (xs[k].sibs.xs.map LSib.er) (fun y => .agg #[.string xs[k].name, y.val])) rfl (SibsV.stable _ _ _) (by rfl) (fun U => by rfl) (fun m U w' hI hG => ?_) ?_
      · obtain ⟨y, hy, h2, h3, h4⟩ := hG _ (List.Mem.head _) (by rfl)
        simp only at hy
        unfold relAt
        simp only [hy, Loc.val]
        go_simp
        exact ⟨⟨y, rfl, h2, h3, h4⟩, Below.refl _ _⟩
      simp only [Act.put, List.setIfInBounds_toArray, List.set_cons_zero, List.set_cons_succ]
      refine wpRel_rel (RowF w0.heap.size xs[k].name (xs[k].sibs.xs.map LSib.er)) rfl (RowF.stable _ _ _) (by rfl) (fun U => by rfl) (fun m U w' hI hG => ?_) ?_
      · obtain ⟨y, hy, h2, h3, h4⟩ := hG _ (List.Mem.head _) (by rfl)
        simp only at hy
        unfold relAt
        simp only [hy, Loc.val]
        go_simp
        have hb := (Below.refl w'.heap.size w').alloc (Nat.le_refl _) (Obj.cells #[.string xs[k].name, .slice y.a y.xs.length y.cap] 58)
        exact ⟨⟨y, w'.heap.size, rfl, h2, h3.belowAll hb, h4.belowAll hb, heap_alloc_new w' _⟩, hb⟩
      simp only [Act.put, List.setIfInBounds_toArray, List.set_cons_zero, List.set_cons_succ]
      intro U w1 hI hG
      obtain ⟨y, g, hv, h2, h3, h4, h5⟩ := hG _ (List.Mem.head _)
      simp only at hv
      simp only [hv]
      have HG1 := Lib.hid (HGW.out.later (Nat.le_refl _) hI)
      have HE := Lib.hid h2
      have HYF := Lib.hid (h4.mono HSZ.out)
      have hoff : ∀ b ∈ Dat.fp (⟨xs[k].name, y⟩ : LFile), b ∉ l.xs.flatMap Dat.fp ∧ some b ≠ l.val.ownBlock := by
        intro b hb
        have h6 := h4.ge b hb
        have h7 := HSZ.out
        refine ⟨fun h => ?_, fun h => ?_⟩
        · have := HGR.out.fr.lt b h; omega
        · have := (HGR.out.own.lt b h.symm).2; omega
      have HOFF := Lib.hid hoff
      have HM := Lib.hid (one_row (W := w1) (e' := 58) l (⟨xs[k].name, y⟩ : LFile) h5 HG1.out.own ⟨h3, hnm.out⟩ (fun b hb => (hoff b hb).2) (by omega) HG1.out.bel.size)
      clear hI hG hv h2 h3 h4 h5 hoff
      go_wp2_with (at_builtin; refine wpList_append_one rfl _ _ 24 rfl _ 58 elem_file l rfl g (⟨xs[k].name, y⟩ : LFile) rfl HM.out ?_)
      intro l' w5 hap
      have HAP := Lib.hid hap
      clear hap
      go_wp2_with fail
      go_roundw
      case rel =>
        refine ⟨k + 1, l', by omega, by go_num, rfl, ?_, HG1.out.step (Nat.le_refl _) HAP.out ?_ ?_ ?_⟩
        · rw [HAP.out.xs, List.map_append, HL.out, List.take_succ_eq_append_getElem hlt, List.map_append, List.map_singleton, List.map_singleton]
          simp only [LFile.er, HE.out]
        · simp only [List.flatMap_cons, List.flatMap_nil, List.append_nil]; exact HYF.out.mono HGR.out.bel.size
        · intro a ha b hb
          simp only [List.flatMap_cons, List.flatMap_nil, List.append_nil] at hb
          rintro rfl
          exact (HOFF.out a hb).1 ha
        · intro y hy b hb; rw [List.mem_singleton.1 hy] at hb; exact (HOFF.out b hb).2
      case measure => simp [intOf]; omega
    · have hkk : k = xs.length := by omega
      subst hkk
      go_wp2_with fail
      go_ret
      exact ⟨l, rfl, by show l.xs.map LFile.er = xs.map LFile.er; rw [HL.out, List.take_length], HGR.out.own, HGR.out.fr, HGR.out.bel⟩
end Go.Proofs.YtdidkfadiaafiaaGreatDoor

namespace Go.Proofs.YtdidkfadiaafiaaGreatDoor
open Go Go.RowKit

theorem size_alloc1 (w : World) (o : Obj) : (w.alloc o).heap.size = w.heap.size + 1 := by simp

set_option maxRecDepth 100000 in
set_option maxHeartbeats 4000000 in
theorem l3Put_any (x : Loc LFile) (f : LFile) (w : World) (hx : x.At w) (hs : Dat.At w f) (hn : x.xs.length ≤ 10000) :
    Calls Tryz.prog 63 #[x.val, f.val] w fun e w' => ∃ y : Loc LFile, e = .returned y.val ∧ y.xs = tpL LFile.name f x.xs ∧ Own (w.heap.size + 1) 58 w' y ∧ Below w.heap.size w w' := by
  obtain ⟨xa, xc, xs⟩ := x
  obtain ⟨fn, fs⟩ := f
  show Calls Tryz.prog 63 #[Value.slice xa xs.length xc, Value.agg #[.string fn, fs.val]] w _
  simp only at hn
  have h1 : xs.length ≤ 9223372036854775807 := by omega
  have hW0 : Below w.heap.size w (w.alloc (Obj.cells #[.string fn, fs.val] 58)) := (Below.refl _ _).alloc (Nat.le_refl _) _
  have HW0 := Lib.hid hW0
  have HX0 := Lib.hid (hx.belowAll hW0)
  have HS0 := Lib.hid (Dat.belowAll hs hW0)
  have HLX := Lib.hid (Loc.lt_of_At hx)
  have HLS := Lib.hid (Dat.lt hs)
  have HN := Lib.hid hn
  have HO0 := Lib.hid (Own.made (α := LFile) (w.alloc (Obj.cells #[.string fn, fs.val] 58)) 58)
  have HBX := Lib.hid (fun j => cell_of_row (w.alloc (Obj.cells #[.string fn, fs.val] 58)) w.heap.size j _ _ (0, 0) (heap_alloc_new w _))
  have hS0 : (w.alloc (Obj.cells #[.string fn, fs.val] 58)).heap.size = w.heap.size + 1 := by simp
  clear hx hs hn hW0
  have HS00 := Lib.hid hS0
  clear hS0
  go_enter Tryz.func63, Tryz.ntmps63
  go_wp2_with fail
  generalize hW : w.alloc (Obj.cells #[.string fn, fs.val] 58) = W0 at *
  have HH := Lib.hid hW
  clear hW
  go_loopw [5, 6, 7] (fun o p i wr => ∃ (k : Nat) (l : Loc LFile), k ≤ xs.length ∧ i = .int .i64 k ∧ o = l.val ∧ p = .bool (tpSt LFile.name (⟨fn, fs⟩ : LFile) (xs.take k)).2 ∧ l.xs = (tpSt LFile.name (⟨fn, fs⟩ : LFile) (xs.take k)).1 ∧ Own (w.heap.size + 1) 58 wr l ∧ Below (w.heap.size + 1) W0 wr) (fun _ _ i _ => xs.length - (intOf i).toNat)
  case atStart => exact ⟨0, _, Nat.zero_le _, rfl, rfl, rfl, rfl, by have := HO0.out; rw [HS00.out] at this; exact this, (Below.refl _ _).alloc (by rw [HS00.out]; exact Nat.le_refl _) _⟩
  case round =>
    obtain ⟨k, l, hk, rfl, rfl, rfl, hl, hO, hB⟩ := hrel
    have HL := Lib.hid hl
    have HO := Lib.hid hO
    have HB := Lib.hid hB
    have HC : Hid (∀ W, Below (w.heap.size + 1) W0 W → (∀ i (h : i < xs.length) (a : Nat) (ao : Nat), xa = some ⟨a, ao, none⟩ → W.cell? ⟨a, ao + i * 2, none⟩ = some (.string xs[i].name) ∧ W.cell? ⟨a, ao + i * 2 + 1, none⟩ = some xs[i].sibs.val) ∧
        (W.cell? ⟨w.heap.size, 0, none⟩ = some (.string fn) ∧ W.cell? ⟨w.heap.size, 1, none⟩ = some fs.val) ∧ (∀ y, y = (⟨fn, fs⟩ : LFile) ∨ y ∈ xs → Dat.At W y ∧ ∀ b ∈ Dat.fp y, b < w.heap.size)) := Lib.hid (by
      intro W hW
      have hxW : Loc.At W ⟨xa, xc, xs⟩ := HX0.out.below hW (fun b hb => by have := HLX.out b hb; omega)
      refine ⟨fun i h a ao ha => ?_, ⟨?_, ?_⟩, ?_⟩
      · subst ha; exact hxW.file rfl h
      · rw [hW.cell (by simp), HBX.out]; rfl
      · rw [hW.cell (by simp), HBX.out]; rfl
      · rintro y (rfl | hy)
        · exact ⟨Dat.below HS0.out hW (fun b hb => by have := HLS.out b hb; omega), HLS.out⟩
        · refine ⟨hxW.elem hy, fun b hb => HLX.out b ?_⟩
          exact List.mem_append_right _ (List.mem_flatMap.2 ⟨y, hy, hb⟩))
    have hlen := tpSt_len LFile.name (⟨fn, fs⟩ : LFile) (xs.take k)
    have hll : l.xs.length ≤ 10001 := by
      have h2 := HN.out
      rw [HL.out]
      rw [List.length_take] at hlen
      have : (tpSt LFile.name (⟨fn, fs⟩ : LFile) (xs.take k)).2.toNat ≤ 1 := Bool.toNat_le _
      omega
    have HLL := Lib.hid hll
    clear hl hO hB hlen hll
    by_cases hlt : k < xs.length
    · obtain ⟨a, ao, ha⟩ := HX0.out.place hlt
      simp only at ha
      subst ha
      have hst := tpSt_take (nm := LFile.name) (f := (⟨fn, fs⟩ : LFile)) hlt
      generalize hp : tpSt LFile.name (⟨fn, fs⟩ : LFile) (xs.take k) = r at *
      obtain ⟨ro, rp⟩ := r
      have HST := Lib.hid hst
      have HP := Lib.hid hp
      clear hst hp
      simp only at HL ⊢
      cases hlt2 : strLt xs[k].name fn with
      | true =>
        have HLT := Lib.hid hlt2
        have hbl : Op.bytesLess xs[k].name.toList fn.toList = true := hlt2
        clear hlt2
        cases rp with
        | true =>
          go_wp2_with fail
          have HF : Hid (∀ w', Below wr.heap.size wr w' → (w'.cell? ⟨a, ao + k * 2, none⟩ = some (.string xs[k].name) ∧ w'.cell? ⟨a, ao + k * 2 + 1, none⟩ = some xs[k].sibs.val) ∧ (w'.cell? ⟨w.heap.size, 0, none⟩ = some (.string fn) ∧ w'.cell? ⟨w.heap.size, 1, none⟩ = some fs.val)) := Lib.hid (fun w' h => by
            have := HC.out w' (HB.out.trans (h.mono (by have := HB.out.size; rw [HS00.out] at this; exact this)))
            exact ⟨this.1 k hlt a ao rfl, this.2.1⟩)
          refine wp_region_rel 12 (by kernel_rfl) (by kernel_rfl) (by rfl) ?_
          simp only [List.take_succ_cons, List.take_zero, List.drop_succ_cons, List.drop_zero]
          first
            | (refine wpRel_pass (by rfl) (fun U => by rfl) ?_; simp only [Act.put, List.setIfInBounds_toArray, List.set_cons_zero, List.set_cons_succ])
            | (refine' wpRel_fix (by rfl) (fun U => by rfl) (fun m U w' hI hG => ?_) ?_
               rotate_left
               focus (have hf := HF.out w' hI; unfold relAt; go_simp; first | exact ⟨rfl, Below.refl _ _⟩ | exact Below.refl _ _ | exact ⟨trivial, Below.refl _ _⟩)
               simp only [Act.put, List.setIfInBounds_toArray, List.set_cons_zero, List.set_cons_succ])
          first
            | (refine wpRel_pass (by rfl) (fun U => by rfl) ?_; simp only [Act.put, List.setIfInBounds_toArray, List.set_cons_zero, List.set_cons_succ])
            | (refine' wpRel_fix (by rfl) (fun U => by rfl) (fun m U w' hI hG => ?_) ?_
               rotate_left
               focus (have hf := HF.out w' hI; unfold relAt; go_simp; first | exact ⟨rfl, Below.refl _ _⟩ | exact Below.refl _ _ | exact ⟨trivial, Below.refl _ _⟩)
               simp only [Act.put, List.setIfInBounds_toArray, List.set_cons_zero, List.set_cons_succ])
          first
            | (refine wpRel_pass (by rfl) (fun U => by rfl) ?_; simp only [Act.put, List.setIfInBounds_toArray, List.set_cons_zero, List.set_cons_succ])
            | (refine' wpRel_fix (by rfl) (fun U => by rfl) (fun m U w' hI hG => ?_) ?_
               rotate_left
               focus (have hf := HF.out w' hI; unfold relAt; go_simp; first | exact ⟨rfl, Below.refl _ _⟩ | exact Below.refl _ _ | exact ⟨trivial, Below.refl _ _⟩)
               simp only [Act.put, List.setIfInBounds_toArray, List.set_cons_zero, List.set_cons_succ])
          first
            | (refine wpRel_pass (by rfl) (fun U => by rfl) ?_; simp only [Act.put, List.setIfInBounds_toArray, List.set_cons_zero, List.set_cons_succ])
            | (refine' wpRel_fix (by rfl) (fun U => by rfl) (fun m U w' hI hG => ?_) ?_
               rotate_left
               focus (have hf := HF.out w' hI; unfold relAt; go_simp; first | exact ⟨rfl, Below.refl _ _⟩ | exact Below.refl _ _ | exact ⟨trivial, Below.refl _ _⟩)
               simp only [Act.put, List.setIfInBounds_toArray, List.set_cons_zero, List.set_cons_succ])
          first
            | (refine wpRel_pass (by rfl) (fun U => by rfl) ?_; simp only [Act.put, List.setIfInBounds_toArray, List.set_cons_zero, List.set_cons_succ])
            | (refine' wpRel_fix (by rfl) (fun U => by rfl) (fun m U w' hI hG => ?_) ?_
               rotate_left
               focus (have hf := HF.out w' hI; unfold relAt; go_simp; first | exact ⟨rfl, Below.refl _ _⟩ | exact Below.refl _ _ | exact ⟨trivial, Below.refl _ _⟩)
               simp only [Act.put, List.setIfInBounds_toArray, List.set_cons_zero, List.set_cons_succ])
          first
            | (refine wpRel_pass (by rfl) (fun U => by rfl) ?_; simp only [Act.put, List.setIfInBounds_toArray, List.set_cons_zero, List.set_cons_succ])
            | (refine' wpRel_fix (by rfl) (fun U => by rfl) (fun m U w' hI hG => ?_) ?_
               rotate_left
               focus (have hf := HF.out w' hI; unfold relAt; go_simp; first | exact ⟨rfl, Below.refl _ _⟩ | exact Below.refl _ _ | exact ⟨trivial, Below.refl _ _⟩)
               simp only [Act.put, List.setIfInBounds_toArray, List.set_cons_zero, List.set_cons_succ])
          first
            | (refine wpRel_pass (by rfl) (fun U => by rfl) ?_; simp only [Act.put, List.setIfInBounds_toArray, List.set_cons_zero, List.set_cons_succ])
            | (refine' wpRel_fix (by rfl) (fun U => by rfl) (fun m U w' hI hG => ?_) ?_
               rotate_left
               focus (have hf := HF.out w' hI; unfold relAt; go_simp; first | exact ⟨rfl, Below.refl _ _⟩ | exact Below.refl _ _ | exact ⟨trivial, Below.refl _ _⟩)
               simp only [Act.put, List.setIfInBounds_toArray, List.set_cons_zero, List.set_cons_succ])
          first
            | (refine wpRel_pass (by rfl) (fun U => by rfl) ?_; simp only [Act.put, List.setIfInBounds_toArray, List.set_cons_zero, List.set_cons_succ])
            | (refine' wpRel_fix (by rfl) (fun U => by rfl) (fun m U w' hI hG => ?_) ?_
               rotate_left
               focus (have hf := HF.out w' hI; unfold relAt; go_simp; first | exact ⟨rfl, Below.refl _ _⟩ | exact Below.refl _ _ | exact ⟨trivial, Below.refl _ _⟩)
               simp only [Act.put, List.setIfInBounds_toArray, List.set_cons_zero, List.set_cons_succ])
          first
            | (refine wpRel_pass (by rfl) (fun U => by rfl) ?_; simp only [Act.put, List.setIfInBounds_toArray, List.set_cons_zero, List.set_cons_succ])
            | (refine' wpRel_fix (by rfl) (fun U => by rfl) (fun m U w' hI hG => ?_) ?_
               rotate_left
               focus (have hf := HF.out w' hI; unfold relAt; go_simp; first | exact ⟨rfl, Below.refl _ _⟩ | exact Below.refl _ _ | exact ⟨trivial, Below.refl _ _⟩)
               simp only [Act.put, List.setIfInBounds_toArray, List.set_cons_zero, List.set_cons_succ])
          first
            | (refine wpRel_pass (by rfl) (fun U => by rfl) ?_; simp only [Act.put, List.setIfInBounds_toArray, List.set_cons_zero, List.set_cons_succ])
            | (refine' wpRel_fix (by rfl) (fun U => by rfl) (fun m U w' hI hG => ?_) ?_
               rotate_left
               focus (have hf := HF.out w' hI; unfold relAt; go_simp; first | exact ⟨rfl, Below.refl _ _⟩ | exact Below.refl _ _ | exact ⟨trivial, Below.refl _ _⟩)
               simp only [Act.put, List.setIfInBounds_toArray, List.set_cons_zero, List.set_cons_succ])
          first
            | (refine wpRel_pass (by rfl) (fun U => by rfl) ?_; simp only [Act.put, List.setIfInBounds_toArray, List.set_cons_zero, List.set_cons_succ])
            | (refine' wpRel_fix (by rfl) (fun U => by rfl) (fun m U w' hI hG => ?_) ?_
               rotate_left
               focus (have hf := HF.out w' hI; unfold relAt; go_simp; first | exact ⟨rfl, Below.refl _ _⟩ | exact Below.refl _ _ | exact ⟨trivial, Below.refl _ _⟩)
               simp only [Act.put, List.setIfInBounds_toArray, List.set_cons_zero, List.set_cons_succ])
          first
            | (refine wpRel_pass (by rfl) (fun U => by rfl) ?_; simp only [Act.put, List.setIfInBounds_toArray, List.set_cons_zero, List.set_cons_succ])
            | (refine' wpRel_fix (by rfl) (fun U => by rfl) (fun m U w' hI hG => ?_) ?_
               rotate_left
               focus (have hf := HF.out w' hI; unfold relAt; go_simp; first | exact ⟨rfl, Below.refl _ _⟩ | exact Below.refl _ _ | exact ⟨trivial, Below.refl _ _⟩)
               simp only [Act.put, List.setIfInBounds_toArray, List.set_cons_zero, List.set_cons_succ])
          intro U w1 hI hG
          have B1 := Lib.hid (HB.out.trans ((show Below wr.heap.size wr w1 from hI).mono (by have := HB.out.size; rw [HS00.out] at this; exact this)))
          have O1 := Lib.hid (HO.out.belowAll (show Below wr.heap.size wr w1 from hI))
          clear hI hG HF
          cases he : (xs[k].name.toList == fn.toList) with
          | true =>
            have hne : xs[k].name = fn := toList_inj.1 (by simpa using he)
            have HNE := Lib.hid hne
            clear hne
            go_wp2_with fail
            have HF : Hid (∀ w', Below w1.heap.size w1 w' → (w'.cell? ⟨a, ao + k * 2, none⟩ = some (.string xs[k].name) ∧ w'.cell? ⟨a, ao + k * 2 + 1, none⟩ = some xs[k].sibs.val) ∧ (w'.cell? ⟨w.heap.size, 0, none⟩ = some (.string fn) ∧ w'.cell? ⟨w.heap.size, 1, none⟩ = some fs.val)) := Lib.hid (fun w' h => by
              have := HC.out w' (B1.out.trans (h.mono (by have := B1.out.size; rw [HS00.out] at this; exact this)))
              exact ⟨this.1 k hlt a ao rfl, this.2.1⟩)
            refine wp_region_rel 8 (by kernel_rfl) (by kernel_rfl) (by rfl) ?_
            simp only [List.take_succ_cons, List.take_zero, List.drop_succ_cons, List.drop_zero]
            first
              | (refine wpRel_pass (by rfl) (fun U => by rfl) ?_; simp only [Act.put, List.setIfInBounds_toArray, List.set_cons_zero, List.set_cons_succ])
              | (refine' wpRel_fix (by rfl) (fun U => by rfl) (fun m U w' hI hG => ?_) ?_
                 rotate_left
                 focus (have hf := HF.out w' hI; unfold relAt; go_simp; first | exact ⟨rfl, Below.refl _ _⟩ | exact Below.refl _ _ | exact ⟨trivial, Below.refl _ _⟩)
                 simp only [Act.put, List.setIfInBounds_toArray, List.set_cons_zero, List.set_cons_succ])
            first
              | (refine wpRel_pass (by rfl) (fun U => by rfl) ?_; simp only [Act.put, List.setIfInBounds_toArray, List.set_cons_zero, List.set_cons_succ])
              | (refine' wpRel_fix (by rfl) (fun U => by rfl) (fun m U w' hI hG => ?_) ?_
                 rotate_left
                 focus (have hf := HF.out w' hI; unfold relAt; go_simp; first | exact ⟨rfl, Below.refl _ _⟩ | exact Below.refl _ _ | exact ⟨trivial, Below.refl _ _⟩)
                 simp only [Act.put, List.setIfInBounds_toArray, List.set_cons_zero, List.set_cons_succ])
            first
              | (refine wpRel_pass (by rfl) (fun U => by rfl) ?_; simp only [Act.put, List.setIfInBounds_toArray, List.set_cons_zero, List.set_cons_succ])
              | (refine' wpRel_fix (by rfl) (fun U => by rfl) (fun m U w' hI hG => ?_) ?_
                 rotate_left
                 focus (have hf := HF.out w' hI; unfold relAt; go_simp; first | exact ⟨rfl, Below.refl _ _⟩ | exact Below.refl _ _ | exact ⟨trivial, Below.refl _ _⟩)
                 simp only [Act.put, List.setIfInBounds_toArray, List.set_cons_zero, List.set_cons_succ])
            first
              | (refine wpRel_pass (by rfl) (fun U => by rfl) ?_; simp only [Act.put, List.setIfInBounds_toArray, List.set_cons_zero, List.set_cons_succ])
              | (refine' wpRel_fix (by rfl) (fun U => by rfl) (fun m U w' hI hG => ?_) ?_
                 rotate_left
                 focus (have hf := HF.out w' hI; unfold relAt; go_simp; first | exact ⟨rfl, Below.refl _ _⟩ | exact Below.refl _ _ | exact ⟨trivial, Below.refl _ _⟩)
                 simp only [Act.put, List.setIfInBounds_toArray, List.set_cons_zero, List.set_cons_succ])
            first
              | (refine wpRel_pass (by rfl) (fun U => by rfl) ?_; simp only [Act.put, List.setIfInBounds_toArray, List.set_cons_zero, List.set_cons_succ])
              | (refine' wpRel_fix (by rfl) (fun U => by rfl) (fun m U w' hI hG => ?_) ?_
                 rotate_left
                 focus (have hf := HF.out w' hI; unfold relAt; go_simp; first | exact ⟨rfl, Below.refl _ _⟩ | exact Below.refl _ _ | exact ⟨trivial, Below.refl _ _⟩)
                 simp only [Act.put, List.setIfInBounds_toArray, List.set_cons_zero, List.set_cons_succ])
            first
              | (refine wpRel_pass (by rfl) (fun U => by rfl) ?_; simp only [Act.put, List.setIfInBounds_toArray, List.set_cons_zero, List.set_cons_succ])
              | (refine' wpRel_fix (by rfl) (fun U => by rfl) (fun m U w' hI hG => ?_) ?_
                 rotate_left
                 focus (have hf := HF.out w' hI; unfold relAt; go_simp; first | exact ⟨rfl, Below.refl _ _⟩ | exact Below.refl _ _ | exact ⟨trivial, Below.refl _ _⟩)
                 simp only [Act.put, List.setIfInBounds_toArray, List.set_cons_zero, List.set_cons_succ])
            first
              | (refine wpRel_pass (by rfl) (fun U => by rfl) ?_; simp only [Act.put, List.setIfInBounds_toArray, List.set_cons_zero, List.set_cons_succ])
              | (refine' wpRel_fix (by rfl) (fun U => by rfl) (fun m U w' hI hG => ?_) ?_
                 rotate_left
                 focus (have hf := HF.out w' hI; unfold relAt; go_simp; first | exact ⟨rfl, Below.refl _ _⟩ | exact Below.refl _ _ | exact ⟨trivial, Below.refl _ _⟩)
                 simp only [Act.put, List.setIfInBounds_toArray, List.set_cons_zero, List.set_cons_succ])
            first
              | (refine wpRel_pass (by rfl) (fun U => by rfl) ?_; simp only [Act.put, List.setIfInBounds_toArray, List.set_cons_zero, List.set_cons_succ])
              | (refine' wpRel_fix (by rfl) (fun U => by rfl) (fun m U w' hI hG => ?_) ?_
                 rotate_left
                 focus (have hf := HF.out w' hI; unfold relAt; go_simp; first | exact ⟨rfl, Below.refl _ _⟩ | exact Below.refl _ _ | exact ⟨trivial, Below.refl _ _⟩)
                 simp only [Act.put, List.setIfInBounds_toArray, List.set_cons_zero, List.set_cons_succ])
            intro U w8 hI hG
            have B8 := Lib.hid (B1.out.trans ((show Below w1.heap.size w1 w8 from hI).mono (by have := B1.out.size; rw [HS00.out] at this; exact this)))
            have O8 := Lib.hid (O1.out.belowAll (show Below w1.heap.size w1 w8 from hI))
            clear hI hG HF
            go_wp2_with fail
            go_roundw
            case rel => exact ⟨k + 1, l, by omega, by go_num, rfl, by rw [HST.out]; simp [tpStep, HLT.out], by have h6 := HLT.out; rw [HNE.out] at h6; rw [HST.out, HL.out]; simp [tpStep, h6, HNE.out], O8.out, B8.out⟩
            case measure => simp [intOf]; omega
          | false =>
            have hne : ¬ xs[k].name = fn := fun h => by rw [h] at he; simp at he
            have HNE := Lib.hid hne
            clear hne
            go_wp2_with fail
            have HF : Hid (∀ w', Below w1.heap.size w1 w' → (w'.cell? ⟨a, ao + k * 2, none⟩ = some (.string xs[k].name) ∧ w'.cell? ⟨a, ao + k * 2 + 1, none⟩ = some xs[k].sibs.val) ∧ (w'.cell? ⟨w.heap.size, 0, none⟩ = some (.string fn) ∧ w'.cell? ⟨w.heap.size, 1, none⟩ = some fs.val)) := Lib.hid (fun w' h => by
              have := HC.out w' (B1.out.trans (h.mono (by have := B1.out.size; rw [HS00.out] at this; exact this)))
              exact ⟨this.1 k hlt a ao rfl, this.2.1⟩)
            refine wp_region_rel 8 (by kernel_rfl) (by kernel_rfl) (by rfl) ?_
            simp only [List.take_succ_cons, List.take_zero, List.drop_succ_cons, List.drop_zero]
            first
              | (refine wpRel_pass (by rfl) (fun U => by rfl) ?_; simp only [Act.put, List.setIfInBounds_toArray, List.set_cons_zero, List.set_cons_succ])
              | (refine' wpRel_fix (by rfl) (fun U => by rfl) (fun m U w' hI hG => ?_) ?_
                 rotate_left
                 focus (have hf := HF.out w' hI; unfold relAt; go_simp; first | exact ⟨rfl, Below.refl _ _⟩ | exact Below.refl _ _ | exact ⟨trivial, Below.refl _ _⟩)
                 simp only [Act.put, List.setIfInBounds_toArray, List.set_cons_zero, List.set_cons_succ])
            first
              | (refine wpRel_pass (by rfl) (fun U => by rfl) ?_; simp only [Act.put, List.setIfInBounds_toArray, List.set_cons_zero, List.set_cons_succ])
              | (refine' wpRel_fix (by rfl) (fun U => by rfl) (fun m U w' hI hG => ?_) ?_
                 rotate_left
                 focus (have hf := HF.out w' hI; unfold relAt; go_simp; first | exact ⟨rfl, Below.refl _ _⟩ | exact Below.refl _ _ | exact ⟨trivial, Below.refl _ _⟩)
                 simp only [Act.put, List.setIfInBounds_toArray, List.set_cons_zero, List.set_cons_succ])
            first
              | (refine wpRel_pass (by rfl) (fun U => by rfl) ?_; simp only [Act.put, List.setIfInBounds_toArray, List.set_cons_zero, List.set_cons_succ])
              | (refine' wpRel_fix (by rfl) (fun U => by rfl) (fun m U w' hI hG => ?_) ?_
                 rotate_left
                 focus (have hf := HF.out w' hI; unfold relAt; go_simp; first | exact ⟨rfl, Below.refl _ _⟩ | exact Below.refl _ _ | exact ⟨trivial, Below.refl _ _⟩)
                 simp only [Act.put, List.setIfInBounds_toArray, List.set_cons_zero, List.set_cons_succ])
            first
              | (refine wpRel_pass (by rfl) (fun U => by rfl) ?_; simp only [Act.put, List.setIfInBounds_toArray, List.set_cons_zero, List.set_cons_succ])
              | (refine' wpRel_fix (by rfl) (fun U => by rfl) (fun m U w' hI hG => ?_) ?_
                 rotate_left
                 focus (have hf := HF.out w' hI; unfold relAt; go_simp; first | exact ⟨rfl, Below.refl _ _⟩ | exact Below.refl _ _ | exact ⟨trivial, Below.refl _ _⟩)
                 simp only [Act.put, List.setIfInBounds_toArray, List.set_cons_zero, List.set_cons_succ])
            first
              | (refine wpRel_pass (by rfl) (fun U => by rfl) ?_; simp only [Act.put, List.setIfInBounds_toArray, List.set_cons_zero, List.set_cons_succ])
              | (refine' wpRel_fix (by rfl) (fun U => by rfl) (fun m U w' hI hG => ?_) ?_
                 rotate_left
                 focus (have hf := HF.out w' hI; unfold relAt; go_simp; first | exact ⟨rfl, Below.refl _ _⟩ | exact Below.refl _ _ | exact ⟨trivial, Below.refl _ _⟩)
                 simp only [Act.put, List.setIfInBounds_toArray, List.set_cons_zero, List.set_cons_succ])
            first
              | (refine wpRel_pass (by rfl) (fun U => by rfl) ?_; simp only [Act.put, List.setIfInBounds_toArray, List.set_cons_zero, List.set_cons_succ])
              | (refine' wpRel_fix (by rfl) (fun U => by rfl) (fun m U w' hI hG => ?_) ?_
                 rotate_left
                 focus (have hf := HF.out w' hI; unfold relAt; go_simp; first | exact ⟨rfl, Below.refl _ _⟩ | exact Below.refl _ _ | exact ⟨trivial, Below.refl _ _⟩)
                 simp only [Act.put, List.setIfInBounds_toArray, List.set_cons_zero, List.set_cons_succ])
            first
              | (refine wpRel_pass (by rfl) (fun U => by rfl) ?_; simp only [Act.put, List.setIfInBounds_toArray, List.set_cons_zero, List.set_cons_succ])
              | (refine' wpRel_fix (by rfl) (fun U => by rfl) (fun m U w' hI hG => ?_) ?_
                 rotate_left
                 focus (have hf := HF.out w' hI; unfold relAt; go_simp; first | exact ⟨rfl, Below.refl _ _⟩ | exact Below.refl _ _ | exact ⟨trivial, Below.refl _ _⟩)
                 simp only [Act.put, List.setIfInBounds_toArray, List.set_cons_zero, List.set_cons_succ])
            first
              | (refine wpRel_pass (by rfl) (fun U => by rfl) ?_; simp only [Act.put, List.setIfInBounds_toArray, List.set_cons_zero, List.set_cons_succ])
              | (refine' wpRel_fix (by rfl) (fun U => by rfl) (fun m U w' hI hG => ?_) ?_
                 rotate_left
                 focus (have hf := HF.out w' hI; unfold relAt; go_simp; first | exact ⟨rfl, Below.refl _ _⟩ | exact Below.refl _ _ | exact ⟨trivial, Below.refl _ _⟩)
                 simp only [Act.put, List.setIfInBounds_toArray, List.set_cons_zero, List.set_cons_succ])
            intro U w8 hI hG
            have B8 := Lib.hid (B1.out.trans ((show Below w1.heap.size w1 w8 from hI).mono (by have := B1.out.size; rw [HS00.out] at this; exact this)))
            have O8 := Lib.hid (O1.out.belowAll (show Below w1.heap.size w1 w8 from hI))
            clear hI hG HF
            obtain ⟨f1, -, f3⟩ := HC.out w8 B8.out
            obtain ⟨c0, c1⟩ := f1 k hlt a ao rfl
            have hm3 := f3 xs[k] (.inr (List.getElem_mem hlt))
            have HMX := Lib.hid (one_more (W := w8) (e' := 58) (cs := #[.string xs[k].name, xs[k].sibs.val]) (g := w8.heap.size) l xs[k] rfl rfl O8.out hm3.1 (fun b hb h => by have := hm3.2 b hb; have := (O8.out.lt b h.symm).1; omega) (by have := HLL.out; omega) (by have := B8.out.size; rw [HS00.out] at this; exact this))
            clear f1 f3 hm3
            go_wp2_with (at_builtin; refine wpList_append_one rfl _ _ 24 rfl _ 58 elem_file l rfl (w8.heap.size) xs[k] rfl HMX.out ?_)
            intro l3 w3 hap3
            have BL := Lib.hid (B8.out.trans ((Below.refl (w8.heap.size) w8).alloc (Nat.le_refl _) (Obj.cells #[.string xs[k].name, xs[k].sibs.val] 58) |>.mono (by have := B8.out.size; rw [HS00.out] at this; exact this)))
            have B3 := Lib.hid (hap3.below HMX.out.own BL.out (Nat.le_refl _) HMX.out.lo)
            have A3 := Lib.hid hap3
            clear hap3 c0 c1
            go_wp2_with fail
            go_roundw
            case rel => exact ⟨k + 1, l3, by omega, by go_num, rfl, by rw [HST.out]; simp [tpStep, HLT.out], by rw [HST.out, A3.out.xs, HL.out]; simp [tpStep, HLT.out, HNE.out], A3.out.own, B3.out⟩
            case measure => simp [intOf]; omega
        | false =>
          go_wp2_with fail
          have HF : Hid (∀ w', Below wr.heap.size wr w' → (w'.cell? ⟨a, ao + k * 2, none⟩ = some (.string xs[k].name) ∧ w'.cell? ⟨a, ao + k * 2 + 1, none⟩ = some xs[k].sibs.val) ∧ (w'.cell? ⟨w.heap.size, 0, none⟩ = some (.string fn) ∧ w'.cell? ⟨w.heap.size, 1, none⟩ = some fs.val)) := Lib.hid (fun w' h => by
            have := HC.out w' (HB.out.trans (h.mono (by have := HB.out.size; rw [HS00.out] at this; exact this)))
            exact ⟨this.1 k hlt a ao rfl, this.2.1⟩)
          refine wp_region_rel 12 (by kernel_rfl) (by kernel_rfl) (by rfl) ?_
          simp only [List.take_succ_cons, List.take_zero, List.drop_succ_cons, List.drop_zero]
          first
            | (refine wpRel_pass (by rfl) (fun U => by rfl) ?_; simp only [Act.put, List.setIfInBounds_toArray, List.set_cons_zero, List.set_cons_succ])
            | (refine' wpRel_fix (by rfl) (fun U => by rfl) (fun m U w' hI hG => ?_) ?_
               rotate_left
               focus (have hf := HF.out w' hI; unfold relAt; go_simp; first | exact ⟨rfl, Below.refl _ _⟩ | exact Below.refl _ _ | exact ⟨trivial, Below.refl _ _⟩)
               simp only [Act.put, List.setIfInBounds_toArray, List.set_cons_zero, List.set_cons_succ])
          first
            | (refine wpRel_pass (by rfl) (fun U => by rfl) ?_; simp only [Act.put, List.setIfInBounds_toArray, List.set_cons_zero, List.set_cons_succ])
            | (refine' wpRel_fix (by rfl) (fun U => by rfl) (fun m U w' hI hG => ?_) ?_
               rotate_left
               focus (have hf := HF.out w' hI; unfold relAt; go_simp; first | exact ⟨rfl, Below.refl _ _⟩ | exact Below.refl _ _ | exact ⟨trivial, Below.refl _ _⟩)
               simp only [Act.put, List.setIfInBounds_toArray, List.set_cons_zero, List.set_cons_succ])
          first
            | (refine wpRel_pass (by rfl) (fun U => by rfl) ?_; simp only [Act.put, List.setIfInBounds_toArray, List.set_cons_zero, List.set_cons_succ])
            | (refine' wpRel_fix (by rfl) (fun U => by rfl) (fun m U w' hI hG => ?_) ?_
               rotate_left
               focus (have hf := HF.out w' hI; unfold relAt; go_simp; first | exact ⟨rfl, Below.refl _ _⟩ | exact Below.refl _ _ | exact ⟨trivial, Below.refl _ _⟩)
               simp only [Act.put, List.setIfInBounds_toArray, List.set_cons_zero, List.set_cons_succ])
          first
            | (refine wpRel_pass (by rfl) (fun U => by rfl) ?_; simp only [Act.put, List.setIfInBounds_toArray, List.set_cons_zero, List.set_cons_succ])
            | (refine' wpRel_fix (by rfl) (fun U => by rfl) (fun m U w' hI hG => ?_) ?_
               rotate_left
               focus (have hf := HF.out w' hI; unfold relAt; go_simp; first | exact ⟨rfl, Below.refl _ _⟩ | exact Below.refl _ _ | exact ⟨trivial, Below.refl _ _⟩)
               simp only [Act.put, List.setIfInBounds_toArray, List.set_cons_zero, List.set_cons_succ])
          first
            | (refine wpRel_pass (by rfl) (fun U => by rfl) ?_; simp only [Act.put, List.setIfInBounds_toArray, List.set_cons_zero, List.set_cons_succ])
            | (refine' wpRel_fix (by rfl) (fun U => by rfl) (fun m U w' hI hG => ?_) ?_
               rotate_left
               focus (have hf := HF.out w' hI; unfold relAt; go_simp; first | exact ⟨rfl, Below.refl _ _⟩ | exact Below.refl _ _ | exact ⟨trivial, Below.refl _ _⟩)
               simp only [Act.put, List.setIfInBounds_toArray, List.set_cons_zero, List.set_cons_succ])
          first
            | (refine wpRel_pass (by rfl) (fun U => by rfl) ?_; simp only [Act.put, List.setIfInBounds_toArray, List.set_cons_zero, List.set_cons_succ])
            | (refine' wpRel_fix (by rfl) (fun U => by rfl) (fun m U w' hI hG => ?_) ?_
               rotate_left
               focus (have hf := HF.out w' hI; unfold relAt; go_simp; first | exact ⟨rfl, Below.refl _ _⟩ | exact Below.refl _ _ | exact ⟨trivial, Below.refl _ _⟩)
               simp only [Act.put, List.setIfInBounds_toArray, List.set_cons_zero, List.set_cons_succ])
          first
            | (refine wpRel_pass (by rfl) (fun U => by rfl) ?_; simp only [Act.put, List.setIfInBounds_toArray, List.set_cons_zero, List.set_cons_succ])
            | (refine' wpRel_fix (by rfl) (fun U => by rfl) (fun m U w' hI hG => ?_) ?_
               rotate_left
               focus (have hf := HF.out w' hI; unfold relAt; go_simp; first | exact ⟨rfl, Below.refl _ _⟩ | exact Below.refl _ _ | exact ⟨trivial, Below.refl _ _⟩)
               simp only [Act.put, List.setIfInBounds_toArray, List.set_cons_zero, List.set_cons_succ])
          first
            | (refine wpRel_pass (by rfl) (fun U => by rfl) ?_; simp only [Act.put, List.setIfInBounds_toArray, List.set_cons_zero, List.set_cons_succ])
            | (refine' wpRel_fix (by rfl) (fun U => by rfl) (fun m U w' hI hG => ?_) ?_
               rotate_left
               focus (have hf := HF.out w' hI; unfold relAt; go_simp; first | exact ⟨rfl, Below.refl _ _⟩ | exact Below.refl _ _ | exact ⟨trivial, Below.refl _ _⟩)
               simp only [Act.put, List.setIfInBounds_toArray, List.set_cons_zero, List.set_cons_succ])
          first
            | (refine wpRel_pass (by rfl) (fun U => by rfl) ?_; simp only [Act.put, List.setIfInBounds_toArray, List.set_cons_zero, List.set_cons_succ])
            | (refine' wpRel_fix (by rfl) (fun U => by rfl) (fun m U w' hI hG => ?_) ?_
               rotate_left
               focus (have hf := HF.out w' hI; unfold relAt; go_simp; first | exact ⟨rfl, Below.refl _ _⟩ | exact Below.refl _ _ | exact ⟨trivial, Below.refl _ _⟩)
               simp only [Act.put, List.setIfInBounds_toArray, List.set_cons_zero, List.set_cons_succ])
          first
            | (refine wpRel_pass (by rfl) (fun U => by rfl) ?_; simp only [Act.put, List.setIfInBounds_toArray, List.set_cons_zero, List.set_cons_succ])
            | (refine' wpRel_fix (by rfl) (fun U => by rfl) (fun m U w' hI hG => ?_) ?_
               rotate_left
               focus (have hf := HF.out w' hI; unfold relAt; go_simp; first | exact ⟨rfl, Below.refl _ _⟩ | exact Below.refl _ _ | exact ⟨trivial, Below.refl _ _⟩)
               simp only [Act.put, List.setIfInBounds_toArray, List.set_cons_zero, List.set_cons_succ])
          first
            | (refine wpRel_pass (by rfl) (fun U => by rfl) ?_; simp only [Act.put, List.setIfInBounds_toArray, List.set_cons_zero, List.set_cons_succ])
            | (refine' wpRel_fix (by rfl) (fun U => by rfl) (fun m U w' hI hG => ?_) ?_
               rotate_left
               focus (have hf := HF.out w' hI; unfold relAt; go_simp; first | exact ⟨rfl, Below.refl _ _⟩ | exact Below.refl _ _ | exact ⟨trivial, Below.refl _ _⟩)
               simp only [Act.put, List.setIfInBounds_toArray, List.set_cons_zero, List.set_cons_succ])
          first
            | (refine wpRel_pass (by rfl) (fun U => by rfl) ?_; simp only [Act.put, List.setIfInBounds_toArray, List.set_cons_zero, List.set_cons_succ])
            | (refine' wpRel_fix (by rfl) (fun U => by rfl) (fun m U w' hI hG => ?_) ?_
               rotate_left
               focus (have hf := HF.out w' hI; unfold relAt; go_simp; first | exact ⟨rfl, Below.refl _ _⟩ | exact Below.refl _ _ | exact ⟨trivial, Below.refl _ _⟩)
               simp only [Act.put, List.setIfInBounds_toArray, List.set_cons_zero, List.set_cons_succ])
          intro U w1 hI hG
          have B1 := Lib.hid (HB.out.trans ((show Below wr.heap.size wr w1 from hI).mono (by have := HB.out.size; rw [HS00.out] at this; exact this)))
          have O1 := Lib.hid (HO.out.belowAll (show Below wr.heap.size wr w1 from hI))
          clear hI hG HF
          cases he : (xs[k].name.toList == fn.toList) with
          | true =>
            have hne : xs[k].name = fn := toList_inj.1 (by simpa using he)
            have HNE := Lib.hid hne
            clear hne
            go_wp2_with fail
            have HF : Hid (∀ w', Below w1.heap.size w1 w' → (w'.cell? ⟨a, ao + k * 2, none⟩ = some (.string xs[k].name) ∧ w'.cell? ⟨a, ao + k * 2 + 1, none⟩ = some xs[k].sibs.val) ∧ (w'.cell? ⟨w.heap.size, 0, none⟩ = some (.string fn) ∧ w'.cell? ⟨w.heap.size, 1, none⟩ = some fs.val)) := Lib.hid (fun w' h => by
              have := HC.out w' (B1.out.trans (h.mono (by have := B1.out.size; rw [HS00.out] at this; exact this)))
              exact ⟨this.1 k hlt a ao rfl, this.2.1⟩)
            refine wp_region_rel 8 (by kernel_rfl) (by kernel_rfl) (by rfl) ?_
            simp only [List.take_succ_cons, List.take_zero, List.drop_succ_cons, List.drop_zero]
            first
              | (refine wpRel_pass (by rfl) (fun U => by rfl) ?_; simp only [Act.put, List.setIfInBounds_toArray, List.set_cons_zero, List.set_cons_succ])
              | (refine' wpRel_fix (by rfl) (fun U => by rfl) (fun m U w' hI hG => ?_) ?_
                 rotate_left
                 focus (have hf := HF.out w' hI; unfold relAt; go_simp; first | exact ⟨rfl, Below.refl _ _⟩ | exact Below.refl _ _ | exact ⟨trivial, Below.refl _ _⟩)
                 simp only [Act.put, List.setIfInBounds_toArray, List.set_cons_zero, List.set_cons_succ])
            first
              | (refine wpRel_pass (by rfl) (fun U => by rfl) ?_; simp only [Act.put, List.setIfInBounds_toArray, List.set_cons_zero, List.set_cons_succ])
              | (refine' wpRel_fix (by rfl) (fun U => by rfl) (fun m U w' hI hG => ?_) ?_
                 rotate_left
                 focus (have hf := HF.out w' hI; unfold relAt; go_simp; first | exact ⟨rfl, Below.refl _ _⟩ | exact Below.refl _ _ | exact ⟨trivial, Below.refl _ _⟩)
                 simp only [Act.put, List.setIfInBounds_toArray, List.set_cons_zero, List.set_cons_succ])
            first
              | (refine wpRel_pass (by rfl) (fun U => by rfl) ?_; simp only [Act.put, List.setIfInBounds_toArray, List.set_cons_zero, List.set_cons_succ])
              | (refine' wpRel_fix (by rfl) (fun U => by rfl) (fun m U w' hI hG => ?_) ?_
                 rotate_left
                 focus (have hf := HF.out w' hI; unfold relAt; go_simp; first | exact ⟨rfl, Below.refl _ _⟩ | exact Below.refl _ _ | exact ⟨trivial, Below.refl _ _⟩)
                 simp only [Act.put, List.setIfInBounds_toArray, List.set_cons_zero, List.set_cons_succ])
            first
              | (refine wpRel_pass (by rfl) (fun U => by rfl) ?_; simp only [Act.put, List.setIfInBounds_toArray, List.set_cons_zero, List.set_cons_succ])
              | (refine' wpRel_fix (by rfl) (fun U => by rfl) (fun m U w' hI hG => ?_) ?_
                 rotate_left
                 focus (have hf := HF.out w' hI; unfold relAt; go_simp; first | exact ⟨rfl, Below.refl _ _⟩ | exact Below.refl _ _ | exact ⟨trivial, Below.refl _ _⟩)
                 simp only [Act.put, List.setIfInBounds_toArray, List.set_cons_zero, List.set_cons_succ])
            first
              | (refine wpRel_pass (by rfl) (fun U => by rfl) ?_; simp only [Act.put, List.setIfInBounds_toArray, List.set_cons_zero, List.set_cons_succ])
              | (refine' wpRel_fix (by rfl) (fun U => by rfl) (fun m U w' hI hG => ?_) ?_
                 rotate_left
                 focus (have hf := HF.out w' hI; unfold relAt; go_simp; first | exact ⟨rfl, Below.refl _ _⟩ | exact Below.refl _ _ | exact ⟨trivial, Below.refl _ _⟩)
                 simp only [Act.put, List.setIfInBounds_toArray, List.set_cons_zero, List.set_cons_succ])
            first
              | (refine wpRel_pass (by rfl) (fun U => by rfl) ?_; simp only [Act.put, List.setIfInBounds_toArray, List.set_cons_zero, List.set_cons_succ])
              | (refine' wpRel_fix (by rfl) (fun U => by rfl) (fun m U w' hI hG => ?_) ?_
                 rotate_left
                 focus (have hf := HF.out w' hI; unfold relAt; go_simp; first | exact ⟨rfl, Below.refl _ _⟩ | exact Below.refl _ _ | exact ⟨trivial, Below.refl _ _⟩)
                 simp only [Act.put, List.setIfInBounds_toArray, List.set_cons_zero, List.set_cons_succ])
            first
              | (refine wpRel_pass (by rfl) (fun U => by rfl) ?_; simp only [Act.put, List.setIfInBounds_toArray, List.set_cons_zero, List.set_cons_succ])
              | (refine' wpRel_fix (by rfl) (fun U => by rfl) (fun m U w' hI hG => ?_) ?_
                 rotate_left
                 focus (have hf := HF.out w' hI; unfold relAt; go_simp; first | exact ⟨rfl, Below.refl _ _⟩ | exact Below.refl _ _ | exact ⟨trivial, Below.refl _ _⟩)
                 simp only [Act.put, List.setIfInBounds_toArray, List.set_cons_zero, List.set_cons_succ])
            first
              | (refine wpRel_pass (by rfl) (fun U => by rfl) ?_; simp only [Act.put, List.setIfInBounds_toArray, List.set_cons_zero, List.set_cons_succ])
              | (refine' wpRel_fix (by rfl) (fun U => by rfl) (fun m U w' hI hG => ?_) ?_
                 rotate_left
                 focus (have hf := HF.out w' hI; unfold relAt; go_simp; first | exact ⟨rfl, Below.refl _ _⟩ | exact Below.refl _ _ | exact ⟨trivial, Below.refl _ _⟩)
                 simp only [Act.put, List.setIfInBounds_toArray, List.set_cons_zero, List.set_cons_succ])
            intro U w8 hI hG
            have B8 := Lib.hid (B1.out.trans ((show Below w1.heap.size w1 w8 from hI).mono (by have := B1.out.size; rw [HS00.out] at this; exact this)))
            have O8 := Lib.hid (O1.out.belowAll (show Below w1.heap.size w1 w8 from hI))
            clear hI hG HF
            go_wp2_with fail
            go_roundw
            case rel => exact ⟨k + 1, l, by omega, by go_num, rfl, by rw [HST.out]; simp [tpStep, HLT.out], by have h6 := HLT.out; rw [HNE.out] at h6; rw [HST.out, HL.out]; simp [tpStep, h6, HNE.out], O8.out, B8.out⟩
            case measure => simp [intOf]; omega
          | false =>
            have hne : ¬ xs[k].name = fn := fun h => by rw [h] at he; simp at he
            have HNE := Lib.hid hne
            clear hne
            go_wp2_with fail
            have HF : Hid (∀ w', Below w1.heap.size w1 w' → (w'.cell? ⟨a, ao + k * 2, none⟩ = some (.string xs[k].name) ∧ w'.cell? ⟨a, ao + k * 2 + 1, none⟩ = some xs[k].sibs.val) ∧ (w'.cell? ⟨w.heap.size, 0, none⟩ = some (.string fn) ∧ w'.cell? ⟨w.heap.size, 1, none⟩ = some fs.val)) := Lib.hid (fun w' h => by
              have := HC.out w' (B1.out.trans (h.mono (by have := B1.out.size; rw [HS00.out] at this; exact this)))
              exact ⟨this.1 k hlt a ao rfl, this.2.1⟩)
            refine wp_region_rel 8 (by kernel_rfl) (by kernel_rfl) (by rfl) ?_
            simp only [List.take_succ_cons, List.take_zero, List.drop_succ_cons, List.drop_zero]
            first
              | (refine wpRel_pass (by rfl) (fun U => by rfl) ?_; simp only [Act.put, List.setIfInBounds_toArray, List.set_cons_zero, List.set_cons_succ])
              | (refine' wpRel_fix (by rfl) (fun U => by rfl) (fun m U w' hI hG => ?_) ?_
                 rotate_left
                 focus (have hf := HF.out w' hI; unfold relAt; go_simp; first | exact ⟨rfl, Below.refl _ _⟩ | exact Below.refl _ _ | exact ⟨trivial, Below.refl _ _⟩)
                 simp only [Act.put, List.setIfInBounds_toArray, List.set_cons_zero, List.set_cons_succ])
            first
              | (refine wpRel_pass (by rfl) (fun U => by rfl) ?_; simp only [Act.put, List.setIfInBounds_toArray, List.set_cons_zero, List.set_cons_succ])
              | (refine' wpRel_fix (by rfl) (fun U => by rfl) (fun m U w' hI hG => ?_) ?_
                 rotate_left
                 focus (have hf := HF.out w' hI; unfold relAt; go_simp; first | exact ⟨rfl, Below.refl _ _⟩ | exact Below.refl _ _ | exact ⟨trivial, Below.refl _ _⟩)
                 simp only [Act.put, List.setIfInBounds_toArray, List.set_cons_zero, List.set_cons_succ])
            first
              | (refine wpRel_pass (by rfl) (fun U => by rfl) ?_; simp only [Act.put, List.setIfInBounds_toArray, List.set_cons_zero, List.set_cons_succ])
              | (refine' wpRel_fix (by rfl) (fun U => by rfl) (fun m U w' hI hG => ?_) ?_
                 rotate_left
                 focus (have hf := HF.out w' hI; unfold relAt; go_simp; first | exact ⟨rfl, Below.refl _ _⟩ | exact Below.refl _ _ | exact ⟨trivial, Below.refl _ _⟩)
                 simp only [Act.put, List.setIfInBounds_toArray, List.set_cons_zero, List.set_cons_succ])
            first
              | (refine wpRel_pass (by rfl) (fun U => by rfl) ?_; simp only [Act.put, List.setIfInBounds_toArray, List.set_cons_zero, List.set_cons_succ])
              | (refine' wpRel_fix (by rfl) (fun U => by rfl) (fun m U w' hI hG => ?_) ?_
                 rotate_left
                 focus (have hf := HF.out w' hI; unfold relAt; go_simp; first | exact ⟨rfl, Below.refl _ _⟩ | exact Below.refl _ _ | exact ⟨trivial, Below.refl _ _⟩)
                 simp only [Act.put, List.setIfInBounds_toArray, List.set_cons_zero, List.set_cons_succ])
            first
              | (refine wpRel_pass (by rfl) (fun U => by rfl) ?_; simp only [Act.put, List.setIfInBounds_toArray, List.set_cons_zero, List.set_cons_succ])
              | (refine' wpRel_fix (by rfl) (fun U => by rfl) (fun m U w' hI hG => ?_) ?_
                 rotate_left
                 focus (have hf := HF.out w' hI; unfold relAt; go_simp; first | exact ⟨rfl, Below.refl _ _⟩ | exact Below.refl _ _ | exact ⟨trivial, Below.refl _ _⟩)
                 simp only [Act.put, List.setIfInBounds_toArray, List.set_cons_zero, List.set_cons_succ])
            first
              | (refine wpRel_pass (by rfl) (fun U => by rfl) ?_; simp only [Act.put, List.setIfInBounds_toArray, List.set_cons_zero, List.set_cons_succ])
              | (refine' wpRel_fix (by rfl) (fun U => by rfl) (fun m U w' hI hG => ?_) ?_
                 rotate_left
                 focus (have hf := HF.out w' hI; unfold relAt; go_simp; first | exact ⟨rfl, Below.refl _ _⟩ | exact Below.refl _ _ | exact ⟨trivial, Below.refl _ _⟩)
                 simp only [Act.put, List.setIfInBounds_toArray, List.set_cons_zero, List.set_cons_succ])
            first
              | (refine wpRel_pass (by rfl) (fun U => by rfl) ?_; simp only [Act.put, List.setIfInBounds_toArray, List.set_cons_zero, List.set_cons_succ])
              | (refine' wpRel_fix (by rfl) (fun U => by rfl) (fun m U w' hI hG => ?_) ?_
                 rotate_left
                 focus (have hf := HF.out w' hI; unfold relAt; go_simp; first | exact ⟨rfl, Below.refl _ _⟩ | exact Below.refl _ _ | exact ⟨trivial, Below.refl _ _⟩)
                 simp only [Act.put, List.setIfInBounds_toArray, List.set_cons_zero, List.set_cons_succ])
            first
              | (refine wpRel_pass (by rfl) (fun U => by rfl) ?_; simp only [Act.put, List.setIfInBounds_toArray, List.set_cons_zero, List.set_cons_succ])
              | (refine' wpRel_fix (by rfl) (fun U => by rfl) (fun m U w' hI hG => ?_) ?_
                 rotate_left
                 focus (have hf := HF.out w' hI; unfold relAt; go_simp; first | exact ⟨rfl, Below.refl _ _⟩ | exact Below.refl _ _ | exact ⟨trivial, Below.refl _ _⟩)
                 simp only [Act.put, List.setIfInBounds_toArray, List.set_cons_zero, List.set_cons_succ])
            intro U w8 hI hG
            have B8 := Lib.hid (B1.out.trans ((show Below w1.heap.size w1 w8 from hI).mono (by have := B1.out.size; rw [HS00.out] at this; exact this)))
            have O8 := Lib.hid (O1.out.belowAll (show Below w1.heap.size w1 w8 from hI))
            clear hI hG HF
            obtain ⟨f1, -, f3⟩ := HC.out w8 B8.out
            obtain ⟨c0, c1⟩ := f1 k hlt a ao rfl
            have hm3 := f3 xs[k] (.inr (List.getElem_mem hlt))
            have HMX := Lib.hid (one_more (W := w8) (e' := 58) (cs := #[.string xs[k].name, xs[k].sibs.val]) (g := w8.heap.size) l xs[k] rfl rfl O8.out hm3.1 (fun b hb h => by have := hm3.2 b hb; have := (O8.out.lt b h.symm).1; omega) (by have := HLL.out; omega) (by have := B8.out.size; rw [HS00.out] at this; exact this))
            clear f1 f3 hm3
            go_wp2_with (at_builtin; refine wpList_append_one rfl _ _ 24 rfl _ 58 elem_file l rfl (w8.heap.size) xs[k] rfl HMX.out ?_)
            intro l3 w3 hap3
            have BL := Lib.hid (B8.out.trans ((Below.refl (w8.heap.size) w8).alloc (Nat.le_refl _) (Obj.cells #[.string xs[k].name, xs[k].sibs.val] 58) |>.mono (by have := B8.out.size; rw [HS00.out] at this; exact this)))
            have B3 := Lib.hid (hap3.below HMX.out.own BL.out (Nat.le_refl _) HMX.out.lo)
            have A3 := Lib.hid hap3
            clear hap3 c0 c1
            go_wp2_with fail
            go_roundw
            case rel => exact ⟨k + 1, l3, by omega, by go_num, rfl, by rw [HST.out]; simp [tpStep, HLT.out], by rw [HST.out, A3.out.xs, HL.out]; simp [tpStep, HLT.out, HNE.out], A3.out.own, B3.out⟩
            case measure => simp [intOf]; omega
      | false =>
        have HLT := Lib.hid hlt2
        have hbl : Op.bytesLess xs[k].name.toList fn.toList = false := hlt2
        clear hlt2
        cases rp with
        | true =>
          go_wp2_with fail
          have HF : Hid (∀ w', Below wr.heap.size wr w' → (w'.cell? ⟨a, ao + k * 2, none⟩ = some (.string xs[k].name) ∧ w'.cell? ⟨a, ao + k * 2 + 1, none⟩ = some xs[k].sibs.val) ∧ (w'.cell? ⟨w.heap.size, 0, none⟩ = some (.string fn) ∧ w'.cell? ⟨w.heap.size, 1, none⟩ = some fs.val)) := Lib.hid (fun w' h => by
            have := HC.out w' (HB.out.trans (h.mono (by have := HB.out.size; rw [HS00.out] at this; exact this)))
            exact ⟨this.1 k hlt a ao rfl, this.2.1⟩)
          refine wp_region_rel 12 (by kernel_rfl) (by kernel_rfl) (by rfl) ?_
          simp only [List.take_succ_cons, List.take_zero, List.drop_succ_cons, List.drop_zero]
          first
            | (refine wpRel_pass (by rfl) (fun U => by rfl) ?_; simp only [Act.put, List.setIfInBounds_toArray, List.set_cons_zero, List.set_cons_succ])
            | (refine' wpRel_fix (by rfl) (fun U => by rfl) (fun m U w' hI hG => ?_) ?_
               rotate_left
               focus (have hf := HF.out w' hI; unfold relAt; go_simp; first | exact ⟨rfl, Below.refl _ _⟩ | exact Below.refl _ _ | exact ⟨trivial, Below.refl _ _⟩)
               simp only [Act.put, List.setIfInBounds_toArray, List.set_cons_zero, List.set_cons_succ])
          first
            | (refine wpRel_pass (by rfl) (fun U => by rfl) ?_; simp only [Act.put, List.setIfInBounds_toArray, List.set_cons_zero, List.set_cons_succ])
            | (refine' wpRel_fix (by rfl) (fun U => by rfl) (fun m U w' hI hG => ?_) ?_
               rotate_left
               focus (have hf := HF.out w' hI; unfold relAt; go_simp; first | exact ⟨rfl, Below.refl _ _⟩ | exact Below.refl _ _ | exact ⟨trivial, Below.refl _ _⟩)
               simp only [Act.put, List.setIfInBounds_toArray, List.set_cons_zero, List.set_cons_succ])
          first
            | (refine wpRel_pass (by rfl) (fun U => by rfl) ?_; simp only [Act.put, List.setIfInBounds_toArray, List.set_cons_zero, List.set_cons_succ])
            | (refine' wpRel_fix (by rfl) (fun U => by rfl) (fun m U w' hI hG => ?_) ?_
               rotate_left
               focus (have hf := HF.out w' hI; unfold relAt; go_simp; first | exact ⟨rfl, Below.refl _ _⟩ | exact Below.refl _ _ | exact ⟨trivial, Below.refl _ _⟩)
               simp only [Act.put, List.setIfInBounds_toArray, List.set_cons_zero, List.set_cons_succ])
          first
            | (refine wpRel_pass (by rfl) (fun U => by rfl) ?_; simp only [Act.put, List.setIfInBounds_toArray, List.set_cons_zero, List.set_cons_succ])
            | (refine' wpRel_fix (by rfl) (fun U => by rfl) (fun m U w' hI hG => ?_) ?_
               rotate_left
               focus (have hf := HF.out w' hI; unfold relAt; go_simp; first | exact ⟨rfl, Below.refl _ _⟩ | exact Below.refl _ _ | exact ⟨trivial, Below.refl _ _⟩)
               simp only [Act.put, List.setIfInBounds_toArray, List.set_cons_zero, List.set_cons_succ])
          first
            | (refine wpRel_pass (by rfl) (fun U => by rfl) ?_; simp only [Act.put, List.setIfInBounds_toArray, List.set_cons_zero, List.set_cons_succ])
            | (refine' wpRel_fix (by rfl) (fun U => by rfl) (fun m U w' hI hG => ?_) ?_
               rotate_left
               focus (have hf := HF.out w' hI; unfold relAt; go_simp; first | exact ⟨rfl, Below.refl _ _⟩ | exact Below.refl _ _ | exact ⟨trivial, Below.refl _ _⟩)
               simp only [Act.put, List.setIfInBounds_toArray, List.set_cons_zero, List.set_cons_succ])
          first
            | (refine wpRel_pass (by rfl) (fun U => by rfl) ?_; simp only [Act.put, List.setIfInBounds_toArray, List.set_cons_zero, List.set_cons_succ])
            | (refine' wpRel_fix (by rfl) (fun U => by rfl) (fun m U w' hI hG => ?_) ?_
               rotate_left
               focus (have hf := HF.out w' hI; unfold relAt; go_simp; first | exact ⟨rfl, Below.refl _ _⟩ | exact Below.refl _ _ | exact ⟨trivial, Below.refl _ _⟩)
               simp only [Act.put, List.setIfInBounds_toArray, List.set_cons_zero, List.set_cons_succ])
          first
            | (refine wpRel_pass (by rfl) (fun U => by rfl) ?_; simp only [Act.put, List.setIfInBounds_toArray, List.set_cons_zero, List.set_cons_succ])
            | (refine' wpRel_fix (by rfl) (fun U => by rfl) (fun m U w' hI hG => ?_) ?_
               rotate_left
               focus (have hf := HF.out w' hI; unfold relAt; go_simp; first | exact ⟨rfl, Below.refl _ _⟩ | exact Below.refl _ _ | exact ⟨trivial, Below.refl _ _⟩)
               simp only [Act.put, List.setIfInBounds_toArray, List.set_cons_zero, List.set_cons_succ])
          first
            | (refine wpRel_pass (by rfl) (fun U => by rfl) ?_; simp only [Act.put, List.setIfInBounds_toArray, List.set_cons_zero, List.set_cons_succ])
            | (refine' wpRel_fix (by rfl) (fun U => by rfl) (fun m U w' hI hG => ?_) ?_
               rotate_left
               focus (have hf := HF.out w' hI; unfold relAt; go_simp; first | exact ⟨rfl, Below.refl _ _⟩ | exact Below.refl _ _ | exact ⟨trivial, Below.refl _ _⟩)
               simp only [Act.put, List.setIfInBounds_toArray, List.set_cons_zero, List.set_cons_succ])
          first
            | (refine wpRel_pass (by rfl) (fun U => by rfl) ?_; simp only [Act.put, List.setIfInBounds_toArray, List.set_cons_zero, List.set_cons_succ])
            | (refine' wpRel_fix (by rfl) (fun U => by rfl) (fun m U w' hI hG => ?_) ?_
               rotate_left
               focus (have hf := HF.out w' hI; unfold relAt; go_simp; first | exact ⟨rfl, Below.refl _ _⟩ | exact Below.refl _ _ | exact ⟨trivial, Below.refl _ _⟩)
               simp only [Act.put, List.setIfInBounds_toArray, List.set_cons_zero, List.set_cons_succ])
          first
            | (refine wpRel_pass (by rfl) (fun U => by rfl) ?_; simp only [Act.put, List.setIfInBounds_toArray, List.set_cons_zero, List.set_cons_succ])
            | (refine' wpRel_fix (by rfl) (fun U => by rfl) (fun m U w' hI hG => ?_) ?_
               rotate_left
               focus (have hf := HF.out w' hI; unfold relAt; go_simp; first | exact ⟨rfl, Below.refl _ _⟩ | exact Below.refl _ _ | exact ⟨trivial, Below.refl _ _⟩)
               simp only [Act.put, List.setIfInBounds_toArray, List.set_cons_zero, List.set_cons_succ])
          first
            | (refine wpRel_pass (by rfl) (fun U => by rfl) ?_; simp only [Act.put, List.setIfInBounds_toArray, List.set_cons_zero, List.set_cons_succ])
            | (refine' wpRel_fix (by rfl) (fun U => by rfl) (fun m U w' hI hG => ?_) ?_
               rotate_left
               focus (have hf := HF.out w' hI; unfold relAt; go_simp; first | exact ⟨rfl, Below.refl _ _⟩ | exact Below.refl _ _ | exact ⟨trivial, Below.refl _ _⟩)
               simp only [Act.put, List.setIfInBounds_toArray, List.set_cons_zero, List.set_cons_succ])
          first
            | (refine wpRel_pass (by rfl) (fun U => by rfl) ?_; simp only [Act.put, List.setIfInBounds_toArray, List.set_cons_zero, List.set_cons_succ])
            | (refine' wpRel_fix (by rfl) (fun U => by rfl) (fun m U w' hI hG => ?_) ?_
               rotate_left
               focus (have hf := HF.out w' hI; unfold relAt; go_simp; first | exact ⟨rfl, Below.refl _ _⟩ | exact Below.refl _ _ | exact ⟨trivial, Below.refl _ _⟩)
               simp only [Act.put, List.setIfInBounds_toArray, List.set_cons_zero, List.set_cons_succ])
          intro U w1 hI hG
          have B1 := Lib.hid (HB.out.trans ((show Below wr.heap.size wr w1 from hI).mono (by have := HB.out.size; rw [HS00.out] at this; exact this)))
          have O1 := Lib.hid (HO.out.belowAll (show Below wr.heap.size wr w1 from hI))
          clear hI hG HF
          cases he : (xs[k].name.toList == fn.toList) with
          | true =>
            have hne : xs[k].name = fn := toList_inj.1 (by simpa using he)
            have HNE := Lib.hid hne
            clear hne
            go_wp2_with fail
            have HF : Hid (∀ w', Below w1.heap.size w1 w' → (w'.cell? ⟨a, ao + k * 2, none⟩ = some (.string xs[k].name) ∧ w'.cell? ⟨a, ao + k * 2 + 1, none⟩ = some xs[k].sibs.val) ∧ (w'.cell? ⟨w.heap.size, 0, none⟩ = some (.string fn) ∧ w'.cell? ⟨w.heap.size, 1, none⟩ = some fs.val)) := Lib.hid (fun w' h => by
              have := HC.out w' (B1.out.trans (h.mono (by have := B1.out.size; rw [HS00.out] at this; exact this)))
              exact ⟨this.1 k hlt a ao rfl, this.2.1⟩)
            refine wp_region_rel 8 (by kernel_rfl) (by kernel_rfl) (by rfl) ?_
            simp only [List.take_succ_cons, List.take_zero, List.drop_succ_cons, List.drop_zero]
            first
              | (refine wpRel_pass (by rfl) (fun U => by rfl) ?_; simp only [Act.put, List.setIfInBounds_toArray, List.set_cons_zero, List.set_cons_succ])
              | (refine' wpRel_fix (by rfl) (fun U => by rfl) (fun m U w' hI hG => ?_) ?_
                 rotate_left
                 focus (have hf := HF.out w' hI; unfold relAt; go_simp; first | exact ⟨rfl, Below.refl _ _⟩ | exact Below.refl _ _ | exact ⟨trivial, Below.refl _ _⟩)
                 simp only [Act.put, List.setIfInBounds_toArray, List.set_cons_zero, List.set_cons_succ])
            first
              | (refine wpRel_pass (by rfl) (fun U => by rfl) ?_; simp only [Act.put, List.setIfInBounds_toArray, List.set_cons_zero, List.set_cons_succ])
              | (refine' wpRel_fix (by rfl) (fun U => by rfl) (fun m U w' hI hG => ?_) ?_
                 rotate_left
                 focus (have hf := HF.out w' hI; unfold relAt; go_simp; first | exact ⟨rfl, Below.refl _ _⟩ | exact Below.refl _ _ | exact ⟨trivial, Below.refl _ _⟩)
                 simp only [Act.put, List.setIfInBounds_toArray, List.set_cons_zero, List.set_cons_succ])
            first
              | (refine wpRel_pass (by rfl) (fun U => by rfl) ?_; simp only [Act.put, List.setIfInBounds_toArray, List.set_cons_zero, List.set_cons_succ])
              | (refine' wpRel_fix (by rfl) (fun U => by rfl) (fun m U w' hI hG => ?_) ?_
                 rotate_left
                 focus (have hf := HF.out w' hI; unfold relAt; go_simp; first | exact ⟨rfl, Below.refl _ _⟩ | exact Below.refl _ _ | exact ⟨trivial, Below.refl _ _⟩)
                 simp only [Act.put, List.setIfInBounds_toArray, List.set_cons_zero, List.set_cons_succ])
            first
              | (refine wpRel_pass (by rfl) (fun U => by rfl) ?_; simp only [Act.put, List.setIfInBounds_toArray, List.set_cons_zero, List.set_cons_succ])
              | (refine' wpRel_fix (by rfl) (fun U => by rfl) (fun m U w' hI hG => ?_) ?_
                 rotate_left
                 focus (have hf := HF.out w' hI; unfold relAt; go_simp; first | exact ⟨rfl, Below.refl _ _⟩ | exact Below.refl _ _ | exact ⟨trivial, Below.refl _ _⟩)
                 simp only [Act.put, List.setIfInBounds_toArray, List.set_cons_zero, List.set_cons_succ])
            first
              | (refine wpRel_pass (by rfl) (fun U => by rfl) ?_; simp only [Act.put, List.setIfInBounds_toArray, List.set_cons_zero, List.set_cons_succ])
              | (refine' wpRel_fix (by rfl) (fun U => by rfl) (fun m U w' hI hG => ?_) ?_
                 rotate_left
                 focus (have hf := HF.out w' hI; unfold relAt; go_simp; first | exact ⟨rfl, Below.refl _ _⟩ | exact Below.refl _ _ | exact ⟨trivial, Below.refl _ _⟩)
                 simp only [Act.put, List.setIfInBounds_toArray, List.set_cons_zero, List.set_cons_succ])
            first
              | (refine wpRel_pass (by rfl) (fun U => by rfl) ?_; simp only [Act.put, List.setIfInBounds_toArray, List.set_cons_zero, List.set_cons_succ])
              | (refine' wpRel_fix (by rfl) (fun U => by rfl) (fun m U w' hI hG => ?_) ?_
                 rotate_left
                 focus (have hf := HF.out w' hI; unfold relAt; go_simp; first | exact ⟨rfl, Below.refl _ _⟩ | exact Below.refl _ _ | exact ⟨trivial, Below.refl _ _⟩)
                 simp only [Act.put, List.setIfInBounds_toArray, List.set_cons_zero, List.set_cons_succ])
            first
              | (refine wpRel_pass (by rfl) (fun U => by rfl) ?_; simp only [Act.put, List.setIfInBounds_toArray, List.set_cons_zero, List.set_cons_succ])
              | (refine' wpRel_fix (by rfl) (fun U => by rfl) (fun m U w' hI hG => ?_) ?_
                 rotate_left
                 focus (have hf := HF.out w' hI; unfold relAt; go_simp; first | exact ⟨rfl, Below.refl _ _⟩ | exact Below.refl _ _ | exact ⟨trivial, Below.refl _ _⟩)
                 simp only [Act.put, List.setIfInBounds_toArray, List.set_cons_zero, List.set_cons_succ])
            first
              | (refine wpRel_pass (by rfl) (fun U => by rfl) ?_; simp only [Act.put, List.setIfInBounds_toArray, List.set_cons_zero, List.set_cons_succ])
              | (refine' wpRel_fix (by rfl) (fun U => by rfl) (fun m U w' hI hG => ?_) ?_
                 rotate_left
                 focus (have hf := HF.out w' hI; unfold relAt; go_simp; first | exact ⟨rfl, Below.refl _ _⟩ | exact Below.refl _ _ | exact ⟨trivial, Below.refl _ _⟩)
                 simp only [Act.put, List.setIfInBounds_toArray, List.set_cons_zero, List.set_cons_succ])
            intro U w8 hI hG
            have B8 := Lib.hid (B1.out.trans ((show Below w1.heap.size w1 w8 from hI).mono (by have := B1.out.size; rw [HS00.out] at this; exact this)))
            have O8 := Lib.hid (O1.out.belowAll (show Below w1.heap.size w1 w8 from hI))
            clear hI hG HF
            go_wp2_with fail
            go_roundw
            case rel => exact ⟨k + 1, l, by omega, by go_num, rfl, by rw [HST.out]; simp [tpStep, HLT.out], by have h6 := HLT.out; rw [HNE.out] at h6; rw [HST.out, HL.out]; simp [tpStep, h6, HNE.out], O8.out, B8.out⟩
            case measure => simp [intOf]; omega
          | false =>
            have hne : ¬ xs[k].name = fn := fun h => by rw [h] at he; simp at he
            have HNE := Lib.hid hne
            clear hne
            go_wp2_with fail
            have HF : Hid (∀ w', Below w1.heap.size w1 w' → (w'.cell? ⟨a, ao + k * 2, none⟩ = some (.string xs[k].name) ∧ w'.cell? ⟨a, ao + k * 2 + 1, none⟩ = some xs[k].sibs.val) ∧ (w'.cell? ⟨w.heap.size, 0, none⟩ = some (.string fn) ∧ w'.cell? ⟨w.heap.size, 1, none⟩ = some fs.val)) := Lib.hid (fun w' h => by
              have := HC.out w' (B1.out.trans (h.mono (by have := B1.out.size; rw [HS00.out] at this; exact this)))
              exact ⟨this.1 k hlt a ao rfl, this.2.1⟩)
            refine wp_region_rel 8 (by kernel_rfl) (by kernel_rfl) (by rfl) ?_
            simp only [List.take_succ_cons, List.take_zero, List.drop_succ_cons, List.drop_zero]
            first
              | (refine wpRel_pass (by rfl) (fun U => by rfl) ?_; simp only [Act.put, List.setIfInBounds_toArray, List.set_cons_zero, List.set_cons_succ])
              | (refine' wpRel_fix (by rfl) (fun U => by rfl) (fun m U w' hI hG => ?_) ?_
                 rotate_left
                 focus (have hf := HF.out w' hI; unfold relAt; go_simp; first | exact ⟨rfl, Below.refl _ _⟩ | exact Below.refl _ _ | exact ⟨trivial, Below.refl _ _⟩)
                 simp only [Act.put, List.setIfInBounds_toArray, List.set_cons_zero, List.set_cons_succ])
            first
              | (refine wpRel_pass (by rfl) (fun U => by rfl) ?_; simp only [Act.put, List.setIfInBounds_toArray, List.set_cons_zero, List.set_cons_succ])
              | (refine' wpRel_fix (by rfl) (fun U => by rfl) (fun m U w' hI hG => ?_) ?_
                 rotate_left
                 focus (have hf := HF.out w' hI; unfold relAt; go_simp; first | exact ⟨rfl, Below.refl _ _⟩ | exact Below.refl _ _ | exact ⟨trivial, Below.refl _ _⟩)
                 simp only [Act.put, List.setIfInBounds_toArray, List.set_cons_zero, List.set_cons_succ])
            first
              | (refine wpRel_pass (by rfl) (fun U => by rfl) ?_; simp only [Act.put, List.setIfInBounds_toArray, List.set_cons_zero, List.set_cons_succ])
              | (refine' wpRel_fix (by rfl) (fun U => by rfl) (fun m U w' hI hG => ?_) ?_
                 rotate_left
                 focus (have hf := HF.out w' hI; unfold relAt; go_simp; first | exact ⟨rfl, Below.refl _ _⟩ | exact Below.refl _ _ | exact ⟨trivial, Below.refl _ _⟩)
                 simp only [Act.put, List.setIfInBounds_toArray, List.set_cons_zero, List.set_cons_succ])
            first
              | (refine wpRel_pass (by rfl) (fun U => by rfl) ?_; simp only [Act.put, List.setIfInBounds_toArray, List.set_cons_zero, List.set_cons_succ])
              | (refine' wpRel_fix (by rfl) (fun U => by rfl) (fun m U w' hI hG => ?_) ?_
                 rotate_left
                 focus (have hf := HF.out w' hI; unfold relAt; go_simp; first | exact ⟨rfl, Below.refl _ _⟩ | exact Below.refl _ _ | exact ⟨trivial, Below.refl _ _⟩)
                 simp only [Act.put, List.setIfInBounds_toArray, List.set_cons_zero, List.set_cons_succ])
            first
              | (refine wpRel_pass (by rfl) (fun U => by rfl) ?_; simp only [Act.put, List.setIfInBounds_toArray, List.set_cons_zero, List.set_cons_succ])
              | (refine' wpRel_fix (by rfl) (fun U => by rfl) (fun m U w' hI hG => ?_) ?_
                 rotate_left
                 focus (have hf := HF.out w' hI; unfold relAt; go_simp; first | exact ⟨rfl, Below.refl _ _⟩ | exact Below.refl _ _ | exact ⟨trivial, Below.refl _ _⟩)
                 simp only [Act.put, List.setIfInBounds_toArray, List.set_cons_zero, List.set_cons_succ])
            first
              | (refine wpRel_pass (by rfl) (fun U => by rfl) ?_; simp only [Act.put, List.setIfInBounds_toArray, List.set_cons_zero, List.set_cons_succ])
              | (refine' wpRel_fix (by rfl) (fun U => by rfl) (fun m U w' hI hG => ?_) ?_
                 rotate_left
                 focus (have hf := HF.out w' hI; unfold relAt; go_simp; first | exact ⟨rfl, Below.refl _ _⟩ | exact Below.refl _ _ | exact ⟨trivial, Below.refl _ _⟩)
                 simp only [Act.put, List.setIfInBounds_toArray, List.set_cons_zero, List.set_cons_succ])
            first
              | (refine wpRel_pass (by rfl) (fun U => by rfl) ?_; simp only [Act.put, List.setIfInBounds_toArray, List.set_cons_zero, List.set_cons_succ])
              | (refine' wpRel_fix (by rfl) (fun U => by rfl) (fun m U w' hI hG => ?_) ?_
                 rotate_left
                 focus (have hf := HF.out w' hI; unfold relAt; go_simp; first | exact ⟨rfl, Below.refl _ _⟩ | exact Below.refl _ _ | exact ⟨trivial, Below.refl _ _⟩)
                 simp only [Act.put, List.setIfInBounds_toArray, List.set_cons_zero, List.set_cons_succ])
            first
              | (refine wpRel_pass (by rfl) (fun U => by rfl) ?_; simp only [Act.put, List.setIfInBounds_toArray, List.set_cons_zero, List.set_cons_succ])
              | (refine' wpRel_fix (by rfl) (fun U => by rfl) (fun m U w' hI hG => ?_) ?_
                 rotate_left
                 focus (have hf := HF.out w' hI; unfold relAt; go_simp; first | exact ⟨rfl, Below.refl _ _⟩ | exact Below.refl _ _ | exact ⟨trivial, Below.refl _ _⟩)
                 simp only [Act.put, List.setIfInBounds_toArray, List.set_cons_zero, List.set_cons_succ])
            intro U w8 hI hG
            have B8 := Lib.hid (B1.out.trans ((show Below w1.heap.size w1 w8 from hI).mono (by have := B1.out.size; rw [HS00.out] at this; exact this)))
            have O8 := Lib.hid (O1.out.belowAll (show Below w1.heap.size w1 w8 from hI))
            clear hI hG HF
            obtain ⟨f1, -, f3⟩ := HC.out w8 B8.out
            obtain ⟨c0, c1⟩ := f1 k hlt a ao rfl
            have hm3 := f3 xs[k] (.inr (List.getElem_mem hlt))
            have HMX := Lib.hid (one_more (W := w8) (e' := 58) (cs := #[.string xs[k].name, xs[k].sibs.val]) (g := w8.heap.size) l xs[k] rfl rfl O8.out hm3.1 (fun b hb h => by have := hm3.2 b hb; have := (O8.out.lt b h.symm).1; omega) (by have := HLL.out; omega) (by have := B8.out.size; rw [HS00.out] at this; exact this))
            clear f1 f3 hm3
            go_wp2_with (at_builtin; refine wpList_append_one rfl _ _ 24 rfl _ 58 elem_file l rfl (w8.heap.size) xs[k] rfl HMX.out ?_)
            intro l3 w3 hap3
            have BL := Lib.hid (B8.out.trans ((Below.refl (w8.heap.size) w8).alloc (Nat.le_refl _) (Obj.cells #[.string xs[k].name, xs[k].sibs.val] 58) |>.mono (by have := B8.out.size; rw [HS00.out] at this; exact this)))
            have B3 := Lib.hid (hap3.below HMX.out.own BL.out (Nat.le_refl _) HMX.out.lo)
            have A3 := Lib.hid hap3
            clear hap3 c0 c1
            go_wp2_with fail
            go_roundw
            case rel => exact ⟨k + 1, l3, by omega, by go_num, rfl, by rw [HST.out]; simp [tpStep, HLT.out], by rw [HST.out, A3.out.xs, HL.out]; simp [tpStep, HLT.out, HNE.out], A3.out.own, B3.out⟩
            case measure => simp [intOf]; omega
        | false =>
          go_wp2_with fail
          have HF : Hid (∀ w', Below wr.heap.size wr w' → (w'.cell? ⟨a, ao + k * 2, none⟩ = some (.string xs[k].name) ∧ w'.cell? ⟨a, ao + k * 2 + 1, none⟩ = some xs[k].sibs.val) ∧ (w'.cell? ⟨w.heap.size, 0, none⟩ = some (.string fn) ∧ w'.cell? ⟨w.heap.size, 1, none⟩ = some fs.val)) := Lib.hid (fun w' h => by
            have := HC.out w' (HB.out.trans (h.mono (by have := HB.out.size; rw [HS00.out] at this; exact this)))
            exact ⟨this.1 k hlt a ao rfl, this.2.1⟩)
          refine wp_region_rel 12 (by kernel_rfl) (by kernel_rfl) (by rfl) ?_
          simp only [List.take_succ_cons, List.take_zero, List.drop_succ_cons, List.drop_zero]
          first
            | (refine wpRel_pass (by rfl) (fun U => by rfl) ?_; simp only [Act.put, List.setIfInBounds_toArray, List.set_cons_zero, List.set_cons_succ])
            | (refine' wpRel_fix (by rfl) (fun U => by rfl) (fun m U w' hI hG => ?_) ?_
               rotate_left
               focus (have hf := HF.out w' hI; unfold relAt; go_simp; first | exact ⟨rfl, Below.refl _ _⟩ | exact Below.refl _ _ | exact ⟨trivial, Below.refl _ _⟩)
               simp only [Act.put, List.setIfInBounds_toArray, List.set_cons_zero, List.set_cons_succ])
          first
            | (refine wpRel_pass (by rfl) (fun U => by rfl) ?_; simp only [Act.put, List.setIfInBounds_toArray, List.set_cons_zero, List.set_cons_succ])
            | (refine' wpRel_fix (by rfl) (fun U => by rfl) (fun m U w' hI hG => ?_) ?_
               rotate_left
               focus (have hf := HF.out w' hI; unfold relAt; go_simp; first | exact ⟨rfl, Below.refl _ _⟩ | exact Below.refl _ _ | exact ⟨trivial, Below.refl _ _⟩)
               simp only [Act.put, List.setIfInBounds_toArray, List.set_cons_zero, List.set_cons_succ])
          first
            | (refine wpRel_pass (by rfl) (fun U => by rfl) ?_; simp only [Act.put, List.setIfInBounds_toArray, List.set_cons_zero, List.set_cons_succ])
            | (refine' wpRel_fix (by rfl) (fun U => by rfl) (fun m U w' hI hG => ?_) ?_
               rotate_left
               focus (have hf := HF.out w' hI; unfold relAt; go_simp; first | exact ⟨rfl, Below.refl _ _⟩ | exact Below.refl _ _ | exact ⟨trivial, Below.refl _ _⟩)
               simp only [Act.put, List.setIfInBounds_toArray, List.set_cons_zero, List.set_cons_succ])
          first
            | (refine wpRel_pass (by rfl) (fun U => by rfl) ?_; simp only [Act.put, List.setIfInBounds_toArray, List.set_cons_zero, List.set_cons_succ])
            | (refine' wpRel_fix (by rfl) (fun U => by rfl) (fun m U w' hI hG => ?_) ?_
               rotate_left
               focus (have hf := HF.out w' hI; unfold relAt; go_simp; first | exact ⟨rfl, Below.refl _ _⟩ | exact Below.refl _ _ | exact ⟨trivial, Below.refl _ _⟩)
               simp only [Act.put, List.setIfInBounds_toArray, List.set_cons_zero, List.set_cons_succ])
          first
            | (refine wpRel_pass (by rfl) (fun U => by rfl) ?_; simp only [Act.put, List.setIfInBounds_toArray, List.set_cons_zero, List.set_cons_succ])
            | (refine' wpRel_fix (by rfl) (fun U => by rfl) (fun m U w' hI hG => ?_) ?_
               rotate_left
               focus (have hf := HF.out w' hI; unfold relAt; go_simp; first | exact ⟨rfl, Below.refl _ _⟩ | exact Below.refl _ _ | exact ⟨trivial, Below.refl _ _⟩)
               simp only [Act.put, List.setIfInBounds_toArray, List.set_cons_zero, List.set_cons_succ])
          first
            | (refine wpRel_pass (by rfl) (fun U => by rfl) ?_; simp only [Act.put, List.setIfInBounds_toArray, List.set_cons_zero, List.set_cons_succ])
            | (refine' wpRel_fix (by rfl) (fun U => by rfl) (fun m U w' hI hG => ?_) ?_
               rotate_left
               focus (have hf := HF.out w' hI; unfold relAt; go_simp; first | exact ⟨rfl, Below.refl _ _⟩ | exact Below.refl _ _ | exact ⟨trivial, Below.refl _ _⟩)
               simp only [Act.put, List.setIfInBounds_toArray, List.set_cons_zero, List.set_cons_succ])
          first
            | (refine wpRel_pass (by rfl) (fun U => by rfl) ?_; simp only [Act.put, List.setIfInBounds_toArray, List.set_cons_zero, List.set_cons_succ])
            | (refine' wpRel_fix (by rfl) (fun U => by rfl) (fun m U w' hI hG => ?_) ?_
               rotate_left
               focus (have hf := HF.out w' hI; unfold relAt; go_simp; first | exact ⟨rfl, Below.refl _ _⟩ | exact Below.refl _ _ | exact ⟨trivial, Below.refl _ _⟩)
               simp only [Act.put, List.setIfInBounds_toArray, List.set_cons_zero, List.set_cons_succ])
          first
            | (refine wpRel_pass (by rfl) (fun U => by rfl) ?_; simp only [Act.put, List.setIfInBounds_toArray, List.set_cons_zero, List.set_cons_succ])
            | (refine' wpRel_fix (by rfl) (fun U => by rfl) (fun m U w' hI hG => ?_) ?_
               rotate_left
               focus (have hf := HF.out w' hI; unfold relAt; go_simp; first | exact ⟨rfl, Below.refl _ _⟩ | exact Below.refl _ _ | exact ⟨trivial, Below.refl _ _⟩)
               simp only [Act.put, List.setIfInBounds_toArray, List.set_cons_zero, List.set_cons_succ])
          first
            | (refine wpRel_pass (by rfl) (fun U => by rfl) ?_; simp only [Act.put, List.setIfInBounds_toArray, List.set_cons_zero, List.set_cons_succ])
            | (refine' wpRel_fix (by rfl) (fun U => by rfl) (fun m U w' hI hG => ?_) ?_
               rotate_left
               focus (have hf := HF.out w' hI; unfold relAt; go_simp; first | exact ⟨rfl, Below.refl _ _⟩ | exact Below.refl _ _ | exact ⟨trivial, Below.refl _ _⟩)
               simp only [Act.put, List.setIfInBounds_toArray, List.set_cons_zero, List.set_cons_succ])
          first
            | (refine wpRel_pass (by rfl) (fun U => by rfl) ?_; simp only [Act.put, List.setIfInBounds_toArray, List.set_cons_zero, List.set_cons_succ])
            | (refine' wpRel_fix (by rfl) (fun U => by rfl) (fun m U w' hI hG => ?_) ?_
               rotate_left
               focus (have hf := HF.out w' hI; unfold relAt; go_simp; first | exact ⟨rfl, Below.refl _ _⟩ | exact Below.refl _ _ | exact ⟨trivial, Below.refl _ _⟩)
               simp only [Act.put, List.setIfInBounds_toArray, List.set_cons_zero, List.set_cons_succ])
          first
            | (refine wpRel_pass (by rfl) (fun U => by rfl) ?_; simp only [Act.put, List.setIfInBounds_toArray, List.set_cons_zero, List.set_cons_succ])
            | (refine' wpRel_fix (by rfl) (fun U => by rfl) (fun m U w' hI hG => ?_) ?_
               rotate_left
               focus (have hf := HF.out w' hI; unfold relAt; go_simp; first | exact ⟨rfl, Below.refl _ _⟩ | exact Below.refl _ _ | exact ⟨trivial, Below.refl _ _⟩)
               simp only [Act.put, List.setIfInBounds_toArray, List.set_cons_zero, List.set_cons_succ])
          first
            | (refine wpRel_pass (by rfl) (fun U => by rfl) ?_; simp only [Act.put, List.setIfInBounds_toArray, List.set_cons_zero, List.set_cons_succ])
            | (refine' wpRel_fix (by rfl) (fun U => by rfl) (fun m U w' hI hG => ?_) ?_
               rotate_left
               focus (have hf := HF.out w' hI; unfold relAt; go_simp; first | exact ⟨rfl, Below.refl _ _⟩ | exact Below.refl _ _ | exact ⟨trivial, Below.refl _ _⟩)
               simp only [Act.put, List.setIfInBounds_toArray, List.set_cons_zero, List.set_cons_succ])
          intro U w1 hI hG
          have B1 := Lib.hid (HB.out.trans ((show Below wr.heap.size wr w1 from hI).mono (by have := HB.out.size; rw [HS00.out] at this; exact this)))
          have O1 := Lib.hid (HO.out.belowAll (show Below wr.heap.size wr w1 from hI))
          clear hI hG HF
          obtain ⟨f1, ⟨d0, d1⟩, f3⟩ := HC.out w1 B1.out
          have hm3 := f3 (⟨fn, fs⟩ : LFile) (.inl rfl)
          have HMS := Lib.hid (one_more (W := w1) (e' := 58) (cs := #[.string fn, fs.val]) (g := w1.heap.size) l (⟨fn, fs⟩ : LFile) rfl rfl O1.out hm3.1 (fun b hb h => by have := hm3.2 b hb; have := (O1.out.lt b h.symm).1; omega) (by have := HLL.out; omega) (by have := B1.out.size; rw [HS00.out] at this; exact this))
          clear f1 f3 hm3
          go_wp2_with (at_builtin; refine wpList_append_one rfl _ _ 24 rfl _ 58 elem_file l rfl (w1.heap.size) (⟨fn, fs⟩ : LFile) rfl HMS.out ?_)
          intro l2 w2 hap2
          have BS := Lib.hid (B1.out.trans ((Below.refl (w1.heap.size) w1).alloc (Nat.le_refl _) (Obj.cells #[.string fn, fs.val] 58) |>.mono (by have := B1.out.size; rw [HS00.out] at this; exact this)))
          have B2 := Lib.hid (hap2.below HMS.out.own BS.out (Nat.le_refl _) HMS.out.lo)
          have A2 := Lib.hid hap2
          have O2 := Lib.hid hap2.own
          have hl2 : l2.xs.length ≤ 10002 := by have := HLL.out; rw [A2.out.xs]; simp; omega
          have HL2 := Lib.hid hl2
          clear hap2 d0 d1 hl2
          have HL2X : Hid (l2.xs = ro ++ [(⟨fn, fs⟩ : LFile)]) := Lib.hid (by rw [A2.out.xs, HL.out])
          cases he : (xs[k].name.toList == fn.toList) with
          | true =>
            have hne : xs[k].name = fn := toList_inj.1 (by simpa using he)
            have HNE := Lib.hid hne
            clear hne
            go_wp2_with fail
            have HF : Hid (∀ w', Below w2.heap.size w2 w' → (w'.cell? ⟨a, ao + k * 2, none⟩ = some (.string xs[k].name) ∧ w'.cell? ⟨a, ao + k * 2 + 1, none⟩ = some xs[k].sibs.val) ∧ (w'.cell? ⟨w.heap.size, 0, none⟩ = some (.string fn) ∧ w'.cell? ⟨w.heap.size, 1, none⟩ = some fs.val)) := Lib.hid (fun w' h => by
              have := HC.out w' (B2.out.trans (h.mono (by have := B2.out.size; rw [HS00.out] at this; exact this)))
              exact ⟨this.1 k hlt a ao rfl, this.2.1⟩)
            refine wp_region_rel 8 (by kernel_rfl) (by kernel_rfl) (by rfl) ?_
            simp only [List.take_succ_cons, List.take_zero, List.drop_succ_cons, List.drop_zero]
            first
              | (refine wpRel_pass (by rfl) (fun U => by rfl) ?_; simp only [Act.put, List.setIfInBounds_toArray, List.set_cons_zero, List.set_cons_succ])
              | (refine' wpRel_fix (by rfl) (fun U => by rfl) (fun m U w' hI hG => ?_) ?_
                 rotate_left
                 focus (have hf := HF.out w' hI; unfold relAt; go_simp; first | exact ⟨rfl, Below.refl _ _⟩ | exact Below.refl _ _ | exact ⟨trivial, Below.refl _ _⟩)
                 simp only [Act.put, List.setIfInBounds_toArray, List.set_cons_zero, List.set_cons_succ])
            first
              | (refine wpRel_pass (by rfl) (fun U => by rfl) ?_; simp only [Act.put, List.setIfInBounds_toArray, List.set_cons_zero, List.set_cons_succ])
              | (refine' wpRel_fix (by rfl) (fun U => by rfl) (fun m U w' hI hG => ?_) ?_
                 rotate_left
                 focus (have hf := HF.out w' hI; unfold relAt; go_simp; first | exact ⟨rfl, Below.refl _ _⟩ | exact Below.refl _ _ | exact ⟨trivial, Below.refl _ _⟩)
                 simp only [Act.put, List.setIfInBounds_toArray, List.set_cons_zero, List.set_cons_succ])
            first
              | (refine wpRel_pass (by rfl) (fun U => by rfl) ?_; simp only [Act.put, List.setIfInBounds_toArray, List.set_cons_zero, List.set_cons_succ])
              | (refine' wpRel_fix (by rfl) (fun U => by rfl) (fun m U w' hI hG => ?_) ?_
                 rotate_left
                 focus (have hf := HF.out w' hI; unfold relAt; go_simp; first | exact ⟨rfl, Below.refl _ _⟩ | exact Below.refl _ _ | exact ⟨trivial, Below.refl _ _⟩)
                 simp only [Act.put, List.setIfInBounds_toArray, List.set_cons_zero, List.set_cons_succ])
            first
              | (refine wpRel_pass (by rfl) (fun U => by rfl) ?_; simp only [Act.put, List.setIfInBounds_toArray, List.set_cons_zero, List.set_cons_succ])
              | (refine' wpRel_fix (by rfl) (fun U => by rfl) (fun m U w' hI hG => ?_) ?_
                 rotate_left
                 focus (have hf := HF.out w' hI; unfold relAt; go_simp; first | exact ⟨rfl, Below.refl _ _⟩ | exact Below.refl _ _ | exact ⟨trivial, Below.refl _ _⟩)
                 simp only [Act.put, List.setIfInBounds_toArray, List.set_cons_zero, List.set_cons_succ])
            first
              | (refine wpRel_pass (by rfl) (fun U => by rfl) ?_; simp only [Act.put, List.setIfInBounds_toArray, List.set_cons_zero, List.set_cons_succ])
              | (refine' wpRel_fix (by rfl) (fun U => by rfl) (fun m U w' hI hG => ?_) ?_
                 rotate_left
                 focus (have hf := HF.out w' hI; unfold relAt; go_simp; first | exact ⟨rfl, Below.refl _ _⟩ | exact Below.refl _ _ | exact ⟨trivial, Below.refl _ _⟩)
                 simp only [Act.put, List.setIfInBounds_toArray, List.set_cons_zero, List.set_cons_succ])
            first
              | (refine wpRel_pass (by rfl) (fun U => by rfl) ?_; simp only [Act.put, List.setIfInBounds_toArray, List.set_cons_zero, List.set_cons_succ])
              | (refine' wpRel_fix (by rfl) (fun U => by rfl) (fun m U w' hI hG => ?_) ?_
                 rotate_left
                 focus (have hf := HF.out w' hI; unfold relAt; go_simp; first | exact ⟨rfl, Below.refl _ _⟩ | exact Below.refl _ _ | exact ⟨trivial, Below.refl _ _⟩)
                 simp only [Act.put, List.setIfInBounds_toArray, List.set_cons_zero, List.set_cons_succ])
            first
              | (refine wpRel_pass (by rfl) (fun U => by rfl) ?_; simp only [Act.put, List.setIfInBounds_toArray, List.set_cons_zero, List.set_cons_succ])
              | (refine' wpRel_fix (by rfl) (fun U => by rfl) (fun m U w' hI hG => ?_) ?_
                 rotate_left
                 focus (have hf := HF.out w' hI; unfold relAt; go_simp; first | exact ⟨rfl, Below.refl _ _⟩ | exact Below.refl _ _ | exact ⟨trivial, Below.refl _ _⟩)
                 simp only [Act.put, List.setIfInBounds_toArray, List.set_cons_zero, List.set_cons_succ])
            first
              | (refine wpRel_pass (by rfl) (fun U => by rfl) ?_; simp only [Act.put, List.setIfInBounds_toArray, List.set_cons_zero, List.set_cons_succ])
              | (refine' wpRel_fix (by rfl) (fun U => by rfl) (fun m U w' hI hG => ?_) ?_
                 rotate_left
                 focus (have hf := HF.out w' hI; unfold relAt; go_simp; first | exact ⟨rfl, Below.refl _ _⟩ | exact Below.refl _ _ | exact ⟨trivial, Below.refl _ _⟩)
                 simp only [Act.put, List.setIfInBounds_toArray, List.set_cons_zero, List.set_cons_succ])
            intro U w8 hI hG
            have B8 := Lib.hid (B2.out.trans ((show Below w2.heap.size w2 w8 from hI).mono (by have := B2.out.size; rw [HS00.out] at this; exact this)))
            have O8 := Lib.hid (O2.out.belowAll (show Below w2.heap.size w2 w8 from hI))
            clear hI hG HF
            go_wp2_with fail
            go_roundw
            case rel => exact ⟨k + 1, l2, by omega, by go_num, rfl, by rw [HST.out]; simp [tpStep, HLT.out], by have h6 := HLT.out; rw [HNE.out] at h6; rw [HST.out, HL2X.out]; simp [tpStep, h6, HNE.out], O8.out, B8.out⟩
            case measure => simp [intOf]; omega
          | false =>
            have hne : ¬ xs[k].name = fn := fun h => by rw [h] at he; simp at he
            have HNE := Lib.hid hne
            clear hne
            go_wp2_with fail
            have HF : Hid (∀ w', Below w2.heap.size w2 w' → (w'.cell? ⟨a, ao + k * 2, none⟩ = some (.string xs[k].name) ∧ w'.cell? ⟨a, ao + k * 2 + 1, none⟩ = some xs[k].sibs.val) ∧ (w'.cell? ⟨w.heap.size, 0, none⟩ = some (.string fn) ∧ w'.cell? ⟨w.heap.size, 1, none⟩ = some fs.val)) := Lib.hid (fun w' h => by
              have := HC.out w' (B2.out.trans (h.mono (by have := B2.out.size; rw [HS00.out] at this; exact this)))
              exact ⟨this.1 k hlt a ao rfl, this.2.1⟩)
            refine wp_region_rel 8 (by kernel_rfl) (by kernel_rfl) (by rfl) ?_
            simp only [List.take_succ_cons, List.take_zero, List.drop_succ_cons, List.drop_zero]
            first
              | (refine wpRel_pass (by rfl) (fun U => by rfl) ?_; simp only [Act.put, List.setIfInBounds_toArray, List.set_cons_zero, List.set_cons_succ])
              | (refine' wpRel_fix (by rfl) (fun U => by rfl) (fun m U w' hI hG => ?_) ?_
                 rotate_left
                 focus (have hf := HF.out w' hI; unfold relAt; go_simp; first | exact ⟨rfl, Below.refl _ _⟩ | exact Below.refl _ _ | exact ⟨trivial, Below.refl _ _⟩)
                 simp only [Act.put, List.setIfInBounds_toArray, List.set_cons_zero, List.set_cons_succ])
            first
              | (refine wpRel_pass (by rfl) (fun U => by rfl) ?_; simp only [Act.put, List.setIfInBounds_toArray, List.set_cons_zero, List.set_cons_succ])
              | (refine' wpRel_fix (by rfl) (fun U => by rfl) (fun m U w' hI hG => ?_) ?_
                 rotate_left
                 focus (have hf := HF.out w' hI; unfold relAt; go_simp; first | exact ⟨rfl, Below.refl _ _⟩ | exact Below.refl _ _ | exact ⟨trivial, Below.refl _ _⟩)
                 simp only [Act.put, List.setIfInBounds_toArray, List.set_cons_zero, List.set_cons_succ])
            first
              | (refine wpRel_pass (by rfl) (fun U => by rfl) ?_; simp only [Act.put, List.setIfInBounds_toArray, List.set_cons_zero, List.set_cons_succ])
              | (refine' wpRel_fix (by rfl) (fun U => by rfl) (fun m U w' hI hG => ?_) ?_
                 rotate_left
                 focus (have hf := HF.out w' hI; unfold relAt; go_simp; first | exact ⟨rfl, Below.refl _ _⟩ | exact Below.refl _ _ | exact ⟨trivial, Below.refl _ _⟩)
                 simp only [Act.put, List.setIfInBounds_toArray, List.set_cons_zero, List.set_cons_succ])
            first
              | (refine wpRel_pass (by rfl) (fun U => by rfl) ?_; simp only [Act.put, List.setIfInBounds_toArray, List.set_cons_zero, List.set_cons_succ])
              | (refine' wpRel_fix (by rfl) (fun U => by rfl) (fun m U w' hI hG => ?_) ?_
                 rotate_left
                 focus (have hf := HF.out w' hI; unfold relAt; go_simp; first | exact ⟨rfl, Below.refl _ _⟩ | exact Below.refl _ _ | exact ⟨trivial, Below.refl _ _⟩)
                 simp only [Act.put, List.setIfInBounds_toArray, List.set_cons_zero, List.set_cons_succ])
            first
              | (refine wpRel_pass (by rfl) (fun U => by rfl) ?_; simp only [Act.put, List.setIfInBounds_toArray, List.set_cons_zero, List.set_cons_succ])
              | (refine' wpRel_fix (by rfl) (fun U => by rfl) (fun m U w' hI hG => ?_) ?_
                 rotate_left
                 focus (have hf := HF.out w' hI; unfold relAt; go_simp; first | exact ⟨rfl, Below.refl _ _⟩ | exact Below.refl _ _ | exact ⟨trivial, Below.refl _ _⟩)
                 simp only [Act.put, List.setIfInBounds_toArray, List.set_cons_zero, List.set_cons_succ])
            first
              | (refine wpRel_pass (by rfl) (fun U => by rfl) ?_; simp only [Act.put, List.setIfInBounds_toArray, List.set_cons_zero, List.set_cons_succ])
              | (refine' wpRel_fix (by rfl) (fun U => by rfl) (fun m U w' hI hG => ?_) ?_
                 rotate_left
                 focus (have hf := HF.out w' hI; unfold relAt; go_simp; first | exact ⟨rfl, Below.refl _ _⟩ | exact Below.refl _ _ | exact ⟨trivial, Below.refl _ _⟩)
                 simp only [Act.put, List.setIfInBounds_toArray, List.set_cons_zero, List.set_cons_succ])
            first
              | (refine wpRel_pass (by rfl) (fun U => by rfl) ?_; simp only [Act.put, List.setIfInBounds_toArray, List.set_cons_zero, List.set_cons_succ])
              | (refine' wpRel_fix (by rfl) (fun U => by rfl) (fun m U w' hI hG => ?_) ?_
                 rotate_left
                 focus (have hf := HF.out w' hI; unfold relAt; go_simp; first | exact ⟨rfl, Below.refl _ _⟩ | exact Below.refl _ _ | exact ⟨trivial, Below.refl _ _⟩)
                 simp only [Act.put, List.setIfInBounds_toArray, List.set_cons_zero, List.set_cons_succ])
            first
              | (refine wpRel_pass (by rfl) (fun U => by rfl) ?_; simp only [Act.put, List.setIfInBounds_toArray, List.set_cons_zero, List.set_cons_succ])
              | (refine' wpRel_fix (by rfl) (fun U => by rfl) (fun m U w' hI hG => ?_) ?_
                 rotate_left
                 focus (have hf := HF.out w' hI; unfold relAt; go_simp; first | exact ⟨rfl, Below.refl _ _⟩ | exact Below.refl _ _ | exact ⟨trivial, Below.refl _ _⟩)
                 simp only [Act.put, List.setIfInBounds_toArray, List.set_cons_zero, List.set_cons_succ])
            intro U w8 hI hG
            have B8 := Lib.hid (B2.out.trans ((show Below w2.heap.size w2 w8 from hI).mono (by have := B2.out.size; rw [HS00.out] at this; exact this)))
            have O8 := Lib.hid (O2.out.belowAll (show Below w2.heap.size w2 w8 from hI))
            clear hI hG HF
            obtain ⟨f1, -, f3⟩ := HC.out w8 B8.out
            obtain ⟨c0, c1⟩ := f1 k hlt a ao rfl
            have hm3 := f3 xs[k] (.inr (List.getElem_mem hlt))
            have HMX := Lib.hid (one_more (W := w8) (e' := 58) (cs := #[.string xs[k].name, xs[k].sibs.val]) (g := w8.heap.size) l2 xs[k] rfl rfl O8.out hm3.1 (fun b hb h => by have := hm3.2 b hb; have := (O8.out.lt b h.symm).1; omega) (by have := HL2.out; omega) (by have := B8.out.size; rw [HS00.out] at this; exact this))
            clear f1 f3 hm3
            go_wp2_with (at_builtin; refine wpList_append_one rfl _ _ 24 rfl _ 58 elem_file l2 rfl (w8.heap.size) xs[k] rfl HMX.out ?_)
            intro l3 w3 hap3
            have BL := Lib.hid (B8.out.trans ((Below.refl (w8.heap.size) w8).alloc (Nat.le_refl _) (Obj.cells #[.string xs[k].name, xs[k].sibs.val] 58) |>.mono (by have := B8.out.size; rw [HS00.out] at this; exact this)))
            have B3 := Lib.hid (hap3.below HMX.out.own BL.out (Nat.le_refl _) HMX.out.lo)
            have A3 := Lib.hid hap3
            clear hap3 c0 c1
            go_wp2_with fail
            go_roundw
            case rel => exact ⟨k + 1, l3, by omega, by go_num, rfl, by rw [HST.out]; simp [tpStep, HLT.out], by rw [HST.out, A3.out.xs, HL2X.out]; simp [tpStep, HLT.out, HNE.out], A3.out.own, B3.out⟩
            case measure => simp [intOf]; omega
    · have hkk : k = xs.length := by omega
      subst hkk
      rw [List.take_length] at HL ⊢
      generalize hp : tpSt LFile.name (⟨fn, fs⟩ : LFile) xs = r at *
      obtain ⟨ro, rp⟩ := r
      have HP := Lib.hid hp
      clear hp
      simp only at HL ⊢
      cases rp with
      | true =>
        go_wp2_with fail
        go_ret
        exact ⟨l, rfl, by rw [HL.out, tpL, HP.out]; rfl, HO.out, HW0.out.trans (HB.out.mono (by omega))⟩
      | false =>
        obtain ⟨f1, ⟨d0, d1⟩, f3⟩ := HC.out wr HB.out
        have hm3 := f3 (⟨fn, fs⟩ : LFile) (.inl rfl)
        have HMS := Lib.hid (one_more (W := wr) (e' := 58) (cs := #[.string fn, fs.val]) (g := wr.heap.size) l (⟨fn, fs⟩ : LFile) rfl rfl HO.out hm3.1 (fun b hb h => by have := hm3.2 b hb; have := (HO.out.lt b h.symm).1; omega) (by have := HLL.out; omega) (by have := HB.out.size; rw [HS00.out] at this; exact this))
        clear f1 f3 hm3
        go_wp2_with (at_builtin; refine wpList_append_one rfl _ _ 24 rfl _ 58 elem_file l rfl (wr.heap.size) (⟨fn, fs⟩ : LFile) rfl HMS.out ?_)
        intro l2 w2 hap2
        have BS := Lib.hid (HB.out.trans ((Below.refl (wr.heap.size) wr).alloc (Nat.le_refl _) (Obj.cells #[.string fn, fs.val] 58) |>.mono (by have := HB.out.size; rw [HS00.out] at this; exact this)))
        have B2 := Lib.hid (hap2.below HMS.out.own BS.out (Nat.le_refl _) HMS.out.lo)
        have A2 := Lib.hid hap2
        have O2 := Lib.hid hap2.own
        have hl2 : l2.xs.length ≤ 10002 := by have := HLL.out; rw [A2.out.xs]; simp; omega
        have HL2 := Lib.hid hl2
        clear hap2 d0 d1 hl2
        go_wp2_with fail
        go_ret
        exact ⟨l2, rfl, by rw [A2.out.xs, HL.out, tpL, HP.out]; rfl, O2.out, HW0.out.trans (B2.out.mono (by omega))⟩
end Go.Proofs.YtdidkfadiaafiaaGreatDoor
