/- slices.SortFunc at siblings, under the program's compareSibs. slices.CompactFunc at siblings, under the program's own test. The program's mergeSibs: all of two lists that no other one knows. -/
import Derived.Test.YtdidkfadiaafiaaGreatDoorPureT
import Derived.Test.YtdidkfadiaafiaaGreatDoorVvOps
import Derived.Test.YtdidkfadiaafiaaGreatDoorShelf
import Derived.Lib.QuietBelow
import Derived.Shelf.SlSortCmp.WholeK
import Derived.Shelf.SlSortFuncK.ComposeK
import Derived.Lib.SliceRun
import Derived.Test.YtdidkfadiaafiaaGreatDoorCopy
import Derived.Test.YtdidkfadiaafiaaGreatDoorMerge
namespace Go.Proofs.YtdidkfadiaafiaaGreatDoor
open Go Go.RowKit Go.Sort

theorem goneD_any (x : LSib) (w : World) : Calls Tryz.prog 109 #[x.val] w fun e w' => e = .returned (.int .i64 (goneNo x.gone)) ∧ Below w.heap.size w w' ∧ w.drawn ≤ w'.drawn := by
  obtain ⟨xv, xg, xt⟩ := x
  simp only [LSib.val]
  cases xg
  all_goals
    go_enter Tryz.func109, Tryz.ntmps109
    go_wp2_with fail
    go_ret
    exact ⟨rfl, (Below.refl _ _).alloc (Nat.le_refl _) _, Nat.le_refl _⟩

set_option maxRecDepth 100000 in
set_option maxHeartbeats 1000000 in
theorem cmpSibD_any (x y : LSib) (w : World) (hx : Dat.At w x) (hy : Dat.At w y) :
    Calls Tryz.prog 80 #[x.val, y.val] w fun e w' => e = .returned (.int .i64 (cmpSib x.er y.er)) ∧ Below w.heap.size w w' ∧ w.drawn ≤ w'.drawn := by
  obtain ⟨xv, xg, xt⟩ := x
  obtain ⟨yv, yg, yt⟩ := y
  simp only [LSib.val]
  go_enter Tryz.func80, Tryz.ntmps80
  go_wp2_with fail
  have hB0 : Below w.heap.size w ((w.alloc (Obj.cells #[xv.val, Value.bool xg, Value.string xt] 42)).alloc (Obj.cells #[yv.val, Value.bool yg, Value.string yt] 42)) :=
    ((Below.refl _ _).alloc (Nat.le_refl _) _).alloc (by simp) _
  have hF : ∀ w', (Below (w.heap.size + 2) ((w.alloc (Obj.cells #[xv.val, Value.bool xg, Value.string xt] 42)).alloc (Obj.cells #[yv.val, Value.bool yg, Value.string yt] 42)) w' ∧ w.drawn ≤ w'.drawn) →
      (w'.cell? ⟨w.heap.size, 0, none⟩ = some xv.val ∧ w'.cell? ⟨w.heap.size, 1, none⟩ = some (.bool xg) ∧ w'.cell? ⟨w.heap.size, 2, none⟩ = some (.string xt)) ∧
      (w'.cell? ⟨w.heap.size + 1, 0, none⟩ = some yv.val ∧ w'.cell? ⟨w.heap.size + 1, 1, none⟩ = some (.bool yg) ∧ w'.cell? ⟨w.heap.size + 1, 2, none⟩ = some (.string yt)) := by
    rintro w' ⟨h, -⟩
    refine ⟨⟨?_, ?_, ?_⟩, ?_, ?_, ?_⟩ <;> (rw [h.cell (by simp)]; go_simp)
  have HF := Lib.hid hF
  have HB := Lib.hid hB0
  clear hF hB0
  refine wp_region_inv 17 (by kernel_rfl) (by kernel_rfl) (fun w' => Below (w.heap.size + 2) ((w.alloc (Obj.cells #[xv.val, Value.bool xg, Value.string xt] 42)).alloc (Obj.cells #[yv.val, Value.bool yg, Value.string yt] 42)) w' ∧ w.drawn ≤ w'.drawn) ⟨(Below.refl _ _).drew, Nat.le_succ _⟩ ?_
  simp only [List.take_succ_cons, List.take_zero, List.drop_succ_cons, List.drop_zero]
  refine' wpInv_step (by rfl) (fun w' hI => ?_) ?_
  rotate_left
  · have hf := HF.out w' hI
    unfold invAt
    go_simp
    first | exact rfl | exact ⟨rfl, hI⟩
  simp only [Act.put, List.setIfInBounds_toArray, List.set_cons_zero, List.set_cons_succ]
  refine' wpInv_step (by rfl) (fun w' hI => ?_) ?_
  rotate_left
  · have hf := HF.out w' hI
    unfold invAt
    go_simp
    first | exact rfl | exact ⟨rfl, hI⟩
  simp only [Act.put, List.setIfInBounds_toArray, List.set_cons_zero, List.set_cons_succ]
  refine' wpInv_step (by rfl) (fun w' hI => ?_) ?_
  rotate_left
  · have hf := HF.out w' hI
    unfold invAt
    go_simp
    first | exact rfl | exact ⟨rfl, hI⟩
  simp only [Act.put, List.setIfInBounds_toArray, List.set_cons_zero, List.set_cons_succ]
  refine' wpInv_step (by rfl) (fun w' hI => ?_) ?_
  rotate_left
  · have hf := HF.out w' hI
    unfold invAt
    go_simp
    first | exact rfl | exact ⟨rfl, hI⟩
  simp only [Act.put, List.setIfInBounds_toArray, List.set_cons_zero, List.set_cons_succ]
  refine' wpInv_step (by rfl) (fun w' hI => ?_) ?_
  rotate_left
  · have hf := HF.out w' hI
    unfold invAt
    go_simp
    clear hf
    refine (cmpInts_any xv yv w' ((Loc.At.belowAll hx.1 HB.out).belowAll (hI.1.mono (by simp))) ((Loc.At.belowAll hy.1 HB.out).belowAll (hI.1.mono (by simp)))).mono ?_
    rintro e w'' ⟨rfl, rfl⟩
    exact ⟨rfl, hI⟩
  simp only [Act.put, List.setIfInBounds_toArray, List.set_cons_zero, List.set_cons_succ]
  refine' wpInv_step (by rfl) (fun w' hI => ?_) ?_
  rotate_left
  · have hf := HF.out w' hI
    unfold invAt
    go_simp
    first | exact rfl | exact ⟨rfl, hI⟩
  simp only [Act.put, List.setIfInBounds_toArray, List.set_cons_zero, List.set_cons_succ]
  refine' wpInv_step (by rfl) (fun w' hI => ?_) ?_
  rotate_left
  · have hf := HF.out w' hI
    unfold invAt
    go_simp
    first | exact rfl | exact ⟨rfl, hI⟩
  simp only [Act.put, List.setIfInBounds_toArray, List.set_cons_zero, List.set_cons_succ]
  refine' wpInv_step (by rfl) (fun w' hI => ?_) ?_
  rotate_left
  · have hf := HF.out w' hI
    unfold invAt
    go_simp
    clear hf
    refine (goneD_any ⟨xv, xg, xt⟩ w').mono ?_
    rintro e w'' ⟨rfl, hb, hd⟩
    exact ⟨rfl, hI.1.trans (hb.mono (by have := hI.1.size; simpa using this)), Nat.le_trans hI.2 hd⟩
  simp only [Act.put, List.setIfInBounds_toArray, List.set_cons_zero, List.set_cons_succ]
  refine' wpInv_step (by rfl) (fun w' hI => ?_) ?_
  rotate_left
  · have hf := HF.out w' hI
    unfold invAt
    go_simp
    first | exact rfl | exact ⟨rfl, hI⟩
  simp only [Act.put, List.setIfInBounds_toArray, List.set_cons_zero, List.set_cons_succ]
  refine' wpInv_step (by rfl) (fun w' hI => ?_) ?_
  rotate_left
  · have hf := HF.out w' hI
    unfold invAt
    go_simp
    first | exact rfl | exact ⟨rfl, hI⟩
  simp only [Act.put, List.setIfInBounds_toArray, List.set_cons_zero, List.set_cons_succ]
  refine' wpInv_step (by rfl) (fun w' hI => ?_) ?_
  rotate_left
  · have hf := HF.out w' hI
    unfold invAt
    go_simp
    clear hf
    refine (goneD_any ⟨yv, yg, yt⟩ w').mono ?_
    rintro e w'' ⟨rfl, hb, hd⟩
    exact ⟨rfl, hI.1.trans (hb.mono (by have := hI.1.size; simpa using this)), Nat.le_trans hI.2 hd⟩
  simp only [Act.put, List.setIfInBounds_toArray, List.set_cons_zero, List.set_cons_succ]
  refine' wpInv_step (by rfl) (fun w' hI => ?_) ?_
  rotate_left
  · have hf := HF.out w' hI
    unfold invAt
    go_simp
    clear hf
    refine (cmpInt_any _ _ w').mono ?_
    rintro e w'' ⟨rfl, rfl⟩
    exact ⟨rfl, hI⟩
  simp only [Act.put, List.setIfInBounds_toArray, List.set_cons_zero, List.set_cons_succ]
  refine' wpInv_step (by rfl) (fun w' hI => ?_) ?_
  rotate_left
  · have hf := HF.out w' hI
    unfold invAt
    go_simp
    first | exact rfl | exact ⟨rfl, hI⟩
  simp only [Act.put, List.setIfInBounds_toArray, List.set_cons_zero, List.set_cons_succ]
  refine' wpInv_step (by rfl) (fun w' hI => ?_) ?_
  rotate_left
  · have hf := HF.out w' hI
    unfold invAt
    go_simp
    first | exact rfl | exact ⟨rfl, hI⟩
  simp only [Act.put, List.setIfInBounds_toArray, List.set_cons_zero, List.set_cons_succ]
  refine' wpInv_step (by rfl) (fun w' hI => ?_) ?_
  rotate_left
  · have hf := HF.out w' hI
    unfold invAt
    go_simp
    first | exact rfl | exact ⟨rfl, hI⟩
  simp only [Act.put, List.setIfInBounds_toArray, List.set_cons_zero, List.set_cons_succ]
  refine' wpInv_step (by rfl) (fun w' hI => ?_) ?_
  rotate_left
  · have hf := HF.out w' hI
    unfold invAt
    go_simp
    first | exact rfl | exact ⟨rfl, hI⟩
  simp only [Act.put, List.setIfInBounds_toArray, List.set_cons_zero, List.set_cons_succ]
  refine' wpInv_step (by rfl) (fun w' hI => ?_) ?_
  rotate_left
  · have hf := HF.out w' hI
    unfold invAt
    go_simp
    clear hf
    refine (cmpStr_any _ _ w').mono ?_
    rintro e w'' ⟨rfl, rfl⟩
    exact ⟨rfl, hI⟩
  simp only [Act.put, List.setIfInBounds_toArray, List.set_cons_zero, List.set_cons_succ]
  rintro w1 ⟨hI, hD⟩
  have hS := hI.size
  generalize hA : cmpInts xv.xs yv.xs = A
  generalize hB : cmpInt (goneNo xg) (goneNo yg) = B
  generalize hC : cmpStr xt yt = C
  have HA := Lib.hid hA
  have HBB := Lib.hid hB
  have HC := Lib.hid hC
  have HD := Lib.hid hD
  clear hA hB hC hD
  have hAt := new_At w1 [A, B, C] #[.int .i64 A, .int .i64 B, .int .i64 C] 3 rfl (by simp [maxLen]) (fun _ _ => trivial)
  have HAt := Lib.hid hAt
  clear hAt
  go_wp2_with (go_at_call 110; refine (orInts_any ⟨some ⟨w1.heap.size, 0, none⟩, 3, [A, B, C]⟩ _ HAt.out).mono ?_; rintro e w' ⟨rfl, rfl⟩)
  go_ret
  refine ⟨ret_int ?_, ?_, HD.out⟩
  · rw [cmpSib, ← HA.out, ← HBB.out, ← HC.out]; rfl
  · exact (HB.out.trans (hI.mono (by simp))).alloc (by simp at hS; omega) _

theorem growD {w w' : World} (h : Below w.heap.size w w') (hd : w.drawn ≤ w'.drawn) : ∃ q os', w' = grow (w.drewN q) os' := by
  obtain ⟨p, hp⟩ := regrown_of_below h
  have e : w'.drawn = p.d := by rw [hp]; rfl
  refine ⟨p.d - w.drawn, p.os, ?_⟩
  rw [hp]
  congr 1
  unfold redrawn World.drewN
  rw [show w.drawn + (p.d - w.drawn) = p.d by omega]

/-! What the sort sorts: siblings whose vectors lie outside the row. -/
structure SortA (w : World) (g : Nat) where
  s : LSib
  at_ : Dat.At w s
  off : g ∉ Dat.fp s
instance (w : World) (g : Nat) : Inhabited (SortA w g) := ⟨⟨⟨⟨none, 0, []⟩, false, ⟨#[]⟩⟩, ⟨nil_At w, by decide⟩, by simp [Dat.fp, Loc.fp, Loc.blk]⟩⟩
def encA (w : World) (g : Nat) (s : SortA w g) : List Value := LSib.cells s.s
def cfA (w : World) (g : Nat) (s t : SortA w g) : Int := cmpSib s.s.er t.s.er
theorem ltA (w : World) (g : Nat) (x y : SortA w g) : ltOf (cfA w g) x y = decide (cmpSib x.s.er y.s.er < 0) := rfl
theorem swoA (w : World) (g : Nat) : SWO (ltOf (cfA w g)) where
  irrefl x := by
    have := (cmpSib_TO.zero x.s.er x.s.er).2 rfl
    rw [ltA, this]; rfl
  trans x y z h1 h2 := by
    rw [ltA, decide_eq_true_iff] at *
    exact cmpSib_TO.trans _ _ _ h1 h2
  ntrans x y z h1 h2 := by
    rw [ltA, decide_eq_false_iff_not] at *
    intro h
    have a1 := cmpSib_TO.anti x.s.er y.s.er
    by_cases h0 : cmpSib x.s.er y.s.er = 0
    · rw [(cmpSib_TO.zero _ _).1 h0] at h; exact h2 h
    · exact h2 (cmpSib_TO.trans _ _ _ (by omega) h)
theorem sortA_of {w : World} {g : Nat} : ∀ (l : List LSib), (∀ s ∈ l, Dat.At w s ∧ g ∉ Dat.fp s) → ∃ dl : List (SortA w g), dl.map SortA.s = l
  | [], _ => ⟨[], rfl⟩
  | a :: r, h => by
    obtain ⟨dl, hd⟩ := sortA_of r fun s hs => h s (List.mem_cons_of_mem _ hs)
    obtain ⟨h1, h2⟩ := h a List.mem_cons_self
    exact ⟨⟨a, h1, h2⟩ :: dl, by rw [List.map_cons, hd]⟩

section
variable {α : Type} [Inhabited α] (enc : α → List Value) (k : Nat) (w : World) (g o m : Nat) (d : Array α) (os : Array Obj)
theorem sortW_heap : (sortWorldK enc k w g o m d os).heap = w.heap.modify g (onCells (Go.Sort.putCells id o (flatK enc k d))) ++ os := rfl
theorem sortW_other {b : Nat} (hb : b < w.heap.size) (hg : b ≠ g) : (sortWorldK enc k w g o m d os).heap[b]? = w.heap[b]? := by
  rw [sortW_heap, Array.getElem?_append_left (by simpa using hb), Array.getElem?_modify, if_neg (Ne.symm hg)]
theorem sortW_own {cs : Array Value} {e : TypeId} (h : w.heap[g]? = some (.cells cs e (0, 0))) : ∃ cs', (sortWorldK enc k w g o m d os).heap[g]? = some (.cells cs' e (0, 0)) := by
  obtain ⟨hg, he⟩ := Array.getElem?_eq_some_iff.1 h
  refine ⟨Go.Sort.putCells id o (flatK enc k d) cs, ?_⟩
  rw [sortW_heap, Array.getElem?_append_left (by simpa using hg), Array.getElem?_modify, if_pos rfl, h]
  rfl
theorem sortW_touch : Touch [g] w (sortWorldK enc k w g o m d os) :=
  ⟨rfl, rfl, rfl, by rw [sortW_heap]; simp, fun b hb hn => sortW_other enc k w g o m d os hb (fun e => hn (by rw [e]; exact List.mem_singleton.2 rfl))⟩
end

set_option maxRecDepth 100000 in
theorem sortSibs_any (x : Loc LSib) (lo : Nat) (w : World) (hx : x.At w) (hf : Fr lo w x.fp) (hne : x.xs ≠ []) (hmany : x.xs.length ≤ 1000000) :
    Calls Tryz.prog 84 #[x.val, .func (.func 80) #[] #[]] w fun e w' => e = .returned (.tuple #[]) ∧
      ∃ ys : List LSib, ys.Perm x.xs ∧ ys.Pairwise (fun s t => ¬ cmpSib t.er s.er < 0) ∧ (x.re ys).At w' ∧ Fr lo w' (x.re ys).fp ∧ Touch x.blk w w' := by
  obtain ⟨xa, xc, xs⟩ := x
  have h0 : 0 < xs.length := List.length_pos_iff.2 hne
  obtain ⟨g, o, ha⟩ := hx.place h0
  simp only at ha
  subst ha
  have hblk : (⟨some ⟨g, o, none⟩, xc, xs⟩ : Loc LSib).blk = [g] := blk_of rfl h0
  have hfp : (⟨some ⟨g, o, none⟩, xc, xs⟩ : Loc LSib).fp = [g] ++ xs.flatMap Dat.fp := by unfold Loc.fp; rw [hblk]
  have hgl : g < w.heap.size := hf.lt g (by rw [hfp]; simp)
  have hgn : ∀ s ∈ xs, g ∉ Dat.fp s := fun s hs hm => by
    have := hf.nd
    rw [hfp] at this
    exact (List.nodup_append.1 this).2.2 g (by simp) g (List.mem_flatMap.2 ⟨s, hs, hm⟩) rfl
  have hq : ∀ s ∈ xs, Dat.At w s ∧ g ∉ Dat.fp s := fun s hs => ⟨hx.elem hs, hgn s hs⟩
  obtain ⟨dl, hdl⟩ := sortA_of xs hq
  have hlen : dl.length = xs.length := by rw [← hdl, List.length_map]
  have hH : HoldsK (encA w g) 3 w g o dl.toArray := by
    intro j hj
    rw [size_flatK] at hj
    have hj' : j < dl.length * 3 := by simpa using hj
    rw [get_flatK _ _ _ _ hj]
    have hi : j / 3 < dl.length := by omega
    have hi2 : j / 3 < xs.length := by omega
    have he : dl.toArray[j / 3]! = dl[j / 3] := by rw [getElem!_pos _ _ (by simpa using hi)]; simp
    have hv : (dl[j / 3]).s = xs[j / 3] := by simp only [← hdl, List.getElem_map]
    rw [he]
    refine ⟨?_, fr_frozen hf rfl hi2 _⟩
    have hc : ∀ c v, (LSib.cells xs[j / 3])[c]? = some v → w.cell? ⟨g, o + j / 3 * 3 + c, none⟩ = some v := fun c v h => hx.cellK rfl hi2 h
    have := hc (j % 3) ((LSib.cells xs[j / 3])[j % 3]!) (by rcases (show j % 3 = 0 ∨ j % 3 = 1 ∨ j % 3 = 2 by omega) with h | h | h <;> rw [h] <;> rfl)
    rw [show o + j / 3 * 3 + j % 3 = o + j by omega] at this
    show _ = some ((LSib.cells (dl[j / 3]).s)[j % 3]!)
    rw [hv]
    exact this
  have hcmp : CmpLays Tryz.prog 80 #[] (encA w g) 3 (cfA w g) g o dl.toArray.size w := by
    intro m os dk hs s t
    have hs1 : Dat.At (sortWorldK (encA w g) 3 w g o m dk os) s.s := Dat.keep s.at_ fun b hb => sortW_other _ _ _ _ _ _ _ _ (Dat.lt s.at_ b hb) (fun e => s.off (e ▸ hb))
    have ht1 : Dat.At (sortWorldK (encA w g) 3 w g o m dk os) t.s := Dat.keep t.at_ fun b hb => sortW_other _ _ _ _ _ _ _ _ (Dat.lt t.at_ b hb) (fun e => t.off (e ▸ hb))
    exact (cmpSibD_any s.s t.s _ hs1 ht1).mono fun _ _ ⟨he, hb, hd⟩ => ⟨he, growD hb hd⟩
  have eg : ∀ args w, (callFunc 80 args).run Tryz.prog w = .ok (.enter 80 args) w := enters_of Tryz.func80 (by kernel_rfl) rfl
  have hmx := hx.lenMax
  simp only at hmx
  have hcap := hx.capMax
  have hlc := hx.lenCap
  simp only at hcap hlc
  have hcon := AnyQ.slices_SortFunc Tryz.sortSib 3 Tryz.isAgg42 Tryz.sizeOf42 (encA w g) (fun _ => rfl) (fun s v hv => by simp [encA, LSib.cells] at hv; rcases hv with rfl | rfl | rfl <;> rfl) (cfA w g) (swoA w g) 80 #[] g o xc dl.toArray w eg hcmp hH hgl (by show dl.length < _; simp only at hmany; omega)
  have e1 : (dl.toArray.size : Int) = (xs.length : Int) := by simp [hlen]
  change Calls Tryz.prog 84 _ _ _ at hcon
  have e2 : Value.slice (some ⟨g, o, none⟩) dl.toArray.size xc = (⟨some ⟨g, o, none⟩, xc, xs⟩ : Loc LSib).val := by simp [Loc.val, hlen]
  rw [e2] at hcon
  refine hcon.mono ?_
  rintro e w' ⟨he, d', n, os, ⟨hz, -, hp⟩, hs, rfl⟩
  have hdz : d'.size = dl.length := by simpa using hz
  have x1 : d'.extract 0 dl.toArray.size = d' := by rw [← hz]; simp
  have x2 : dl.toArray.extract 0 dl.toArray.size = dl.toArray := by simp
  rw [x1, x2] at hp
  have hperm : (d'.toList.map SortA.s).Perm xs := by rw [← hdl]; exact hp.map _
  have hyl : (d'.toList.map SortA.s).length = xs.length := hperm.length_eq
  have hHd := holdsK_sortWorldK (encA w g) 3 w g o n dl.toArray d' os hgl hH (by simpa using hz)
  have hT := sortW_touch (encA w g) 3 w g o n d' os
  have hfpy : (Loc.re ⟨some ⟨g, o, none⟩, xc, xs⟩ (d'.toList.map SortA.s)).fp = [g] ++ (d'.toList.map SortA.s).flatMap Dat.fp := by
    unfold Loc.fp Loc.re
    rw [blk_of (x := (⟨some ⟨g, o, none⟩, xc, d'.toList.map SortA.s⟩ : Loc LSib)) rfl (show 0 < _ by rw [hyl]; exact h0)]
  have hfperm : (Loc.re ⟨some ⟨g, o, none⟩, xc, xs⟩ (d'.toList.map SortA.s)).fp.Perm (⟨some ⟨g, o, none⟩, xc, xs⟩ : Loc LSib).fp := by
    rw [hfpy, hfp]
    exact List.Perm.append_left _ (hperm.flatMap_right _)
  refine ⟨he, d'.toList.map SortA.s, hperm, ?_, ?_, ?_, by rw [hblk]; exact hT⟩
  · rw [List.pairwise_iff_getElem]
    intro i j hi hj hij
    have hi' : i < d'.size := by simpa using hi
    have hj' : j < d'.size := by simpa using hj
    have := hs i j (Nat.zero_le _) hij (by rw [← hz]; exact hj')
    rw [getElem!_pos d' i hi', getElem!_pos d' j hj'] at this
    rw [ltA, decide_eq_false_iff_not] at this
    simpa using this
  · refine ⟨by show (d'.toList.map SortA.s).length ≤ xc; rw [hyl]; exact hlc, hcap, fun _ => ⟨_, rfl⟩, ?_, ?_⟩
    · rintro a ha i s hsi j v hv
      simp only [Loc.re, Option.some.injEq] at ha
      subst ha
      simp only [Loc.re] at hsi
      obtain ⟨hi, rfl⟩ := List.getElem?_eq_some_iff.1 hsi
      have hi' : i < d'.size := by simpa using hi
      have hj3 : j < 3 := by
        have := (List.getElem?_eq_some_iff.1 hv).1
        rwa [Dat.len] at this
      have := (hHd.cell hi' hj3).1
      rw [getElem!_pos d' i hi'] at this
      rw [add_lit', ← Nat.add_assoc]
      show World.cell? _ ⟨g, o + i * 3 + j, none⟩ = _
      rw [this]
      have hv1 : (Dat.enc (d'[i]).s)[j]? = some v := by simpa using hv
      have hv2 : (LSib.cells (d'[i]).s)[j]? = some v := hv1
      show some ((LSib.cells (d'[i]).s)[j]!) = some v
      rw [List.getElem!_eq_getElem?_getD, hv2]; rfl
    · intro s hsm
      have hsx : s ∈ xs := hperm.mem_iff.1 hsm
      exact hT.keepDat (hx.elem hsx) (fun b hb e => hgn s hsx (List.mem_singleton.1 e ▸ hb))
  · refine ⟨fun b hb => hf.ge b (hfperm.mem_iff.1 hb), hfperm.nodup_iff.2 hf.nd, fun b hb => ?_⟩
    have hb' := hfperm.mem_iff.1 hb
    obtain ⟨cs, e, hc⟩ := hf.own b hb'
    by_cases hbg : b = g
    · subst hbg
      obtain ⟨cs', h⟩ := sortW_own (encA w b) 3 w b o n d' os hc
      exact ⟨cs', e, h⟩
    · exact ⟨cs, e, by rw [sortW_other _ _ _ _ _ _ _ _ (hf.lt b hb') hbg]; exact hc⟩
end Go.Proofs.YtdidkfadiaafiaaGreatDoor

namespace Go.Proofs.YtdidkfadiaafiaaGreatDoor
open Go Go.RowKit

section
variable {α : Type} {c : α → α → Int}
theorem ddFrom_snoc (x : α) : ∀ (r : List α) (p : α), ddFrom c p (r ++ [x]) = ddFrom c p r ++ if c x ((p :: r).getLast (by simp)) = 0 then [] else [x]
  | [], p => by
    by_cases h : c x p = 0 <;> simp [ddFrom, h]
  | b :: r, p => by
    have ih := ddFrom_snoc x r b
    rw [List.cons_append]
    simp only [ddFrom]
    rw [ih, List.getLast_cons (by simp : (b :: r) ≠ [])]
    by_cases h : c b p = 0
    · rw [if_pos h, if_pos h]
    · rw [if_neg h, if_neg h, List.cons_append]
theorem dd_take {l : List α} {j : Nat} (h : j + 1 < l.length) : dd c (l.take (j + 2)) = dd c (l.take (j + 1)) ++ if c l[j + 1] l[j] = 0 then [] else [l[j + 1]] := by
  rw [List.take_succ_eq_append_getElem h]
  cases l with
  | nil => simp at h
  | cons a r =>
    rw [List.take_succ_cons, List.cons_append]
    show a :: ddFrom c a (r.take j ++ [(a :: r)[j + 1]]) = (a :: ddFrom c a (r.take j)) ++ _
    rw [ddFrom_snoc, List.cons_append]
    have e : (a :: r.take j).getLast (by simp) = (a :: r)[j] := by
      rw [List.getLast_eq_getElem]
      have hj : (a :: r.take j).length - 1 = j := by simp at h; simp; omega
      simp only [hj]
      have e2 : (a :: r.take j) = (a :: r).take (j + 1) := by rw [List.take_succ_cons]
      simp only [e2, List.getElem_take]
    rw [e]
theorem ddFrom_sub : ∀ (l : List α) (p : α), (ddFrom c p l).Sublist l
  | [], _ => List.Sublist.slnil
  | b :: r, p => by
    simp only [ddFrom]
    by_cases h : c b p = 0
    · rw [if_pos h]; exact (ddFrom_sub r b).cons _
    · rw [if_neg h]; exact (ddFrom_sub r b).cons_cons _
theorem dd_sub (l : List α) : (dd c l).Sublist l := by
  cases l with
  | nil => exact List.Sublist.slnil
  | cons a r => exact (ddFrom_sub r a).cons_cons _
theorem dd_one {l : List α} (h : l.length < 2) : dd c l = l := by
  match l, h with
  | [], _ => rfl
  | [a], _ => rfl
end
theorem sub_flatC {α β : Type} (f : α → List β) : ∀ {a b : List α}, List.Sublist a b → List.Sublist (a.flatMap f) (b.flatMap f)
  | _, _, .slnil => .slnil
  | _, _, .cons a h => by rw [List.flatMap_cons]; exact (sub_flatC f h).trans (List.sublist_append_right _ _)
  | _, _, .cons_cons a h => by rw [List.flatMap_cons, List.flatMap_cons]; exact (List.Sublist.refl _).append (sub_flatC f h)
def cmpE (s t : LSib) : Int := cmpSib s.er t.er

/-- A row of siblings in a block of one's own; two of them may share a vector. -/
structure RowS (g o cp : Nat) (w : World) (zs : List LSib) : Prop where
  at_ : Loc.At w ⟨some ⟨g, o, none⟩, cp, zs⟩
  row : ∃ cs e, w.heap[g]? = some (.cells cs e (0, 0))
  off : ∀ s ∈ zs, g ∉ Dat.fp s
theorem RowS.lt {g o cp : Nat} {w : World} {zs : List LSib} (h : RowS g o cp w zs) : g < w.heap.size := by
  obtain ⟨cs, e, he⟩ := h.row
  exact (Array.getElem?_eq_some_iff.1 he).1
theorem RowS.next {g o cp : Nat} {w w' : World} {zs : List LSib} (h : RowS g o cp w zs) (hb : Below w.heap.size w w') : RowS g o cp w' zs :=
  ⟨h.at_.belowAll hb, by obtain ⟨cs, e, he⟩ := h.row; exact ⟨cs, e, by rw [hb.block g h.lt]; exact he⟩, h.off⟩
theorem RowS.frozen {g o cp : Nat} {w : World} {zs : List LSib} (h : RowS g o cp w zs) (j : Nat) : w.frozen? ⟨g, j, none⟩ = false := by
  obtain ⟨cs, e, he⟩ := h.row
  exact frozen_of_row _ _ _ _ _ he
def RowS.put (w : World) (g p : Nat) (y : LSib) : World := w.setCells g p (LSib.cells y)
theorem RowS.put_other (w : World) (g p : Nat) (y : LSib) {b : Nat} (hb : b ≠ g) : (RowS.put w g p y).heap[b]? = w.heap[b]? := by
  show ((((w.setCell ⟨g, p, none⟩ y.vv.val).setCell ⟨g, p + 1, none⟩ (.bool y.gone)).setCell ⟨g, p + 1 + 1, none⟩ (.string y.text))).heap[b]? = _
  rw [Below.heap_setCell _ _ _ _ hb, Below.heap_setCell _ _ _ _ hb, Below.heap_setCell _ _ _ _ hb]
theorem RowS.put_touch (w : World) (g p : Nat) (y : LSib) : Touch [g] w (RowS.put w g p y) := by
  have h1 := Touch.setCell w (a := ⟨g, p, none⟩) (fp := [g]) (List.mem_singleton.2 rfl) y.vv.val
  have h2 := Touch.setCell (w.setCell ⟨g, p, none⟩ y.vv.val) (a := ⟨g, p + 1, none⟩) (fp := [g]) (List.mem_singleton.2 rfl) (.bool y.gone)
  have h3 := Touch.setCell ((w.setCell ⟨g, p, none⟩ y.vv.val).setCell ⟨g, p + 1, none⟩ (.bool y.gone)) (a := ⟨g, p + 1 + 1, none⟩) (fp := [g]) (List.mem_singleton.2 rfl) (.string y.text)
  exact (h1.trans h2).trans h3
theorem RowS.put_row {g o cp k : Nat} {w : World} {zs : List LSib} (h : RowS g o cp w zs) (hk : k < zs.length) (y : LSib) (hy : Dat.At w y) (hg : g ∉ Dat.fp y) :
    RowS g o cp (RowS.put w g (o + k * 3) y) (zs.set k y) := by
  obtain ⟨cs, e, he⟩ := h.row
  have h1 := heap_setCell_same w g (o + k * 3) _ _ y.vv.val he
  have h2 := heap_setCell_same _ g (o + k * 3 + 1) _ _ (.bool y.gone) h1
  have h3 := heap_setCell_same _ g (o + k * 3 + 1 + 1) _ _ (.string y.text) h2
  have hkeep : ∀ s : LSib, Dat.At w s → g ∉ Dat.fp s → Dat.At (RowS.put w g (o + k * 3) y) s := fun s hs hn => Dat.keep hs fun b hb => RowS.put_other _ _ _ _ (fun e => hn (by rw [← e]; exact hb))
  have hcl : (LSib.cells y).length = 3 := rfl
  have hin : ∀ q v, (LSib.cells zs[k])[q]? = some v → w.cell? ⟨g, o + k * 3 + q, none⟩ = some v := fun q v hq => h.at_.cellK (b := g) (o := o) rfl hk (j := q) (v := v) hq
  refine ⟨⟨by simp only [List.length_set]; exact h.at_.1, h.at_.2.1, fun _ => ⟨_, rfl⟩, ?_, ?_⟩, ⟨_, _, h3⟩, ?_⟩
  · rintro a ha i s hsi j v hv
    simp only [Option.some.injEq] at ha
    subst ha
    rw [add_lit', ← Nat.add_assoc]
    show World.cell? _ ⟨g, o + i * 3 + j, none⟩ = some v
    obtain ⟨hi, rfl⟩ := List.getElem?_eq_some_iff.1 hsi
    simp only [List.length_set] at hi
    have hj3 : j < 3 := by
      have := (List.getElem?_eq_some_iff.1 hv).1
      rwa [Dat.len] at this
    simp only [List.getElem_set] at hv
    by_cases hik : k = i
    · subst hik
      rw [if_pos rfl] at hv
      obtain ⟨hjl, rfl⟩ := List.getElem?_eq_some_iff.1 hv
      exact World.cell?_setCells_in g (LSib.cells y) (o + k * 3) w (fun q hq => by
        have hq3 : q < (LSib.cells zs[k]).length := hq
        rw [hin q _ (List.getElem?_eq_getElem hq3)]; rfl) j hj3
    · rw [if_neg hik] at hv
      have := h.at_.cellK (b := g) (o := o) rfl hi (j := j) (v := v) hv
      refine (World.cell?_setCells_out g (LSib.cells y) (o + k * 3) w ⟨g, o + i * 3 + j, none⟩ (fun _ _ => ?_)).trans this
      simp only [hcl]
      omega
  · intro s hs
    rcases List.mem_or_eq_of_mem_set hs with h' | rfl
    · exact hkeep s (h.at_.elem h') (h.off s h')
    · exact hkeep s hy hg
  · intro s hs
    rcases List.mem_or_eq_of_mem_set hs with h' | rfl
    · exact h.off s h'
    · exact hg

theorem setCells_row (g : Nat) (e : TypeId) : ∀ (vs : List Value) (o : Nat) (w : World) (cs : Array Value), w.heap[g]? = some (.cells cs e (0, 0)) → ∃ cs', (w.setCells g o vs).heap[g]? = some (.cells cs' e (0, 0))
  | [], _, _, cs, h => ⟨cs, h⟩
  | v :: r, o, w, cs, h => setCells_row g e r (o + 1) _ _ (heap_setCell_same w g o _ _ v h)
theorem setCells_touch (g : Nat) : ∀ (vs : List Value) (o : Nat) (w : World), Touch [g] w (w.setCells g o vs)
  | [], _, w => Touch.refl _ w
  | v :: r, o, w => (Touch.setCell w (a := ⟨g, o, none⟩) (fp := [g]) (List.mem_singleton.2 rfl) v).trans (setCells_touch g r (o + 1) _)
/-- What stands ahead of what is cleared. -/
theorem RowS.cut {g o cp p : Nat} {w : World} {zs : List LSib} (h : RowS g o cp w zs) (hp : p ≤ zs.length) (L : List Value) : RowS g o cp (w.setCells g (o + p * 3) L) (zs.take p) := by
  have hT := setCells_touch g L (o + p * 3) w
  refine ⟨⟨by simp only [List.length_take]; have := h.at_.1; simp only at this; omega, h.at_.2.1, fun _ => ⟨_, rfl⟩, ?_, fun s hs => hT.keepDat (h.at_.elem (List.mem_of_mem_take hs)) (fun b hb e => h.off s (List.mem_of_mem_take hs) (List.mem_singleton.1 e ▸ hb))⟩, ?_, fun s hs => h.off s (List.mem_of_mem_take hs)⟩
  · rintro a ha i s hsi j v hv
    simp only [Option.some.injEq] at ha
    subst ha
    rw [add_lit', ← Nat.add_assoc]
    show World.cell? _ ⟨g, o + i * 3 + j, none⟩ = some v
    obtain ⟨hi, rfl⟩ := List.getElem?_eq_some_iff.1 hsi
    simp only [List.length_take] at hi
    have hj3 : j < 3 := by
      have := (List.getElem?_eq_some_iff.1 hv).1
      rwa [Dat.len] at this
    rw [List.getElem_take] at hv
    have := h.at_.cellK (b := g) (o := o) rfl (show i < zs.length by omega) (j := j) (v := v) hv
    exact (World.cell?_setCells_out g L (o + p * 3) w ⟨g, o + i * 3 + j, none⟩ (fun _ _ => Or.inl (by simp only; omega))).trans this
  · obtain ⟨cs, e, he⟩ := h.row
    obtain ⟨cs', h'⟩ := setCells_row g e L (o + p * 3) w cs he
    exact ⟨cs', e, h'⟩

/-- The program's own test. -/
theorem sameSib_any (x y : LSib) (w : World) (hx : Dat.At w x) (hy : Dat.At w y) :
    Calls Tryz.prog 86 #[x.val, y.val] w fun e w' => e = .returned (.bool (cmpE x y == 0)) ∧ Below w.heap.size w w' := by
  have hW0 : Below w.heap.size w ((w.alloc (Obj.cells #[x.vv.val, Value.bool x.gone, Value.string x.text] 42)).alloc (Obj.cells #[y.vv.val, Value.bool y.gone, Value.string y.text] 42)) :=
    ((Below.refl _ _).alloc (Nat.le_refl _) _).alloc (by simp) _
  have hc := Lib.hid (cmpSib_any x y _ (Dat.belowAll hx hW0) (Dat.belowAll hy hW0))
  have HW := Lib.hid hW0
  obtain ⟨xv, xg, xt⟩ := x
  obtain ⟨yv, yg, yt⟩ := y
  simp only [LSib.val] at hc HW ⊢
  generalize hq : cmpSib (LSib.er ⟨xv, xg, xt⟩) (LSib.er ⟨yv, yg, yt⟩) = q at hc
  have HQ := Lib.hid hq
  clear hx hy hq hW0
  go_enter Tryz.func86, Tryz.ntmps86
  go_wp2_with fail
  refine hc.out.mono ?_
  rintro e w' ⟨rfl, hb⟩
  have HB := Lib.hid (nextB HW.out hb)
  clear hb hc
  go_wp2_with fail
  go_ret
  refine ⟨?_, HB.out⟩
  rw [cmpE, HQ.out]; rfl

/-- clear at siblings. -/
theorem clearSibs (w : World) (ty : TypeId) (b o n c : Nat) (hn : 0 < n) (hc : ∀ j, j < n * 3 → (w.cell? ⟨b, o + j, none⟩).isSome = true) (hf : ∀ j, w.frozen? ⟨b, j, none⟩ = false) :
    ∃ L : List Value, L.length = n * 3 ∧ (Builtin.clear_ #[37] ty #[.slice (some ⟨b, o, none⟩) n c]).run Tryz.prog w = .ok (.tuple #[]) (w.setCells b o L) := by
  obtain ⟨L, hL⟩ : ∃ L, (Builtin.zeroCells #[.slice none 0 0, .bool false, .string ⟨#[]⟩] n).toList = L := ⟨_, rfl⟩
  have hl : L.length = n * 3 := by rw [← hL]; simp [Builtin.zeroCells]
  have hone : ∀ v ∈ L, v.oneCell' = true := by
    intro v hv
    rw [← hL] at hv
    simp only [Builtin.zeroCells, Array.toList_map, Array.toList_range, List.mem_map, List.mem_range] at hv
    obtain ⟨i, -, rfl⟩ := hv
    rcases (show i % 3 = 0 ∨ i % 3 = 1 ∨ i % 3 = 2 by omega) with h | h | h <;> simp [h] <;> rfl
  refine ⟨L, hl, ?_⟩
  have hst := run_storeCells_cells (P := Tryz.prog) b o L 0 w (by intro j hj; exact hc j (by omega)) (by intro j _; exact hf _) hone
  simp only [Nat.add_zero] at hst
  obtain ⟨m, rfl⟩ : ∃ m, n = m + 1 := ⟨n - 1, by omega⟩
  have hz : (zeroValue 42).run Tryz.prog w = .ok (.agg #[.slice none 0 0, .bool false, .string ⟨#[]⟩]) w := Tryz.zeroValue42 w
  simp [Builtin.clear_, run_underlying Tryz.underlying37, hz, Value.cells]
  rw [hL, hst]; rfl

def CompP (lo : Nat) (x : Loc LSib) (w : World) (e : Ending) (w' : World) : Prop :=
  ∃ y : Loc LSib, e = .returned y.val ∧ y.xs = dd cmpE x.xs ∧ y.At w' ∧ Fr lo w' y.fp ∧ Touch x.blk w w'

set_option maxRecDepth 100000 in
set_option maxHeartbeats 2000000 in
theorem compact_any (x : Loc LSib) (lo : Nat) (w : World) (hx : x.At w) (hf : Fr lo w x.fp) (hn : x.xs.length ≤ 1000000) :
    Calls Tryz.prog 85 #[x.val, .func (.func 86) #[] #[]] w (CompP lo x w) := by
  by_cases h2 : x.xs.length < 2
  · have HX := Lib.hid hx
    have HF := Lib.hid hf
    obtain ⟨xa, xc, xs⟩ := x
    simp only [Loc.val] at h2 ⊢
    have H2 := Lib.hid h2
    have h2' : ((xs.length : Nat) : Int) < 2 := by omega
    clear hx hf hn
    go_enter Tryz.func85, Tryz.ntmps85
    go_wp2_with fail
    go_ret
    exact ⟨⟨xa, xc, xs⟩, rfl, (dd_one H2.out).symm, HX.out, HF.out, Touch.refl _ _⟩
  · obtain ⟨xa, xc, xs⟩ := x
    simp only [Loc.val] at h2 hn ⊢
    have h0 : 0 < xs.length := by omega
    obtain ⟨g, o, ha⟩ := hx.place h0
    simp only at ha
    subst ha
    have hblk : (⟨some ⟨g, o, none⟩, xc, xs⟩ : Loc LSib).blk = [g] := blk_of rfl h0
    have hfp : (⟨some ⟨g, o, none⟩, xc, xs⟩ : Loc LSib).fp = [g] ++ xs.flatMap Dat.fp := by unfold Loc.fp; rw [hblk]
    have HR0 : Hid (RowS g o xc w xs) := Lib.hid ⟨hx, hf.own g (by rw [hfp]; simp), fun s hs hm => by
      have := hf.nd
      rw [hfp] at this
      exact (List.nodup_append.1 this).2.2 g (by simp) g (List.mem_flatMap.2 ⟨s, hs, hm⟩) rfl⟩
    have HFR := Lib.hid hf
    have HBL := Lib.hid hblk
    have HFP := Lib.hid hfp
    have h2' : ¬ ((xs.length : Nat) : Int) < 2 := by omega
    have hcp := hx.lenCap
    have hcm := hx.capMax
    simp only at hcp hcm
    clear hx hf hblk hfp h0
    go_enter Tryz.func85, Tryz.ntmps85
    go_wp2_with fail
    go_loopw [5] (fun k wr => ∃ m : Nat, m + 1 ≤ xs.length ∧ k = .int .i64 ((m + 1 : Nat) : Int) ∧ dd cmpE (xs.take (m + 1)) = xs.take (m + 1) ∧ Below w.heap.size w wr) (fun k _ => xs.length - (intOf k).toNat)
    case atStart => exact ⟨0, by omega, rfl, dd_one (by rw [List.length_take]; omega), Below.refl _ _⟩
    case round =>
      obtain ⟨m, hm, rfl, hdd, hb⟩ := hrel
      have HDD := Lib.hid hdd
      have B := Lib.hid hb
      have HR := Lib.hid (HR0.out.next hb)
      clear hdd hb
      by_cases hlt : m + 1 < xs.length
      · obtain ⟨c0, c1, c2⟩ := HR.out.at_.sib rfl hlt
        obtain ⟨d0, d1, d2⟩ := HR.out.at_.sib rfl hm
        simp only at c0 c1 c2 d0 d1 d2
        have hwm : IntKind.i64.wrap ((m : Nat) : Int) = (m : Int) := IntWalk.i64_in _ (by omega)
        have HE := Lib.hid (dd_take (c := cmpE) hlt)
        have hml : m < xs.length := by omega
        obtain ⟨q, hq⟩ : ∃ q, cmpE xs[m + 1] xs[m] = q := ⟨_, rfl⟩
        have HQ := Lib.hid hq
        clear hq
        have HC2 : Hid (∀ w', Below wr.heap.size wr w' → Calls Tryz.prog 86 #[xs[m + 1].val, xs[m].val] w' fun e w'' => e = .returned (.bool (q == 0)) ∧ Below w'.heap.size w' w'') := Lib.hid (fun w' h => by
          have hc := sameSib_any xs[m + 1] xs[m] w' ((HR.out.next h).at_.elem (List.getElem_mem hlt)) ((HR.out.next h).at_.elem (List.getElem_mem hm))
          rw [HQ.out] at hc
          exact hc)
        have HF : Hid (∀ w', Below wr.heap.size wr w' → (w'.cell? ⟨g, o + (m + 1) * 3, none⟩ = some xs[m + 1].vv.val ∧ w'.cell? ⟨g, o + (m + 1) * 3 + 1, none⟩ = some (.bool xs[m + 1].gone) ∧ w'.cell? ⟨g, o + (m + 1) * 3 + 2, none⟩ = some (.string xs[m + 1].text)) ∧
            (w'.cell? ⟨g, o + m * 3, none⟩ = some xs[m].vv.val ∧ w'.cell? ⟨g, o + m * 3 + 1, none⟩ = some (.bool xs[m].gone) ∧ w'.cell? ⟨g, o + m * 3 + 2, none⟩ = some (.string xs[m].text))) := Lib.hid (fun w' h =>
          ⟨(HR.out.next h).at_.sib rfl hlt, (HR.out.next h).at_.sib rfl hm⟩)
        go_wp2_with fail
        refine wp_region_inv 11 (by kernel_rfl) (by kernel_rfl) (fun w' => Below wr.heap.size wr w') (Below.refl _ _).drew ?_
        simp only [List.take_succ_cons, List.take_zero, List.drop_succ_cons, List.drop_zero]
        refine' wpInv_step (by rfl) (fun w' hI => ?_) ?_
        rotate_left
        · have hf := HF.out w' hI
          unfold invAt
          go_simp
          first | exact rfl | exact ⟨rfl, hI⟩
        simp only [Act.put, List.setIfInBounds_toArray, List.set_cons_zero, List.set_cons_succ]
        refine' wpInv_step (by rfl) (fun w' hI => ?_) ?_
        rotate_left
        · have hf := HF.out w' hI
          unfold invAt
          go_simp
          first | exact rfl | exact ⟨rfl, hI⟩
        simp only [Act.put, List.setIfInBounds_toArray, List.set_cons_zero, List.set_cons_succ]
        refine' wpInv_step (by rfl) (fun w' hI => ?_) ?_
        rotate_left
        · have hf := HF.out w' hI
          unfold invAt
          go_simp
          first | exact rfl | exact ⟨rfl, hI⟩
        simp only [Act.put, List.setIfInBounds_toArray, List.set_cons_zero, List.set_cons_succ]
        refine' wpInv_step (by rfl) (fun w' hI => ?_) ?_
        rotate_left
        · have hf := HF.out w' hI
          unfold invAt
          go_simp
          first | exact rfl | exact ⟨rfl, hI⟩
        simp only [Act.put, List.setIfInBounds_toArray, List.set_cons_zero, List.set_cons_succ]
        refine' wpInv_step (by rfl) (fun w' hI => ?_) ?_
        rotate_left
        · have hf := HF.out w' hI
          unfold invAt
          go_simp
          first | exact rfl | exact ⟨rfl, hI⟩
        simp only [Act.put, List.setIfInBounds_toArray, List.set_cons_zero, List.set_cons_succ]
        refine' wpInv_step (by rfl) (fun w' hI => ?_) ?_
        rotate_left
        · have hf := HF.out w' hI
          unfold invAt
          go_simp
          first | exact rfl | exact ⟨rfl, hI⟩
        simp only [Act.put, List.setIfInBounds_toArray, List.set_cons_zero, List.set_cons_succ]
        refine' wpInv_step (by rfl) (fun w' hI => ?_) ?_
        rotate_left
        · have hf := HF.out w' hI
          unfold invAt
          go_simp
          first | exact rfl | exact ⟨rfl, hI⟩
        simp only [Act.put, List.setIfInBounds_toArray, List.set_cons_zero, List.set_cons_succ]
        refine' wpInv_step (by rfl) (fun w' hI => ?_) ?_
        rotate_left
        · have hf := HF.out w' hI
          unfold invAt
          go_simp
          first | exact rfl | exact ⟨rfl, hI⟩
        simp only [Act.put, List.setIfInBounds_toArray, List.set_cons_zero, List.set_cons_succ]
        refine' wpInv_step (by rfl) (fun w' hI => ?_) ?_
        rotate_left
        · have hf := HF.out w' hI
          unfold invAt
          go_simp
          first | exact rfl | exact ⟨rfl, hI⟩
        simp only [Act.put, List.setIfInBounds_toArray, List.set_cons_zero, List.set_cons_succ]
        refine' wpInv_step (by rfl) (fun w' hI => ?_) ?_
        rotate_left
        · have hf := HF.out w' hI
          unfold invAt
          go_simp
          first | exact rfl | exact ⟨rfl, hI⟩
        simp only [Act.put, List.setIfInBounds_toArray, List.set_cons_zero, List.set_cons_succ]
        refine' wpInv_step (by rfl) (fun w' hI => ?_) ?_
        rotate_left
        · have hf := HF.out w' hI
          unfold invAt
          go_simp
          clear hf
          refine (HC2.out w' hI).mono ?_
          rintro e w'' ⟨rfl, hb2⟩
          exact ⟨rfl, hI.trans (hb2.mono hI.size)⟩
        simp only [Act.put, List.setIfInBounds_toArray, List.set_cons_zero, List.set_cons_succ]
        intro w1 hI
        replace HR := Lib.hid (HR.out.next hI)
        replace B := Lib.hid (nextB B.out hI)
        clear hI HF HC2 c0 c1 c2 d0 d1 d2
        by_cases hq0 : q = 0
        · subst hq0
          have HE2 : Hid (dd cmpE (xs.take (m + 1 + 1)) = xs.take (m + 1)) := Lib.hid (by rw [HE.out, HQ.out, if_pos rfl, List.append_nil, HDD.out])
          clear HE
          go_wp2_with fail
          have HI0 := Lib.hid (HE2.out.symm)
          clear HQ HE2 HDD
          generalize hK : m + 1 = K at *
          have hK1 : 1 ≤ K := by omega
          clear hK
          have HT0 := Lib.hid (Touch.of_below [g] B.out)
          go_loopw [5, 7] (fun k k2 wr => ∃ (p r : Nat) (zs : List LSib), r + 1 ≤ xs.length - K ∧ k = .int .i64 ((p : Nat) : Int) ∧ k2 = .int .i64 ((r + 1 : Nat) : Int) ∧ p ≤ K + r ∧ zs.length = xs.length ∧ zs.take p = dd cmpE (xs.take (K + r + 1)) ∧ zs.drop (K + r) = xs.drop (K + r) ∧ (∀ s ∈ zs, s ∈ xs) ∧ RowS g o xc wr zs ∧ Touch [g] w wr) (fun _ k2 _ => xs.length - (intOf k2).toNat)
          case atStart => exact ⟨K, 0, xs, by omega, rfl, rfl, by omega, rfl, by simpa using HI0.out, rfl, fun s h => h, HR.out, HT0.out⟩
          case round =>
            obtain ⟨p, r, zs, hr, rfl, rfl, hp, hzl, hzt, hzd, hzm, hR, hT⟩ := hrel
            have HZL := Lib.hid hzl
            have HZT := Lib.hid hzt
            have HZD := Lib.hid hzd
            have HZM := Lib.hid hzm
            replace HR := Lib.hid hR
            have HT := Lib.hid hT
            clear hzl hzt hzd hzm hR hT HT0 B
            by_cases hr2 : r + 1 < xs.length - K
            · have hA : K + r + 1 < xs.length := by omega
              have hB : K + r < xs.length := by omega
              obtain ⟨A, hAe⟩ : ∃ A, xs[K + r + 1] = A := ⟨_, rfl⟩
              obtain ⟨Bb, hBe⟩ : ∃ B, xs[K + r] = B := ⟨_, rfl⟩
              have hzA : zs[K + r + 1]? = some A := by
                have h := congrArg (fun l => l[1]?) HZD.out
                simp only [List.getElem?_drop] at h
                rw [h, ← hAe]; exact List.getElem?_eq_getElem hA
              have hzB : zs[K + r]? = some Bb := by
                have h := congrArg (fun l => l[0]?) HZD.out
                simp only [List.getElem?_drop, Nat.add_zero] at h
                rw [h, ← hBe]; exact List.getElem?_eq_getElem hB
              have HDT := Lib.hid (dd_take (c := cmpE) hA)
              obtain ⟨q, hq⟩ : ∃ q, (cmpE A Bb == 0) = q := ⟨_, rfl⟩
              have HQ := Lib.hid (show (cmpE xs[K + r + 1] xs[K + r] == 0) = q by rw [hAe, hBe]; exact hq)
              have HQ2 := Lib.hid hq
              have HAE := Lib.hid hAe
              have HAX : Hid (A ∈ xs) := Lib.hid (hAe ▸ List.getElem_mem hA)
              have HAm : Hid (A ∈ zs) := Lib.hid (List.mem_of_getElem? hzA)
              have HBm : Hid (Bb ∈ zs) := Lib.hid (List.mem_of_getElem? hzB)
              have HCELL : Hid (∀ w', Below wr.heap.size wr w' → (w'.cell? ⟨g, o + K * 3 + (r + 1) * 3, none⟩ = some A.vv.val ∧ w'.cell? ⟨g, o + K * 3 + (r + 1) * 3 + 1, none⟩ = some (.bool A.gone) ∧ w'.cell? ⟨g, o + K * 3 + (r + 1) * 3 + 2, none⟩ = some (.string A.text)) ∧
                  (w'.cell? ⟨g, o + K * 3 + r * 3, none⟩ = some Bb.vv.val ∧ w'.cell? ⟨g, o + K * 3 + r * 3 + 1, none⟩ = some (.bool Bb.gone) ∧ w'.cell? ⟨g, o + K * 3 + r * 3 + 2, none⟩ = some (.string Bb.text))) := Lib.hid (fun w' h => by
                have hR := HR.out.next h
                obtain ⟨iA, eA⟩ := List.getElem?_eq_some_iff.1 hzA
                obtain ⟨iB, eB⟩ := List.getElem?_eq_some_iff.1 hzB
                have h1 := hR.at_.sib rfl iA
                have h2 := hR.at_.sib rfl iB
                simp only [eA, eB] at h1 h2
                rw [show o + (K + r + 1) * 3 = o + K * 3 + (r + 1) * 3 by omega] at h1
                rw [show o + (K + r) * 3 = o + K * 3 + r * 3 by omega] at h2
                exact ⟨h1, h2⟩)
              have HC2 : Hid (∀ w', Below wr.heap.size wr w' → Calls Tryz.prog 86 #[A.val, Bb.val] w' fun e w'' => e = .returned (.bool q) ∧ Below w'.heap.size w' w'') := Lib.hid (fun w' h => by
                have hc := sameSib_any A Bb w' ((HR.out.next h).at_.elem HAm.out) ((HR.out.next h).at_.elem HBm.out)
                rw [HQ2.out] at hc
                exact hc)
              clear hzA hzB hAe hBe hq
              have hwr : IntKind.i64.wrap ((r : Nat) : Int) = (r : Int) := IntWalk.i64_in _ (by omega)
              have hrr : r < xs.length - K := by omega
              have HF := HCELL
              go_wp2_with fail
              refine wp_region_inv 12 (by kernel_rfl) (by kernel_rfl) (fun w' => Below wr.heap.size wr w') (Below.refl _ _).drew ?_
              simp only [List.take_succ_cons, List.take_zero, List.drop_succ_cons, List.drop_zero]
              refine' wpInv_step (by rfl) (fun w' hI => ?_) ?_
              rotate_left
              · have hf := HF.out w' hI
                unfold invAt
                go_simp
                first | exact rfl | exact ⟨rfl, hI⟩
              simp only [Act.put, List.setIfInBounds_toArray, List.set_cons_zero, List.set_cons_succ]
              refine' wpInv_step (by rfl) (fun w' hI => ?_) ?_
              rotate_left
              · have hf := HF.out w' hI
                unfold invAt
                go_simp
                first | exact rfl | exact ⟨rfl, hI⟩
              simp only [Act.put, List.setIfInBounds_toArray, List.set_cons_zero, List.set_cons_succ]
              refine' wpInv_step (by rfl) (fun w' hI => ?_) ?_
              rotate_left
              · have hf := HF.out w' hI
                unfold invAt
                go_simp
                first | exact rfl | exact ⟨rfl, hI⟩
              simp only [Act.put, List.setIfInBounds_toArray, List.set_cons_zero, List.set_cons_succ]
              refine' wpInv_step (by rfl) (fun w' hI => ?_) ?_
              rotate_left
              · have hf := HF.out w' hI
                unfold invAt
                go_simp
                first | exact rfl | exact ⟨rfl, hI⟩
              simp only [Act.put, List.setIfInBounds_toArray, List.set_cons_zero, List.set_cons_succ]
              refine' wpInv_step (by rfl) (fun w' hI => ?_) ?_
              rotate_left
              · have hf := HF.out w' hI
                unfold invAt
                go_simp
                first | exact rfl | exact ⟨rfl, hI⟩
              simp only [Act.put, List.setIfInBounds_toArray, List.set_cons_zero, List.set_cons_succ]
              refine' wpInv_step (by rfl) (fun w' hI => ?_) ?_
              rotate_left
              · have hf := HF.out w' hI
                unfold invAt
                go_simp
                first | exact rfl | exact ⟨rfl, hI⟩
              simp only [Act.put, List.setIfInBounds_toArray, List.set_cons_zero, List.set_cons_succ]
              refine' wpInv_step (by rfl) (fun w' hI => ?_) ?_
              rotate_left
              · have hf := HF.out w' hI
                unfold invAt
                go_simp
                first | exact rfl | exact ⟨rfl, hI⟩
              simp only [Act.put, List.setIfInBounds_toArray, List.set_cons_zero, List.set_cons_succ]
              refine' wpInv_step (by rfl) (fun w' hI => ?_) ?_
              rotate_left
              · have hf := HF.out w' hI
                unfold invAt
                go_simp
                first | exact rfl | exact ⟨rfl, hI⟩
              simp only [Act.put, List.setIfInBounds_toArray, List.set_cons_zero, List.set_cons_succ]
              refine' wpInv_step (by rfl) (fun w' hI => ?_) ?_
              rotate_left
              · have hf := HF.out w' hI
                unfold invAt
                go_simp
                first | exact rfl | exact ⟨rfl, hI⟩
              simp only [Act.put, List.setIfInBounds_toArray, List.set_cons_zero, List.set_cons_succ]
              refine' wpInv_step (by rfl) (fun w' hI => ?_) ?_
              rotate_left
              · have hf := HF.out w' hI
                unfold invAt
                go_simp
                first | exact rfl | exact ⟨rfl, hI⟩
              simp only [Act.put, List.setIfInBounds_toArray, List.set_cons_zero, List.set_cons_succ]
              refine' wpInv_step (by rfl) (fun w' hI => ?_) ?_
              rotate_left
              · have hf := HF.out w' hI
                unfold invAt
                go_simp
                clear hf
                refine (HC2.out w' hI).mono ?_
                rintro e w'' ⟨rfl, hb2⟩
                exact ⟨rfl, hI.trans (hb2.mono hI.size)⟩
              simp only [Act.put, List.setIfInBounds_toArray, List.set_cons_zero, List.set_cons_succ]
              refine' wpInv_step (by rfl) (fun w' hI => ?_) ?_
              rotate_left
              · have hf := HF.out w' hI
                unfold invAt
                go_simp
                first | exact rfl | exact ⟨rfl, hI⟩
              simp only [Act.put, List.setIfInBounds_toArray, List.set_cons_zero, List.set_cons_succ]
              intro w1 hI
              have HR1 := Lib.hid (HR.out.next hI)
              have HT1 := Lib.hid (HT.out.trans (Touch.of_below _ hI))
              have HCL := Lib.hid (HCELL.out w1 hI)
              clear hI HF HC2 HR HT HCELL
              cases q with
              | true =>
                have HQ0 : Hid (cmpE xs[K + r + 1] xs[K + r] = 0) := Lib.hid (by simpa using HQ.out)
                go_wp2_with fail
                go_roundw
                case rel => exact ⟨p, r + 1, zs, by omega, by go_num, by go_num, by omega, HZL.out, by rw [HZT.out, show K + (r + 1) + 1 = K + r + 2 by omega, HDT.out, if_pos HQ0.out, List.append_nil], by have h := congrArg (List.drop 1) HZD.out; simpa [List.drop_drop, Nat.add_assoc] using h, HZM.out, HR1.out, HT1.out⟩
                case measure => simp [intOf]; omega
              | false =>
                have HQ0 : Hid (¬ cmpE xs[K + r + 1] xs[K + r] = 0) := Lib.hid (by simpa using HQ.out)
                have hpl : p < xs.length := by omega
                have hpz : p < zs.length := by rw [HZL.out]; omega
                obtain ⟨⟨c0, c1, c2⟩, -⟩ := HCL.out
                obtain ⟨p0, p1, p2⟩ := HR1.out.at_.sib rfl hpz
                simp only at p0 p1 p2
                have z0 := HR1.out.frozen (o + p * 3)
                have z1 := HR1.out.frozen (o + p * 3 + 1)
                have z2 := HR1.out.frozen (o + p * 3 + 2)
                have HPUT := Lib.hid (HR1.out.put_row hpz A (HR1.out.at_.elem HAm.out) (HR1.out.off A HAm.out))
                have HPT := Lib.hid (HT1.out.trans (RowS.put_touch w1 g (o + p * 3) A))
                have HFP2 : Hid (∀ Z : List LSib → World → Prop, Z (zs.set p A) (RowS.put w1 g (o + p * 3) A) → Z (zs.set p A) (((w1.setCell ⟨g, o + p * 3, none⟩ A.vv.val).setCell ⟨g, o + p * 3 + 1, none⟩ (.bool A.gone)).setCell ⟨g, o + p * 3 + 2, none⟩ (.string A.text))) := Lib.hid (fun _ h => h)
                go_wp2_with fail
                go_roundw
                case rel =>
                  refine ⟨p + 1, r + 1, zs.set p A, by omega, by go_num, by go_num, by omega, by rw [List.length_set]; exact HZL.out, ?_, ?_, ?_, HFP2.out (fun z w' => RowS g o xc w' z) HPUT.out, HFP2.out (fun _ w' => Touch [g] w w') HPT.out⟩
                  · have hpz : p < zs.length := by rw [HZL.out]; omega
                    rw [List.take_succ_eq_append_getElem (by simpa using hpz), List.take_set_of_le (Nat.le_refl _), HZT.out, show K + (r + 1) + 1 = K + r + 2 by omega, HDT.out, if_neg HQ0.out, HAE.out]
                    simp
                  · rw [List.drop_set_of_lt (by omega)]
                    have h := congrArg (List.drop 1) HZD.out
                    simpa [List.drop_drop, Nat.add_assoc] using h
                  · intro s hs
                    rcases List.mem_or_eq_of_mem_set hs with h | rfl
                    · exact HZM.out s h
                    · exact HAX.out
                case measure => simp [intOf]; omega
            · have hrn : K + r + 1 = xs.length := by omega
              have hpl : p < xs.length := by omega
              have HFIN : Hid (zs.take p = dd cmpE xs) := Lib.hid (by have := HZT.out; rwa [hrn, List.take_length] at this)
              have hpz : p ≤ zs.length := by rw [HZL.out]; omega
              obtain ⟨L, hL, hcl⟩ := clearSibs wr 0 g (o + p * 3) (xs.length - p) (xc - p) (by omega) (fun j hj => by
                have hi : p + j / 3 < zs.length := by rw [HZL.out]; omega
                obtain ⟨e0, e1, e2⟩ := HR.out.at_.sib rfl hi
                simp only at e0 e1 e2
                rcases (show j % 3 = 0 ∨ j % 3 = 1 ∨ j % 3 = 2 by omega) with h | h | h
                · rw [show o + p * 3 + j = o + (p + j / 3) * 3 by omega, e0]; rfl
                · rw [show o + p * 3 + j = o + (p + j / 3) * 3 + 1 by omega, e1]; rfl
                · rw [show o + p * 3 + j = o + (p + j / 3) * 3 + 2 by omega, e2]; rfl) (fun j => HR.out.frozen j)
              have HCUT := Lib.hid (HR.out.cut hpz L)
              have HTC := Lib.hid (HT.out.trans (setCells_touch g L (o + p * 3) wr))
              have hlp : (zs.take p).length = p := by rw [List.length_take]; omega
              have HLP := Lib.hid hlp
              clear hL hlp
              go_wp2_with fail
              go_ret
              have hsub : (⟨some ⟨g, o, none⟩, xc, zs.take p⟩ : Loc LSib).fp.Sublist (⟨some ⟨g, o, none⟩, xc, xs⟩ : Loc LSib).fp := by
                rw [HFP.out]
                unfold Loc.fp
                refine List.Sublist.append ?_ ?_
                · unfold Loc.blk
                  split
                  · exact List.nil_sublist _
                  · exact List.Sublist.refl _
                · simp only
                  rw [HFIN.out]
                  exact sub_flatC Dat.fp (dd_sub xs)
              refine ⟨⟨some ⟨g, o, none⟩, xc, zs.take p⟩, ?_, HFIN.out, HCUT.out.at_, ⟨fun b hb => HFR.out.ge b (hsub.mem hb), hsub.nodup HFR.out.nd, fun b hb => ?_⟩, by rw [HBL.out]; exact HTC.out⟩
              · show Ending.returned (Value.slice (some ⟨g, o, none⟩) p xc) = _
                simp only [Loc.val, HLP.out]
              · by_cases hbg : b = g
                · rw [hbg]; exact HCUT.out.row
                · obtain ⟨cs, e, he⟩ := HFR.out.own b (hsub.mem hb)
                  exact ⟨cs, e, by rw [HTC.out.block b (HFR.out.lt b (hsub.mem hb)) (by simpa using hbg)]; exact he⟩
        · have hq1 : (q == 0) = false := by simp [hq0]
          have HE2 : Hid (dd cmpE (xs.take (m + 1 + 1)) = xs.take (m + 1 + 1)) := Lib.hid (by rw [HE.out, HQ.out, if_neg hq0, HDD.out]; exact (List.take_succ_eq_append_getElem hlt).symm)
          clear HE HQ
          go_wp2_with fail
          go_roundw
          case rel => exact ⟨m + 1, by omega, by go_num, HE2.out, B.out⟩
          case measure => simp [intOf]; omega
      · have hmm : m + 1 = xs.length := by omega
        have hfin : dd cmpE xs = xs := by have := HDD.out; rwa [hmm, List.take_length] at this
        have HFIN := Lib.hid hfin
        clear hfin
        go_wp2_with fail
        go_ret
        exact ⟨⟨some ⟨g, o, none⟩, xc, xs⟩, rfl, HFIN.out.symm, HR.out.at_, HFR.out.belowAll B.out, Touch.of_below _ B.out⟩
end Go.Proofs.YtdidkfadiaafiaaGreatDoor

namespace Go.Proofs.YtdidkfadiaafiaaGreatDoor
open Go Go.RowKit

set_option maxRecDepth 100000 in
set_option maxHeartbeats 1000000 in
theorem copySibs_own (x : Loc LSib) (w : World) (hx : x.At w) (hn : x.xs.length ≤ 1048576) (hv : ∀ s ∈ x.xs, s.vv.xs.length ≤ 1048576) :
    Calls Tryz.prog 52 #[x.val] w (NewOwn 42 w (fun ys : List LSib => ys.map LSib.er = x.xs.map LSib.er)) := by
  obtain ⟨xa, xc, xs⟩ := x
  simp only [Loc.val]
  simp only at hn hv
  have h1 : xs.length ≤ 9223372036854775807 := by omega
  have HX := Lib.hid hx
  have HN := Lib.hid hn
  have HVL := Lib.hid hv
  have HG0 := Lib.hid (Grows.start (α := LSib) w 42)
  clear hx hn hv
  go_enter Tryz.func52, Tryz.ntmps52
  go_wp2_with fail
  go_loopw [3, 9] (fun o i wr => ∃ (k : Nat) (l : Loc LSib), k ≤ xs.length ∧ i = .int .i64 k ∧ o = l.val ∧ l.xs.map LSib.er = (xs.take k).map LSib.er ∧ Grows w.heap.size 42 w l wr) (fun _ i _ => xs.length - (intOf i).toNat)
  case atStart => exact ⟨0, _, Nat.zero_le _, rfl, rfl, rfl, HG0.out⟩
  case round =>
    obtain ⟨k, l, hk, rfl, rfl, hl, hG⟩ := hrel
    have HL := Lib.hid hl
    have HG := Lib.hid hG
    clear hl hG
    by_cases hlt : k < xs.length
    · obtain ⟨a, ao, ha⟩ := HX.out.place hlt
      simp only at ha
      subst ha
      have hc1 := (HX.out.belowAll (HG.out.bel)).sib rfl hlt
      simp only at hc1
      obtain ⟨c0, c1, c2⟩ := hc1
      have HE := Lib.hid ((HX.out.belowAll (HG.out.bel)).elem (List.getElem_mem hlt))
      have hvk : xs[k].vv.xs.length ≤ 1048576 := HVL.out _ (List.getElem_mem hlt)
      have HVK := Lib.hid hvk
      clear hvk
      have hll : l.xs.length + 1 ≤ 1099511627776 := by
        have h := congrArg List.length HL.out
        simp only [List.length_map, List.length_take] at h
        have := HN.out
        omega
      have HLL := Lib.hid hll
      clear hll
      have HO := Lib.hid (Own.made (α := Int) (wr.alloc (Obj.cells #[xs[k].vv.val, .bool xs[k].gone, .string xs[k].text] 42)) 3)
      have HB2 := Lib.hid (((Below.refl wr.heap.size wr).alloc (Nat.le_refl _) (Obj.cells #[xs[k].vv.val, .bool xs[k].gone, .string xs[k].text] 42)).alloc (by simp) (Obj.cells #[] 3))
      go_wp2_with (at_builtin; refine wpList_append_all rfl _ _ 40 rfl (wr.heap.size + 1) 3 elem_int ⟨some ⟨wr.heap.size + 1, 0, none⟩, 0, []⟩ rfl (by have := HO.out; simpa using this) xs[k].vv rfl (Loc.At.belowAll HE.out.1 HB2.out) (fun z _ b hb => by cases hb) (by have := HVK.out; simp; omega) (by simp) ?_)
      intro lv wc hap
      obtain ⟨b1, e1, o1, s1, f1, q1, z1⟩ := copied HG.out.bel.size hap
      have B1 := Lib.hid b1
      have E1 := Lib.hid e1
      have O1 := Lib.hid o1
      have S1 := Lib.hid s1
      have F1 := Lib.hid f1
      have d0 := q1 0
      have z10 := z1 0
      have d1 := q1 1
      have d2 := q1 2
      simp only [List.getElem?_toArray, List.getElem?_cons_zero, List.getElem?_cons_succ] at d0 d1 d2
      clear hap b1 e1 o1 s1 f1 q1 c0 c1 c2 z1
      have hW3 : Below wr.heap.size wr ((wc.setCell ⟨wr.heap.size, 0, none⟩ lv.val).alloc (Obj.cells #[lv.val, .bool xs[k].gone, .string xs[k].text] 42)) :=
        (B1.out.setCell (Nat.le_refl _) _).alloc (by have := S1.out; simp; omega) _
      have hs3 : Below (wc.setCell ⟨wr.heap.size, 0, none⟩ lv.val).heap.size (wc.setCell ⟨wr.heap.size, 0, none⟩ lv.val) ((wc.setCell ⟨wr.heap.size, 0, none⟩ lv.val).alloc (Obj.cells #[lv.val, .bool xs[k].gone, .string xs[k].text] 42)) :=
        (Below.refl _ _).alloc (Nat.le_refl _) _
      have hk3 : ∀ b, wr.heap.size + 1 ≤ b → b < wc.heap.size → ((wc.setCell ⟨wr.heap.size, 0, none⟩ lv.val).alloc (Obj.cells #[lv.val, .bool xs[k].gone, .string xs[k].text] 42)).heap[b]? = wc.heap[b]? := by
        intro b h1 h2
        rw [Below.heap_alloc _ _ _ (by simpa using h2), Below.heap_setCell _ _ _ _ (by simp; omega)]
      have hA3 : Dat.At ((wc.setCell ⟨wr.heap.size, 0, none⟩ lv.val).alloc (Obj.cells #[lv.val, .bool xs[k].gone, .string xs[k].text] 42)) (⟨lv, xs[k].gone, xs[k].text⟩ : LSib) :=
        ⟨Loc.keep_At O1.out.at_ fun b hb => hk3 b (F1.out.ge b hb) (F1.out.lt b hb), HE.out.2⟩
      have hF3 := (F1.out.mono (lo' := wr.heap.size) (by omega)).keep (w' := (wc.setCell ⟨wr.heap.size, 0, none⟩ lv.val).alloc (Obj.cells #[lv.val, .bool xs[k].gone, .string xs[k].text] 42)) fun b hb => hk3 b (F1.out.ge b hb) (F1.out.lt b hb)
      have HG3 := Lib.hid (HG.out.later (Nat.le_refl _) hW3)
      have A3 := Lib.hid hA3
      have F3 := Lib.hid hF3
      have hnew : Hid (∀ b ∈ lv.fp, b ∉ l.xs.flatMap Dat.fp ∧ some b ≠ l.val.ownBlock) := Lib.hid (by
        intro b hb
        have h1 := F1.out.ge b hb
        refine ⟨fun h => ?_, fun h => ?_⟩
        · have := HG.out.fr.lt b h; omega
        · have := (HG.out.own.lt b h.symm).2; omega)
      clear hW3 hs3 hk3 hA3 hF3
      obtain ⟨la, lc, ls⟩ := lv
      simp only [Loc.val] at HG3 A3 F3 ⊢
      have C1 := Lib.hid (news_new (w := wc.setCell ⟨wr.heap.size, 0, none⟩ (.slice la ls.length lc)) (g := wc.heap.size) (cs := #[.slice la ls.length lc, .bool xs[k].gone, .string xs[k].text]) (e := 42) (by simp) [(⟨⟨la, lc, ls⟩, xs[k].gone, xs[k].text⟩ : LSib)] rfl)
      have C2 : Hid (∀ y ∈ [(⟨⟨la, lc, ls⟩, xs[k].gone, xs[k].text⟩ : LSib)], Dat.At _ y) := Lib.hid (fun y hy => by rw [List.mem_singleton.1 hy]; exact A3.out)
      have C3 : Hid (∀ y ∈ [(⟨⟨la, lc, ls⟩, xs[k].gone, xs[k].text⟩ : LSib)], ∀ b ∈ Dat.fp y, some b ≠ l.val.ownBlock) := Lib.hid (fun y hy b hb => by rw [List.mem_singleton.1 hy] at hb; exact (hnew.out b hb).2)
      go_wp2_with (at_builtin; (refine wpList_append_loc rfl _ _ 37 rfl w.heap.size 42 elem_sib l rfl HG3.out.own ⟨wc.heap.size, 0, none⟩ 1 1 [⟨⟨la, lc, ls⟩, xs[k].gone, xs[k].text⟩] rfl rfl C1.out C2.out C3.out HLL.out HG3.out.bel.size ?_))
      intro l' wd hap
      have HAP := Lib.hid hap
      clear hap d0 d1 d2 z10
      have HNX : Hid (l'.xs = l.xs ++ [(⟨⟨la, lc, ls⟩, xs[k].gone, xs[k].text⟩ : LSib)]) := Lib.hid HAP.out.xs
      have HNE : Hid ((⟨⟨la, lc, ls⟩, xs[k].gone, xs[k].text⟩ : LSib).er = xs[k].er) := Lib.hid (by have h : ls = xs[k].vv.xs := E1.out; simp only [LSib.er, h])
      have HNG := Lib.hid (HG3.out.step (Nat.le_refl _) HAP.out (by simp only [List.flatMap_cons, List.flatMap_nil, List.append_nil]; exact F3.out.mono HG.out.bel.size) (fun a ha b hb => by
        simp only [List.flatMap_cons, List.flatMap_nil, List.append_nil] at hb
        rintro rfl
        exact (hnew.out a hb).1 ha) (fun y hy b hb => by rw [List.mem_singleton.1 hy] at hb; exact (hnew.out b hb).2))
      have HNB := Lib.hid ((B1.out.setCell (p := ⟨wr.heap.size, 0, none⟩) (Nat.le_refl _) (.slice la ls.length lc)).alloc (by have := S1.out; simp; omega) (Obj.cells #[.slice la ls.length lc, .bool xs[k].gone, .string xs[k].text] 42))
      have HND := Lib.hid (HAP.out.below HG3.out.own (HNB.out.mono HG.out.bel.size) (Nat.le_refl _) HG3.out.bel.size)
      clear HAP C1 C2 C3 HG3 A3 F3 hnew B1 E1 O1 S1 F1 HO HB2 HNB
      go_wp2_with fail
      go_roundw
      case rel =>
        refine ⟨k + 1, l', by omega, by go_num, rfl, ?_, HNG.out⟩
        rw [HNX.out, List.map_append, HL.out, List.take_succ_eq_append_getElem hlt, List.map_append, List.map_singleton, HNE.out, List.map_singleton]
      case measure => simp [intOf]; omega
    · have hkk : k = xs.length := by omega
      subst hkk
      go_wp2_with fail
      go_ret
      refine ⟨l, rfl, ?_, HG.out.own, HG.out.fr, HG.out.bel⟩
      have := HL.out
      rwa [List.take_length] at this

set_option maxRecDepth 100000 in
set_option maxHeartbeats 400000 in
theorem mergeSibs_clo (a x : LSib) (b : Nat) (W : World) (h0 : W.cell? ⟨b, 0, none⟩ = some a.vv.val) (h1 : W.cell? ⟨b, 1, none⟩ = some (.bool a.gone)) (h2 : W.cell? ⟨b, 2, none⟩ = some (.string a.text))
    (ha : Dat.At W a) (hx : Dat.At W x) (hle : a.vv.xs.length ≤ x.vv.xs.length) :
    Calls Tryz.prog 87 #[x.val, .pointer (some ⟨b, 0, none⟩)] W fun e W' => e = .returned (.bool (supB a.er x.er)) ∧ Below W.heap.size W W' := by
  have hB := (Below.refl W.heap.size W).alloc (Nat.le_refl _) (Obj.cells #[x.vv.val, Value.bool x.gone, Value.string x.text] 42)
  have hb := World.block_lt_of_cell? W _ h0
  have h3 := Lib.hid (sup_any a x _ (Dat.belowAll ha hB) (Dat.belowAll hx hB) hle)
  have HB := Lib.hid hB
  clear hB
  simp only [LSib.val]
  go_enter Tryz.func87, Tryz.ntmps87
  go_wp2_with (go_at_call 83; refine h3.out.mono ?_; rintro e w' ⟨rfl, hb2⟩)
  go_ret
  exact ⟨rfl, HB.out.trans (hb2.mono (by simp))⟩


theorem dd_er (l : List LSib) : (dd cmpE l).map LSib.er = dd cmpSib (l.map LSib.er) := dd_map LSib.er cmpSib l
theorem LOK.len3 {l : List LSib} (h : LOK (l.map LSib.er)) : ∀ s ∈ l, s.vv.xs.length = 3 := fun s hs => h.v3 s.er (List.mem_map.2 ⟨s, hs, rfl⟩)

set_option maxRecDepth 100000 in
set_option maxHeartbeats 2000000 in
theorem mergeSibs_any (x y : Loc LSib) (w : World) (hx : x.At w) (hy : y.At w) (hlx : LOK (x.xs.map LSib.er)) (hly : LOK (y.xs.map LSib.er)) (hnx : x.xs.length ≤ 1000) (hny : y.xs.length ≤ 1000) (hne : y.xs ≠ []) :
    Calls Tryz.prog 55 #[x.val, y.val] w (NewOwn 42 w (fun ys : List LSib => ys.map LSib.er = mergeL (x.xs.map LSib.er) (y.xs.map LSib.er))) := by
  have HX := Lib.hid hx
  have HY := Lib.hid hy
  have HLX := Lib.hid hlx
  have HLY := Lib.hid hly
  have HNX := Lib.hid hnx
  have HNY := Lib.hid hny
  have HNE := Lib.hid hne
  have hc := Lib.hid (copySibs_own x w hx (by omega) (fun s hs => by have := hlx.len3 s hs; omega))
  clear hx hy hlx hly hnx hny hne
  go_enter Tryz.func55, Tryz.ntmps55
  go_wp2_with fail
  refine hc.out.mono ?_
  rintro e w1 ⟨p, rfl, hp, hpO, hpF, b1⟩
  have B := Lib.hid b1
  first
    | replace HX := Lib.hid (Loc.At.belowAll HX.out (b1))
    | replace HX := Lib.hid (nextB HX.out (b1))
    | replace HX := Lib.hid (Boxed.keep HX.out (b1))
    | replace HX := Lib.hid (Dat.belowAll HX.out (b1))
    | replace HX := Lib.hid (Fr.belowAll HX.out (b1))
    | replace HX := Lib.hid (Own.belowAll HX.out (b1))
    | replace HX := Lib.hid (Grows.next HX.out (b1))
  first
    | replace HY := Lib.hid (Loc.At.belowAll HY.out (b1))
    | replace HY := Lib.hid (nextB HY.out (b1))
    | replace HY := Lib.hid (Boxed.keep HY.out (b1))
    | replace HY := Lib.hid (Dat.belowAll HY.out (b1))
    | replace HY := Lib.hid (Fr.belowAll HY.out (b1))
    | replace HY := Lib.hid (Own.belowAll HY.out (b1))
    | replace HY := Lib.hid (Grows.next HY.out (b1))
  have PE := Lib.hid hp
  have PO := Lib.hid hpO
  have PF := Lib.hid hpF
  clear hp hpO hpF b1 hc
  have hc := Lib.hid (copySibs_own y w1 HY.out (by have := HNY.out; omega) (fun s hs => by have := HLY.out.len3 s hs; omega))
  go_wp2_with fail
  refine hc.out.mono ?_
  rintro e w2 ⟨q, rfl, hq, hqO, hqF, b2⟩
  have QE := Lib.hid hq
  have QO := Lib.hid hqO
  have QF := Lib.hid hqF
  have PB := Lib.hid (fun b h => (PO.out.lt b h).2)
  have PL := Lib.hid PF.out.lt
  have S1 := Lib.hid B.out.size
  first
    | replace B := Lib.hid (Loc.At.belowAll B.out (b2))
    | replace B := Lib.hid (nextB B.out (b2))
    | replace B := Lib.hid (Boxed.keep B.out (b2))
    | replace B := Lib.hid (Dat.belowAll B.out (b2))
    | replace B := Lib.hid (Fr.belowAll B.out (b2))
    | replace B := Lib.hid (Own.belowAll B.out (b2))
    | replace B := Lib.hid (Grows.next B.out (b2))
  first
    | replace HX := Lib.hid (Loc.At.belowAll HX.out (b2))
    | replace HX := Lib.hid (nextB HX.out (b2))
    | replace HX := Lib.hid (Boxed.keep HX.out (b2))
    | replace HX := Lib.hid (Dat.belowAll HX.out (b2))
    | replace HX := Lib.hid (Fr.belowAll HX.out (b2))
    | replace HX := Lib.hid (Own.belowAll HX.out (b2))
    | replace HX := Lib.hid (Grows.next HX.out (b2))
  first
    | replace HY := Lib.hid (Loc.At.belowAll HY.out (b2))
    | replace HY := Lib.hid (nextB HY.out (b2))
    | replace HY := Lib.hid (Boxed.keep HY.out (b2))
    | replace HY := Lib.hid (Dat.belowAll HY.out (b2))
    | replace HY := Lib.hid (Fr.belowAll HY.out (b2))
    | replace HY := Lib.hid (Own.belowAll HY.out (b2))
    | replace HY := Lib.hid (Grows.next HY.out (b2))
  first
    | replace PO := Lib.hid (Loc.At.belowAll PO.out (b2))
    | replace PO := Lib.hid (nextB PO.out (b2))
    | replace PO := Lib.hid (Boxed.keep PO.out (b2))
    | replace PO := Lib.hid (Dat.belowAll PO.out (b2))
    | replace PO := Lib.hid (Fr.belowAll PO.out (b2))
    | replace PO := Lib.hid (Own.belowAll PO.out (b2))
    | replace PO := Lib.hid (Grows.next PO.out (b2))
  first
    | replace PF := Lib.hid (Loc.At.belowAll PF.out (b2))
    | replace PF := Lib.hid (nextB PF.out (b2))
    | replace PF := Lib.hid (Boxed.keep PF.out (b2))
    | replace PF := Lib.hid (Dat.belowAll PF.out (b2))
    | replace PF := Lib.hid (Fr.belowAll PF.out (b2))
    | replace PF := Lib.hid (Own.belowAll PF.out (b2))
    | replace PF := Lib.hid (Grows.next PF.out (b2))
  clear hq hqO hqF b2 hc
  have HPL : Hid (p.xs.length = x.xs.length) := Lib.hid (by have := congrArg List.length PE.out; simpa using this)
  have HQL : Hid (q.xs.length = y.xs.length) := Lib.hid (by have := congrArg List.length QE.out; simpa using this)
  have hoff : ∀ z ∈ q.xs, ∀ b ∈ Dat.fp z, some b ≠ p.val.ownBlock := fun z hz b hb h => by
    have h1 := QF.out.ge b (List.mem_flatMap.2 ⟨z, hz, hb⟩)
    have h2 := PB.out b h.symm
    omega
  have HOFF := Lib.hid hoff
  clear hoff
  go_wp2_with (at_builtin; refine wpList_append_all rfl _ _ 37 rfl w.heap.size 42 elem_sib p rfl PO.out q rfl QO.out.at_ HOFF.out (by have := HNX.out; have := HNY.out; have := HPL.out; have := HQL.out; omega) (by have := B.out.size; omega) ?_)
  intro l w3 hap
  have LX := Lib.hid hap.xs
  have LO := Lib.hid hap.own
  have HF1 := hap.keepFr PF.out (fun b hb h => by
    obtain ⟨z, hz, hbz⟩ := List.mem_flatMap.1 hb
    exact PO.out.off z hz b hbz h)
  have HF2 := hap.keepFr (QF.out.mono S1.out) (fun b hb h => by
    obtain ⟨z, hz, hbz⟩ := List.mem_flatMap.1 hb
    exact HOFF.out z hz b hbz h)
  have LF : Hid (Fr w.heap.size w3 (l.xs.flatMap Dat.fp)) := Lib.hid (by
    rw [hap.xs, List.flatMap_append]
    exact HF1.append HF2 (fun a ha b hb => by have := PL.out a ha; have := QF.out.ge b hb; omega))
  replace B := Lib.hid (hap.below PO.out B.out (Nat.le_refl _) B.out.size)
  clear hap HF1 HF2 HX HY PO PF QO QF PB PL HOFF
  have LFP := Lib.hid (LO.out.fr LF.out (Nat.le_refl _))
  have hlne : l.xs ≠ [] := by
    rw [LX.out]
    intro h
    have h2 := (List.append_eq_nil_iff.1 h).2
    have := HQL.out
    rw [h2] at this
    exact HNE.out (List.length_eq_zero_iff.1 this.symm)
  have HLN : Hid (l.xs.length ≤ 2000) := Lib.hid (by rw [LX.out, List.length_append, HPL.out, HQL.out]; have := HNX.out; have := HNY.out; omega)
  have hc := Lib.hid (sortSibs_any l w.heap.size w3 LO.out.at_ LFP.out hlne (by have := HLN.out; omega))
  have HLB : Hid (∀ b ∈ l.blk, w.heap.size ≤ b) := Lib.hid (fun b hb => (LO.out.lt b (Loc.blk_own hb)).1)
  have LE : Hid (∀ s, s ∈ l.xs.map LSib.er ↔ s ∈ x.xs.map LSib.er ∨ s ∈ y.xs.map LSib.er) := Lib.hid (fun s => by rw [LX.out, List.map_append, List.mem_append, PE.out, QE.out])
  clear hlne PE QE LX HPL HQL LO LF LFP
  go_wp2_with fail
  refine hc.out.mono ?_
  rintro e w4 ⟨rfl, ys, hperm, hsort, hA, hFr, hT⟩
  have hval : (l.re ys).val = l.val := by simp only [Loc.val, Loc.re, hperm.length_eq]
  have hc2 := compact_any (l.re ys) w.heap.size w4 hA hFr (by show ys.length ≤ _; rw [hperm.length_eq]; have := HLN.out; omega)
  rw [hval] at hc2
  have HC2 := Lib.hid hc2
  have HDD : Hid (dd cmpSib (ys.map LSib.er) = allL (x.xs.map LSib.er) (y.xs.map LSib.er)) := Lib.hid (dd_all HLX.out.asc (List.pairwise_map.2 (hsort.imp fun h => by omega)) (fun s => by rw [← LE.out s, (hperm.map LSib.er).mem_iff]))
  have HBK : Hid ((l.re ys).blk = l.blk ∨ (l.re ys).blk = []) := Lib.hid (by
    unfold Loc.blk Loc.re
    split
    · exact .inr rfl
    · rename_i h
      rw [if_neg (fun h' => h (by rw [h'] at hperm; exact hperm.eq_nil))]
      exact .inl rfl)
  replace B := Lib.hid (B.out.trans (hT.below B.out.size HLB.out))
  clear hperm hsort hA hFr hT hval hc2 hc LE
  go_wp2_with fail
  refine HC2.out.mono ?_
  rintro e w5 ⟨c, rfl, hcx, hcA, hcF, hT⟩
  have CE : Hid (c.xs.map LSib.er = allL (x.xs.map LSib.er) (y.xs.map LSib.er)) := Lib.hid (by rw [hcx, dd_er]; exact HDD.out)
  have CA := Lib.hid hcA
  have CF := Lib.hid hcF
  replace B := Lib.hid (B.out.trans (hT.below B.out.size (fun b hb => by
    rcases HBK.out with h | h
    · rw [h] at hb; exact HLB.out b hb
    · rw [h] at hb; cases hb)))
  clear hcx hcA hcF hT HC2 HDD HBK HLB HLN
  obtain ⟨ca, cc, cs⟩ := c
  simp only [Loc.val] at CE CA CF ⊢
  have CL : Hid (cs.length ≤ 2000) := Lib.hid (by
    have h1 := congrArg List.length CE.out
    have h2 := allL_len (x.xs.map LSib.er) (y.xs.map LSib.er)
    simp only [List.length_map] at h1 h2
    have := HNX.out; have := HNY.out; omega)
  have C3 : Hid (∀ s ∈ cs, s.vv.xs.length = 3) := Lib.hid (fun s hs => by
    have h : s.er ∈ allL (x.xs.map LSib.er) (y.xs.map LSib.er) := by rw [← CE.out]; exact List.mem_map.2 ⟨s, hs, rfl⟩
    rcases allL_mem _ _ _ h with h | h
    · exact HLX.out.v3 _ h
    · exact HLY.out.v3 _ h)
  have h1 : cs.length ≤ 9223372036854775807 := by have := CL.out; omega
  have HG0 := Lib.hid (Own.made (α := LSib) w5 42)
  have HB0 := Lib.hid ((Below.refl w5.heap.size w5).alloc (Nat.le_refl _) (Obj.cells #[] 42))
  go_wp2_with fail
  go_loopw [6, 21] (fun o i wr => ∃ (k : Nat) (l : Loc LSib), k ≤ cs.length ∧ i = .int .i64 k ∧ o = l.val ∧ l.xs = (cs.take k).filter (fun s => !cs.any fun t => supB s.er t.er) ∧ Own w5.heap.size 42 wr l ∧ Below w5.heap.size w5 wr) (fun _ i _ => cs.length - (intOf i).toNat)
  case atStart => exact ⟨0, _, Nat.zero_le _, rfl, rfl, rfl, HG0.out, HB0.out⟩
  case round =>
    obtain ⟨k, l, hk, rfl, rfl, hl, hO, hB⟩ := hrel
    have LX := Lib.hid hl
    have LO := Lib.hid hO
    have LB := Lib.hid hB
    clear hl hO hB HG0 HB0
    by_cases hlt : k < cs.length
    · obtain ⟨a, ao, ha⟩ := CA.out.place hlt
      simp only at ha
      subst ha
      obtain ⟨c0, c1, c2⟩ := (CA.out.belowAll LB.out).sib rfl hlt
      simp only at c0 c1 c2
      have hAt := Lib.hid (CA.out.belowAll LB.out)
      have HFT := Lib.hid (filter_take (fun s : LSib => !cs.any fun t => supB s.er t.er) hlt)
      have hb6 : Below wr.heap.size wr (wr.alloc (Obj.cells #[cs[k].vv.val, Value.bool cs[k].gone, Value.string cs[k].text] 42)) := (Below.refl _ _).alloc (Nat.le_refl _) _
      have BX := Lib.hid (Boxed.new wr #[cs[k].vv.val, Value.bool cs[k].gone, Value.string cs[k].text] 42)
      have B6 := Lib.hid hb6
      clear hb6
      have hin : ∀ W, Below (wr.alloc (Obj.cells #[cs[k].vv.val, Value.bool cs[k].gone, Value.string cs[k].text] 42)).heap.size (wr.alloc (Obj.cells #[cs[k].vv.val, Value.bool cs[k].gone, Value.string cs[k].text] 42)) W → W.cell? ⟨wr.heap.size, 0, none⟩ = some cs[k].vv.val ∧ W.cell? ⟨wr.heap.size, 1, none⟩ = some (.bool cs[k].gone) ∧ W.cell? ⟨wr.heap.size, 2, none⟩ = some (.string cs[k].text) := fun W hW => by
        have h := BX.out.keep hW
        exact ⟨h.2 0 _ rfl, h.2 1 _ rfl, h.2 2 _ rfl⟩
      have HIN := Lib.hid hin
      clear hin
      have eg : ∀ args w, (callFunc 87 args).run Tryz.prog w = .ok (.enter 87 args) w := enters_of Tryz.func87 (by kernel_rfl) rfl
      have hcon := contains_sib 87 #[.pointer (some ⟨wr.heap.size, 0, none⟩)] eg ⟨some ⟨a, ao, none⟩, cc, cs⟩ (fun b => supB cs[k].er b.er) (wr.alloc (Obj.cells #[cs[k].vv.val, Value.bool cs[k].gone, Value.string cs[k].text] 42))
        (hAt.out.belowAll B6.out) (fun W x hxm hbW => mergeSibs_clo cs[k] x wr.heap.size W (HIN.out W hbW).1 (HIN.out W hbW).2.1 (HIN.out W hbW).2.2
          (Dat.belowAll (Dat.belowAll (hAt.out.elem (List.getElem_mem hlt)) B6.out) hbW) (Dat.belowAll (Dat.belowAll (hAt.out.elem hxm) B6.out) hbW)
          (by rw [C3.out _ (List.getElem_mem hlt), C3.out _ hxm]; exact Nat.le_refl _))
      change Calls Tryz.prog _ #[.slice (some ⟨a, ao, none⟩) cs.length cc, _] _ _ at hcon
      obtain ⟨u, hu⟩ : ∃ u, (cs.any fun b => supB cs[k].er b.er) = u := ⟨_, rfl⟩
      rw [hu] at hcon
      have HU := Lib.hid hu
      have HCON := Lib.hid hcon
      clear hcon hu
      cases u with
      | true =>
        go_wp2_with (go_at_call 81; refine HCON.out.mono ?_; rintro e w' ⟨rfl, hb2⟩)
        go_roundw
        case rel =>
          refine ⟨k + 1, l, by omega, by go_num, rfl, ?_, LO.out.belowAll (nextB B6.out hb2), LB.out.trans ((nextB B6.out hb2).mono LB.out.size)⟩
          rw [HFT.out, HU.out, LX.out]; simp
        case measure => simp [intOf]; omega
      | false =>
        go_wp2_with fail
        refine HCON.out.mono ?_
        rintro e w7 ⟨rfl, b7⟩
        obtain ⟨p0, p1, p2⟩ := HIN.out w7 b7
        have B7 := Lib.hid (nextB B6.out b7)
        have HOM := Lib.hid (one_more (base := w5.heap.size) (e' := 42) (g := w7.heap.size) (cs := #[cs[k].vv.val, Value.bool cs[k].gone, Value.string cs[k].text]) l cs[k] rfl rfl (LO.out.belowAll B7.out) (Dat.belowAll (hAt.out.elem (List.getElem_mem hlt)) B7.out)
          (fun b hb h => by
            have h1 := Dat.lt (CA.out.elem (List.getElem_mem hlt)) b hb
            have h2 := (LO.out.lt b h.symm).1
            omega)
          (by
            have h1 := List.length_filter_le (fun s : LSib => !cs.any fun t => supB s.er t.er) (cs.take k)
            rw [← LX.out, List.length_take] at h1
            have := CL.out
            omega) (Nat.le_trans LB.out.size B7.out.size))
        have LB7 := Lib.hid ((LB.out.trans (B7.out.mono LB.out.size)).alloc (Nat.le_trans LB.out.size B7.out.size) (Obj.cells #[cs[k].vv.val, Value.bool cs[k].gone, Value.string cs[k].text] 42))
        clear b7 HCON HIN BX c0 c1 c2 eg
        go_wp2_with (at_builtin; refine wpList_append_one rfl _ _ 37 rfl w5.heap.size 42 elem_sib l rfl w7.heap.size cs[k] rfl HOM.out ?_)
        intro l' w8 hap
        have L8 := Lib.hid (hap.below HOM.out.own LB7.out (Nat.le_refl _) HOM.out.lo)
        have LX8 := Lib.hid hap.xs
        have LO8 := Lib.hid hap.own
        clear hap p0 p1 p2
        go_wp2_with fail
        go_roundw
        case rel =>
          refine ⟨k + 1, l', by omega, by go_num, rfl, ?_, LO8.out, L8.out⟩
          rw [LX8.out, HFT.out, HU.out, LX.out]; simp
        case measure => simp [intOf]; omega
    · have hkk : k = cs.length := by omega
      subst hkk
      have hfin : l.xs = cs.filter (fun s => !cs.any fun t => supB s.er t.er) := by rw [LX.out, List.take_length]
      have HFIN := Lib.hid hfin
      clear hfin
      go_wp2_with fail
      go_ret
      refine ⟨l, rfl, ?_, LO.out.mono B.out.size, ?_, B.out.trans (LB.out.mono B.out.size)⟩
      · rw [HFIN.out, mergeL, keptL, ← CE.out, List.filter_map]
        congr 1
        apply List.filter_congr
        intro s _
        simp only [List.any_map]
        rfl
      · have h1 := CF.out.belowAll LB.out
        refine h1.sub ?_
        rw [HFIN.out]
        exact (sub_flatC Dat.fp List.filter_sublist).trans (List.sublist_append_right _ _)
end Go.Proofs.YtdidkfadiaafiaaGreatDoor
