/- The program's mergeTrees, TreeMerge, SibsMerge; the reference's l3Merge, TreeMerge. The program's TreeMerge, SibsMerge. The reference's l3Merge, TreeMerge. -/
import Derived.Test.YtdidkfadiaafiaaGreatDoorMergeI
import Derived.Test.YtdidkfadiaafiaaGreatDoorWriteS
namespace Go.Proofs.YtdidkfadiaafiaaGreatDoor
open Go Go.RowKit

theorem mergeT_len : ∀ (b a : List File), (mergeT a b).length ≤ a.length + b.length
  | [], a => Nat.le_refl _
  | f :: r, a => by
    have h1 := mergeT_len r (tput ⟨f.name, mergeL (atL f.name a) f.sibs⟩ a)
    have h2 := tput_len ⟨f.name, mergeL (atL f.name a) f.sibs⟩ a
    show (mergeT (tput ⟨f.name, mergeL (atL f.name a) f.sibs⟩ a) r).length ≤ _
    simp only [List.length_cons]
    omega
theorem TLOK.take {b : List File} (h : TLOK b) (k : Nat) : TLOK (b.take k) := ⟨h.asc.sublist (List.take_sublist _ _), fun f hf => h.each f (List.mem_of_mem_take hf)⟩

theorem atL_len {t : List File} (n : ByteArray) (h : ∀ f ∈ t, f.sibs.length ≤ 12) : (atL n t).length ≤ 12 := by
  induction t with
  | nil => simp [atL]
  | cons f r ih =>
    simp only [atL]
    split
    · exact h f List.mem_cons_self
    · exact ih fun g hg => h g (List.mem_cons_of_mem _ hg)
theorem mergeT_at_len {X Y : List File} (hX : TreeOK X) (hY : TreeOK Y) (k : Nat) (n : ByteArray) : (atL n (mergeT X (Y.take k))).length ≤ 24 := by
  rw [(mergeT_spec hX.tlok (hY.tlok.take k)).2]
  have h := mergeL_len (atL n X) (atL n (Y.take k))
  have h1 := atL_len n (t := X) (fun f hf => (hX.sib f hf).few)
  have h2 := atL_len n (t := Y.take k) (fun f hf => (hY.sib f (List.mem_of_mem_take hf)).few)
  omega

set_option maxRecDepth 100000 in
set_option maxHeartbeats 2000000 in
theorem mergeTrees_any (x y : Loc LFile) (w : World) (hx : x.At w) (hy : y.At w) (hX : TreeOK (x.xs.map LFile.er)) (hY : TreeOK (y.xs.map LFile.er)) :
    Calls Tryz.prog 46 #[x.val, y.val] w (NewOwn 58 w (fun zs : List LFile => zs.map LFile.er = mergeT (x.xs.map LFile.er) (y.xs.map LFile.er))) := by
  have HX := Lib.hid hx
  have HY := Lib.hid hy
  have HXT := Lib.hid hX
  have HYT := Lib.hid hY
  obtain ⟨X, hXe⟩ : ∃ X, x.xs.map LFile.er = X := ⟨_, rfl⟩
  have HXE := Lib.hid hXe
  have hc := Lib.hid (copyTree_any x w hx (by have := hX.few; simp at this; omega) (fun f hf => .inr (hX.sib f hf)))
  clear hx hy hX hY hXe
  obtain ⟨ya, yc, ys⟩ := y
  simp only [Loc.val] at HYT HY ⊢
  have h1 : ys.length ≤ 9223372036854775807 := by have := HYT.out.few; simp at this; omega
  go_enter Tryz.func46, Tryz.ntmps46
  go_wp2_with fail
  refine hc.out.mono ?_
  rintro e w1 ⟨p, rfl, hp, hpO, hpF, b1⟩
  have HG0 : Hid (Grows w.heap.size 58 w p w1) := Lib.hid ⟨hpO, hpF, b1⟩
  have HPE : Hid (p.xs.map LFile.er = X) := Lib.hid (by rw [← HXE.out]; exact hp)
  clear hp hpO hpF b1 hc
  go_wp2_with fail
  go_loopw [5, 12] (fun o i wr => ∃ (k : Nat) (l : Loc LFile), k ≤ ys.length ∧ i = .int .i64 k ∧ o = l.val ∧ l.xs.map LFile.er = mergeT X ((ys.map LFile.er).take k) ∧ Grows w.heap.size 58 w l wr) (fun _ i _ => ys.length - (intOf i).toNat)
  case atStart => exact ⟨0, p, Nat.zero_le _, rfl, rfl, by rw [HPE.out]; rfl, HG0.out⟩
  case round =>
    obtain ⟨k, l, hk, rfl, rfl, hl, hG⟩ := hrel
    have HL := Lib.hid hl
    have HGR := Lib.hid hG
    clear hl hG HG0
    by_cases hlt : k < ys.length
    · obtain ⟨a, ao, ha⟩ := HY.out.place hlt
      simp only at ha
      subst ha
      have hXT : TreeOK X := by rw [← HXE.out]; exact HXT.out
      have HTL := Lib.hid (mergeT_spec hXT.tlok (HYT.out.tlok.take k)).1
      have HTA := Lib.hid (mergeT_at_len hXT HYT.out k ys[k].name)
      have HTN : Hid (l.xs.length ≤ 1000) := Lib.hid (by
        have h1 := congrArg List.length HL.out
        have h2 := mergeT_len ((ys.map LFile.er).take k) X
        have h3 := hXT.few
        have h4 := HYT.out.few
        simp only [List.length_map, List.length_take] at h1 h2 h4
        omega)
      have hkm : k < (ys.map LFile.er).length := by simpa using hlt
      have HSO : Hid (SibsOK (ys[k].sibs.xs.map LSib.er)) := Lib.hid (HYT.out.sib ys[k].er (List.mem_map.2 ⟨_, List.getElem_mem hlt, rfl⟩))
      have HTK : Hid (mergeT X ((ys.map LFile.er).take (k + 1)) = tput ⟨ys[k].name, mergeL (atL ys[k].name (mergeT X ((ys.map LFile.er).take k))) (ys[k].sibs.xs.map LSib.er)⟩ (mergeT X ((ys.map LFile.er).take k))) := Lib.hid (by
        have := mergeT_take (a := X) hkm
        rw [List.getElem_map] at this
        exact this)
      clear hXT hkm
      obtain ⟨c0, c1⟩ := (HY.out.belowAll HGR.out.bel).file rfl hlt
      simp only at c0 c1
      have hbx := (Below.refl wr.heap.size wr).alloc (Nat.le_refl _) (Obj.cells #[.string ys[k].name, ys[k].sibs.val] 58)
      have HES := Lib.hid (((HY.out.belowAll HGR.out.bel).elem (List.getElem_mem hlt)).1.belowAll hbx)
      have HNM := Lib.hid (show ys[k].name.size ≤ maxLen from ((HY.out.belowAll HGR.out.bel).elem (List.getElem_mem hlt)).2)
      have HBX := Lib.hid (Boxed.new wr #[.string ys[k].name, ys[k].sibs.val] 58)
      have HGW := Lib.hid (HGR.out.later (Nat.le_refl _) hbx)
      have HSZ := Lib.hid hbx.size
      go_wp2_with fail
      generalize wr.alloc (Obj.cells #[.string ys[k].name, ys[k].sibs.val] 58) = w0 at *
      have HF : Hid (∀ w', Below w0.heap.size w0 w' → w'.cell? ⟨wr.heap.size, 0, none⟩ = some (.string ys[k].name) ∧ w'.cell? ⟨wr.heap.size, 1, none⟩ = some ys[k].sibs.val) := Lib.hid (fun w' h => ⟨(HBX.out.keep h).2 0 _ rfl, (HBX.out.keep h).2 1 _ rfl⟩)
      have HAL : Hid ((atLoc ys[k].name l.xs).xs.map LSib.er = atL ys[k].name (mergeT X ((ys.map LFile.er).take k))) := Lib.hid (by rw [atLoc_er, HL.out])
      clear hbx c0 c1
      refine wp_region_rel 11 (by kernel_rfl) (by kernel_rfl) (by rfl) ?_
      simp only [List.take_succ_cons, List.take_zero, List.drop_succ_cons, List.drop_zero]
      first
        | (refine wpRel_pass (by rfl) (fun U => by rfl) ?_; simp only [Act.put, List.setIfInBounds_toArray, List.set_cons_zero, List.set_cons_succ])
        | (refine' wpRel_fix (by rfl) (fun U => by rfl) (fun m U w' hI hG => ?_) ?_
           rotate_left
           focus (have hf := HF.out w' hI; unfold relAt; go_simp; first | exact ⟨rfl, Below.refl _ _⟩ | exact Below.refl _ _ | exact ⟨trivial, Below.refl _ _⟩)
           simp only [Act.put, List.setIfInBounds_toArray, List.set_cons_zero, List.set_cons_succ])
      first
        | (refine wpRel_pass (by rfl) (fun U => by rfl) ?_; simp only [Act.put, List.setIfInBounds_toArray, List.set_cons_zero, List.set_cons_succ])
        | (refine' wpRel_fix (by rfl) (fun U => by rfl) (fun m U w' hI hG => ?_) ?_
           rotate_left
           focus (have hf := HF.out w' hI; unfold relAt; go_simp; first | exact ⟨rfl, Below.refl _ _⟩ | exact Below.refl _ _ | exact ⟨trivial, Below.refl _ _⟩)
           simp only [Act.put, List.setIfInBounds_toArray, List.set_cons_zero, List.set_cons_succ])
      first
        | (refine wpRel_pass (by rfl) (fun U => by rfl) ?_; simp only [Act.put, List.setIfInBounds_toArray, List.set_cons_zero, List.set_cons_succ])
        | (refine' wpRel_fix (by rfl) (fun U => by rfl) (fun m U w' hI hG => ?_) ?_
           rotate_left
           focus (have hf := HF.out w' hI; unfold relAt; go_simp; first | exact ⟨rfl, Below.refl _ _⟩ | exact Below.refl _ _ | exact ⟨trivial, Below.refl _ _⟩)
           simp only [Act.put, List.setIfInBounds_toArray, List.set_cons_zero, List.set_cons_succ])
      first
        | (refine wpRel_pass (by rfl) (fun U => by rfl) ?_; simp only [Act.put, List.setIfInBounds_toArray, List.set_cons_zero, List.set_cons_succ])
        | (refine' wpRel_fix (by rfl) (fun U => by rfl) (fun m U w' hI hG => ?_) ?_
           rotate_left
           focus (have hf := HF.out w' hI; unfold relAt; go_simp; first | exact ⟨rfl, Below.refl _ _⟩ | exact Below.refl _ _ | exact ⟨trivial, Below.refl _ _⟩)
           simp only [Act.put, List.setIfInBounds_toArray, List.set_cons_zero, List.set_cons_succ])
      first
        | (refine wpRel_pass (by rfl) (fun U => by rfl) ?_; simp only [Act.put, List.setIfInBounds_toArray, List.set_cons_zero, List.set_cons_succ])
        | (refine' wpRel_fix (by rfl) (fun U => by rfl) (fun m U w' hI hG => ?_) ?_
           rotate_left
           focus (have hf := HF.out w' hI; unfold relAt; go_simp; first | exact ⟨rfl, Below.refl _ _⟩ | exact Below.refl _ _ | exact ⟨trivial, Below.refl _ _⟩)
           simp only [Act.put, List.setIfInBounds_toArray, List.set_cons_zero, List.set_cons_succ])
      first
        | (refine wpRel_pass (by rfl) (fun U => by rfl) ?_; simp only [Act.put, List.setIfInBounds_toArray, List.set_cons_zero, List.set_cons_succ])
        | (refine' wpRel_fix (by rfl) (fun U => by rfl) (fun m U w' hI hG => ?_) ?_
           rotate_left
           focus (have hf := HF.out w' hI; unfold relAt; go_simp; first | exact ⟨rfl, Below.refl _ _⟩ | exact Below.refl _ _ | exact ⟨trivial, Below.refl _ _⟩)
           simp only [Act.put, List.setIfInBounds_toArray, List.set_cons_zero, List.set_cons_succ])
      refine' wpRel_fix (by rfl) (fun U => by rfl) (fun m U w' hI hG => ?_) ?_
      rotate_left
      focus
        have hf := HF.out w' hI
        unfold relAt
        go_simp
        exact Calls.mono (treeAt_any l ys[k].name w' (HGW.out.own.at_.belowAll hI)) fun e w'' ⟨he, hb⟩ => ⟨he, hb⟩
      simp only [Act.put, List.setIfInBounds_toArray, List.set_cons_zero, List.set_cons_succ]
      first
        | (refine wpRel_pass (by rfl) (fun U => by rfl) ?_; simp only [Act.put, List.setIfInBounds_toArray, List.set_cons_zero, List.set_cons_succ])
        | (refine' wpRel_fix (by rfl) (fun U => by rfl) (fun m U w' hI hG => ?_) ?_
           rotate_left
           focus (have hf := HF.out w' hI; unfold relAt; go_simp; first | exact ⟨rfl, Below.refl _ _⟩ | exact Below.refl _ _ | exact ⟨trivial, Below.refl _ _⟩)
           simp only [Act.put, List.setIfInBounds_toArray, List.set_cons_zero, List.set_cons_succ])
      first
        | (refine wpRel_pass (by rfl) (fun U => by rfl) ?_; simp only [Act.put, List.setIfInBounds_toArray, List.set_cons_zero, List.set_cons_succ])
        | (refine' wpRel_fix (by rfl) (fun U => by rfl) (fun m U w' hI hG => ?_) ?_
           rotate_left
           focus (have hf := HF.out w' hI; unfold relAt; go_simp; first | exact ⟨rfl, Below.refl _ _⟩ | exact Below.refl _ _ | exact ⟨trivial, Below.refl _ _⟩)
           simp only [Act.put, List.setIfInBounds_toArray, List.set_cons_zero, List.set_cons_succ])
      refine wpRel_rel (SibsV w0.heap.size (mergeL (atL ys[k].name (mergeT X ((ys.map LFile.er).take k))) (ys[k].sibs.xs.map LSib.er)) Loc.val) rfl (SibsV.stable _ _ _) (by rfl) (fun U => by rfl) (fun m U w' hI hG => ?_) ?_
      · have hf := HF.out w' hI
        unfold relAt
        go_simp
        refine (mergeSibs_any (atLoc ys[k].name l.xs) ys[k].sibs w' (atLoc_At _ l.xs (fun f hf => Dat.belowAll (HGW.out.own.els f hf) hI)) (HES.out.belowAll hI) (by rw [HAL.out]; exact HTL.out.at_ _) HSO.out.lok (by have h := congrArg List.length HAL.out; simp only [List.length_map] at h; have := HTA.out; omega) (by have := HSO.out.few; simp at this; omega) (fun h => by have := HSO.out.some_; rw [h] at this; simp at this)).mono fun e w'' ⟨z, h1, h2, h3, h4, h5⟩ => ⟨⟨_, h1, z, rfl, ?_, h3.at_, (h3.fr h4 (Nat.le_refl _)).mono hI.size⟩, h5⟩
        rw [h2, HAL.out]
      simp only [Act.put, List.setIfInBounds_toArray, List.set_cons_zero, List.set_cons_succ]
      refine wpRel_rel (SibsV w0.heap.size (mergeL (atL ys[k].name (mergeT X ((ys.map LFile.er).take k))) (ys[k].sibs.xs.map LSib.er)) (fun z => .agg #[.string ys[k].name, z.val])) rfl (SibsV.stable _ _ _) (by rfl) (fun U => by rfl) (fun m U w' hI hG => ?_) ?_
      · obtain ⟨z, hz, h2, h3, h4⟩ := hG _ (List.Mem.head _) (by rfl)
        simp only at hz
        unfold relAt
        simp only [hz, Loc.val]
        go_simp
        exact ⟨⟨z, rfl, h2, h3, h4⟩, Below.refl _ _⟩
      simp only [Act.put, List.setIfInBounds_toArray, List.set_cons_zero, List.set_cons_succ]
      intro U w1 hI hG
      obtain ⟨z, hv, h2, h3, h4⟩ := hG _ (List.Mem.head _)
      simp only at hv
      simp only [hv]
      have HG1 := Lib.hid (HGW.out.later (Nat.le_refl _) hI)
      have HE := Lib.hid h2
      have HW0 := Lib.hid (Nat.le_trans HGR.out.bel.size HSZ.out)
      have HFF : Hid (Fr w.heap.size w1 (Dat.fp (⟨ys[k].name, z⟩ : LFile))) := Lib.hid (h4.mono HW0.out)
      have HOF1 : Hid (∀ a ∈ l.xs.flatMap Dat.fp, ∀ b ∈ Dat.fp (⟨ys[k].name, z⟩ : LFile), a ≠ b) := Lib.hid (fun a ha b hb => by
        have h6 := h4.ge b hb
        have h7 := HGW.out.fr.lt a ha
        omega)
      have HOF2 : Hid (∀ b ∈ Dat.fp (⟨ys[k].name, z⟩ : LFile), some b ≠ l.val.ownBlock) := Lib.hid (fun b hb h => by
        have h6 := h4.ge b hb
        have h7 := (HGW.out.own.lt b h.symm).2
        omega)
      have HC := Lib.hid (putFile_any w.heap.size l ⟨ys[k].name, z⟩ w1 HG1.out.own HG1.out.bel.size HTN.out (by rw [HL.out]; exact HTL.out.asc) ⟨h3, HNM.out⟩ HOF2.out)
      clear hI hG hv h2 h3 h4 HBX HF
      go_wp2_with fail
      refine HC.out.mono ?_
      rintro e w2 hp
      obtain ⟨l', rfl, hl', hG'⟩ := PutP.grows HG1.out (Nat.le_refl _) HFF.out HOF1.out HOF2.out hp
      have HL' := Lib.hid hl'
      have HG' := Lib.hid hG'
      clear hp hl' hG' HC
      go_wp2_with fail
      go_roundw
      case rel =>
        refine ⟨k + 1, l', by omega, by go_num, rfl, ?_, HG'.out⟩
        rw [HTK.out, HL'.out, HL.out]
        simp only [LFile.er, HE.out]
      case measure => simp [intOf]; omega
    · have hkk : k = ys.length := by omega
      subst hkk
      go_wp2_with fail
      go_ret
      refine ⟨l, rfl, ?_, HGR.out.own, HGR.out.fr, HGR.out.bel⟩
      have h := HL.out
      rw [List.take_of_length_le (by simp)] at h
      show l.xs.map LFile.er = mergeT (x.xs.map LFile.er) (ys.map LFile.er)
      rw [h, HXE.out]
end Go.Proofs.YtdidkfadiaafiaaGreatDoor

namespace Go.Proofs.YtdidkfadiaafiaaGreatDoor
open Go Go.RowKit

set_option maxRecDepth 100000 in
set_option maxHeartbeats 1000000 in
theorem iTreeMerge_any (x y : Loc LFile) (w : World) (hx : x.At w) (hy : y.At w) :
    Calls Tryz.prog 18 #[x.val, y.val] w (TreePF w (mergeTZ (x.xs.map LFile.er) (y.xs.map LFile.er))) := by
  have hc := Lib.hid (isTree_any x w hx)
  have AX := Lib.hid hx
  have AY := Lib.hid hy
  clear hx hy
  obtain ⟨X, hX⟩ : ∃ X, x.xs.map LFile.er = X := ⟨_, rfl⟩
  obtain ⟨Y, hY⟩ : ∃ Y, y.xs.map LFile.er = Y := ⟨_, rfl⟩
  rw [hX] at hc ⊢
  rw [hY]
  have HXE := Lib.hid hX
  have HYE := Lib.hid hY
  clear hX hY
  cases hb : treeB X with
  | false =>
    rw [hb] at hc
    have HZ : Hid (mergeTZ X Y = ([], false)) := Lib.hid (by unfold mergeTZ; rw [hb]; rfl)
    clear hb
    go_enter Tryz.func18, Tryz.ntmps18
    go_wp2_with fail
    refine hc.out.mono ?_
    rintro e w1 ⟨rfl, b1⟩
    have B := Lib.hid b1
    clear b1
    go_wp2_with fail
    refine bodyPost_ret (v := .tuple #[.slice none 0 0, .bool false]) ?_ rfl ⟨⟨none, 0, []⟩, by rw [HZ.out]; rfl, by rw [HZ.out]; rfl, nil_At _, nil_Fr _ _, B.out⟩
    simp only [results, Tryz.results18]
    go_simp
  | true =>
    rw [hb] at hc
    have HTX := Lib.hid (TreeOK.of hb)
    clear hb
    go_enter Tryz.func18, Tryz.ntmps18
    go_wp2_with fail
    refine hc.out.mono ?_
    rintro e w1 ⟨rfl, b1⟩
    have B := Lib.hid b1
    first
      | replace AX := Lib.hid (Loc.At.belowAll AX.out (b1))
      | replace AX := Lib.hid (nextB AX.out (b1))
      | replace AX := Lib.hid (Boxed.keep AX.out (b1))
      | replace AX := Lib.hid (Dat.belowAll AX.out (b1))
      | replace AX := Lib.hid (Fr.belowAll AX.out (b1))
      | replace AX := Lib.hid (Own.belowAll AX.out (b1))
      | replace AX := Lib.hid (Grows.next AX.out (b1))
    first
      | replace AY := Lib.hid (Loc.At.belowAll AY.out (b1))
      | replace AY := Lib.hid (nextB AY.out (b1))
      | replace AY := Lib.hid (Boxed.keep AY.out (b1))
      | replace AY := Lib.hid (Dat.belowAll AY.out (b1))
      | replace AY := Lib.hid (Fr.belowAll AY.out (b1))
      | replace AY := Lib.hid (Own.belowAll AY.out (b1))
      | replace AY := Lib.hid (Grows.next AY.out (b1))
    clear b1 hc
    have hc := isTree_any y w1 AY.out
    rw [HYE.out] at hc
    have HC := Lib.hid hc
    clear hc
    cases hb : treeB Y with
    | false =>
      rw [hb] at HC
      have HZ : Hid (mergeTZ X Y = ([], false)) := Lib.hid (by unfold mergeTZ; rw [treeB_true HTX.out, hb]; rfl)
      clear hb
      go_wp2_with fail
      refine HC.out.mono ?_
      rintro e w2 ⟨rfl, b2⟩
      first
        | replace B := Lib.hid (Loc.At.belowAll B.out (b2))
        | replace B := Lib.hid (nextB B.out (b2))
        | replace B := Lib.hid (Boxed.keep B.out (b2))
        | replace B := Lib.hid (Dat.belowAll B.out (b2))
        | replace B := Lib.hid (Fr.belowAll B.out (b2))
        | replace B := Lib.hid (Own.belowAll B.out (b2))
        | replace B := Lib.hid (Grows.next B.out (b2))
      clear b2
      go_wp2_with fail
      refine bodyPost_ret (v := .tuple #[.slice none 0 0, .bool false]) ?_ rfl ⟨⟨none, 0, []⟩, by rw [HZ.out]; rfl, by rw [HZ.out]; rfl, nil_At _, nil_Fr _ _, B.out⟩
      simp only [results, Tryz.results18]
      go_simp
    | true =>
      rw [hb] at HC
      have HTY := Lib.hid (TreeOK.of hb)
      clear hb
      go_wp2_with fail
      refine HC.out.mono ?_
      rintro e w2 ⟨rfl, b2⟩
      first
        | replace B := Lib.hid (Loc.At.belowAll B.out (b2))
        | replace B := Lib.hid (nextB B.out (b2))
        | replace B := Lib.hid (Boxed.keep B.out (b2))
        | replace B := Lib.hid (Dat.belowAll B.out (b2))
        | replace B := Lib.hid (Fr.belowAll B.out (b2))
        | replace B := Lib.hid (Own.belowAll B.out (b2))
        | replace B := Lib.hid (Grows.next B.out (b2))
      first
        | replace AX := Lib.hid (Loc.At.belowAll AX.out (b2))
        | replace AX := Lib.hid (nextB AX.out (b2))
        | replace AX := Lib.hid (Boxed.keep AX.out (b2))
        | replace AX := Lib.hid (Dat.belowAll AX.out (b2))
        | replace AX := Lib.hid (Fr.belowAll AX.out (b2))
        | replace AX := Lib.hid (Own.belowAll AX.out (b2))
        | replace AX := Lib.hid (Grows.next AX.out (b2))
      first
        | replace AY := Lib.hid (Loc.At.belowAll AY.out (b2))
        | replace AY := Lib.hid (nextB AY.out (b2))
        | replace AY := Lib.hid (Boxed.keep AY.out (b2))
        | replace AY := Lib.hid (Dat.belowAll AY.out (b2))
        | replace AY := Lib.hid (Fr.belowAll AY.out (b2))
        | replace AY := Lib.hid (Own.belowAll AY.out (b2))
        | replace AY := Lib.hid (Grows.next AY.out (b2))
      clear b2 HC
      go_wp2_with fail
      refine (mergeTrees_any x y w2 AX.out AY.out (by rw [HXE.out]; exact HTX.out) (by rw [HYE.out]; exact HTY.out)).mono ?_
      rw [HXE.out, HYE.out]
      rintro e w3 ⟨z, rfl, hz, hzO, hzF, b3⟩
      have HZE := Lib.hid (show z.xs.map LFile.er = mergeT X Y from hz)
      have AZ := Lib.hid hzO.at_
      have FZ := Lib.hid ((hzO.fr hzF (Nat.le_refl _)).mono B.out.size)
      first
        | replace B := Lib.hid (Loc.At.belowAll B.out (b3))
        | replace B := Lib.hid (nextB B.out (b3))
        | replace B := Lib.hid (Boxed.keep B.out (b3))
        | replace B := Lib.hid (Dat.belowAll B.out (b3))
        | replace B := Lib.hid (Fr.belowAll B.out (b3))
        | replace B := Lib.hid (Own.belowAll B.out (b3))
        | replace B := Lib.hid (Grows.next B.out (b3))
      clear hz hzO hzF b3
      have hc := isTree_any z w3 AZ.out
      rw [HZE.out] at hc
      have HC := Lib.hid hc
      clear hc
      cases hb : treeB (mergeT X Y) with
      | false =>
        rw [hb] at HC
        have HZ : Hid (mergeTZ X Y = ([], false)) := Lib.hid (by unfold mergeTZ; rw [hb]; simp)
        clear hb
        go_wp2_with fail
        refine HC.out.mono ?_
        rintro e w4 ⟨rfl, b4⟩
        first
          | replace B := Lib.hid (Loc.At.belowAll B.out (b4))
          | replace B := Lib.hid (nextB B.out (b4))
          | replace B := Lib.hid (Boxed.keep B.out (b4))
          | replace B := Lib.hid (Dat.belowAll B.out (b4))
          | replace B := Lib.hid (Fr.belowAll B.out (b4))
          | replace B := Lib.hid (Own.belowAll B.out (b4))
          | replace B := Lib.hid (Grows.next B.out (b4))
        clear b4
        go_wp2_with fail
        refine bodyPost_ret (v := .tuple #[.slice none 0 0, .bool false]) ?_ rfl ⟨⟨none, 0, []⟩, by rw [HZ.out]; rfl, by rw [HZ.out]; rfl, nil_At _, nil_Fr _ _, B.out⟩
        simp only [results, Tryz.results18]
        go_simp
      | true =>
        rw [hb] at HC
        have HZ : Hid (mergeTZ X Y = (mergeT X Y, true)) := Lib.hid (mergeTZ_yes HTX.out HTY.out (TreeOK.of hb))
        clear hb
        go_wp2_with fail
        refine HC.out.mono ?_
        rintro e w4 ⟨rfl, b4⟩
        first
          | replace B := Lib.hid (Loc.At.belowAll B.out (b4))
          | replace B := Lib.hid (nextB B.out (b4))
          | replace B := Lib.hid (Boxed.keep B.out (b4))
          | replace B := Lib.hid (Dat.belowAll B.out (b4))
          | replace B := Lib.hid (Fr.belowAll B.out (b4))
          | replace B := Lib.hid (Own.belowAll B.out (b4))
          | replace B := Lib.hid (Grows.next B.out (b4))
        first
          | replace AZ := Lib.hid (Loc.At.belowAll AZ.out (b4))
          | replace AZ := Lib.hid (nextB AZ.out (b4))
          | replace AZ := Lib.hid (Boxed.keep AZ.out (b4))
          | replace AZ := Lib.hid (Dat.belowAll AZ.out (b4))
          | replace AZ := Lib.hid (Fr.belowAll AZ.out (b4))
          | replace AZ := Lib.hid (Own.belowAll AZ.out (b4))
          | replace AZ := Lib.hid (Grows.next AZ.out (b4))
        first
          | replace FZ := Lib.hid (Loc.At.belowAll FZ.out (b4))
          | replace FZ := Lib.hid (nextB FZ.out (b4))
          | replace FZ := Lib.hid (Boxed.keep FZ.out (b4))
          | replace FZ := Lib.hid (Dat.belowAll FZ.out (b4))
          | replace FZ := Lib.hid (Fr.belowAll FZ.out (b4))
          | replace FZ := Lib.hid (Own.belowAll FZ.out (b4))
          | replace FZ := Lib.hid (Grows.next FZ.out (b4))
        clear b4 HC
        go_wp2_with fail
        refine bodyPost_ret (v := .tuple #[z.val, .bool true]) ?_ rfl ⟨z, by rw [HZ.out], by rw [HZ.out]; exact HZE.out, AZ.out, FZ.out, B.out⟩
        simp only [results, Tryz.results18]
        go_simp

/-- Versions and whether they are told. -/
def SibsP (w : World) (Z : List Sib × Bool) (e : Ending) (w' : World) : Prop :=
  ∃ y : Loc LSib, e = .returned (.tuple #[y.val, .bool Z.2]) ∧ y.xs.map LSib.er = Z.1 ∧ y.At w' ∧ Below w.heap.size w w'
set_option maxRecDepth 100000 in
set_option maxHeartbeats 1000000 in
theorem iSibsMerge_any (x y : Loc LSib) (w : World) (hx : x.At w) (hy : y.At w) :
    Calls Tryz.prog 25 #[x.val, y.val] w (SibsP w (mergeSZ (x.xs.map LSib.er) (y.xs.map LSib.er))) := by
  have hc := Lib.hid (areSibs_any x w hx)
  have AX := Lib.hid hx
  have AY := Lib.hid hy
  clear hx hy
  obtain ⟨X, hX⟩ : ∃ X, x.xs.map LSib.er = X := ⟨_, rfl⟩
  obtain ⟨Y, hY⟩ : ∃ Y, y.xs.map LSib.er = Y := ⟨_, rfl⟩
  rw [hX] at hc ⊢
  rw [hY]
  have HXE := Lib.hid hX
  have HYE := Lib.hid hY
  clear hX hY
  cases hb : sibsB X with
  | false =>
    rw [hb] at hc
    have HZ : Hid (mergeSZ X Y = ([], false)) := Lib.hid (by unfold mergeSZ; rw [hb]; rfl)
    clear hb
    go_enter Tryz.func25, Tryz.ntmps25
    go_wp2_with fail
    refine hc.out.mono ?_
    rintro e w1 ⟨rfl, b1⟩
    have B := Lib.hid b1
    clear b1
    go_wp2_with fail
    refine bodyPost_ret (v := .tuple #[.slice none 0 0, .bool false]) ?_ rfl ⟨⟨none, 0, []⟩, by rw [HZ.out]; rfl, by rw [HZ.out]; rfl, nil_At _, B.out⟩
    simp only [results, Tryz.results25]
    go_simp
  | true =>
    rw [hb] at hc
    have HTX := Lib.hid (SibsOK.of hb)
    clear hb
    go_enter Tryz.func25, Tryz.ntmps25
    go_wp2_with fail
    refine hc.out.mono ?_
    rintro e w1 ⟨rfl, b1⟩
    have B := Lib.hid b1
    first
      | replace AX := Lib.hid (Loc.At.belowAll AX.out (b1))
      | replace AX := Lib.hid (nextB AX.out (b1))
      | replace AX := Lib.hid (Boxed.keep AX.out (b1))
      | replace AX := Lib.hid (Dat.belowAll AX.out (b1))
      | replace AX := Lib.hid (Fr.belowAll AX.out (b1))
      | replace AX := Lib.hid (Own.belowAll AX.out (b1))
      | replace AX := Lib.hid (Grows.next AX.out (b1))
    first
      | replace AY := Lib.hid (Loc.At.belowAll AY.out (b1))
      | replace AY := Lib.hid (nextB AY.out (b1))
      | replace AY := Lib.hid (Boxed.keep AY.out (b1))
      | replace AY := Lib.hid (Dat.belowAll AY.out (b1))
      | replace AY := Lib.hid (Fr.belowAll AY.out (b1))
      | replace AY := Lib.hid (Own.belowAll AY.out (b1))
      | replace AY := Lib.hid (Grows.next AY.out (b1))
    clear b1 hc
    have hc := areSibs_any y w1 AY.out
    rw [HYE.out] at hc
    have HC := Lib.hid hc
    clear hc
    cases hb : sibsB Y with
    | false =>
      rw [hb] at HC
      have HZ : Hid (mergeSZ X Y = ([], false)) := Lib.hid (by unfold mergeSZ; rw [sibsB_true HTX.out, hb]; rfl)
      clear hb
      go_wp2_with fail
      refine HC.out.mono ?_
      rintro e w2 ⟨rfl, b2⟩
      first
        | replace B := Lib.hid (Loc.At.belowAll B.out (b2))
        | replace B := Lib.hid (nextB B.out (b2))
        | replace B := Lib.hid (Boxed.keep B.out (b2))
        | replace B := Lib.hid (Dat.belowAll B.out (b2))
        | replace B := Lib.hid (Fr.belowAll B.out (b2))
        | replace B := Lib.hid (Own.belowAll B.out (b2))
        | replace B := Lib.hid (Grows.next B.out (b2))
      clear b2
      go_wp2_with fail
      refine bodyPost_ret (v := .tuple #[.slice none 0 0, .bool false]) ?_ rfl ⟨⟨none, 0, []⟩, by rw [HZ.out]; rfl, by rw [HZ.out]; rfl, nil_At _, B.out⟩
      simp only [results, Tryz.results25]
      go_simp
    | true =>
      rw [hb] at HC
      have HTY := Lib.hid (SibsOK.of hb)
      clear hb
      go_wp2_with fail
      refine HC.out.mono ?_
      rintro e w2 ⟨rfl, b2⟩
      first
        | replace B := Lib.hid (Loc.At.belowAll B.out (b2))
        | replace B := Lib.hid (nextB B.out (b2))
        | replace B := Lib.hid (Boxed.keep B.out (b2))
        | replace B := Lib.hid (Dat.belowAll B.out (b2))
        | replace B := Lib.hid (Fr.belowAll B.out (b2))
        | replace B := Lib.hid (Own.belowAll B.out (b2))
        | replace B := Lib.hid (Grows.next B.out (b2))
      first
        | replace AX := Lib.hid (Loc.At.belowAll AX.out (b2))
        | replace AX := Lib.hid (nextB AX.out (b2))
        | replace AX := Lib.hid (Boxed.keep AX.out (b2))
        | replace AX := Lib.hid (Dat.belowAll AX.out (b2))
        | replace AX := Lib.hid (Fr.belowAll AX.out (b2))
        | replace AX := Lib.hid (Own.belowAll AX.out (b2))
        | replace AX := Lib.hid (Grows.next AX.out (b2))
      first
        | replace AY := Lib.hid (Loc.At.belowAll AY.out (b2))
        | replace AY := Lib.hid (nextB AY.out (b2))
        | replace AY := Lib.hid (Boxed.keep AY.out (b2))
        | replace AY := Lib.hid (Dat.belowAll AY.out (b2))
        | replace AY := Lib.hid (Fr.belowAll AY.out (b2))
        | replace AY := Lib.hid (Own.belowAll AY.out (b2))
        | replace AY := Lib.hid (Grows.next AY.out (b2))
      clear b2 HC
      go_wp2_with fail
      refine (mergeSibs_any x y w2 AX.out AY.out (by rw [HXE.out]; exact HTX.out.lok) (by rw [HYE.out]; exact HTY.out.lok) (by have h := congrArg List.length HXE.out; have := HTX.out.few; simp at h; omega) (by have h := congrArg List.length HYE.out; have := HTY.out.few; simp at h; omega) (fun h => by have h2 := HYE.out; rw [h] at h2; have := HTY.out.some_; rw [← h2] at this; simp at this)).mono ?_
      rw [HXE.out, HYE.out]
      rintro e w3 ⟨z, rfl, hz, hzO, hzF, b3⟩
      have HZE := Lib.hid (show z.xs.map LSib.er = mergeL X Y from hz)
      have AZ := Lib.hid hzO.at_
      first
        | replace B := Lib.hid (Loc.At.belowAll B.out (b3))
        | replace B := Lib.hid (nextB B.out (b3))
        | replace B := Lib.hid (Boxed.keep B.out (b3))
        | replace B := Lib.hid (Dat.belowAll B.out (b3))
        | replace B := Lib.hid (Fr.belowAll B.out (b3))
        | replace B := Lib.hid (Own.belowAll B.out (b3))
        | replace B := Lib.hid (Grows.next B.out (b3))
      clear hz hzO hzF b3
      have hc := areSibs_any z w3 AZ.out
      rw [HZE.out] at hc
      have HC := Lib.hid hc
      clear hc
      cases hb : sibsB (mergeL X Y) with
      | false =>
        rw [hb] at HC
        have HZ : Hid (mergeSZ X Y = ([], false)) := Lib.hid (by unfold mergeSZ; rw [hb]; simp)
        clear hb
        go_wp2_with fail
        refine HC.out.mono ?_
        rintro e w4 ⟨rfl, b4⟩
        first
          | replace B := Lib.hid (Loc.At.belowAll B.out (b4))
          | replace B := Lib.hid (nextB B.out (b4))
          | replace B := Lib.hid (Boxed.keep B.out (b4))
          | replace B := Lib.hid (Dat.belowAll B.out (b4))
          | replace B := Lib.hid (Fr.belowAll B.out (b4))
          | replace B := Lib.hid (Own.belowAll B.out (b4))
          | replace B := Lib.hid (Grows.next B.out (b4))
        clear b4
        go_wp2_with fail
        refine bodyPost_ret (v := .tuple #[.slice none 0 0, .bool false]) ?_ rfl ⟨⟨none, 0, []⟩, by rw [HZ.out]; rfl, by rw [HZ.out]; rfl, nil_At _, B.out⟩
        simp only [results, Tryz.results25]
        go_simp
      | true =>
        rw [hb] at HC
        have HZ : Hid (mergeSZ X Y = (mergeL X Y, true)) := Lib.hid (by unfold mergeSZ; rw [sibsB_true HTX.out, sibsB_true HTY.out, hb]; rfl)
        clear hb
        go_wp2_with fail
        refine HC.out.mono ?_
        rintro e w4 ⟨rfl, b4⟩
        first
          | replace B := Lib.hid (Loc.At.belowAll B.out (b4))
          | replace B := Lib.hid (nextB B.out (b4))
          | replace B := Lib.hid (Boxed.keep B.out (b4))
          | replace B := Lib.hid (Dat.belowAll B.out (b4))
          | replace B := Lib.hid (Fr.belowAll B.out (b4))
          | replace B := Lib.hid (Own.belowAll B.out (b4))
          | replace B := Lib.hid (Grows.next B.out (b4))
        first
          | replace AZ := Lib.hid (Loc.At.belowAll AZ.out (b4))
          | replace AZ := Lib.hid (nextB AZ.out (b4))
          | replace AZ := Lib.hid (Boxed.keep AZ.out (b4))
          | replace AZ := Lib.hid (Dat.belowAll AZ.out (b4))
          | replace AZ := Lib.hid (Fr.belowAll AZ.out (b4))
          | replace AZ := Lib.hid (Own.belowAll AZ.out (b4))
          | replace AZ := Lib.hid (Grows.next AZ.out (b4))
        clear b4 HC
        go_wp2_with fail
        refine bodyPost_ret (v := .tuple #[z.val, .bool true]) ?_ rfl ⟨z, by rw [HZ.out], by rw [HZ.out]; exact HZE.out, AZ.out, B.out⟩
        simp only [results, Tryz.results25]
        go_simp
end Go.Proofs.YtdidkfadiaafiaaGreatDoor

namespace Go.Proofs.YtdidkfadiaafiaaGreatDoor
open Go Go.RowKit

def SibsA (E : List Sib) (f : Loc LSib → Value) (v : Value) (W : World) : Prop := ∃ y : Loc LSib, v = f y ∧ y.xs.map LSib.er = E ∧ y.At W
theorem SibsA.stable (E : List Sib) (f : Loc LSib → Value) : StableR (SibsA E f) := fun _ _ _ hb ⟨y, h1, h2, h3⟩ => ⟨y, h1, h2, h3.belowAll hb⟩

set_option maxRecDepth 100000 in
set_option maxHeartbeats 2000000 in
theorem l3Merge_any (x y : Loc LFile) (w : World) (hx : x.At w) (hy : y.At w) (hX : TreeOK (x.xs.map LFile.er)) (hY : TreeOK (y.xs.map LFile.er)) :
    Calls Tryz.prog 45 #[x.val, y.val] w (fun e w' => ∃ z : Loc LFile, e = .returned z.val ∧ z.xs.map LFile.er = mergeT (x.xs.map LFile.er) (y.xs.map LFile.er) ∧ z.At w' ∧ Below w.heap.size w w') := by
  have HX := Lib.hid hx
  have HY := Lib.hid hy
  have HXT := Lib.hid hX
  have HYT := Lib.hid hY
  obtain ⟨X, hXe⟩ : ∃ X, x.xs.map LFile.er = X := ⟨_, rfl⟩
  have HXE := Lib.hid hXe
  have hc := Lib.hid (l3Copy_any x w hx (by have := hX.few; simp at this; omega) (fun f hf => .inr (hX.sib f hf)))
  clear hx hy hX hY hXe
  obtain ⟨ya, yc, ys⟩ := y
  simp only [Loc.val] at HYT HY ⊢
  have h1 : ys.length ≤ 9223372036854775807 := by have := HYT.out.few; simp at this; omega
  go_enter Tryz.func45, Tryz.ntmps45
  go_wp2_with fail
  refine hc.out.mono ?_
  rintro e w1 ⟨p, rfl, hp, hpO, hpF, b1⟩
  have HG0 := Lib.hid hpO.at_
  have HB0 := Lib.hid b1
  have HPE : Hid (p.xs.map LFile.er = X) := Lib.hid (by rw [← HXE.out]; exact hp)
  clear hp hpO hpF b1 hc
  go_wp2_with fail
  go_loopw [5, 6] (fun o i wr => ∃ (k : Nat) (l : Loc LFile), k ≤ ys.length ∧ i = .int .i64 k ∧ o = l.val ∧ l.xs.map LFile.er = mergeT X ((ys.map LFile.er).take k) ∧ l.At wr ∧ Below w.heap.size w wr) (fun _ i _ => ys.length - (intOf i).toNat)
  case atStart => exact ⟨0, p, Nat.zero_le _, rfl, rfl, by rw [HPE.out]; rfl, HG0.out, HB0.out⟩
  case round =>
    obtain ⟨k, l, hk, rfl, rfl, hl, hA, hB⟩ := hrel
    have HL := Lib.hid hl
    have HA := Lib.hid hA
    have HB := Lib.hid hB
    clear hl hA hB HG0 HB0
    by_cases hlt : k < ys.length
    · obtain ⟨a, ao, ha⟩ := HY.out.place hlt
      simp only at ha
      subst ha
      have hXT : TreeOK X := by rw [← HXE.out]; exact HXT.out
      have HTL := Lib.hid (mergeT_spec hXT.tlok (HYT.out.tlok.take k)).1
      have HTA := Lib.hid (mergeT_at_len hXT HYT.out k ys[k].name)
      have HTN : Hid (l.xs.length ≤ 1000) := Lib.hid (by
        have h1 := congrArg List.length HL.out
        have h2 := mergeT_len ((ys.map LFile.er).take k) X
        have h3 := hXT.few
        have h4 := HYT.out.few
        simp only [List.length_map, List.length_take] at h1 h2 h4
        omega)
      have hkm : k < (ys.map LFile.er).length := by simpa using hlt
      have HSO : Hid (SibsOK (ys[k].sibs.xs.map LSib.er)) := Lib.hid (HYT.out.sib ys[k].er (List.mem_map.2 ⟨_, List.getElem_mem hlt, rfl⟩))
      have HTK : Hid (mergeT X ((ys.map LFile.er).take (k + 1)) = tput ⟨ys[k].name, mergeL (atL ys[k].name (mergeT X ((ys.map LFile.er).take k))) (ys[k].sibs.xs.map LSib.er)⟩ (mergeT X ((ys.map LFile.er).take k))) := Lib.hid (by
        have := mergeT_take (a := X) hkm
        rw [List.getElem_map] at this
        exact this)
      clear hXT hkm
      obtain ⟨w0, hw0⟩ : ∃ w0 : World, w0 = wr := ⟨_, rfl⟩
      subst hw0
      have HA0 := Lib.hid (HY.out.belowAll HB.out)
      have HES := Lib.hid (HA0.out.elem (List.getElem_mem hlt)).1
      have HNM := Lib.hid (show ys[k].name.size ≤ maxLen from (HA0.out.elem (List.getElem_mem hlt)).2)
      have HF : Hid (∀ w', Below w0.heap.size w0 w' → w'.cell? ⟨a, ao + k * 2, none⟩ = some (.string ys[k].name) ∧ w'.cell? ⟨a, ao + k * 2 + 1, none⟩ = some ys[k].sibs.val) := Lib.hid (fun w' h => (HA0.out.belowAll h).file rfl hlt)
      go_wp2_with fail
      refine wp_region_rel 20 (by kernel_rfl) (by kernel_rfl) (by rfl) ?_
      simp only [List.take_succ_cons, List.take_zero, List.drop_succ_cons, List.drop_zero]
      first
        | (refine wpRel_pass (by rfl) (fun U => by rfl) ?_; simp only [Act.put, List.setIfInBounds_toArray, List.set_cons_zero, List.set_cons_succ])
        | (refine' wpRel_fix (by rfl) (fun U => by rfl) (fun m U w' hI hG => ?_) ?_
           rotate_left
           focus (have hf := HF.out w' hI; unfold relAt; go_simp; first | exact ⟨rfl, Below.refl _ _⟩ | exact Below.refl _ _ | exact ⟨trivial, Below.refl _ _⟩)
           simp only [Act.put, List.setIfInBounds_toArray, List.set_cons_zero, List.set_cons_succ])
      first
        | (refine wpRel_pass (by rfl) (fun U => by rfl) ?_; simp only [Act.put, List.setIfInBounds_toArray, List.set_cons_zero, List.set_cons_succ])
        | (refine' wpRel_fix (by rfl) (fun U => by rfl) (fun m U w' hI hG => ?_) ?_
           rotate_left
           focus (have hf := HF.out w' hI; unfold relAt; go_simp; first | exact ⟨rfl, Below.refl _ _⟩ | exact Below.refl _ _ | exact ⟨trivial, Below.refl _ _⟩)
           simp only [Act.put, List.setIfInBounds_toArray, List.set_cons_zero, List.set_cons_succ])
      first
        | (refine wpRel_pass (by rfl) (fun U => by rfl) ?_; simp only [Act.put, List.setIfInBounds_toArray, List.set_cons_zero, List.set_cons_succ])
        | (refine' wpRel_fix (by rfl) (fun U => by rfl) (fun m U w' hI hG => ?_) ?_
           rotate_left
           focus (have hf := HF.out w' hI; unfold relAt; go_simp; first | exact ⟨rfl, Below.refl _ _⟩ | exact Below.refl _ _ | exact ⟨trivial, Below.refl _ _⟩)
           simp only [Act.put, List.setIfInBounds_toArray, List.set_cons_zero, List.set_cons_succ])
      first
        | (refine wpRel_pass (by rfl) (fun U => by rfl) ?_; simp only [Act.put, List.setIfInBounds_toArray, List.set_cons_zero, List.set_cons_succ])
        | (refine' wpRel_fix (by rfl) (fun U => by rfl) (fun m U w' hI hG => ?_) ?_
           rotate_left
           focus (have hf := HF.out w' hI; unfold relAt; go_simp; first | exact ⟨rfl, Below.refl _ _⟩ | exact Below.refl _ _ | exact ⟨trivial, Below.refl _ _⟩)
           simp only [Act.put, List.setIfInBounds_toArray, List.set_cons_zero, List.set_cons_succ])
      first
        | (refine wpRel_pass (by rfl) (fun U => by rfl) ?_; simp only [Act.put, List.setIfInBounds_toArray, List.set_cons_zero, List.set_cons_succ])
        | (refine' wpRel_fix (by rfl) (fun U => by rfl) (fun m U w' hI hG => ?_) ?_
           rotate_left
           focus (have hf := HF.out w' hI; unfold relAt; go_simp; first | exact ⟨rfl, Below.refl _ _⟩ | exact Below.refl _ _ | exact ⟨trivial, Below.refl _ _⟩)
           simp only [Act.put, List.setIfInBounds_toArray, List.set_cons_zero, List.set_cons_succ])
      first
        | (refine wpRel_pass (by rfl) (fun U => by rfl) ?_; simp only [Act.put, List.setIfInBounds_toArray, List.set_cons_zero, List.set_cons_succ])
        | (refine' wpRel_fix (by rfl) (fun U => by rfl) (fun m U w' hI hG => ?_) ?_
           rotate_left
           focus (have hf := HF.out w' hI; unfold relAt; go_simp; first | exact ⟨rfl, Below.refl _ _⟩ | exact Below.refl _ _ | exact ⟨trivial, Below.refl _ _⟩)
           simp only [Act.put, List.setIfInBounds_toArray, List.set_cons_zero, List.set_cons_succ])
      first
        | (refine wpRel_pass (by rfl) (fun U => by rfl) ?_; simp only [Act.put, List.setIfInBounds_toArray, List.set_cons_zero, List.set_cons_succ])
        | (refine' wpRel_fix (by rfl) (fun U => by rfl) (fun m U w' hI hG => ?_) ?_
           rotate_left
           focus (have hf := HF.out w' hI; unfold relAt; go_simp; first | exact ⟨rfl, Below.refl _ _⟩ | exact Below.refl _ _ | exact ⟨trivial, Below.refl _ _⟩)
           simp only [Act.put, List.setIfInBounds_toArray, List.set_cons_zero, List.set_cons_succ])
      first
        | (refine wpRel_pass (by rfl) (fun U => by rfl) ?_; simp only [Act.put, List.setIfInBounds_toArray, List.set_cons_zero, List.set_cons_succ])
        | (refine' wpRel_fix (by rfl) (fun U => by rfl) (fun m U w' hI hG => ?_) ?_
           rotate_left
           focus (have hf := HF.out w' hI; unfold relAt; go_simp; first | exact ⟨rfl, Below.refl _ _⟩ | exact Below.refl _ _ | exact ⟨trivial, Below.refl _ _⟩)
           simp only [Act.put, List.setIfInBounds_toArray, List.set_cons_zero, List.set_cons_succ])
      first
        | (refine wpRel_pass (by rfl) (fun U => by rfl) ?_; simp only [Act.put, List.setIfInBounds_toArray, List.set_cons_zero, List.set_cons_succ])
        | (refine' wpRel_fix (by rfl) (fun U => by rfl) (fun m U w' hI hG => ?_) ?_
           rotate_left
           focus (have hf := HF.out w' hI; unfold relAt; go_simp; first | exact ⟨rfl, Below.refl _ _⟩ | exact Below.refl _ _ | exact ⟨trivial, Below.refl _ _⟩)
           simp only [Act.put, List.setIfInBounds_toArray, List.set_cons_zero, List.set_cons_succ])
      first
        | (refine wpRel_pass (by rfl) (fun U => by rfl) ?_; simp only [Act.put, List.setIfInBounds_toArray, List.set_cons_zero, List.set_cons_succ])
        | (refine' wpRel_fix (by rfl) (fun U => by rfl) (fun m U w' hI hG => ?_) ?_
           rotate_left
           focus (have hf := HF.out w' hI; unfold relAt; go_simp; first | exact ⟨rfl, Below.refl _ _⟩ | exact Below.refl _ _ | exact ⟨trivial, Below.refl _ _⟩)
           simp only [Act.put, List.setIfInBounds_toArray, List.set_cons_zero, List.set_cons_succ])
      first
        | (refine wpRel_pass (by rfl) (fun U => by rfl) ?_; simp only [Act.put, List.setIfInBounds_toArray, List.set_cons_zero, List.set_cons_succ])
        | (refine' wpRel_fix (by rfl) (fun U => by rfl) (fun m U w' hI hG => ?_) ?_
           rotate_left
           focus (have hf := HF.out w' hI; unfold relAt; go_simp; first | exact ⟨rfl, Below.refl _ _⟩ | exact Below.refl _ _ | exact ⟨trivial, Below.refl _ _⟩)
           simp only [Act.put, List.setIfInBounds_toArray, List.set_cons_zero, List.set_cons_succ])
      first
        | (refine wpRel_pass (by rfl) (fun U => by rfl) ?_; simp only [Act.put, List.setIfInBounds_toArray, List.set_cons_zero, List.set_cons_succ])
        | (refine' wpRel_fix (by rfl) (fun U => by rfl) (fun m U w' hI hG => ?_) ?_
           rotate_left
           focus (have hf := HF.out w' hI; unfold relAt; go_simp; first | exact ⟨rfl, Below.refl _ _⟩ | exact Below.refl _ _ | exact ⟨trivial, Below.refl _ _⟩)
           simp only [Act.put, List.setIfInBounds_toArray, List.set_cons_zero, List.set_cons_succ])
      refine wpRel_rel (SibsA (atL ys[k].name (mergeT X ((ys.map LFile.er).take k))) Loc.val) rfl (SibsA.stable _ _) (by rfl) (fun U => by rfl) (fun m U w' hI hG => ?_) ?_
      · have hf := HF.out w' hI
        unfold relAt
        go_simp
        refine Calls.mono (sl3At_any l ys[k].name w' (HA.out.belowAll hI)) fun e w'' ⟨z, he, hz, hzA, hb⟩ => ⟨⟨_, he, z, rfl, ?_, hzA⟩, hb⟩
        rw [hz, atLoc_er, HL.out]
      simp only [Act.put, List.setIfInBounds_toArray, List.set_cons_zero, List.set_cons_succ]
      first
        | (refine wpRel_pass (by rfl) (fun U => by rfl) ?_; simp only [Act.put, List.setIfInBounds_toArray, List.set_cons_zero, List.set_cons_succ])
        | (refine' wpRel_fix (by rfl) (fun U => by rfl) (fun m U w' hI hG => ?_) ?_
           rotate_left
           focus (have hf := HF.out w' hI; unfold relAt; go_simp; first | exact ⟨rfl, Below.refl _ _⟩ | exact Below.refl _ _ | exact ⟨trivial, Below.refl _ _⟩)
           simp only [Act.put, List.setIfInBounds_toArray, List.set_cons_zero, List.set_cons_succ])
      first
        | (refine wpRel_pass (by rfl) (fun U => by rfl) ?_; simp only [Act.put, List.setIfInBounds_toArray, List.set_cons_zero, List.set_cons_succ])
        | (refine' wpRel_fix (by rfl) (fun U => by rfl) (fun m U w' hI hG => ?_) ?_
           rotate_left
           focus (have hf := HF.out w' hI; unfold relAt; go_simp; first | exact ⟨rfl, Below.refl _ _⟩ | exact Below.refl _ _ | exact ⟨trivial, Below.refl _ _⟩)
           simp only [Act.put, List.setIfInBounds_toArray, List.set_cons_zero, List.set_cons_succ])
      first
        | (refine wpRel_pass (by rfl) (fun U => by rfl) ?_; simp only [Act.put, List.setIfInBounds_toArray, List.set_cons_zero, List.set_cons_succ])
        | (refine' wpRel_fix (by rfl) (fun U => by rfl) (fun m U w' hI hG => ?_) ?_
           rotate_left
           focus (have hf := HF.out w' hI; unfold relAt; go_simp; first | exact ⟨rfl, Below.refl _ _⟩ | exact Below.refl _ _ | exact ⟨trivial, Below.refl _ _⟩)
           simp only [Act.put, List.setIfInBounds_toArray, List.set_cons_zero, List.set_cons_succ])
      first
        | (refine wpRel_pass (by rfl) (fun U => by rfl) ?_; simp only [Act.put, List.setIfInBounds_toArray, List.set_cons_zero, List.set_cons_succ])
        | (refine' wpRel_fix (by rfl) (fun U => by rfl) (fun m U w' hI hG => ?_) ?_
           rotate_left
           focus (have hf := HF.out w' hI; unfold relAt; go_simp; first | exact ⟨rfl, Below.refl _ _⟩ | exact Below.refl _ _ | exact ⟨trivial, Below.refl _ _⟩)
           simp only [Act.put, List.setIfInBounds_toArray, List.set_cons_zero, List.set_cons_succ])
      first
        | (refine wpRel_pass (by rfl) (fun U => by rfl) ?_; simp only [Act.put, List.setIfInBounds_toArray, List.set_cons_zero, List.set_cons_succ])
        | (refine' wpRel_fix (by rfl) (fun U => by rfl) (fun m U w' hI hG => ?_) ?_
           rotate_left
           focus (have hf := HF.out w' hI; unfold relAt; go_simp; first | exact ⟨rfl, Below.refl _ _⟩ | exact Below.refl _ _ | exact ⟨trivial, Below.refl _ _⟩)
           simp only [Act.put, List.setIfInBounds_toArray, List.set_cons_zero, List.set_cons_succ])
      refine wpRel_rel (SibsA (mergeL (atL ys[k].name (mergeT X ((ys.map LFile.er).take k))) (ys[k].sibs.xs.map LSib.er)) Loc.val) rfl (SibsA.stable _ _) (by rfl) (fun U => by rfl) (fun m U w' hI hG => ?_) ?_
      · obtain ⟨q, hq, q2, q3⟩ := hG _ (List.Mem.head _) (by rfl)
        simp only at hq
        have hf := HF.out w' hI
        unfold relAt
        simp only [hq]
        go_simp
        refine (l2Merge_any q ys[k].sibs w' q3 (HES.out.belowAll hI) (by have h := congrArg List.length q2; simp only [List.length_map] at h; have := HTA.out; omega) (by have := HSO.out.few; simp at this; omega) (LOK.len3 (by rw [q2]; exact HTL.out.at_ _)) HSO.out.lok.len3).mono fun e w'' ⟨z, h1, h2, h3, _, h5⟩ => ⟨⟨_, h1, z, rfl, ?_, h3⟩, h5⟩
        rw [h2, q2]
      simp only [Act.put, List.setIfInBounds_toArray, List.set_cons_zero, List.set_cons_succ]
      refine wpRel_rel (SibsA (mergeL (atL ys[k].name (mergeT X ((ys.map LFile.er).take k))) (ys[k].sibs.xs.map LSib.er)) (fun z => .agg #[.string ys[k].name, z.val])) rfl (SibsA.stable _ _) (by rfl) (fun U => by rfl) (fun m U w' hI hG => ?_) ?_
      · obtain ⟨z, hz, h2, h3⟩ := hG _ (List.Mem.head _) (by rfl)
        simp only at hz
        unfold relAt
        simp only [hz, Loc.val]
        go_simp
        exact ⟨⟨z, rfl, h2, h3⟩, Below.refl _ _⟩
      simp only [Act.put, List.setIfInBounds_toArray, List.set_cons_zero, List.set_cons_succ]
      intro U w1 hI hG
      obtain ⟨z, hv, h2, h3⟩ := hG _ (List.Mem.head _)
      simp only at hv
      simp only [hv]
      have HE := Lib.hid h2
      have HB1 := Lib.hid (nextB HB.out hI)
      have HC := Lib.hid (l3Put_any l ⟨ys[k].name, z⟩ w1 (HA.out.belowAll hI) ⟨h3, HNM.out⟩ (by have := HTN.out; omega))
      clear hI hG hv h2 h3 HF
      go_wp2_with fail
      refine HC.out.mono ?_
      rintro e w2 ⟨l', rfl, hl', hO', b2⟩
      have HL' : Hid (l'.xs.map LFile.er = tput (LFile.er ⟨ys[k].name, z⟩) (l.xs.map LFile.er)) := Lib.hid (by rw [hl']; exact tpLoc_er (by rw [HL.out]; exact HTL.out.asc))
      have HA' := Lib.hid hO'.at_
      have HB' := Lib.hid (nextB HB1.out b2)
      clear hl' hO' b2 HC
      go_wp2_with fail
      go_roundw
      case rel =>
        refine ⟨k + 1, l', by omega, by go_num, rfl, ?_, HA'.out, HB'.out⟩
        rw [HTK.out, HL'.out, HL.out]
        simp only [LFile.er, HE.out]
      case measure => simp [intOf]; omega
    · have hkk : k = ys.length := by omega
      subst hkk
      go_wp2_with fail
      go_ret
      refine ⟨l, rfl, ?_, HA.out, HB.out⟩
      have h := HL.out
      rw [List.take_of_length_le (by simp)] at h
      show l.xs.map LFile.er = mergeT (x.xs.map LFile.er) (ys.map LFile.er)
      rw [h, HXE.out]

set_option maxRecDepth 100000 in
set_option maxHeartbeats 1000000 in
theorem sTreeMerge_any (x y : Loc LFile) (w : World) (hx : x.At w) (hy : y.At w) :
    Calls Tryz.prog 17 #[x.val, y.val] w (TreeP w (mergeTZ (x.xs.map LFile.er) (y.xs.map LFile.er))) := by
  have hc := Lib.hid (sTreeOk_any x w hx)
  have AX := Lib.hid hx
  have AY := Lib.hid hy
  clear hx hy
  obtain ⟨X, hX⟩ : ∃ X, x.xs.map LFile.er = X := ⟨_, rfl⟩
  obtain ⟨Y, hY⟩ : ∃ Y, y.xs.map LFile.er = Y := ⟨_, rfl⟩
  rw [hX] at hc ⊢
  rw [hY]
  have HXE := Lib.hid hX
  have HYE := Lib.hid hY
  clear hX hY
  cases hb : treeB X with
  | false =>
    rw [hb] at hc
    have HZ : Hid (mergeTZ X Y = ([], false)) := Lib.hid (by unfold mergeTZ; rw [hb]; rfl)
    clear hb
    go_enter Tryz.func17, Tryz.ntmps17
    go_wp2_with fail
    refine hc.out.mono ?_
    rintro e w1 ⟨rfl, b1⟩
    have HG := Lib.hid (Grows.start (α := LFile) w1 58)
    have B := Lib.hid b1
    clear b1
    go_wp2_with fail
    refine bodyPost_ret (v := .tuple #[.slice (some ⟨w1.heap.size, 0, none⟩) 0 0, .bool false]) ?_ rfl ⟨⟨some ⟨w1.heap.size, 0, none⟩, 0, []⟩, by rw [HZ.out]; rfl, by rw [HZ.out]; rfl, HG.out.done.1, nextB B.out HG.out.bel⟩
    simp only [results, Tryz.results17]
    go_simp
  | true =>
    rw [hb] at hc
    have HTX := Lib.hid (TreeOK.of hb)
    clear hb
    go_enter Tryz.func17, Tryz.ntmps17
    go_wp2_with fail
    refine hc.out.mono ?_
    rintro e w1 ⟨rfl, b1⟩
    have B := Lib.hid b1
    first
      | replace AX := Lib.hid (Loc.At.belowAll AX.out (b1))
      | replace AX := Lib.hid (nextB AX.out (b1))
      | replace AX := Lib.hid (Boxed.keep AX.out (b1))
      | replace AX := Lib.hid (Dat.belowAll AX.out (b1))
      | replace AX := Lib.hid (Fr.belowAll AX.out (b1))
      | replace AX := Lib.hid (Own.belowAll AX.out (b1))
      | replace AX := Lib.hid (Grows.next AX.out (b1))
    first
      | replace AY := Lib.hid (Loc.At.belowAll AY.out (b1))
      | replace AY := Lib.hid (nextB AY.out (b1))
      | replace AY := Lib.hid (Boxed.keep AY.out (b1))
      | replace AY := Lib.hid (Dat.belowAll AY.out (b1))
      | replace AY := Lib.hid (Fr.belowAll AY.out (b1))
      | replace AY := Lib.hid (Own.belowAll AY.out (b1))
      | replace AY := Lib.hid (Grows.next AY.out (b1))
    clear b1 hc
    have hc := sTreeOk_any y w1 AY.out
    rw [HYE.out] at hc
    have HC := Lib.hid hc
    clear hc
    cases hb : treeB Y with
    | false =>
      rw [hb] at HC
      have HZ : Hid (mergeTZ X Y = ([], false)) := Lib.hid (by unfold mergeTZ; rw [treeB_true HTX.out, hb]; rfl)
      clear hb
      go_wp2_with fail
      refine HC.out.mono ?_
      rintro e w2 ⟨rfl, b2⟩
      have HG := Lib.hid (Grows.start (α := LFile) w2 58)
      first
        | replace B := Lib.hid (Loc.At.belowAll B.out (b2))
        | replace B := Lib.hid (nextB B.out (b2))
        | replace B := Lib.hid (Boxed.keep B.out (b2))
        | replace B := Lib.hid (Dat.belowAll B.out (b2))
        | replace B := Lib.hid (Fr.belowAll B.out (b2))
        | replace B := Lib.hid (Own.belowAll B.out (b2))
        | replace B := Lib.hid (Grows.next B.out (b2))
      clear b2
      go_wp2_with fail
      refine bodyPost_ret (v := .tuple #[.slice (some ⟨w2.heap.size, 0, none⟩) 0 0, .bool false]) ?_ rfl ⟨⟨some ⟨w2.heap.size, 0, none⟩, 0, []⟩, by rw [HZ.out]; rfl, by rw [HZ.out]; rfl, HG.out.done.1, nextB B.out HG.out.bel⟩
      simp only [results, Tryz.results17]
      go_simp
    | true =>
      rw [hb] at HC
      have HTY := Lib.hid (TreeOK.of hb)
      clear hb
      go_wp2_with fail
      refine HC.out.mono ?_
      rintro e w2 ⟨rfl, b2⟩
      first
        | replace B := Lib.hid (Loc.At.belowAll B.out (b2))
        | replace B := Lib.hid (nextB B.out (b2))
        | replace B := Lib.hid (Boxed.keep B.out (b2))
        | replace B := Lib.hid (Dat.belowAll B.out (b2))
        | replace B := Lib.hid (Fr.belowAll B.out (b2))
        | replace B := Lib.hid (Own.belowAll B.out (b2))
        | replace B := Lib.hid (Grows.next B.out (b2))
      first
        | replace AX := Lib.hid (Loc.At.belowAll AX.out (b2))
        | replace AX := Lib.hid (nextB AX.out (b2))
        | replace AX := Lib.hid (Boxed.keep AX.out (b2))
        | replace AX := Lib.hid (Dat.belowAll AX.out (b2))
        | replace AX := Lib.hid (Fr.belowAll AX.out (b2))
        | replace AX := Lib.hid (Own.belowAll AX.out (b2))
        | replace AX := Lib.hid (Grows.next AX.out (b2))
      first
        | replace AY := Lib.hid (Loc.At.belowAll AY.out (b2))
        | replace AY := Lib.hid (nextB AY.out (b2))
        | replace AY := Lib.hid (Boxed.keep AY.out (b2))
        | replace AY := Lib.hid (Dat.belowAll AY.out (b2))
        | replace AY := Lib.hid (Fr.belowAll AY.out (b2))
        | replace AY := Lib.hid (Own.belowAll AY.out (b2))
        | replace AY := Lib.hid (Grows.next AY.out (b2))
      clear b2 HC
      go_wp2_with fail
      refine (l3Merge_any x y w2 AX.out AY.out (by rw [HXE.out]; exact HTX.out) (by rw [HYE.out]; exact HTY.out)).mono ?_
      rw [HXE.out, HYE.out]
      rintro e w3 ⟨z, rfl, hz, hzA, b3⟩
      have HZE := Lib.hid (show z.xs.map LFile.er = mergeT X Y from hz)
      have AZ := Lib.hid hzA
      first
        | replace B := Lib.hid (Loc.At.belowAll B.out (b3))
        | replace B := Lib.hid (nextB B.out (b3))
        | replace B := Lib.hid (Boxed.keep B.out (b3))
        | replace B := Lib.hid (Dat.belowAll B.out (b3))
        | replace B := Lib.hid (Fr.belowAll B.out (b3))
        | replace B := Lib.hid (Own.belowAll B.out (b3))
        | replace B := Lib.hid (Grows.next B.out (b3))
      clear hz hzA b3
      have hc := sTreeOk_any z w3 AZ.out
      rw [HZE.out] at hc
      have HC := Lib.hid hc
      clear hc
      cases hb : treeB (mergeT X Y) with
      | false =>
        rw [hb] at HC
        have HZ : Hid (mergeTZ X Y = ([], false)) := Lib.hid (by unfold mergeTZ; rw [hb]; simp)
        clear hb
        go_wp2_with fail
        refine HC.out.mono ?_
        rintro e w4 ⟨rfl, b4⟩
        have HG := Lib.hid (Grows.start (α := LFile) w4 58)
        first
          | replace B := Lib.hid (Loc.At.belowAll B.out (b4))
          | replace B := Lib.hid (nextB B.out (b4))
          | replace B := Lib.hid (Boxed.keep B.out (b4))
          | replace B := Lib.hid (Dat.belowAll B.out (b4))
          | replace B := Lib.hid (Fr.belowAll B.out (b4))
          | replace B := Lib.hid (Own.belowAll B.out (b4))
          | replace B := Lib.hid (Grows.next B.out (b4))
        clear b4
        go_wp2_with fail
        refine bodyPost_ret (v := .tuple #[.slice (some ⟨w4.heap.size, 0, none⟩) 0 0, .bool false]) ?_ rfl ⟨⟨some ⟨w4.heap.size, 0, none⟩, 0, []⟩, by rw [HZ.out]; rfl, by rw [HZ.out]; rfl, HG.out.done.1, nextB B.out HG.out.bel⟩
        simp only [results, Tryz.results17]
        go_simp
      | true =>
        rw [hb] at HC
        have HZ : Hid (mergeTZ X Y = (mergeT X Y, true)) := Lib.hid (mergeTZ_yes HTX.out HTY.out (TreeOK.of hb))
        clear hb
        go_wp2_with fail
        refine HC.out.mono ?_
        rintro e w4 ⟨rfl, b4⟩
        first
          | replace B := Lib.hid (Loc.At.belowAll B.out (b4))
          | replace B := Lib.hid (nextB B.out (b4))
          | replace B := Lib.hid (Boxed.keep B.out (b4))
          | replace B := Lib.hid (Dat.belowAll B.out (b4))
          | replace B := Lib.hid (Fr.belowAll B.out (b4))
          | replace B := Lib.hid (Own.belowAll B.out (b4))
          | replace B := Lib.hid (Grows.next B.out (b4))
        first
          | replace AZ := Lib.hid (Loc.At.belowAll AZ.out (b4))
          | replace AZ := Lib.hid (nextB AZ.out (b4))
          | replace AZ := Lib.hid (Boxed.keep AZ.out (b4))
          | replace AZ := Lib.hid (Dat.belowAll AZ.out (b4))
          | replace AZ := Lib.hid (Fr.belowAll AZ.out (b4))
          | replace AZ := Lib.hid (Own.belowAll AZ.out (b4))
          | replace AZ := Lib.hid (Grows.next AZ.out (b4))
        clear b4 HC
        go_wp2_with fail
        refine bodyPost_ret (v := .tuple #[z.val, .bool true]) ?_ rfl ⟨z, by rw [HZ.out], by rw [HZ.out]; exact HZE.out, AZ.out, B.out⟩
        simp only [results, Tryz.results17]
        go_simp
end Go.Proofs.YtdidkfadiaafiaaGreatDoor
