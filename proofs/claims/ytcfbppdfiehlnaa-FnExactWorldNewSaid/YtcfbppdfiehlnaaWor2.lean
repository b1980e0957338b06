/- New worlds: the plain laws; the program's worldNew, WorldNew; the reference's WorldNew. -/
import Derived.Test.YtcfbppdfiehlnaaSto4
import Derived.Test.YtcfbppdfiehlnaaRel
namespace Go.Proofs.Ytcfbppdfiehlnaa
open Go Go.RowKit

theorem store_info : (Try.prog.info? 28).map (fun i => (i.zero, i.size, i.bytes)) = some (some (.agg #[.slice none 0 0, .int .i64 0, .slice none 0 0, .int .i64 0, .slice none 0 0]), 5, 88) := by kernel_rfl
theorem elem_store : Elem Try.prog LStore 33 28 := Elem.of Try.underlying33 store_info (by decide) rfl

def WorldP (w : World) (e : Ending) (w' : World) : Prop :=
  ∃ l : Loc LStore, e = .returned (.agg #[l.val]) ∧ l.xs.map LStore.er = [newStore, newStore, newStore] ∧ l.At w' ∧ Fr w.heap.size w' l.fp ∧ Below w.heap.size w w'

/-- A world under way: its own block p, the answer's block before it, so many new stores. -/
structure WN (w0 : World) (l : Loc LStore) (w : World) : Prop where
  own : Own (w0.heap.size + 2) 28 w l
  fr : Fr (w0.heap.size + 2) w (l.xs.flatMap Dat.fp)
  bel : Below w0.heap.size w0 w
  row0 : w.heap[w0.heap.size]? = some (.cells #[.slice none 0 0] 35 (0, 0))
  row1 : w.heap[w0.heap.size + 1]? = some (.cells #[l.val] 35 (0, 0))
  er : ∀ y ∈ l.xs, y.er = newStore

theorem WN.size {w0 w : World} {l : Loc LStore} (h : WN w0 l w) : w0.heap.size + 2 ≤ w.heap.size := by
  have := (Array.getElem?_eq_some_iff.1 h.row1).1; omega
theorem WN.start (w0 : World) (t : TypeId) (ht : t = 35) : WN w0 ⟨none, 0, []⟩ ((w0.alloc (.cells #[.slice none 0 0] t)).alloc (.cells #[.slice none 0 0] t)) := by
  subst ht
  refine ⟨Own.nil_ _ _ _, Fr.nil _ _, ((Below.refl _ _).alloc (Nat.le_refl _) _).alloc (by simp) _, ?_, ?_, fun _ h => by cases h⟩
  · have h := heap_alloc_new w0 (.cells #[.slice none 0 0] 35)
    have hb := ((Below.refl (w0.alloc (.cells #[.slice none 0 0] 35)).heap.size _).alloc (Nat.le_refl _) (.cells #[.slice none 0 0] 35)).block w0.heap.size (by simp)
    rw [hb]; exact h
  · have := heap_alloc_new (w0.alloc (.cells #[.slice none 0 0] 35)) (.cells #[.slice none 0 0] 35)
    rw [show (w0.alloc (.cells #[.slice none 0 0] 35)).heap.size = w0.heap.size + 1 by simp] at this
    exact this
theorem WN.offp {w0 w : World} {l : Loc LStore} (h : WN w0 l w) (b : Nat) (hb : b < w0.heap.size + 2) : some b ≠ l.val.ownBlock := fun e => by
  have := (h.own.lt b e.symm).1; omega
theorem WN.later {w0 w w' : World} {l : Loc LStore} (h : WN w0 l w) (hb : Below w.heap.size w w') : WN w0 l w' := by
  have hs := h.size
  exact ⟨h.own.belowAll hb, h.fr.belowAll hb, h.bel.trans (hb.mono h.bel.size), by rw [hb.block _ (by omega)]; exact h.row0, by rw [hb.block _ (by omega)]; exact h.row1, h.er⟩

/-- Behind the append: one store more, the world's own block not yet written. -/
structure Wn1 (w0 : World) (l' : Loc LStore) (w : World) : Prop where
  own : Own (w0.heap.size + 2) 28 w l'
  fr : Fr (w0.heap.size + 2) w (l'.xs.flatMap Dat.fp)
  er : ∀ y ∈ l'.xs, y.er = newStore
theorem Wn1.later {w0 w w' : World} {l : Loc LStore} (h : Wn1 w0 l w) (hb : Below w.heap.size w w') : Wn1 w0 l w' := ⟨h.own.belowAll hb, h.fr.belowAll hb, h.er⟩

theorem WN.step {w0 w1 w : World} {l l' : Loc LStore} (h : WN w0 l w1) (hg : w1.grownBy w l.val.ownBlock) (h' : Wn1 w0 l' w) : WN w0 l' (w.setCell ⟨w0.heap.size + 1, 0, none⟩ l'.val) := by
  have hs := h.size
  have hk : ∀ b, b ≠ w0.heap.size + 1 → (w.setCell ⟨w0.heap.size + 1, 0, none⟩ l'.val).heap[b]? = w.heap[b]? := fun b hb => Below.heap_setCell _ _ _ _ hb
  refine ⟨h'.own.keep (fun b hb => hk b (by have := (h'.own.lt b hb).1; omega)) (fun x hx b hb => hk b (by have := h'.fr.ge b (List.mem_flatMap.2 ⟨x, hx, hb⟩); omega)), h'.fr.keep (fun b hb => hk b (by have := h'.fr.ge b hb; omega)),
    (h.bel.grown hg h.bel.size (fun k hk => by have := (h.own.lt k hk).1; omega)).setCell (by simp) _, ?_, ?_, h'.er⟩
  · rw [hk _ (by omega), hg.block _ (by omega) (h.offp _ (by omega))]; exact h.row0
  · have hr : w.heap[w0.heap.size + 1]? = some (.cells #[l.val] 35 (0, 0)) := by rw [hg.block _ (by omega) (h.offp _ (by omega))]; exact h.row1
    rw [heap_setCell_same _ _ _ _ _ _ hr]; rfl

/-! The region that appends: the row is grown once. -/
theorem OneMore.belowAll {α : Type} [Dat α] {base : Nat} {e : TypeId} {w w' : World} {l : Loc α} {g : Nat} {y : α} (h : OneMore base e w l g y) (hb : Below w.heap.size w w') : OneMore base e w' l g y :=
  ⟨h.own.belowAll hb, fun j u hu => by
    have hc := h.news j u hu
    rw [hb.cell (World.block_lt_of_cell? w _ hc)]; exact hc, Dat.belowAll h.at_ hb, h.off, h.few, Nat.le_trans h.lo hb.size⟩
/-- What StoreNew answered. -/
def NewSt (N : Nat) (v : Value) (w : World) : Prop := ∃ y : LStore, v = y.val ∧ y.er = newStore ∧ Dat.At w y ∧ Fr N w y.checks.fp
/-- The row of one that is appended. -/
def OneSt (N base : Nat) (l : Loc LStore) (v : Value) (w : World) : Prop :=
  ∃ g y, v = .slice (some ⟨g, 0, none⟩) 1 1 ∧ y.er = newStore ∧ OneMore base 28 w l g y ∧ Fr N w (Dat.fp y)
theorem NewSt.stable (N : Nat) : StableR (NewSt N) := fun v w w' hb ⟨y, h1, h2, h3, h4⟩ => ⟨y, h1, h2, Dat.belowAll h3 hb, h4.belowAll hb⟩
theorem OneSt.stable (N base : Nat) (l : Loc LStore) : StableR (OneSt N base l) := fun v w w' hb ⟨g, y, h1, h2, h3, h4⟩ => ⟨g, y, h1, h2, h3.belowAll hb, h4.belowAll hb⟩

theorem WN.one {w0 w w' : World} {l : Loc LStore} (h : WN w0 l w) (hb : Below w.heap.size w w') (y : LStore) (hy : Dat.At w' y) (he : y.er = newStore) (hf : Fr w.heap.size w' y.checks.fp) (hl : l.xs.length ≤ 1000000) (cs : Array Value) (e : TypeId) (hcs : cs.toList = Dat.enc y) (v : Value) (hv : v = .slice (some ⟨w'.heap.size, 0, none⟩) 1 1) :
    OneSt w.heap.size (w0.heap.size + 2) l v (w'.alloc (.cells cs e)) := by
  have h1 := h.size
  have h2 := hb.size
  refine ⟨w'.heap.size, y, hv, he, one_more l y rfl hcs (h.later hb).own hy (fun b hb' hbb => ?_) (by omega) (by omega), hf.belowAll ((Below.refl _ _).alloc (Nat.le_refl _) _)⟩
  have h3 := (h.own.lt b hbb.symm).2
  have h4 := hf.ge b hb'
  omega

theorem WN.two {w0 w1 w w' : World} {l l' : Loc LStore} {g : Nat} {y : LStore} (h : WN w0 l w1) (hb : Below w1.heap.size w1 w) (he : y.er = newStore) (ho : OneMore (w0.heap.size + 2) 28 w l g y) (hf : Fr w1.heap.size w (Dat.fp y))
    (ha : Appended (w0.heap.size + 2) 28 w l [y] l' w') : WN w0 l' (w'.setCell ⟨w0.heap.size + 1, 0, none⟩ l'.val) := by
  have h1 := h.size
  have h2 := (h.later hb).fr
  refine (h.later hb).step ha.grown ⟨ha.own, ?_, fun z hz => ?_⟩
  · rw [ha.xs, List.flatMap_append]
    refine (ha.keepFr h2 fun b hb => ?_).append (ha.keepFr (by simpa using hf.mono h1) fun b hb => ?_) ?_
    · obtain ⟨z, hz, hb⟩ := List.mem_flatMap.1 hb
      exact ho.own.off z hz b hb
    · exact ho.off b (by simpa using hb)
    · intro c hc d hd hcd
      have h3 := h.fr.lt c hc
      have h4 := hf.ge d (by simpa using hd)
      omega
  · rw [ha.xs] at hz
    rcases List.mem_append.1 hz with hz | hz
    · exact h.er z hz
    · rw [List.mem_singleton.1 hz]; exact he

theorem WorldP.of {w W : World} {l : Loc LStore} {v : Value} (hv : v = .agg #[l.val]) (he : l.xs.map LStore.er = [newStore, newStore, newStore]) (hA : l.At W) (hF : Fr (w.heap.size + 1) W l.fp) (hb : Below w.heap.size w W) (u : Value) :
    WorldP w (.returned v) (W.setCell ⟨w.heap.size, 0, none⟩ u) := by
  have hk : ∀ b ∈ l.fp, (W.setCell ⟨w.heap.size, 0, none⟩ u).heap[b]? = W.heap[b]? := fun b hm => Below.heap_setCell _ _ _ _ (by have := hF.ge b hm; simp only; omega)
  exact ⟨l, by rw [hv], he, Loc.keep_At hA hk, (hF.keep hk).mono (by omega), hb.setCell (Nat.le_refl _) _⟩
theorem map_three {xs : List LStore} (hl : xs.length = 3) (h : ∀ y ∈ xs, y.er = newStore) : xs.map LStore.er = [newStore, newStore, newStore] := by
  match xs, hl, h with
  | [a, b, c], _, h => simp [h a (by simp), h b (by simp), h c (by simp)]

set_option maxRecDepth 100000 in
set_option maxHeartbeats 2000000 in
theorem iworldNew_any (w : World) : Calls Try.prog 25 #[] w (WorldP w) := by
  have H0 := Lib.hid (WN.start w 35 rfl)
  go_enter Try.func25, Try.ntmps25
  go_wp2_with fail
  go_loopw [3] (fun i wr => ∃ l : Loc LStore, i = .int .i64 l.xs.length ∧ l.xs.length ≤ 3 ∧ WN w l wr) (fun i _ => 3 - (intOf i).toNat)
  case atStart => exact ⟨⟨none, 0, []⟩, rfl, by simp, H0.out⟩
  case round =>
    obtain ⟨⟨la, lc, ls⟩, rfl, hl3, hN⟩ := hrel
    have HN := Lib.hid hN
    have hc1 : wr.cell? ⟨w.heap.size + 1, 0, none⟩ = some (.slice la ls.length lc) := by rw [cell_of_row _ _ _ _ _ _ hN.row1]; rfl
    have HC1 := Lib.hid hc1
    simp only at hl3
    clear hN
    by_cases hlt : ls.length < 3
    · have HF : Hid (∀ w', Below wr.heap.size wr w' → w'.cell? ⟨w.heap.size + 1, 0, none⟩ = some (.slice la ls.length lc)) := Lib.hid (fun w' h => by
        rw [h.cell (World.block_lt_of_cell? wr _ HC1.out)]; exact HC1.out)
      clear hc1
      go_wp2_with fail
      refine wp_region_rel 4 (by kernel_rfl) (by kernel_rfl) (by rfl) ?_
      simp only [List.take_succ_cons, List.take_zero, List.drop_succ_cons, List.drop_zero]
      first
        | (refine wpRel_pass (by rfl) (fun U => by rfl) ?_; simp only [Act.put, List.setIfInBounds_toArray, List.set_cons_zero, List.set_cons_succ])
        | (refine' wpRel_fix (by rfl) (fun U => by rfl) (fun m U w' hI hG => ?_) ?_
           rotate_left
           focus (have hf := HF.out w' hI; unfold relAt; go_simp; first | exact ⟨rfl, Below.refl _ _⟩ | exact Below.refl _ _ | exact ⟨trivial, Below.refl _ _⟩)
           simp only [Act.put, List.setIfInBounds_toArray, List.set_cons_zero, List.set_cons_succ])
      first
        | (refine wpRel_pass (by rfl) (fun U => by rfl) ?_; simp only [Act.put, List.setIfInBounds_toArray, List.set_cons_zero, List.set_cons_succ])
        | (refine' wpRel_fix (by rfl) (fun U => by rfl) (fun m U w' hI hG => ?_) ?_
           rotate_left
           focus (have hf := HF.out w' hI; unfold relAt; go_simp; first | exact ⟨rfl, Below.refl _ _⟩ | exact Below.refl _ _ | exact ⟨trivial, Below.refl _ _⟩)
           simp only [Act.put, List.setIfInBounds_toArray, List.set_cons_zero, List.set_cons_succ])
      refine wpRel_rel (NewSt wr.heap.size) rfl (NewSt.stable _) (by rfl) (fun U => by rfl) (fun m U w' hI hG => ?_) ?_
      · have hI' : Below wr.heap.size wr w' := hI
        have HI := Lib.hid hI'
        clear hI hI'
        unfold relAt
        go_simp
        exact Calls.mono (iStoreNew_any w') fun e w'' ⟨y, he, hy, hA, hf, hb⟩ => ⟨⟨_, he, y, rfl, hy, hA, hf.mono HI.out.size⟩, hb⟩
      simp only [Act.put, List.setIfInBounds_toArray, List.set_cons_zero, List.set_cons_succ]
      refine wpRel_rel (OneSt wr.heap.size (w.heap.size + 2) ⟨la, lc, ls⟩) rfl (OneSt.stable _ _ _) (by rfl) (fun U => by rfl) (fun m U w' hI hG => ?_) ?_
      · have hI' : Below wr.heap.size wr w' := hI
        have HI := Lib.hid hI'
        clear hI hI'
        obtain ⟨y, hv, hy, hA, hf⟩ := hG _ (List.Mem.head _) (by rfl)
        simp only at hv
        have HY := Lib.hid hy
        have HA := Lib.hid hA
        have HFY := Lib.hid hf
        clear hy hA hf hG
        obtain ⟨yta, ytc, yf, yra, yrc, ys, ⟨yca, ycc, ycs⟩⟩ := y
        simp only [LStore.val, Loc.val] at hv
        unfold relAt
        simp only [hv]
        go_simp
        exact ⟨HN.out.one HI.out ⟨yta, ytc, yf, yra, yrc, ys, ⟨yca, ycc, ycs⟩⟩ HA.out HY.out HFY.out (by simp only; omega) _ _ rfl _ rfl, (Below.refl _ _).alloc (Nat.le_refl _) _⟩
      simp only [Act.put, List.setIfInBounds_toArray, List.set_cons_zero, List.set_cons_succ]
      intro U w1 hI hG
      have hI' : Below wr.heap.size wr w1 := hI
      have HI := Lib.hid hI'
      obtain ⟨g, y, hv, hy, hO, hf⟩ := hG _ (List.Mem.head _)
      simp only at hv
      have HY := Lib.hid hy
      have HO := Lib.hid hO
      have HFY := Lib.hid hf
      clear hy hO hf hG hI hI'
      simp only [hv]
      refine wpList_append_one (α := LStore) rfl (.tmp 6) (.tmp 8) 33 rfl (w.heap.size + 2) 28 elem_store ⟨la, lc, ls⟩ rfl g y rfl HO.out (fun l' w2 ha => ?_)
      have hc1 : w2.cell? ⟨w.heap.size + 1, 0, none⟩ = some (.slice la ls.length lc) := ha.grown.cell ((HF.out w1 HI.out)) (HN.out.offp _ (by simp))
      have hz1 : w2.frozen? ⟨w.heap.size + 1, 0, none⟩ = false := by
        have h1 := frozen_of_row _ _ 0 _ _ (HN.out.later HI.out).row1
        rw [← h1]; exact World.frozen?_of_block (ha.grown.block _ (by have := (HN.out.later HI.out).size; simp only; omega) (HN.out.offp _ (by simp)))
      have HW := Lib.hid (HN.out.two HI.out HY.out HO.out HFY.out ha)
      have HXL : Hid (l'.xs.length = ls.length + 1) := Lib.hid (by rw [ha.xs]; simp)
      clear ha
      obtain ⟨la', lc', ls'⟩ := l'
      simp only [Loc.val] at HW HXL ⊢
      go_wp2_with fail
      exact ⟨⟨⟨la', lc', ls'⟩, by simp only [HXL.out]; norm_cast, by simp only [HXL.out]; omega, HW.out⟩, by simp [intOf]; omega⟩
    · have hll : ls.length = 3 := by omega
      have HLL := Lib.hid hll
      have hz0 := frozen_of_row _ _ 0 _ _ HN.out.row0
      have hcc : wr.cell? ⟨w.heap.size, 0, none⟩ = some (.slice none 0 0) := by rw [cell_of_row _ _ _ _ _ _ HN.out.row0]; rfl
      have HP := Lib.hid (WorldP.of (w := w) (l := ⟨la, lc, ls⟩) rfl (map_three (xs := ls) HLL.out HN.out.er) HN.out.own.at_ ((HN.out.own.fr HN.out.fr (Nat.le_refl _)).mono (Nat.le_succ _)) HN.out.bel (.slice la ls.length lc))
      clear hll
      simp only [Loc.val] at HP
      go_wp2_with fail
      refine bodyPost_ret (v := .agg #[.slice la ls.length lc]) ?_ rfl HP.out
      simp only [results, Try.results25]
      go_simp
set_option maxRecDepth 100000 in
theorem iWorldNew_any (w : World) : Calls Try.prog 11 #[] w (WorldP w) := by
  go_enter Try.func11, Try.ntmps11
  go_wp2_with fail
  have b0 : Below w.heap.size w (w.alloc (Obj.cells #[.slice none 0 0] 35)) := (Below.refl _ _).alloc (Nat.le_refl _) _
  have HR0 := Lib.hid (heap_alloc_new w (Obj.cells #[.slice none 0 0] 35))
  have B := Lib.hid b0
  have S0 : Hid (w.heap.size + 1 ≤ (w.alloc (Obj.cells #[.slice none 0 0] 35)).heap.size) := Lib.hid (by simp)
  clear b0
  generalize w.alloc (Obj.cells #[.slice none 0 0] 35) = W0 at *
  refine (iworldNew_any _).mono ?_
  rintro e w1 ⟨⟨la, lc, ls⟩, rfl, he, hA, hF, b1⟩
  have HR1 := Lib.hid (show w1.heap[w.heap.size]? = _ from (b1.block _ (by have := S0.out; omega)).trans HR0.out)
  have HP := Lib.hid (WorldP.of (w := w) (l := ⟨la, lc, ls⟩) rfl he hA (hF.mono S0.out) (nextB B.out b1) (.slice la ls.length lc))
  clear he hA hF b1 HR0
  simp only [Loc.val] at HP ⊢
  have hz0 := frozen_of_row _ _ 0 _ _ HR1.out
  have hcc : w1.cell? ⟨w.heap.size, 0, none⟩ = some (.slice none 0 0) := by rw [cell_of_row _ _ _ _ _ _ HR1.out]; rfl
  go_wp2_with fail
  refine bodyPost_ret (v := .agg #[.slice la ls.length lc]) ?_ rfl HP.out
  simp only [results, Try.results11]
  go_simp
end Go.Proofs.Ytcfbppdfiehlnaa
