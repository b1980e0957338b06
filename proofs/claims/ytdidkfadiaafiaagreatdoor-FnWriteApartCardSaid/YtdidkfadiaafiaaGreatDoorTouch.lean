/- Data of one's own that is written in place: what is known of it then. -/
import Derived.Test.YtdidkfadiaafiaaGreatDoorFill
namespace Go.Proofs.YtdidkfadiaafiaaGreatDoor
open Go Go.RowKit

/-- Of what was there nothing but these blocks has been written. -/
structure Touch (fp : List Nat) (w w' : World) : Prop where
  os : w'.os = w.os
  tape : w'.tape = w.tape
  output : w'.output = w.output
  size : w.heap.size ≤ w'.heap.size
  block : ∀ b, b < w.heap.size → b ∉ fp → w'.heap[b]? = w.heap[b]?

theorem Touch.refl (fp : List Nat) (w : World) : Touch fp w w := ⟨rfl, rfl, rfl, Nat.le_refl _, fun _ _ _ => rfl⟩
theorem Touch.trans {fp : List Nat} {a b c : World} (h : Touch fp a b) (k : Touch fp b c) : Touch fp a c :=
  ⟨k.os.trans h.os, k.tape.trans h.tape, k.output.trans h.output, Nat.le_trans h.size k.size, fun i hi hn => (k.block i (Nat.lt_of_lt_of_le hi h.size) hn).trans (h.block i hi hn)⟩
theorem Touch.mono {fp fp' : List Nat} {a b : World} (h : Touch fp a b) (hs : ∀ x ∈ fp, x ∈ fp') : Touch fp' a b := ⟨h.os, h.tape, h.output, h.size, fun i hi hn => h.block i hi fun hx => hn (hs i hx)⟩
theorem Touch.of_below {a b : World} (fp : List Nat) (h : Below a.heap.size a b) : Touch fp a b := ⟨h.os, h.tape, h.output, h.size, fun i hi _ => h.block i hi⟩
theorem Touch.setCell {fp : List Nat} (w : World) {a : Addr} (h : a.block ∈ fp) (v : Value) : Touch fp w (w.setCell a v) :=
  ⟨rfl, rfl, rfl, by simp [World.setCell], fun b _ hn => Below.heap_setCell _ _ _ _ (fun e => hn (e ▸ h))⟩
theorem Touch.keepLoc {α : Type} [Dat α] {fp : List Nat} {w w' : World} {y : Loc α} (h : Touch fp w w') (hy : y.At w) (hd : ∀ b ∈ y.fp, b ∉ fp) : y.At w' := Loc.keep_At hy fun b hb => h.block b (Loc.lt_of_At hy b hb) (hd b hb)
theorem Touch.keepDat {α : Type} [Dat α] {fp : List Nat} {w w' : World} {y : α} (h : Touch fp w w') (hy : Dat.At w y) (hd : ∀ b ∈ Dat.fp y, b ∉ fp) : Dat.At w' y := Dat.keep hy fun b hb => h.block b (Dat.lt hy b hb) (hd b hb)
theorem Touch.keepFr {fp g : List Nat} {lo : Nat} {w w' : World} (h : Touch fp w w') (hy : Fr lo w g) (hd : ∀ b ∈ g, b ∉ fp) : Fr lo w' g := hy.keep fun b hb => h.block b (hy.lt b hb) (hd b hb)
theorem Touch.below {fp : List Nat} {B : Nat} {w w' : World} (h : Touch fp w w') (hB : B ≤ w.heap.size) (hd : ∀ b ∈ fp, B ≤ b) : Below B w w' :=
  ⟨h.os, h.tape, h.output, h.size, fun k hk => h.block k (by omega) fun hm => by have := hd k hm; omega⟩

variable {α : Type}
def Loc.re (x : Loc α) (ys : List α) : Loc α := ⟨x.a, x.cap, ys⟩

variable [Dat α]
theorem Loc.re_fp (x : Loc α) (ys : List α) (h : ys.map Dat.fp = x.xs.map Dat.fp) : (x.re ys).fp = x.fp := by
  have h1 : ys.flatMap Dat.fp = x.xs.flatMap Dat.fp := by rw [List.flatMap_def, List.flatMap_def, h]
  have h2 : ys = [] ↔ x.xs = [] := by
    have := congrArg List.length h
    simp only [List.length_map] at this
    rw [← List.length_eq_zero_iff, ← List.length_eq_zero_iff, this]
  unfold Loc.fp Loc.blk Loc.re
  simp only [h1]
  by_cases h0 : x.xs = []
  · rw [if_pos h0, if_pos (h2.2 h0)]
  · rw [if_neg h0, if_neg (fun h => h0 (h2.1 h))]

theorem map_set_fp {xs : List α} {i : Nat} {y : α} (hi : i < xs.length) (hfp : Dat.fp y = Dat.fp xs[i]) : (xs.set i y).map Dat.fp = xs.map Dat.fp := by
  rw [List.map_set, hfp]
  apply List.ext_getElem?
  intro j
  rw [List.getElem?_set]
  split
  · rename_i h; subst h; simp [hi]
  · rfl

/-- Elements of data that is all of its own lie apart from its row, and from each other. -/
theorem fr_apart {lo : Nat} {w : World} {x : Loc α} (hf : Fr lo w x.fp) {i : Nat} (hi : i < x.xs.length) : (∀ b ∈ Dat.fp x.xs[i], b ∉ x.blk) ∧ (∀ j (hj : j < x.xs.length), j ≠ i → ∀ b ∈ Dat.fp x.xs[i], b ∉ Dat.fp x.xs[j]) := by
  have hnd := hf.nd
  unfold Loc.fp at hnd
  obtain ⟨-, h2, h3⟩ := List.nodup_append.1 hnd
  refine ⟨fun b hb hbb => h3 b hbb b (List.mem_flatMap.2 ⟨_, List.getElem_mem hi, hb⟩) rfl, fun j hj hji b hb hb2 => ?_⟩
  have key : ∀ (l : List α), (l.flatMap Dat.fp).Nodup → ∀ i j (hi : i < l.length) (hj : j < l.length), i < j → ∀ b ∈ Dat.fp l[i], b ∉ Dat.fp l[j] := by
    intro l
    induction l with
    | nil => intro _ i j hi; simp at hi
    | cons z l ih =>
      intro hn i j hi hj hij b hb hb2
      rw [List.flatMap_cons] at hn
      obtain ⟨-, hn2, hn3⟩ := List.nodup_append.1 hn
      cases j with
      | zero => omega
      | succ j =>
        cases i with
        | zero => exact hn3 b hb b (List.mem_flatMap.2 ⟨_, List.getElem_mem (by simpa using hj), hb2⟩) rfl
        | succ i => exact ih hn2 i j (by simpa using hi) (by simpa using hj) (by omega) b hb hb2
  rcases Nat.lt_or_gt_of_ne hji with h | h
  · exact key x.xs h2 j i hj hi h b hb2 hb
  · exact key x.xs h2 i j hi hj h b hb hb2

theorem fr_elem {lo : Nat} {w : World} {x : Loc α} (hf : Fr lo w x.fp) {i : Nat} (hi : i < x.xs.length) : Fr lo w (Dat.fp x.xs[i]) := by
  refine ⟨fun b hb => hf.ge b (List.mem_append_right _ (List.mem_flatMap.2 ⟨_, List.getElem_mem hi, hb⟩)), ?_, fun b hb => hf.own b (List.mem_append_right _ (List.mem_flatMap.2 ⟨_, List.getElem_mem hi, hb⟩))⟩
  have hnd := hf.nd
  unfold Loc.fp at hnd
  obtain ⟨-, h2, -⟩ := List.nodup_append.1 hnd
  have key : ∀ (l : List α), (l.flatMap Dat.fp).Nodup → ∀ z ∈ l, (Dat.fp z).Nodup := by
    intro l
    induction l with
    | nil => intro _ z hz; cases hz
    | cons y l ih =>
      intro hn z hz
      rw [List.flatMap_cons] at hn
      obtain ⟨hn1, hn2, -⟩ := List.nodup_append.1 hn
      rcases List.mem_cons.1 hz with rfl | hz
      · exact hn1
      · exact ih hn2 z hz
  exact key _ h2 _ (List.getElem_mem hi)

omit [Dat α] in
theorem blk_of {x : Loc α} {g o : Nat} (ha : x.a = some ⟨g, o, none⟩) {i : Nat} (hi : i < x.xs.length) : x.blk = [g] := by
  unfold Loc.blk
  rw [if_neg (by rintro h; simp [h] at hi), ha]

/-- One element's own memory has been written. -/
theorem Loc.At.inner {lo : Nat} {w w' : World} {x : Loc α} (h : x.At w) (hf : Fr lo w x.fp) {i : Nat} (hi : i < x.xs.length) (y : α) (ht : Touch (Dat.fp x.xs[i]) w w') (he : Dat.enc y = Dat.enc x.xs[i]) (hfp : Dat.fp y = Dat.fp x.xs[i])
    (hy : Dat.At w' y) (hfy : Fr lo w' (Dat.fp x.xs[i])) : (x.re (x.xs.set i y)).At w' ∧ Fr lo w' x.fp ∧ Touch x.fp w w' := by
  obtain ⟨ap1, ap2⟩ := fr_apart hf hi
  have hsub : ∀ b ∈ Dat.fp x.xs[i], b ∈ x.fp := fun b hb => List.mem_append_right _ (List.mem_flatMap.2 ⟨_, List.getElem_mem hi, hb⟩)
  refine ⟨⟨by simp [Loc.re]; exact h.1, h.2.1, fun hn => h.2.2.1 (fun h0 => hn (by simp [Loc.re, h0])), fun a ha j z hz c v hv => ?_, fun z hz => ?_⟩, ?_, ht.mono hsub⟩
  · have hz2 : ∃ z', x.xs[j]? = some z' ∧ Dat.enc z = Dat.enc z' := by
      simp only [Loc.re, List.getElem?_set] at hz
      split at hz
      · rename_i hij; subst hij
        simp only [Option.some.injEq] at hz; subst hz; exact ⟨_, List.getElem?_eq_getElem hi, he⟩
      · exact ⟨z, hz, rfl⟩
    obtain ⟨z', hz', hee⟩ := hz2
    have hc := h.cell ha hz' (j := c) (v := v) (hee ▸ hv)
    refine (World.cell?_of_block (w := w) ?_).trans hc
    have hbl : (a.add (j * Dat.k α + c)).block ∈ x.blk := by
      rw [add_block]
      unfold Loc.blk
      rw [if_neg (by rintro h0; simp [h0] at hi)]
      have : x.a = some a := ha
      rw [this]; simp
    exact ht.block _ (World.block_lt_of_cell? w _ hc) fun hm => ap1 _ hm hbl
  · obtain ⟨j, hj, rfl⟩ := List.getElem_of_mem hz
    simp only [Loc.re, List.length_set] at hj
    simp only [Loc.re, List.getElem_set]
    split
    · exact hy
    · rename_i hij
      exact ht.keepDat (h.elem (List.getElem_mem hj)) fun b hb hb2 => ap2 j hj (fun e => hij e.symm) b hb2 hb
  · refine ⟨hf.ge, hf.nd, fun b hb => ?_⟩
    by_cases hm : b ∈ Dat.fp x.xs[i]
    · exact hfy.own b hm
    · rw [ht.block b (hf.lt b hb) hm]; exact hf.own b hb

/-- One cell of one element has been written. -/
theorem Loc.At.store {lo : Nat} {w : World} {x : Loc α} (h : x.At w) (hf : Fr lo w x.fp) {g o i j : Nat} (ha : x.a = some ⟨g, o, none⟩) (hi : i < x.xs.length) (y : α) (v : Value) (hj : j < Dat.k α)
    (he : Dat.enc y = (Dat.enc x.xs[i]).set j v) (hfp : Dat.fp y = Dat.fp x.xs[i]) (hy : Dat.At w y) :
    (x.re (x.xs.set i y)).At (w.setCell ⟨g, o + i * Dat.k α + j, none⟩ v) ∧ Fr lo (w.setCell ⟨g, o + i * Dat.k α + j, none⟩ v) x.fp ∧ Touch x.fp w (w.setCell ⟨g, o + i * Dat.k α + j, none⟩ v) := by
  have hblk := blk_of ha hi
  have hg : g ∈ x.fp := List.mem_append_left _ (by rw [hblk]; exact List.mem_singleton.2 rfl)
  have hnd := hf.nd
  unfold Loc.fp at hnd
  have hgfl : g ∉ x.xs.flatMap Dat.fp := fun hm => (List.nodup_append.1 hnd).2.2 g (by rw [hblk]; exact List.mem_singleton.2 rfl) g hm rfl
  have hkeep : ∀ z : α, Dat.At w z → (∀ b ∈ Dat.fp z, b ∈ x.xs.flatMap Dat.fp) → Dat.At (w.setCell ⟨g, o + i * Dat.k α + j, none⟩ v) z := fun z hz hs =>
    Dat.keep hz fun b hb => Below.heap_setCell _ _ _ _ (fun e => hgfl (by have := hs b hb; rwa [e] at this))
  have hlen := Dat.len x.xs[i]
  refine ⟨⟨by simp [Loc.re]; exact h.1, h.2.1, fun hn => h.2.2.1 (fun h0 => hn (by simp [Loc.re, h0])), fun a ha' m z hz c u hu => ?_, fun z hz => ?_⟩, ?_, Touch.setCell w hg v⟩
  · have ha2 : x.a = some a := ha'
    rw [ha] at ha2
    simp only [Option.some.injEq] at ha2
    subst ha2
    rw [add_lit', ← Nat.add_assoc]
    simp only [Loc.re, List.getElem?_set] at hz
    have hc0 : c < Dat.k α := by have := (List.getElem?_eq_some_iff.1 hu).1; rwa [Dat.len] at this
    by_cases him : i = m
    · subst him
      rw [if_pos rfl, if_pos hi] at hz
      simp only [Option.some.injEq] at hz
      subst hz
      rw [he, List.getElem?_set] at hu
      by_cases hjc : j = c
      · subst hjc
        rw [if_pos rfl, if_pos (by omega)] at hu
        have hold := h.cellK ha hi (j := j) (v := (Dat.enc x.xs[i])[j]'(by omega)) (List.getElem?_eq_getElem (by omega))
        rw [← hu]
        exact World.cell?_setCell_same _ _ _ hold
      · rw [if_neg hjc] at hu
        rw [World.cell?_setCell_other _ _ _ _ (by first | (simp; done) | (simp; omega))]
        exact h.cellK ha hi hu
    · rw [if_neg him] at hz
      have hm : m < x.xs.length := (List.getElem?_eq_some_iff.1 hz).1
      rw [List.getElem?_eq_getElem hm] at hz
      simp only [Option.some.injEq] at hz
      subst hz
      have hne : i * Dat.k α + j ≠ m * Dat.k α + c := by
        intro e
        have e1 : (i * Dat.k α + j) / Dat.k α = i := by rw [Nat.mul_comm, Nat.mul_add_div (by omega), Nat.div_eq_of_lt hj, Nat.add_zero]
        have e2 : (m * Dat.k α + c) / Dat.k α = m := by rw [Nat.mul_comm, Nat.mul_add_div (by omega), Nat.div_eq_of_lt hc0, Nat.add_zero]
        rw [e, e2] at e1
        exact him e1.symm
      rw [World.cell?_setCell_other _ _ _ _ (by first | (simp; done) | (simp; omega))]
      exact h.cellK ha hm hu
  · obtain ⟨m, hm, rfl⟩ := List.getElem_of_mem hz
    simp only [Loc.re, List.length_set] at hm
    simp only [Loc.re, List.getElem_set]
    split
    · exact hkeep y hy fun b hb => List.mem_flatMap.2 ⟨_, List.getElem_mem hi, hfp ▸ hb⟩
    · exact hkeep _ (h.elem (List.getElem_mem hm)) fun b hb => List.mem_flatMap.2 ⟨_, List.getElem_mem hm, hb⟩
  · refine ⟨hf.ge, hf.nd, fun b hb => ?_⟩
    obtain ⟨cs, e, hb2⟩ := hf.own b hb
    by_cases hbg : b = g
    · subst hbg
      exact ⟨_, _, heap_setCell_same w b _ cs e v hb2⟩
    · exact ⟨cs, e, by rw [Below.heap_setCell _ _ _ _ hbg]; exact hb2⟩

theorem fr_frozen {lo : Nat} {w : World} {x : Loc α} (hf : Fr lo w x.fp) {g o : Nat} (ha : x.a = some ⟨g, o, none⟩) {i : Nat} (hi : i < x.xs.length) (j : Nat) : w.frozen? ⟨g, j, none⟩ = false := by
  obtain ⟨cs, e, h⟩ := hf.own g (List.mem_append_left _ (by rw [blk_of ha hi]; exact List.mem_singleton.2 rfl))
  exact frozen_of_row _ _ _ _ _ h

/-- Behind a mark: the same places, other contents. -/
def MarkPost (lo : Nat) (x : Loc α) (k' : Int) (p : List α → Prop) (w : World) (e : Ending) (w' : World) : Prop :=
  ∃ ys : List α, e = .returned (.int .i64 k') ∧ p ys ∧ ys.map Dat.fp = x.xs.map Dat.fp ∧ (x.re ys).At w' ∧ Fr lo w' x.fp ∧ Touch x.fp w w'
end Go.Proofs.YtdidkfadiaafiaaGreatDoor
