/- New memory: blocks of the call's own, filled element by element. -/
import Derived.Test.YtdidkfadiaafiaaGreatDoorBase
namespace Go.Proofs.YtdidkfadiaafiaaGreatDoor
open Go Go.RowKit

/-- Blocks of one's own: from lo on, each once, none frozen. -/
structure Fr (lo : Nat) (w : World) (fp : List Nat) : Prop where
  ge : ∀ b ∈ fp, lo ≤ b
  nd : fp.Nodup
  own : ∀ b ∈ fp, ∃ cs e, w.heap[b]? = some (.cells cs e (0, 0))

theorem Fr.nil (lo : Nat) (w : World) : Fr lo w [] := ⟨fun _ h => (by cases h), List.nodup_nil, fun _ h => (by cases h)⟩
theorem Fr.mono {lo lo' : Nat} {w : World} {fp : List Nat} (h : Fr lo w fp) (hl : lo' ≤ lo) : Fr lo' w fp := ⟨fun b hb => Nat.le_trans hl (h.ge b hb), h.nd, h.own⟩
theorem Fr.lt {lo : Nat} {w : World} {fp : List Nat} (h : Fr lo w fp) : ∀ b ∈ fp, b < w.heap.size := fun b hb => by
  obtain ⟨cs, e, h⟩ := h.own b hb
  exact (Array.getElem?_eq_some_iff.1 h).1
theorem Fr.keep {lo : Nat} {w w' : World} {fp : List Nat} (h : Fr lo w fp) (hk : ∀ b ∈ fp, w'.heap[b]? = w.heap[b]?) : Fr lo w' fp :=
  ⟨h.ge, h.nd, fun b hb => by rw [hk b hb]; exact h.own b hb⟩
theorem Fr.below {lo B : Nat} {w w' : World} {fp : List Nat} (h : Fr lo w fp) (hb : Below B w w') (hB : ∀ b ∈ fp, b < B) : Fr lo w' fp := h.keep fun b hm => hb.block b (hB b hm)
theorem Fr.belowAll {lo : Nat} {w w' : World} {fp : List Nat} (h : Fr lo w fp) (hb : Below w.heap.size w w') : Fr lo w' fp := h.below hb h.lt
theorem Fr.append {lo : Nat} {w : World} {f g : List Nat} (hf : Fr lo w f) (hg : Fr lo w g) (hd : ∀ a ∈ f, ∀ b ∈ g, a ≠ b) : Fr lo w (f ++ g) :=
  ⟨fun b hb => (List.mem_append.1 hb).elim (hf.ge b) (hg.ge b), List.nodup_append.2 ⟨hf.nd, hg.nd, hd⟩, fun b hb => (List.mem_append.1 hb).elim (hf.own b) (hg.own b)⟩
theorem Fr.sub {lo : Nat} {w : World} {f g : List Nat} (h : Fr lo w f) (hs : g.Sublist f) : Fr lo w g :=
  ⟨fun b hb => h.ge b (hs.subset hb), h.nd.sublist hs, fun b hb => h.own b (hs.subset hb)⟩

def putCells (W : World) (g o : Nat) : List Value → World
  | [] => W
  | v :: vs => putCells (W.setCell ⟨g, o, none⟩ v) g (o + 1) vs

theorem putCells_spec (g : Nat) (e : TypeId) : ∀ (vs : List Value) (W : World) (o : Nat) (cs : Array Value), W.heap[g]? = some (.cells cs e (0, 0)) → o + vs.length ≤ cs.size →
    ∃ cs', (putCells W g o vs).heap[g]? = some (.cells cs' e (0, 0)) ∧ cs'.toList = cs.toList.take o ++ vs ++ cs.toList.drop (o + vs.length) ∧ cs'.size = cs.size ∧
      (∀ b, b ≠ g → (putCells W g o vs).heap[b]? = W.heap[b]?) ∧ Below g W (putCells W g o vs) ∧ (putCells W g o vs).heap.size = W.heap.size
  | [], W, o, cs, h, _ => ⟨cs, h, by simp, rfl, fun _ _ => rfl, Below.refl _ _, rfl⟩
  | v :: vs, W, o, cs, h, hle => by
    simp only [List.length_cons] at hle
    have h1 : (W.setCell ⟨g, o, none⟩ v).heap[g]? = some (.cells (cs.setIfInBounds o v) e (0, 0)) := by
      simp [World.setCell, Array.getElem?_modify, h]
    obtain ⟨cs', a1, a2, a3, a4, a5, a6⟩ := putCells_spec g e vs _ (o + 1) _ h1 (by simp; omega)
    refine ⟨cs', a1, ?_, by rw [a3]; simp, fun b hb => (a4 b hb).trans (Below.heap_setCell _ _ _ _ hb), ((Below.refl g W).setCell (Nat.le_refl _) _).trans a5, by rw [show (putCells W g o (v :: vs)) = putCells (W.setCell ⟨g, o, none⟩ v) g (o + 1) vs from rfl, a6]; simp [World.setCell]⟩
    rw [a2, Array.toList_setIfInBounds]
    have hlt : o < cs.toList.length := by simp; omega
    have e1 : (cs.toList.set o v).take (o + 1) = cs.toList.take o ++ [v] := by
      rw [List.take_succ_eq_append_getElem (by simpa using hlt), List.take_set_of_le (by omega)]
      simp
    rw [e1, List.drop_set_of_lt (by omega)]
    simp only [List.length_cons, List.append_assoc, List.singleton_append, List.cons_append, List.nil_append]
    rw [show o + 1 + vs.length = o + (vs.length + 1) by omega]

variable {α : Type} [Dat α]

/-- A block whose cells begin with those of xs. -/
theorem blk_At {w : World} {g : Nat} {cs : Array Value} {e : TypeId} {fr : Nat × Nat} (hg : w.heap[g]? = some (.cells cs e fr)) (xs : List α) (cap : Nat) (hcs : cs.toList.take (xs.length * Dat.k α) = xs.flatMap Dat.enc)
    (hc : xs.length ≤ cap) (hm : cap ≤ maxLen) (hx : ∀ x ∈ xs, Dat.At w x) : Loc.At w ⟨some ⟨g, 0, none⟩, cap, xs⟩ := by
  refine ⟨hc, hm, fun _ => ⟨_, rfl⟩, fun a ha i x hx' j v hv => ?_, hx⟩
  simp only [Option.some.injEq] at ha
  subst ha
  rw [add_lit', Nat.zero_add, cell_of_row _ _ _ _ _ _ hg]
  have key : ∀ (l : List α) (i : Nat) (x : α), l[i]? = some x → (l.flatMap Dat.enc)[i * Dat.k α + j]? = some v ∨ (Dat.enc x)[j]? ≠ some v := by
    intro l
    induction l with
    | nil => intro i x h; simp at h
    | cons y l ih =>
      intro i x h
      have hlen := Dat.len y
      cases i with
      | zero =>
        simp at h; subst h
        by_cases hj : (Dat.enc y)[j]? = some v
        · left
          have hlt := (List.getElem?_eq_some_iff.1 hj).1
          rw [List.flatMap_cons, Nat.zero_mul, Nat.zero_add, List.getElem?_append_left hlt, hj]
        · exact .inr hj
      | succ i =>
        rcases ih i x (by simpa using h) with h1 | h1
        · left
          rw [List.flatMap_cons, List.getElem?_append_right (by rw [hlen, Nat.succ_mul]; omega), hlen, Nat.succ_mul]
          rw [← h1]; congr 1; omega
        · exact .inr h1
  have h2 := (key xs i x hx').resolve_right (fun h => h hv)
  have hj : j < Dat.k α := by have := (List.getElem?_eq_some_iff.1 hv).1; rwa [Dat.len] at this
  have hi : i < xs.length := (List.getElem?_eq_some_iff.1 hx').1
  have hlt : i * Dat.k α + j < xs.length * Dat.k α := by
    have : (i + 1) * Dat.k α ≤ xs.length * Dat.k α := Nat.mul_le_mul_right _ hi
    rw [Nat.succ_mul] at this; omega
  rw [← hcs, List.getElem?_take, if_pos hlt] at h2
  rw [← h2]; simp

/-- A new row of n elements, the first of which are ys. -/
structure Filling (w0 : World) (g : Nat) (e : TypeId) (n : Nat) (ys : List α) (wr : World) : Prop where
  row : ∃ cs, wr.heap[g]? = some (.cells cs e (0, 0)) ∧ cs.size = n * Dat.k α ∧ cs.toList.take (ys.length * Dat.k α) = ys.flatMap Dat.enc
  els : ∀ y ∈ ys, Dat.At wr y
  fr : Fr (g + 1) wr (ys.flatMap Dat.fp)
  bel : Below g w0 wr

theorem Filling.start (w : World) (cs : Array Value) (e : TypeId) (n : Nat) (hs : cs.size = n * Dat.k α) : Filling (α := α) w w.heap.size e n [] (w.alloc (.cells cs e)) :=
  ⟨⟨cs, heap_alloc_new w _, hs, by simp⟩, fun _ h => (by cases h), by simpa using Fr.nil _ _, (Below.refl _ _).alloc (Nat.le_refl _) _⟩

theorem flatMap_len (ys : List α) : (ys.flatMap Dat.enc).length = ys.length * Dat.k α := by
  induction ys with
  | nil => simp
  | cons y ys ih => rw [List.flatMap_cons, List.length_append, ih, Dat.len, List.length_cons, Nat.succ_mul]; omega

theorem Filling.lt {w0 wr : World} {g : Nat} {e : TypeId} {n : Nat} {ys : List α} (h : Filling w0 g e n ys wr) : g < wr.heap.size := by
  obtain ⟨cs, hg, _⟩ := h.row
  exact (Array.getElem?_eq_some_iff.1 hg).1

theorem Filling.slot {w0 wr : World} {g : Nat} {e : TypeId} {n : Nat} {ys : List α} (h : Filling w0 g e n ys wr) {w' : World} (hb : Below wr.heap.size wr w') (hn : ys.length < n) {j : Nat} (hj : j < Dat.k α) :
    (∃ v, w'.cell? ⟨g, ys.length * Dat.k α + j, none⟩ = some v) ∧ w'.frozen? ⟨g, ys.length * Dat.k α + j, none⟩ = false := by
  obtain ⟨cs, hg, hs, _⟩ := h.row
  have hg' : w'.heap[g]? = some (.cells cs e (0, 0)) := (hb.block g h.lt).trans hg
  have hlt : ys.length * Dat.k α + j < cs.size := by
    have : (ys.length + 1) * Dat.k α ≤ n * Dat.k α := Nat.mul_le_mul_right _ hn
    rw [Nat.succ_mul] at this; omega
  exact ⟨⟨_, by rw [cell_of_row _ _ _ _ _ _ hg', Array.getElem?_eq_getElem hlt]⟩, frozen_of_row _ _ _ _ _ hg'⟩

theorem Filling.step {w0 wr : World} {g : Nat} {e : TypeId} {n : Nat} {ys : List α} (h : Filling w0 g e n ys wr) {w' : World} (hb : Below wr.heap.size wr w') (hn : ys.length < n) {y : α}
    (hy : Dat.At w' y) (hf : Fr wr.heap.size w' (Dat.fp y)) : Filling w0 g e n (ys ++ [y]) (putCells w' g (ys.length * Dat.k α) (Dat.enc y)) := by
  obtain ⟨cs, hg, hs, ht⟩ := h.row
  have hlt := h.lt
  have hg' : w'.heap[g]? = some (.cells cs e (0, 0)) := (hb.block g hlt).trans hg
  have hle : ys.length * Dat.k α + (Dat.enc y).length ≤ cs.size := by
    have : (ys.length + 1) * Dat.k α ≤ n * Dat.k α := Nat.mul_le_mul_right _ hn
    rw [Nat.succ_mul] at this; rw [Dat.len]; omega
  obtain ⟨cs', a1, a2, a3, a4, a5, a6⟩ := putCells_spec g e (Dat.enc y) w' _ cs hg' hle
  have hfold : ∀ b ∈ ys.flatMap Dat.fp, b ≠ g ∧ b < wr.heap.size := fun b hb => ⟨by have := h.fr.ge b hb; omega, h.fr.lt b hb⟩
  refine ⟨⟨cs', a1, by rw [a3, hs], ?_⟩, ?_, ?_, ?_⟩
  · rw [List.length_append, List.length_singleton, Nat.succ_mul, a2, ht, List.flatMap_append, List.flatMap_singleton, List.take_append_of_le_length (by rw [List.length_append, flatMap_len, Dat.len]; exact Nat.le_refl _)]
    exact List.take_of_length_le (by rw [List.length_append, flatMap_len, Dat.len]; exact Nat.le_refl _)
  · intro z hz
    rcases List.mem_append.1 hz with hz | hz
    · have h1 := h.els z hz
      refine Dat.keep (Dat.belowAll h1 hb) fun b hb' => a4 b ?_
      exact (hfold b (List.mem_flatMap.2 ⟨z, hz, hb'⟩)).1
    · obtain rfl := List.mem_singleton.1 hz
      exact Dat.keep hy fun b hb' => a4 b (by have := hf.ge b hb'; omega)
  · rw [List.flatMap_append, List.flatMap_singleton]
    refine Fr.append ?_ ?_ ?_
    · refine (h.fr.belowAll hb).keep fun b hb' => a4 b (hfold b hb').1
    · exact (hf.mono (by omega)).keep fun b hb' => a4 b (by have := hf.ge b hb'; omega)
    · intro a ha b hb' hab
      have h1 := (hfold a ha).2
      have h2 := hf.ge b hb'
      omega
  · exact h.bel.trans ((hb.mono (Nat.le_of_lt hlt)).trans a5)

theorem Filling.done {w0 wr : World} {g : Nat} {e : TypeId} {n : Nat} {ys : List α} (h : Filling w0 g e n ys wr) (hn : ys.length = n) (hm : n ≤ maxLen) :
    Loc.At wr ⟨some ⟨g, 0, none⟩, n, ys⟩ ∧ Fr g wr (Loc.fp ⟨some ⟨g, 0, none⟩, n, ys⟩) := by
  obtain ⟨cs, hg, hs, ht⟩ := h.row
  refine ⟨blk_At hg ys n ht (Nat.le_of_eq hn) hm h.els, ?_⟩
  unfold Loc.fp Loc.blk
  by_cases hy : ys = []
  · subst hy; simpa using Fr.nil _ _
  · simp only [hy, if_false]
    refine Fr.append ⟨fun b hb => ?_, by simp, fun b hb => ?_⟩ (h.fr.mono (by omega)) ?_
    · simp at hb; omega
    · simp at hb; subst hb; exact ⟨_, _, hg⟩
    · intro a ha b hb
      simp at ha; subst ha
      have := h.fr.ge b hb
      omega
end Go.Proofs.YtdidkfadiaafiaaGreatDoor
