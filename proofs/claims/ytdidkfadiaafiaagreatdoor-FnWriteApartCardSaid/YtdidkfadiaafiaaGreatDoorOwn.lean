/- Slices of one's own that are appended to: what they hold, where their elements lie. -/
import Derived.Test.YtdidkfadiaafiaaGreatDoorFill
import Derived.Laws.OwnMore
import Derived.Laws.AppendOwnNone
namespace Go.Proofs.YtdidkfadiaafiaaGreatDoor
open Go Go.RowKit

variable {α : Type} [Dat α]

/-- A slice's row of cells is one's own, from base on; its elements lie elsewhere. -/
structure Own (base : Nat) (e : TypeId) (w : World) (l : Loc α) : Prop where
  row : w.ownsRow base e (Dat.k α) l.val l.xs.length (l.xs.flatMap Dat.enc)
  els : ∀ x ∈ l.xs, Dat.At w x
  off : ∀ x ∈ l.xs, ∀ b ∈ Dat.fp x, some b ≠ l.val.ownBlock

omit [Dat α] in
theorem Loc.ownBlock_val (l : Loc α) : l.val.ownBlock = l.a.map (·.block) := by
  unfold Loc.val
  cases h : l.a <;> simp [Value.ownBlock]

omit [Dat α] in
theorem Loc.blk_own {l : Loc α} {b : Nat} (hb : b ∈ l.blk) : l.val.ownBlock = some b := by
  obtain ⟨a, x, r, ha, _, rfl⟩ := Loc.mem_blk hb
  rw [Loc.ownBlock_val, ha]; rfl

theorem Own.cases {base : Nat} {e : TypeId} {w : World} {l : Loc α} (h : Own base e w l) :
    (l = ⟨none, 0, []⟩) ∨ ∃ g cap xs cur, l = ⟨some ⟨g, 0, none⟩, cap, xs⟩ ∧ base ≤ g ∧ w.heap[g]? = some (.cells cur e (0, 0)) ∧ xs.length ≤ cap ∧ cap ≤ maxLen ∧ cur.size = cap * Dat.k α ∧
      cur.toList.take (xs.length * Dat.k α) = xs.flatMap Dat.enc := by
  obtain ⟨la, lc, xs⟩ := l
  rcases h.row.2 with ⟨h1, h2⟩ | ⟨g, cap, cur, h1, h2, h3, h4, h5, h6, h7⟩
  · left
    simp only [Loc.val, Value.slice.injEq] at h1
    obtain ⟨rfl, h3, rfl⟩ := h1
    have : xs = [] := List.eq_nil_of_length_eq_zero (by simpa using h3)
    rw [this]
  · right
    simp only [Loc.val, Value.slice.injEq] at h1
    obtain ⟨rfl, _, h9⟩ := h1
    obtain rfl : lc = cap := by simpa using h9
    exact ⟨g, lc, xs, cur, rfl, h2, h3, h4, h5, h6, h7⟩

theorem Own.at_ {base : Nat} {e : TypeId} {w : World} {l : Loc α} (h : Own base e w l) : l.At w := by
  rcases h.cases with rfl | ⟨g, cap, xs, cur, rfl, _, hg, hc, hm, _, ht⟩
  · exact ⟨Nat.le_refl _, Nat.zero_le _, by simp, by simp, by simp⟩
  · exact blk_At hg xs cap ht hc hm h.els

theorem Own.lt {base : Nat} {e : TypeId} {w : World} {l : Loc α} (h : Own base e w l) : ∀ b, l.val.ownBlock = some b → base ≤ b ∧ b < w.heap.size := h.row.lt

theorem Own.keep {base : Nat} {e : TypeId} {w w' : World} {l : Loc α} (h : Own base e w l) (h1 : ∀ b, l.val.ownBlock = some b → w'.heap[b]? = w.heap[b]?) (h2 : ∀ x ∈ l.xs, ∀ b ∈ Dat.fp x, w'.heap[b]? = w.heap[b]?) : Own base e w' l := by
  refine ⟨⟨h.row.1, ?_⟩, fun x hx => Dat.keep (h.els x hx) (h2 x hx), h.off⟩
  rcases h.row.2 with hn | ⟨g, cap, cur, h3, h4, h5, h6⟩
  · exact .inl hn
  · exact .inr ⟨g, cap, cur, h3, h4, by rw [h1 g (by rw [h3]; rfl)]; exact h5, h6⟩

theorem Own.below {base B : Nat} {e : TypeId} {w w' : World} {l : Loc α} (h : Own base e w l) (hb : Below B w w') (h1 : ∀ b, l.val.ownBlock = some b → b < B) (h2 : ∀ x ∈ l.xs, ∀ b ∈ Dat.fp x, b < B) : Own base e w' l :=
  h.keep (fun b hm => hb.block b (h1 b hm)) fun x hx b hm => hb.block b (h2 x hx b hm)
theorem Own.belowAll {base : Nat} {e : TypeId} {w w' : World} {l : Loc α} (h : Own base e w l) (hb : Below w.heap.size w w') : Own base e w' l :=
  h.below hb (fun b hm => (h.lt b hm).2) fun x hx => Dat.lt (h.els x hx)
theorem Own.mono {base base' : Nat} {e : TypeId} {w : World} {l : Loc α} (h : Own base e w l) (hb : base' ≤ base) : Own base' e w l :=
  ⟨⟨h.row.1, h.row.2.imp id fun ⟨g, cap, cur, h1, h2, h3⟩ => ⟨g, cap, cur, h1, Nat.le_trans hb h2, h3⟩⟩, h.els, h.off⟩

theorem Own.nil_ (base : Nat) (e : TypeId) (w : World) : Own (α := α) base e w ⟨none, 0, []⟩ := ⟨World.ownsRow_nil _ _ _ _, by simp, by simp⟩
theorem Own.made (w : World) (e : TypeId) : Own (α := α) w.heap.size e (w.alloc (.cells #[] e)) ⟨some ⟨w.heap.size, 0, none⟩, 0, []⟩ :=
  ⟨World.ownsRow_made w #[] 0 (Nat.le_refl _) (Nat.zero_le _) (by simp), by simp, by simp⟩
theorem Own.of_filling {base g n : Nat} {e : TypeId} {w0 w : World} {ys : List α} (h : Filling w0 g e n ys w) (hn : ys.length = n) (hm : n ≤ maxLen) (hb : base ≤ g) : Own base e w ⟨some ⟨g, 0, .none⟩, n, ys⟩ := by
  obtain ⟨cs, hg, hs, ht⟩ := h.row
  refine ⟨⟨flatMap_len ys, .inr ⟨g, n, cs, rfl, hb, hg, Nat.le_of_eq hn, hm, hs, ht⟩⟩, h.els, fun x hx b hb' hbb => ?_⟩
  have := h.fr.ge b (List.mem_flatMap.2 ⟨x, hx, hb'⟩)
  simp [Loc.val, Value.ownBlock] at hbb
  omega

/-- All of it is one's own, from lo on. -/
theorem Own.fr {lo base : Nat} {e : TypeId} {w : World} {l : Loc α} (h : Own base e w l) (hf : Fr lo w (l.xs.flatMap Dat.fp)) (hl : lo ≤ base) : Fr lo w l.fp := by
  unfold Loc.fp
  refine Fr.append ?_ hf ?_
  · refine ⟨fun b hb => ?_, ?_, fun b hb => ?_⟩
    · have := h.lt b (Loc.blk_own hb); omega
    · unfold Loc.blk; split
      · simp
      · split <;> simp
    · have h1 := Loc.blk_own hb
      rcases h.row.2 with ⟨h2, _⟩ | ⟨g, cap, cur, h2, _, h3, _⟩
      · rw [h2] at h1; cases h1
      · rw [h2] at h1
        simp [Value.ownBlock] at h1
        subst h1
        exact ⟨_, _, h3⟩
  · intro a ha b hb hab
    subst hab
    obtain ⟨x, hx, hb⟩ := List.mem_flatMap.1 hb
    exact h.off x hx a hb (Loc.blk_own ha).symm

/-- What is known of a slice type: its elements' type, its zero, its size. -/
structure Elem (P : Program) (α : Type) [Dat α] (t e : TypeId) : Prop where
  und : P.underlying t = some (.slice e)
  inf : ∃ i z, P.info? e = some i ∧ i.zero = some z ∧ i.size = Dat.k α ∧ i.bytes ≤ 128 ∧ z.cells.size = Dat.k α

theorem flat_cells {w : World} {l : Loc α} (h : l.At w) {a : Addr} (ha : l.a = some a) : ∀ j u, (l.xs.flatMap Dat.enc)[j]? = some u → w.cell? (a.add j) = some u := by
  have key : ∀ (xs : List α) (a : Addr), (∀ i x, xs[i]? = some x → ∀ j v, (Dat.enc x)[j]? = some v → w.cell? (a.add (i * Dat.k α + j)) = some v) → ∀ j u, (xs.flatMap Dat.enc)[j]? = some u → w.cell? (a.add j) = some u := by
    intro xs
    induction xs with
    | nil => intro a _ j u h; simp at h
    | cons x xs ih =>
      intro a hx j u h
      rw [List.flatMap_cons] at h
      by_cases hj : j < (Dat.enc x).length
      · rw [List.getElem?_append_left hj] at h
        have := hx 0 x rfl j u h
        rwa [Nat.zero_mul, Nat.zero_add] at this
      · rw [List.getElem?_append_right (by omega), Dat.len] at h
        rw [Dat.len] at hj
        have := ih (a.add (Dat.k α)) (fun i y hy j v hv => by
          have := hx (i + 1) y (by simpa using hy) j v hv
          rw [Nat.succ_mul] at this
          rw [add_add, show Dat.k α + (i * Dat.k α + j) = i * Dat.k α + Dat.k α + j by omega]
          exact this) (j - Dat.k α) u h
        rwa [add_add, show Dat.k α + (j - Dat.k α) = j by omega] at this
  exact key l.xs a fun i x hx j v hv => h.cell ha hx hv

theorem enc_one (ys : List α) : ∀ u ∈ ys.flatMap Dat.enc, u.oneCell' = true := by
  intro u hu
  obtain ⟨x, _, hx⟩ := List.mem_flatMap.1 hu
  exact Dat.one x u hx

/-- Behind an append: the new slice, the new world. -/
structure Appended (base : Nat) (e : TypeId) (w : World) (l : Loc α) (ys : List α) (l' : Loc α) (w' : World) : Prop where
  xs : l'.xs = l.xs ++ ys
  own : Own base e w' l'
  grown : w.grownBy w' l.val.ownBlock
  ob : ∀ b, l'.val.ownBlock = some b → l.val.ownBlock = some b ∨ w.heap.size ≤ b

theorem Appended.keepAt {β : Type} [Dat β] {base : Nat} {e : TypeId} {w w' : World} {l l' : Loc α} {ys : List α} (h : Appended base e w l ys l' w') {y : β} (hy : Dat.At w y) (hoff : ∀ b ∈ Dat.fp y, some b ≠ l.val.ownBlock) : Dat.At w' y :=
  Dat.keep hy fun b hb => h.grown.block b (Dat.lt hy b hb) (hoff b hb)
theorem Appended.keepLoc {β : Type} [Dat β] {base : Nat} {e : TypeId} {w w' : World} {l l' : Loc α} {ys : List α} (h : Appended base e w l ys l' w') {y : Loc β} (hy : y.At w) (hoff : ∀ b ∈ y.fp, some b ≠ l.val.ownBlock) : y.At w' :=
  Loc.keep_At hy fun b hb => h.grown.block b (Loc.lt_of_At hy b hb) (hoff b hb)
theorem Appended.keepFr {base lo : Nat} {e : TypeId} {w w' : World} {l l' : Loc α} {ys : List α} (h : Appended base e w l ys l' w') {fp : List Nat} (hy : Fr lo w fp) (hoff : ∀ b ∈ fp, some b ≠ l.val.ownBlock) : Fr lo w' fp :=
  hy.keep fun b hb => h.grown.block b (hy.lt b hb) (hoff b hb)
theorem Appended.below {base B : Nat} {e : TypeId} {w0 w w' : World} {l l' : Loc α} {ys : List α} (h : Appended base e w l ys l' w') (hown : Own base e w l) (hb : Below B w0 w) (h1 : B ≤ base) (h2 : B ≤ w.heap.size) : Below B w0 w' :=
  hb.grown h.grown h2 fun k hk => Nat.le_trans h1 (hown.lt k hk).1

theorem run_append_loc {P : Program} (w : World) (base : Nat) (t ty e : TypeId) (E : Elem P α t e)
    (l : Loc α) (hown : Own base e w l) (a : Addr) (m c : Nat) (ys : List α) (hm : m = ys.length) (hnews : ∀ j u, (ys.flatMap Dat.enc)[j]? = some u → w.cell? (a.add j) = some u) (hy : ∀ y ∈ ys, Dat.At w y) (hoff : ∀ y ∈ ys, ∀ b ∈ Dat.fp y, some b ≠ l.val.ownBlock)
    (hlen : l.xs.length + ys.length ≤ 1099511627776) (hbase : base ≤ w.heap.size) :
    ∃ l' w', (Builtin.append_ #[t, t] ty #[l.val, .slice (some a) m c]).run P w = .ok l'.val w' ∧ Appended base e w l ys l' w' := by
  subst hm
  obtain ⟨i, z, hi, hz, hs, hby, hzs⟩ := E.inf
  have hk := Dat.kpos (α := α)
  have h63 : l.xs.length + ys.length ≤ maxLen := by simp only [maxLen]; omega
  have hbytes : (l.xs.length + ys.length) * i.bytes ≤ 140737488355328 := Nat.le_trans (Nat.mul_le_mul hlen hby) (by decide)
  have hnl : (ys.flatMap Dat.enc).length = ys.length * Dat.k α := flatMap_len ys
  have hel : ∀ w', w.grownBy w' l.val.ownBlock → ∀ x ∈ l.xs ++ ys, Dat.At w' x := by
    intro w' hg x hx
    rcases List.mem_append.1 hx with hx | hx
    · exact Dat.keep (hown.els x hx) fun b hb => hg.block b (Dat.lt (hown.els x hx) b hb) (hown.off x hx b hb)
    · exact Dat.keep (hy x hx) fun b hb => hg.block b (Dat.lt (hy x hx) b hb) (hoff x hx b hb)
  have hold : ∀ x ∈ l.xs ++ ys, ∀ b ∈ Dat.fp x, b < w.heap.size ∧ some b ≠ l.val.ownBlock := by
    intro x hx b hb
    rcases List.mem_append.1 hx with hx | hx
    · exact ⟨Dat.lt (hown.els x hx) b hb, hown.off x hx b hb⟩
    · exact ⟨Dat.lt (hy x hx) b hb, hoff x hx b hb⟩
  have fin : ∀ base' v' w', base ≤ base' → w'.ownsRow base' e (Dat.k α) v' (l.xs.length + ys.length) (l.xs.flatMap Dat.enc ++ ys.flatMap Dat.enc) → w.grownBy w' l.val.ownBlock → (∀ b, v'.ownBlock = some b → l.val.ownBlock = some b ∨ w.heap.size ≤ b) →
      ∃ l' : Loc α, v' = l'.val ∧ Appended base e w l ys l' w' := by
    intro base' v' w' hbb hrow hgr hob
    have hlen' : (l.xs ++ ys).length = l.xs.length + ys.length := List.length_append
    rcases hrow.2 with ⟨hv, h0⟩ | ⟨g, cap, cur, hv, hbg, hrest⟩
    · have hnil : l.xs ++ ys = [] := List.eq_nil_of_length_eq_zero (by omega)
      refine ⟨⟨none, 0, []⟩, hv, by rw [hnil], Own.nil_ _ _ _, hgr, fun b hb => by cases hb⟩
    · refine ⟨⟨some ⟨g, 0, none⟩, cap, l.xs ++ ys⟩, by rw [hv]; simp [Loc.val], rfl, ⟨⟨by rw [flatMap_len], .inr ⟨g, cap, cur, rfl, by omega, ?_⟩⟩, hel w' hgr, fun x hx b hb hc => ?_⟩, hgr, fun b hb => ?_⟩
      · simp only [List.flatMap_append, hlen']
        exact hrest
      · obtain ⟨h1, h2⟩ := hold x hx b hb
        have hgb : g = b := by simpa [Loc.val, Value.ownBlock] using hc.symm
        subst hgb
        rcases hob g (by rw [hv]; rfl) with h | h
        · exact h2 h.symm
        · omega
      · exact hob b (by rw [hv]; simpa [Loc.val, Value.ownBlock] using hb)
  rcases hown.cases with rfl | ⟨g, cap, xs, cur, rfl, hbg, hg, hc, hcm, hcs, htake⟩
  · obtain ⟨v', w', hr, hrow, hgr, _⟩ := run_append_own (P := P) w w.heap.size t ty e i z (Dat.k α) i.bytes E.und hi hz hs rfl hzs hk (.slice none 0 0) 0 [] (World.ownsRow_nil _ _ _ _) a ys.length c (ys.flatMap Dat.enc) hnl hnews (enc_one ys) (by simpa using h63) (by simpa using hbytes) (Nat.le_refl _)
    obtain ⟨l', rfl, hap⟩ := fin w.heap.size v' w' hbase (by simpa using hrow) hgr (fun b hb => .inr (hrow.lt b hb).1)
    exact ⟨l', w', hr, hap⟩
  · by_cases hroom : xs.length + ys.length ≤ cap
    · obtain ⟨w', hr, hrow, hgr⟩ := run_append_fits (P := P) w base t ty e i (Dat.k α) E.und hi hs g xs.length cap (xs.flatMap Dat.enc) hown.row a ys.length c (ys.flatMap Dat.enc) hnl hnews (enc_one ys) hroom
      obtain ⟨l', h', hap⟩ := fin base _ w' (Nat.le_refl _) hrow hgr (fun b hb => .inl hb)
      refine ⟨l', w', ?_, hap⟩
      rw [← h']
      exact hr
    · have hge := grownCap_ge w (xs.length + ys.length) cap e
      have hcm2 : grownCap w (xs.length + ys.length) cap e ≤ maxLen := grownCap_le_maxLen w _ cap e h63
      have hl := flatMap_len xs
      have hr := run_append_grow (P := P) w t ty e i z E.und hi hz ⟨g, 0, none⟩ xs.length cap (xs.flatMap Dat.enc) (by rw [hs]; exact hl) (flat_cells hown.at_ rfl) a ys.length c (ys.flatMap Dat.enc) (by rw [hs]; exact hnl) hnews (by omega) (by simp only [maxLen] at h63; omega) (growslice_fits (by omega) hbytes)
      have hrow : (w.drew.alloc (.cells ((xs.flatMap Dat.enc).toArray ++ (ys.flatMap Dat.enc).toArray ++ Builtin.zeroCells z.cells (grownCap w (xs.length + ys.length) cap e - (xs.length + ys.length))) e)).ownsRow w.heap.size e (Dat.k α)
          (.slice (some ⟨w.heap.size, 0, none⟩) (xs.length + ys.length : Nat) (grownCap w (xs.length + ys.length) cap e)) (xs.length + ys.length) (xs.flatMap Dat.enc ++ ys.flatMap Dat.enc) := by
        refine ⟨by rw [List.length_append, hl, hnl, Nat.add_mul], .inr ⟨w.heap.size, _, _, rfl, Nat.le_refl _, heap_alloc_new w.drew _, hge, hcm2, ?_, ?_⟩⟩
        · simp only [Array.size_append, List.size_toArray, size_zeroCells, hzs, hl, hnl, ← Nat.add_mul]
          congr 1
          omega
        · simp only [Array.toList_append, List.append_assoc]
          rw [← List.append_assoc]
          exact List.take_left' (by rw [List.length_append, hl, hnl, Nat.add_mul])
      obtain ⟨l', h', hap⟩ := fin w.heap.size _ _ hbase hrow
        (show w.grownBy (w.drew.alloc _) _ from ⟨rfl, rfl, rfl, by simp, fun k hk _ => Below.heap_alloc w.drew _ k hk⟩) (fun b hb => .inr (by simp [Value.ownBlock] at hb; omega))
      refine ⟨l', _, ?_, hap⟩
      rw [← h']
      exact hr

theorem wpList_append_loc {P : Program} {w : World} {ops : Array Oper} {rest : List Oper} {o : Oper} {a : Act} {Q : Exit → Act → World → Prop} (hgd : o.guard = none) (s x : Operand) (t : TypeId)
    (ho : o.op = .call { callee := .builtin .append, args := #[s, x], argTypes := #[t, t] })
    (base : Nat) (e : TypeId) (E : Elem P α t e) (l : Loc α) (hs : a.eval s = l.val) (hown : Own base e w l)
    (ad : Addr) (m c : Nat) (ys : List α) (hx : a.eval x = .slice (some ad) m c) (hm : m = ys.length) (hnews : ∀ j u, (ys.flatMap Dat.enc)[j]? = some u → w.cell? (ad.add j) = some u) (hy : ∀ y ∈ ys, Dat.At w y) (hoff : ∀ y ∈ ys, ∀ b ∈ Dat.fp y, some b ≠ l.val.ownBlock)
    (hlen : l.xs.length + ys.length ≤ 1099511627776) (hbase : base ≤ w.heap.size)
    (h : ∀ l' w', Appended base e w l ys l' w' → wpList P ops Q rest (a.put o.dst l'.val) w') : wpList P ops Q (o :: rest) a w := by
  refine wpList_plain hgd fun K hK => ?_
  obtain ⟨l', w', hr, h2⟩ := run_append_loc (P := P) w base t o.type e E l hown ad m c ys hm hnews hy hoff hlen hbase
  unfold Oper.wp execOp
  simp only [ho, resolve, invoke, builtin, Sem.run_bind, Sem.run_pure, Result.andThen_ok, List.map_toArray, List.map_cons, List.map_nil, hs, hx, hr]
  exact hK _ _ (h l' w' h2)

/-- Another slice's elements behind one's own. -/
theorem wpList_append_all {P : Program} {w : World} {ops : Array Oper} {rest : List Oper} {o : Oper} {a : Act} {Q : Exit → Act → World → Prop} (hgd : o.guard = none) (s x : Operand) (t : TypeId)
    (ho : o.op = .call { callee := .builtin .append, args := #[s, x], argTypes := #[t, t] })
    (base : Nat) (e : TypeId) (E : Elem P α t e) (l : Loc α) (hs : a.eval s = l.val) (hown : Own base e w l)
    (y : Loc α) (hx : a.eval x = y.val) (hy : y.At w) (hoff : ∀ z ∈ y.xs, ∀ b ∈ Dat.fp z, some b ≠ l.val.ownBlock)
    (hlen : l.xs.length + y.xs.length ≤ 1099511627776) (hbase : base ≤ w.heap.size)
    (h : ∀ l' w', Appended base e w l y.xs l' w' → wpList P ops Q rest (a.put o.dst l'.val) w') : wpList P ops Q (o :: rest) a w := by
  obtain ⟨ya, yc, ys⟩ := y
  cases ya with
  | some ad => exact wpList_append_loc hgd s x t ho base e E l hs hown ad ys.length yc ys hx rfl (flat_cells hy rfl) (fun z hz => hy.elem hz) hoff hlen hbase h
  | none =>
    have hn : ys = [] := by
      cases ys with
      | nil => rfl
      | cons z zs => obtain ⟨a, ha⟩ := hy.addr (by simp); cases ha
    subst hn
    refine wpList_plain hgd fun K hK => ?_
    obtain ⟨i, z, hi, hz, hsz, hby, hzs⟩ := E.inf
    have hrun : (Builtin.append_ #[t, t] o.type #[l.val, .slice none 0 yc]).run P w = .ok l.val w := by
      rcases hown.cases with rfl | ⟨g, cap, xs, cur, rfl, _, _, hnc, _⟩
      · simp [Builtin.append_, Loc.val, run_underlying E.und, sizeOf, typeInfo, hi, Builtin.lenOf, Builtin.firstCells]
      · simp [Builtin.append_, Loc.val, run_underlying E.und, sizeOf, typeInfo, hi, Builtin.lenOf, Builtin.firstCells, hnc, storeCells]
    unfold Oper.wp execOp
    simp only [ho, resolve, invoke, builtin, Sem.run_bind, Sem.run_pure, Result.andThen_ok, List.map_toArray, List.map_cons, List.map_nil, hs, hx]
    simp only [Loc.val, List.length_nil] at hrun ⊢
    rw [hrun]
    exact hK _ _ (h l w ⟨by simp, hown, ⟨rfl, rfl, rfl, Nat.le_refl _, fun _ _ _ => rfl⟩, fun b hb => .inl hb⟩)

/-- A new block's cells are those of the elements. -/
theorem news_new {w : World} {cs : Array Value} {e : TypeId} {g : Nat} (hg : g = w.heap.size) (ys : List α) (h : cs.toList = ys.flatMap Dat.enc) :
    ∀ j u, (ys.flatMap Dat.enc)[j]? = some u → (w.alloc (.cells cs e)).cell? ((⟨g, 0, none⟩ : Addr).add j) = some u := by
  intro j u hu
  subst hg
  rw [add_lit', Nat.zero_add, cell_of_row _ _ _ cs e (0, 0) (heap_alloc_new w _), ← Array.getElem?_toList, h, hu]

/-- What an append of one element asks. -/
structure OneMore (base : Nat) (e : TypeId) (w : World) (l : Loc α) (g : Nat) (y : α) : Prop where
  own : Own base e w l
  news : ∀ j u, ([y].flatMap Dat.enc)[j]? = some u → w.cell? ((⟨g, 0, none⟩ : Addr).add j) = some u
  at_ : Dat.At w y
  off : ∀ b ∈ Dat.fp y, some b ≠ l.val.ownBlock
  few : l.xs.length + 1 ≤ 1099511627776
  lo : base ≤ w.heap.size

theorem one_more {base g : Nat} {e e' : TypeId} {W : World} {cs : Array Value} (l : Loc α) (y : α) (hg : g = W.heap.size) (hcs : cs.toList = Dat.enc y) (hown : Own base e W l) (hy : Dat.At W y) (hoff : ∀ b ∈ Dat.fp y, some b ≠ l.val.ownBlock)
    (hlen : l.xs.length + 1 ≤ 1099511627776) (hlo : base ≤ W.heap.size) : OneMore base e (W.alloc (.cells cs e')) l g y := by
  have hb : Below W.heap.size W (W.alloc (.cells cs e')) := (Below.refl _ _).alloc (Nat.le_refl _) _
  exact ⟨hown.belowAll hb, news_new hg [y] (by simpa using hcs), Dat.belowAll hy hb, hoff, hlen, by simp; omega⟩

theorem wpList_append_one {P : Program} {w : World} {ops : Array Oper} {rest : List Oper} {o : Oper} {a : Act} {Q : Exit → Act → World → Prop} (hgd : o.guard = none) (s x : Operand) (t : TypeId)
    (ho : o.op = .call { callee := .builtin .append, args := #[s, x], argTypes := #[t, t] })
    (base : Nat) (e : TypeId) (E : Elem P α t e) (l : Loc α) (hs : a.eval s = l.val) (g : Nat) (y : α) (hx : a.eval x = .slice (some ⟨g, 0, none⟩) 1 1) (H : OneMore base e w l g y)
    (h : ∀ l' w', Appended base e w l [y] l' w' → wpList P ops Q rest (a.put o.dst l'.val) w') : wpList P ops Q (o :: rest) a w :=
  wpList_append_loc hgd s x t ho base e E l hs H.own ⟨g, 0, none⟩ 1 1 [y] hx rfl H.news (fun z hz => by rw [List.mem_singleton.1 hz]; exact H.at_) (fun z hz b hb => by rw [List.mem_singleton.1 hz] at hb; exact H.off b hb) H.few H.lo h

/-- The relation of a loop that appends new elements: what it holds, all of it one's own from lo on. -/
structure Grows (lo : Nat) (e : TypeId) (w0 : World) (l : Loc α) (w : World) : Prop where
  own : Own lo e w l
  fr : Fr lo w (l.xs.flatMap Dat.fp)
  bel : Below lo w0 w

theorem Grows.start (w : World) (e : TypeId) : Grows (α := α) w.heap.size e w ⟨some ⟨w.heap.size, 0, none⟩, 0, []⟩ (w.alloc (.cells #[] e)) :=
  ⟨Own.made w e, by simpa using Fr.nil _ _, (Below.refl _ _).alloc (Nat.le_refl _) _⟩

theorem Grows.lo {lo : Nat} {e : TypeId} {w0 w : World} {l : Loc α} (h : Grows lo e w0 l w) (h0 : lo ≤ w0.heap.size) : lo ≤ w.heap.size := Nat.le_trans h0 h.bel.size

/-- Between two appends: new memory alone. -/
theorem Grows.later {lo : Nat} {e : TypeId} {w0 w w' : World} {l : Loc α} (h : Grows lo e w0 l w) (h0 : lo ≤ w0.heap.size) (hb : Below w.heap.size w w') : Grows lo e w0 l w' :=
  ⟨h.own.belowAll hb, h.fr.belowAll hb, h.bel.trans (hb.mono (h.lo h0))⟩

/-- One element more, of new memory. -/
theorem Grows.step {lo : Nat} {e : TypeId} {w0 w w' : World} {l l' : Loc α} {ys : List α} (h : Grows lo e w0 l w) (h0 : lo ≤ w0.heap.size) (ha : Appended lo e w l ys l' w') (hf : Fr lo w (ys.flatMap Dat.fp))
    (hd : ∀ a ∈ l.xs.flatMap Dat.fp, ∀ b ∈ ys.flatMap Dat.fp, a ≠ b) (hoff : ∀ y ∈ ys, ∀ b ∈ Dat.fp y, some b ≠ l.val.ownBlock) : Grows lo e w0 l' w' := by
  refine ⟨ha.own, ?_, ha.below h.own h.bel (Nat.le_refl _) (h.lo h0)⟩
  rw [ha.xs, List.flatMap_append]
  refine (ha.keepFr h.fr fun b hb => ?_).append (ha.keepFr hf fun b hb => ?_) hd
  · obtain ⟨x, hx, hb⟩ := List.mem_flatMap.1 hb
    exact h.own.off x hx b hb
  · obtain ⟨x, hx, hb⟩ := List.mem_flatMap.1 hb
    exact hoff x hx b hb

theorem Grows.done {lo : Nat} {e : TypeId} {w0 w : World} {l : Loc α} (h : Grows lo e w0 l w) : l.At w ∧ Fr lo w l.fp := ⟨h.own.at_, h.own.fr h.fr (Nat.le_refl _)⟩
end Go.Proofs.YtdidkfadiaafiaaGreatDoor
