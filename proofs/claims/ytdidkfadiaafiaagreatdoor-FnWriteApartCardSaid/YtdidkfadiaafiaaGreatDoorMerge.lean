/- The reference's l2Merge, l3Sibs: all of two lists that no other one knows. -/
import Derived.Test.YtdidkfadiaafiaaGreatDoorPut
namespace Go.Proofs.YtdidkfadiaafiaaGreatDoor
open Go Go.RowKit

/-- All of two lists, each where it stands. -/
def allL (a b : List Sib) : List Sib := b.foldl (fun l s => putL (cmpSib s) s l) a
def keptL (l : List Sib) : List Sib := l.filter fun s => !l.any fun t => supB s t
def mergeL (a b : List Sib) : List Sib := keptL (allL a b)

def allLoc (a b : List LSib) : List LSib := b.foldl (fun l s => putL (cmpTo s) s l) a
theorem allLoc_er (a b : List LSib) : (allLoc a b).map LSib.er = allL (a.map LSib.er) (b.map LSib.er) := by
  unfold allLoc allL
  induction b generalizing a with
  | nil => rfl
  | cons s b ih =>
    rw [List.foldl_cons, ih, List.map_cons, List.foldl_cons]
    congr 1
    exact putL_map LSib.er (cmpSib s.er) s a
theorem allLoc_take {a b : List LSib} {k : Nat} (h : k < b.length) : allLoc a (b.take (k + 1)) = putL (cmpTo b[k]) b[k] (allLoc a (b.take k)) := by
  unfold allLoc
  rw [List.take_succ_eq_append_getElem h, List.foldl_append]; rfl
theorem allLoc_len (a b : List LSib) : (allLoc a b).length ≤ a.length + b.length := by
  unfold allLoc
  induction b generalizing a with
  | nil => simp
  | cons s b ih =>
    rw [List.foldl_cons]
    have h1 := ih (putL (cmpTo s) s a)
    have h2 := putL_len (cmpTo s) s a
    simp only [List.length_cons]; omega
theorem allLoc_mem (a b : List LSib) : ∀ y ∈ allLoc a b, y ∈ a ∨ y ∈ b := by
  unfold allLoc
  induction b generalizing a with
  | nil => intro y hy; exact .inl hy
  | cons s b ih =>
    intro y hy
    rw [List.foldl_cons] at hy
    rcases ih _ y hy with h | h
    · rcases putL_mem _ _ _ y h with h | h
      · exact .inr (by rw [h]; exact List.mem_cons_self)
      · exact .inl h
    · exact .inr (List.mem_cons_of_mem _ h)
theorem any_take {α : Type} (p : α → Bool) {l : List α} {k : Nat} (h : k < l.length) : (l.take (k + 1)).any p = ((l.take k).any p || p l[k]) := by
  rw [List.take_succ_eq_append_getElem h, List.any_append]; simp
theorem filter_take {α : Type} (p : α → Bool) {l : List α} {k : Nat} (h : k < l.length) : (l.take (k + 1)).filter p = (l.take k).filter p ++ if p l[k] then [l[k]] else [] := by
  rw [List.take_succ_eq_append_getElem h, List.filter_append]
  cases hp : p l[k] <;> simp [List.filter, hp]

theorem filter_map_take {α β : Type} (p : β → Bool) (f : α → β) {l : List α} {k : Nat} (h : k < l.length) : ((l.take (k + 1)).map f).filter p = ((l.take k).map f).filter p ++ if p (f l[k]) then [f l[k]] else [] := by
  have := filter_take p (l := l.map f) (k := k) (by simpa using h)
  rw [List.getElem_map] at this
  rw [List.map_take, List.map_take]
  exact this

/-- A new slice of one's own that reads as told. -/
def NewOwn {α : Type} [Dat α] (t : TypeId) (w : World) (p : List α → Prop) (e : Ending) (w' : World) : Prop :=
  ∃ y : Loc α, e = .returned y.val ∧ p y.xs ∧ Own w.heap.size t w' y ∧ Fr w.heap.size w' (y.xs.flatMap Dat.fp) ∧ Below w.heap.size w w'
theorem NewOwn.post {α : Type} [Dat α] {t : TypeId} {w : World} {p : List α → Prop} {e : Ending} {w' : World} : NewOwn t w p e w' → NewPost w p e w' := fun ⟨y, h1, h2, h3, h4, h5⟩ => ⟨y, h1, h2, h3.at_, h3.fr h4 (Nat.le_refl _), h5⟩

theorem allL_mem (a b : List Sib) : ∀ y ∈ allL a b, y ∈ a ∨ y ∈ b := by
  unfold allL
  induction b generalizing a with
  | nil => intro y hy; exact .inl hy
  | cons s b ih =>
    intro y hy
    rw [List.foldl_cons] at hy
    rcases ih _ y hy with h | h
    · rcases putL_mem _ _ _ y h with h | h
      · exact .inr (by rw [h]; exact List.mem_cons_self)
      · exact .inl h
    · exact .inr (List.mem_cons_of_mem _ h)
theorem allL_len (a b : List Sib) : (allL a b).length ≤ a.length + b.length := by
  unfold allL
  induction b generalizing a with
  | nil => simp
  | cons s b ih =>
    rw [List.foldl_cons]
    have h1 := ih (putL (cmpSib s) s a)
    have h2 := putL_len (cmpSib s) s a
    simp only [List.length_cons]; omega
theorem mergeL_mem (a b : List Sib) : ∀ y ∈ mergeL a b, y ∈ a ∨ y ∈ b := fun y hy => allL_mem a b y (List.mem_filter.1 hy).1
theorem mergeL_len (a b : List Sib) : (mergeL a b).length ≤ a.length + b.length := Nat.le_trans (List.length_filter_le _ _) (allL_len a b)

set_option maxRecDepth 100000 in
set_option maxHeartbeats 2000000 in
theorem l2Merge_own (x y : Loc LSib) (w : World) (hx : x.At w) (hy : y.At w) (hnx : x.xs.length ≤ 500000) (hny : y.xs.length ≤ 500000) (hvx : ∀ s ∈ x.xs, s.vv.xs.length = 3) (hvy : ∀ s ∈ y.xs, s.vv.xs.length = 3) :
    Calls Tryz.prog 77 #[x.val, y.val] w (NewOwn 42 w (fun ys : List LSib => ys.map LSib.er = mergeL (x.xs.map LSib.er) (y.xs.map LSib.er))) := by
  obtain ⟨ya, yc, ys⟩ := y
  have hy1 := hy.lenMax
  show Calls Tryz.prog 77 #[x.val, Value.slice ya ys.length yc] w _
  simp only at hnx hny hvx hvy hy1
  have HX := Lib.hid hx
  have HY := Lib.hid hy
  have HNX := Lib.hid hnx
  have HNY := Lib.hid hny
  have HVX := Lib.hid hvx
  have HVY := Lib.hid hvy
  have HO0 := Lib.hid (Own.made (α := LSib) w 42)
  have HB0 := Lib.hid ((Below.refl w.heap.size w).alloc (Nat.le_refl _) (Obj.cells #[] 42))
  clear hx hy hnx hny hvx hvy
  go_enter Tryz.func77, Tryz.ntmps77
  go_wp2_with (at_builtin; refine wpList_append_all rfl _ _ 37 rfl w.heap.size 42 elem_sib ⟨some ⟨w.heap.size, 0, none⟩, 0, []⟩ rfl HO0.out x rfl (HX.out.belowAll HB0.out) (fun z hz b hb h => by have := Loc.lt_of_At HX.out b (List.mem_append_right _ (List.mem_flatMap.2 ⟨z, hz, hb⟩)); simp [Loc.val, Value.ownBlock] at h; omega) (by have := HNX.out; simp; omega) (by simp) ?_)
  intro l0 w0 hap
  have hl0 : l0.xs = x.xs := by rw [hap.xs]; rfl
  have HL0 := Lib.hid hl0
  have HA0 := Lib.hid hap.own.at_
  have HW0 := Lib.hid (hap.below HO0.out HB0.out (Nat.le_refl _) (by simp))
  clear hap hl0
  go_wp2_with fail
  go_loopw [5, 6] (fun o i wr => ∃ (k : Nat) (l : Loc LSib), k ≤ ys.length ∧ i = .int .i64 k ∧ o = l.val ∧ l.xs = allLoc x.xs (ys.take k) ∧ l.At wr ∧ Below w.heap.size w wr) (fun _ i _ => ys.length - (intOf i).toNat)
  case atStart => exact ⟨0, l0, Nat.zero_le _, rfl, rfl, HL0.out, HA0.out, HW0.out⟩
  case round =>
    obtain ⟨k, l, hk, rfl, rfl, hl, hA, hB⟩ := hrel
    have HL := Lib.hid hl
    have HA := Lib.hid hA
    have HB := Lib.hid hB
    clear hl hA hB
    have hlen : l.xs.length ≤ 1000000 := by
      have := allLoc_len x.xs (ys.take k)
      have h2 := HNX.out
      have h3 := HNY.out
      rw [List.length_take] at this
      rw [HL.out]; omega
    have HVL : Hid (∀ s ∈ l.xs, s.vv.xs.length = 3) := Lib.hid (by
      intro s hs
      rw [HL.out] at hs
      rcases allLoc_mem _ _ s hs with h | h
      · exact HVX.out s h
      · exact HVY.out s (List.mem_of_mem_take h))
    have HLEN := Lib.hid hlen
    clear hlen
    by_cases hlt : k < ys.length
    · obtain ⟨a, ao, ha⟩ := HY.out.place hlt
      simp only at ha
      subst ha
      have hc1 := (HY.out.belowAll HB.out).sib rfl hlt
      simp only at hc1
      obtain ⟨c0, c1, c2⟩ := hc1
      have HE := Lib.hid ((HY.out.belowAll HB.out).elem (List.getElem_mem hlt))
      have hc := Lib.hid (l2Put_any l ys[k] wr HA.out HE.out (by have := HLEN.out; omega) HVL.out (HVY.out _ (List.getElem_mem hlt)))
      go_wp2_with fail
      refine hc.out.mono ?_
      rintro e w1 ⟨l1, rfl, hl1, hO1, hB1⟩
      have HL1 := Lib.hid hl1
      have HO1 := Lib.hid hO1
      have HB1 := Lib.hid hB1
      clear hl1 hO1 hB1 c0 c1 c2 hc
      go_wp2_with fail
      go_roundw
      case rel => exact ⟨k + 1, l1, by omega, by go_num, rfl, by rw [HL1.out, HL.out, allLoc_take hlt], HO1.out.at_, HB.out.trans (HB1.out.mono HB.out.size)⟩
      case measure => simp [intOf]; omega
    · have hkk : k = ys.length := by omega
      subst hkk
      have hfin : l.xs = allLoc x.xs ys := by have := HL.out; rwa [List.take_length] at this
      have HFIN := Lib.hid hfin
      clear hfin HL
      obtain ⟨xa, xc, xs⟩ := l
      simp only [Loc.val] at HFIN HVL HLEN HA ⊢
      have h1 : xs.length ≤ 9223372036854775807 := by have := HLEN.out; omega
      obtain ⟨W1, hW1⟩ : ∃ W1 : World, W1 = wr := ⟨_, rfl⟩
      subst hW1
      have HG0 := Lib.hid (Grows.start (α := LSib) W1 42)
      go_wp2_with fail
      go_loopw [7, 8] (fun o i wr => ∃ (k : Nat) (g : Loc LSib), k ≤ xs.length ∧ i = .int .i64 k ∧ o = g.val ∧ g.xs.map LSib.er = ((xs.take k).map LSib.er).filter (fun s => !(xs.map LSib.er).any fun t => supB s t) ∧ Grows W1.heap.size 42 W1 g wr) (fun _ i _ => xs.length - (intOf i).toNat)
      case atStart => exact ⟨0, _, Nat.zero_le _, rfl, rfl, rfl, HG0.out⟩
      case round =>
        obtain ⟨k, g, hk, rfl, rfl, hg, hG⟩ := hrel
        have HGX := Lib.hid hg
        have HG := Lib.hid hG
        clear hg hG
        by_cases hlt : k < xs.length
        · obtain ⟨a, ao, ha⟩ := HA.out.place hlt
          simp only at ha
          subst ha
          have HLK := Lib.hid (show xs[k].vv.xs.length = 3 from HVL.out _ (List.getElem_mem hlt))
          obtain ⟨W2, hW2⟩ : ∃ W2 : World, W2 = wr := ⟨_, rfl⟩
          subst hW2
          go_wp2_with fail
          go_loopw [9, 10] (fun b i wq => ∃ q : Nat, q ≤ xs.length ∧ i = .int .i64 q ∧ b = .bool ((xs.take q).any fun t => supB xs[k].er t.er) ∧ Below W2.heap.size W2 wq) (fun _ i _ => xs.length - (intOf i).toNat)
          case atStart => exact ⟨0, Nat.zero_le _, rfl, rfl, Below.refl _ _⟩
          case round =>
            obtain ⟨q, hq, rfl, rfl, hbq⟩ := hrel
            obtain ⟨wq, hwq⟩ : ∃ wq : World, wq = wr := ⟨_, rfl⟩
            subst hwq
            have HBQ := Lib.hid hbq
            clear hbq
            have hAq := Lib.hid ((HA.out.belowAll HG.out.bel).belowAll (HBQ.out.mono (Nat.le_refl _)))
            by_cases hql : q < xs.length
            · have HLQ := Lib.hid (show xs[q].vv.xs.length = 3 from HVL.out _ (List.getElem_mem hql))
              have hat := any_take (fun t : LSib => supB xs[k].er t.er) hql
              have HAT := Lib.hid hat
              clear hat
              generalize hb0 : ((xs.take q).any fun t => supB xs[k].er t.er) = b0 at *
              generalize hu1 : supB xs[k].er xs[q].er = u at *
              have HU1 := Lib.hid hu1
              clear hu1 hb0
              cases b0 with
              | true =>
                go_wp2_with fail
                have HF : Hid (∀ w', Below wq.heap.size wq w' → (w'.cell? ⟨a, ao + k * 3, none⟩ = some xs[k].vv.val ∧ w'.cell? ⟨a, ao + k * 3 + 1, none⟩ = some (.bool xs[k].gone) ∧ w'.cell? ⟨a, ao + k * 3 + 2, none⟩ = some (.string xs[k].text)) ∧
                    (w'.cell? ⟨a, ao + q * 3, none⟩ = some xs[q].vv.val ∧ w'.cell? ⟨a, ao + q * 3 + 1, none⟩ = some (.bool xs[q].gone) ∧ w'.cell? ⟨a, ao + q * 3 + 2, none⟩ = some (.string xs[q].text))) := fun w' h =>
                  ⟨(hAq.out.belowAll h).sib rfl hlt, (hAq.out.belowAll h).sib rfl hql⟩
                refine wp_region_inv 12 (by kernel_rfl) (by kernel_rfl) (fun w' => Below wq.heap.size wq w') (Below.refl _ _).drew ?_
                simp only [List.take_succ_cons, List.take_zero, List.drop_succ_cons, List.drop_zero]
                refine' wpInv_step (by rfl) (fun w' hI => ?_) ?_
                rotate_left
                · have hf := HF.out w' hI
                  unfold invAt
                  go_simp
                  first | exact rfl | exact ⟨rfl, hI⟩
                simp only [Act.put, List.setIfInBounds_toArray, List.set_cons_zero, List.set_cons_succ]
                refine' wpInv_step (by rfl) (fun w' hI => ?_) ?_
                rotate_left
                · have hf := HF.out w' hI
                  unfold invAt
                  go_simp
                  first | exact rfl | exact ⟨rfl, hI⟩
                simp only [Act.put, List.setIfInBounds_toArray, List.set_cons_zero, List.set_cons_succ]
                refine wpInv_pass (by rfl) ?_
                simp only [Act.put, List.setIfInBounds_toArray, List.set_cons_zero, List.set_cons_succ]
                refine wpInv_pass (by rfl) ?_
                simp only [Act.put, List.setIfInBounds_toArray, List.set_cons_zero, List.set_cons_succ]
                refine wpInv_pass (by rfl) ?_
                simp only [Act.put, List.setIfInBounds_toArray, List.set_cons_zero, List.set_cons_succ]
                refine wpInv_pass (by rfl) ?_
                simp only [Act.put, List.setIfInBounds_toArray, List.set_cons_zero, List.set_cons_succ]
                refine wpInv_pass (by rfl) ?_
                simp only [Act.put, List.setIfInBounds_toArray, List.set_cons_zero, List.set_cons_succ]
                refine wpInv_pass (by rfl) ?_
                simp only [Act.put, List.setIfInBounds_toArray, List.set_cons_zero, List.set_cons_succ]
                refine wpInv_pass (by rfl) ?_
                simp only [Act.put, List.setIfInBounds_toArray, List.set_cons_zero, List.set_cons_succ]
                refine wpInv_pass (by rfl) ?_
                simp only [Act.put, List.setIfInBounds_toArray, List.set_cons_zero, List.set_cons_succ]
                refine wpInv_pass (by rfl) ?_
                simp only [Act.put, List.setIfInBounds_toArray, List.set_cons_zero, List.set_cons_succ]
                refine' wpInv_step (by rfl) (fun w' hI => ?_) ?_
                rotate_left
                · have hf := HF.out w' hI
                  unfold invAt
                  go_simp
                  first | exact rfl | exact ⟨rfl, hI⟩
                simp only [Act.put, List.setIfInBounds_toArray, List.set_cons_zero, List.set_cons_succ]
                intro w1 hI
                go_wp2_with fail
                go_roundw
                case rel => exact ⟨q + 1, by omega, by go_num, by rw [HAT.out]; rfl, HBQ.out.trans (hI.mono HBQ.out.size)⟩
                case measure => simp [intOf]; omega
              | false =>
                go_wp2_with fail
                have HF : Hid (∀ w', Below wq.heap.size wq w' → (w'.cell? ⟨a, ao + k * 3, none⟩ = some xs[k].vv.val ∧ w'.cell? ⟨a, ao + k * 3 + 1, none⟩ = some (.bool xs[k].gone) ∧ w'.cell? ⟨a, ao + k * 3 + 2, none⟩ = some (.string xs[k].text)) ∧
                    (w'.cell? ⟨a, ao + q * 3, none⟩ = some xs[q].vv.val ∧ w'.cell? ⟨a, ao + q * 3 + 1, none⟩ = some (.bool xs[q].gone) ∧ w'.cell? ⟨a, ao + q * 3 + 2, none⟩ = some (.string xs[q].text))) := fun w' h =>
                  ⟨(hAq.out.belowAll h).sib rfl hlt, (hAq.out.belowAll h).sib rfl hql⟩
                refine wp_region_inv 12 (by kernel_rfl) (by kernel_rfl) (fun w' => Below wq.heap.size wq w') (Below.refl _ _).drew ?_
                simp only [List.take_succ_cons, List.take_zero, List.drop_succ_cons, List.drop_zero]
                refine' wpInv_step (by rfl) (fun w' hI => ?_) ?_
                rotate_left
                · have hf := HF.out w' hI
                  unfold invAt
                  go_simp
                  first | exact rfl | exact ⟨rfl, hI⟩
                simp only [Act.put, List.setIfInBounds_toArray, List.set_cons_zero, List.set_cons_succ]
                refine' wpInv_step (by rfl) (fun w' hI => ?_) ?_
                rotate_left
                · have hf := HF.out w' hI
                  unfold invAt
                  go_simp
                  first | exact rfl | exact ⟨rfl, hI⟩
                simp only [Act.put, List.setIfInBounds_toArray, List.set_cons_zero, List.set_cons_succ]
                refine' wpInv_step (by rfl) (fun w' hI => ?_) ?_
                rotate_left
                · have hf := HF.out w' hI
                  unfold invAt
                  go_simp
                  first | exact rfl | exact ⟨rfl, hI⟩
                simp only [Act.put, List.setIfInBounds_toArray, List.set_cons_zero, List.set_cons_succ]
                refine' wpInv_step (by rfl) (fun w' hI => ?_) ?_
                rotate_left
                · have hf := HF.out w' hI
                  unfold invAt
                  go_simp
                  first | exact rfl | exact ⟨rfl, hI⟩
                simp only [Act.put, List.setIfInBounds_toArray, List.set_cons_zero, List.set_cons_succ]
                refine' wpInv_step (by rfl) (fun w' hI => ?_) ?_
                rotate_left
                · have hf := HF.out w' hI
                  unfold invAt
                  go_simp
                  first | exact rfl | exact ⟨rfl, hI⟩
                simp only [Act.put, List.setIfInBounds_toArray, List.set_cons_zero, List.set_cons_succ]
                refine' wpInv_step (by rfl) (fun w' hI => ?_) ?_
                rotate_left
                · have hf := HF.out w' hI
                  unfold invAt
                  go_simp
                  first | exact rfl | exact ⟨rfl, hI⟩
                simp only [Act.put, List.setIfInBounds_toArray, List.set_cons_zero, List.set_cons_succ]
                refine' wpInv_step (by rfl) (fun w' hI => ?_) ?_
                rotate_left
                · have hf := HF.out w' hI
                  unfold invAt
                  go_simp
                  first | exact rfl | exact ⟨rfl, hI⟩
                simp only [Act.put, List.setIfInBounds_toArray, List.set_cons_zero, List.set_cons_succ]
                refine' wpInv_step (by rfl) (fun w' hI => ?_) ?_
                rotate_left
                · have hf := HF.out w' hI
                  unfold invAt
                  go_simp
                  first | exact rfl | exact ⟨rfl, hI⟩
                simp only [Act.put, List.setIfInBounds_toArray, List.set_cons_zero, List.set_cons_succ]
                refine' wpInv_step (by rfl) (fun w' hI => ?_) ?_
                rotate_left
                · have hf := HF.out w' hI
                  unfold invAt
                  go_simp
                  first | exact rfl | exact ⟨rfl, hI⟩
                simp only [Act.put, List.setIfInBounds_toArray, List.set_cons_zero, List.set_cons_succ]
                refine' wpInv_step (by rfl) (fun w' hI => ?_) ?_
                rotate_left
                · have hf := HF.out w' hI
                  unfold invAt
                  go_simp
                  first | exact rfl | exact ⟨rfl, hI⟩
                simp only [Act.put, List.setIfInBounds_toArray, List.set_cons_zero, List.set_cons_succ]
                refine' wpInv_step (by rfl) (fun w' hI => ?_) ?_
                rotate_left
                · have hf := HF.out w' hI
                  unfold invAt
                  go_simp
                  clear hf
                  refine (sl2Known_any xs[k] xs[q] w' ((hAq.out.belowAll hI).elem (List.getElem_mem hlt)) ((hAq.out.belowAll hI).elem (List.getElem_mem hql)) HLK.out HLQ.out).mono ?_
                  rw [HU1.out]
                  rintro e w'' ⟨rfl, hb2⟩
                  exact ⟨rfl, hI.trans (hb2.mono hI.size)⟩
                simp only [Act.put, List.setIfInBounds_toArray, List.set_cons_zero, List.set_cons_succ]
                refine' wpInv_step (by rfl) (fun w' hI => ?_) ?_
                rotate_left
                · have hf := HF.out w' hI
                  unfold invAt
                  go_simp
                  first | exact rfl | exact ⟨rfl, hI⟩
                simp only [Act.put, List.setIfInBounds_toArray, List.set_cons_zero, List.set_cons_succ]
                intro w1 hI
                go_wp2_with fail
                go_roundw
                case rel => exact ⟨q + 1, by omega, by go_num, by rw [HAT.out]; simp, HBQ.out.trans (hI.mono HBQ.out.size)⟩
                case measure => simp [intOf]; omega
            · have hqq : q = xs.length := by omega
              subst hqq
              have HF0 := Lib.hid (filter_map_take (fun s => !(xs.map LSib.er).any fun t => supB s t) LSib.er hlt)
              rw [List.take_length]
              have HAE : Hid ((xs.map LSib.er).any (fun t => supB xs[k].er t) = (xs.any fun t => supB xs[k].er t.er)) := Lib.hid (by rw [List.any_map]; rfl)
              generalize hb0 : (xs.any fun t => supB xs[k].er t.er) = b0 at *
              have HB0' := Lib.hid hb0
              clear hb0
              have HGQ := Lib.hid (HG.out.later (Nat.le_refl _) HBQ.out)
              cases b0 with
              | true =>
                go_wp2_with fail
                go_roundw
                case rel =>
                  refine ⟨k + 1, g, by omega, by go_num, rfl, ?_, HGQ.out⟩
                  have h := HF0.out
                  simp only [HAE.out] at h
                  rw [HGX.out, h]; simp
                case measure => simp [intOf]; omega
              | false =>
                have hc1 := hAq.out.sib rfl hlt
                simp only at hc1
                obtain ⟨c0, c1, c2⟩ := hc1
                have HE := Lib.hid (hAq.out.elem (List.getElem_mem hlt))
                have HVK := Lib.hid (show xs[k].vv.xs.length ≤ 1048576 by have := HLK.out; omega)
                have HLL := Lib.hid (show g.xs.length + 1 ≤ 1099511627776 by
                  have h := congrArg List.length HGX.out
                  have h2 := List.length_filter_le (fun s => !(xs.map LSib.er).any fun t => supB s t) ((xs.take k).map LSib.er)
                  simp only [List.length_map, List.length_take] at h h2
                  have := HLEN.out
                  omega)
                have HO := Lib.hid (Own.made (α := Int) (wq.alloc (Obj.cells #[xs[k].vv.val, .bool xs[k].gone, .string xs[k].text] 42)) 3)
                have HB2 := Lib.hid (((Below.refl wq.heap.size wq).alloc (Nat.le_refl _) (Obj.cells #[xs[k].vv.val, .bool xs[k].gone, .string xs[k].text] 42)).alloc (by simp) (Obj.cells #[] 3))
                go_wp2_with (at_builtin; refine wpList_append_all rfl _ _ 40 rfl (wq.heap.size + 1) 3 elem_int ⟨some ⟨wq.heap.size + 1, 0, none⟩, 0, []⟩ rfl (by have := HO.out; simpa using this) xs[k].vv rfl (Loc.At.belowAll HE.out.1 HB2.out) (fun z _ b hb => by cases hb) (by have := HVK.out; simp; omega) (by simp) ?_)
                intro lv wc hap
                obtain ⟨b1, e1, o1, s1, f1, q1, z1⟩ := copied HGQ.out.bel.size hap
                have B1 := Lib.hid b1
                have E1 := Lib.hid e1
                have O1 := Lib.hid o1
                have S1 := Lib.hid s1
                have F1 := Lib.hid f1
                have d0 := q1 0
                have z10 := z1 0
                have d1 := q1 1
                have d2 := q1 2
                simp only [List.getElem?_toArray, List.getElem?_cons_zero, List.getElem?_cons_succ] at d0 d1 d2
                clear hap b1 e1 o1 s1 f1 q1 c0 c1 c2 z1
                have hW3 : Below wq.heap.size wq ((wc.setCell ⟨wq.heap.size, 0, none⟩ lv.val).alloc (Obj.cells #[lv.val, .bool xs[k].gone, .string xs[k].text] 42)) :=
                  (B1.out.setCell (Nat.le_refl _) _).alloc (by have := S1.out; simp; omega) _
                have hs3 : Below (wc.setCell ⟨wq.heap.size, 0, none⟩ lv.val).heap.size (wc.setCell ⟨wq.heap.size, 0, none⟩ lv.val) ((wc.setCell ⟨wq.heap.size, 0, none⟩ lv.val).alloc (Obj.cells #[lv.val, .bool xs[k].gone, .string xs[k].text] 42)) :=
                  (Below.refl _ _).alloc (Nat.le_refl _) _
                have hk3 : ∀ b, wq.heap.size + 1 ≤ b → b < wc.heap.size → ((wc.setCell ⟨wq.heap.size, 0, none⟩ lv.val).alloc (Obj.cells #[lv.val, .bool xs[k].gone, .string xs[k].text] 42)).heap[b]? = wc.heap[b]? := by
                  intro b h1 h2
                  rw [Below.heap_alloc _ _ _ (by simpa using h2), Below.heap_setCell _ _ _ _ (by simp; omega)]
                have hA3 : Dat.At ((wc.setCell ⟨wq.heap.size, 0, none⟩ lv.val).alloc (Obj.cells #[lv.val, .bool xs[k].gone, .string xs[k].text] 42)) (⟨lv, xs[k].gone, xs[k].text⟩ : LSib) :=
                  ⟨Loc.keep_At O1.out.at_ fun b hb => hk3 b (F1.out.ge b hb) (F1.out.lt b hb), HE.out.2⟩
                have hF3 := (F1.out.mono (lo' := wq.heap.size) (by omega)).keep (w' := (wc.setCell ⟨wq.heap.size, 0, none⟩ lv.val).alloc (Obj.cells #[lv.val, .bool xs[k].gone, .string xs[k].text] 42)) fun b hb => hk3 b (F1.out.ge b hb) (F1.out.lt b hb)
                have HG3 := Lib.hid (HGQ.out.later (Nat.le_refl _) hW3)
                have A3 := Lib.hid hA3
                have F3 := Lib.hid hF3
                have hnew : Hid (∀ b ∈ lv.fp, b ∉ g.xs.flatMap Dat.fp ∧ some b ≠ g.val.ownBlock) := Lib.hid (by
                  intro b hb
                  have h1 := F1.out.ge b hb
                  refine ⟨fun h => ?_, fun h => ?_⟩
                  · have := HGQ.out.fr.lt b h; omega
                  · have := (HGQ.out.own.lt b h.symm).2; omega)
                clear hW3 hs3 hk3 hA3 hF3
                obtain ⟨la, lc, ls⟩ := lv
                simp only [Loc.val] at HG3 A3 F3 ⊢
                have C1 := Lib.hid (news_new (w := wc.setCell ⟨wq.heap.size, 0, none⟩ (.slice la ls.length lc)) (g := wc.heap.size) (cs := #[.slice la ls.length lc, .bool xs[k].gone, .string xs[k].text]) (e := 42) (by simp) [(⟨⟨la, lc, ls⟩, xs[k].gone, xs[k].text⟩ : LSib)] rfl)
                have C2 : Hid (∀ y ∈ [(⟨⟨la, lc, ls⟩, xs[k].gone, xs[k].text⟩ : LSib)], Dat.At _ y) := Lib.hid (fun y hy => by rw [List.mem_singleton.1 hy]; exact A3.out)
                have C3 : Hid (∀ y ∈ [(⟨⟨la, lc, ls⟩, xs[k].gone, xs[k].text⟩ : LSib)], ∀ b ∈ Dat.fp y, some b ≠ g.val.ownBlock) := Lib.hid (fun y hy b hb => by rw [List.mem_singleton.1 hy] at hb; exact (hnew.out b hb).2)
                go_wp2_with (at_builtin; (refine wpList_append_loc rfl _ _ 37 rfl W1.heap.size 42 elem_sib g rfl HG3.out.own ⟨wc.heap.size, 0, none⟩ 1 1 [⟨⟨la, lc, ls⟩, xs[k].gone, xs[k].text⟩] rfl rfl C1.out C2.out C3.out HLL.out HG3.out.bel.size ?_))
                intro l' wd hap
                have HAP := Lib.hid hap
                clear hap d0 d1 d2 z10
                have HNX : Hid (l'.xs = g.xs ++ [(⟨⟨la, lc, ls⟩, xs[k].gone, xs[k].text⟩ : LSib)]) := Lib.hid HAP.out.xs
                have HNE : Hid ((⟨⟨la, lc, ls⟩, xs[k].gone, xs[k].text⟩ : LSib).er = xs[k].er) := Lib.hid (by have h : ls = xs[k].vv.xs := E1.out; simp only [LSib.er, h])
                have HNG := Lib.hid (HG3.out.step (Nat.le_refl _) HAP.out (by simp only [List.flatMap_cons, List.flatMap_nil, List.append_nil]; exact F3.out.mono HGQ.out.bel.size) (fun a ha b hb => by
                  simp only [List.flatMap_cons, List.flatMap_nil, List.append_nil] at hb
                  rintro rfl
                  exact (hnew.out a hb).1 ha) (fun y hy b hb => by rw [List.mem_singleton.1 hy] at hb; exact (hnew.out b hb).2))
                have HNB := Lib.hid ((B1.out.setCell (p := ⟨wq.heap.size, 0, none⟩) (Nat.le_refl _) (.slice la ls.length lc)).alloc (by have := S1.out; simp; omega) (Obj.cells #[.slice la ls.length lc, .bool xs[k].gone, .string xs[k].text] 42))
                have HND := Lib.hid (HAP.out.below HG3.out.own (HNB.out.mono HGQ.out.bel.size) (Nat.le_refl _) HG3.out.bel.size)
                clear HAP C1 C2 C3 HG3 A3 F3 hnew B1 E1 O1 S1 F1 HO HB2 HNB
                go_wp2_with fail
                go_roundw
                case rel =>
                  refine ⟨k + 1, l', by omega, by go_num, rfl, ?_, HNG.out⟩
                  have h := HF0.out
                  simp only [HAE.out] at h
                  rw [HNX.out, List.map_append, HGX.out, h, List.map_singleton, HNE.out]; simp
                case measure => simp [intOf]; omega
        · have hkk : k = xs.length := by omega
          subst hkk
          go_wp2_with fail
          go_ret
          refine ⟨g, rfl, ?_, HG.out.own.mono HB.out.size, HG.out.fr.mono HB.out.size, HB.out.trans (HG.out.bel.mono HB.out.size)⟩
          have h := HGX.out
          rw [List.take_length] at h
          have h2 : xs = allLoc x.xs ys := HFIN.out
          show g.xs.map LSib.er = mergeL (x.xs.map LSib.er) (ys.map LSib.er)
          rw [h, mergeL, keptL, ← allLoc_er, ← h2]

theorem l2Merge_any (x y : Loc LSib) (w : World) (hx : x.At w) (hy : y.At w) (hnx : x.xs.length ≤ 500000) (hny : y.xs.length ≤ 500000) (hvx : ∀ s ∈ x.xs, s.vv.xs.length = 3) (hvy : ∀ s ∈ y.xs, s.vv.xs.length = 3) :
    Calls Tryz.prog 77 #[x.val, y.val] w (NewPost w (fun ys : List LSib => ys.map LSib.er = mergeL (x.xs.map LSib.er) (y.xs.map LSib.er))) :=
  (l2Merge_own x y w hx hy hnx hny hvx hvy).mono fun _ _ => NewOwn.post
end Go.Proofs.YtdidkfadiaafiaaGreatDoor
