/- The reference's l2Put: a version is put where it stands. -/
import Derived.Test.YtdidkfadiaafiaaGreatDoorCopy
import Derived.Test.YtdidkfadiaafiaaGreatDoorSpec3
namespace Go.Proofs.YtdidkfadiaafiaaGreatDoor
open Go Go.RowKit

section
variable {α : Type}
def putStep (c : α → Int) (s : α) (r : List α × Bool) (x : α) : List α × Bool :=
  ((if !r.2 && decide (c x < 0) then r.1 ++ [s] else r.1) ++ [x], r.2 || decide (c x ≤ 0))
def putSt (c : α → Int) (s : α) (l : List α) : List α × Bool := l.foldl (putStep c s) ([], false)
def putL (c : α → Int) (s : α) (l : List α) : List α := if (putSt c s l).2 then (putSt c s l).1 else (putSt c s l).1 ++ [s]

theorem putSt_take {c : α → Int} {s : α} {l : List α} {k : Nat} (h : k < l.length) : putSt c s (l.take (k + 1)) = putStep c s (putSt c s (l.take k)) l[k] := by
  unfold putSt
  rw [List.take_succ_eq_append_getElem h, List.foldl_append]; rfl

theorem putSt_len (c : α → Int) (s : α) (l : List α) : (putSt c s l).1.length ≤ l.length + (putSt c s l).2.toNat := by
  have key : ∀ (l : List α) (r : List α × Bool), (l.foldl (putStep c s) r).1.length + r.2.toNat ≤ r.1.length + l.length + (l.foldl (putStep c s) r).2.toNat := by
    intro l
    induction l with
    | nil => intro r; simp
    | cons x l ih =>
      intro r
      have h := ih (putStep c s r x)
      rw [List.foldl_cons]
      obtain ⟨o, p⟩ := r
      cases p
      · by_cases h1 : c x < 0
        · have h2 : c x ≤ 0 := by omega
          simp [putStep, h1, h2] at h ⊢; omega
        · by_cases h2 : c x ≤ 0
          · simp [putStep, h1, h2] at h ⊢; omega
          · simp [putStep, h1, h2] at h ⊢; omega
      · simp [putStep] at h ⊢; omega
  have := key l ([], false)
  simpa [putSt] using this

theorem putL_len (c : α → Int) (s : α) (l : List α) : (putL c s l).length ≤ l.length + 1 := by
  have := putSt_len c s l
  unfold putL
  cases h : (putSt c s l).2 <;> simp [h] at this ⊢ <;> omega

theorem putSt_mem (c : α → Int) (s : α) (l : List α) : ∀ y ∈ (putSt c s l).1, y = s ∨ y ∈ l := by
  have key : ∀ (l : List α) (r : List α × Bool), ∀ y ∈ (l.foldl (putStep c s) r).1, y ∈ r.1 ∨ y = s ∨ y ∈ l := by
    intro l
    induction l with
    | nil => intro r y hy; exact .inl hy
    | cons x l ih =>
      intro r y hy
      rw [List.foldl_cons] at hy
      rcases ih _ y hy with h | h | h
      · unfold putStep at h
        simp only at h
        rcases List.mem_append.1 h with h | h
        · split at h
          · rcases List.mem_append.1 h with h | h
            · exact .inl h
            · exact .inr (.inl (List.mem_singleton.1 h))
          · exact .inl h
        · exact .inr (.inr (by rw [List.mem_singleton.1 h]; exact List.mem_cons_self))
      · exact .inr (.inl h)
      · exact .inr (.inr (List.mem_cons_of_mem _ h))
  intro y hy
  rcases key l _ y hy with h | h | h
  · cases h
  · exact .inl h
  · exact .inr h

theorem putL_mem (c : α → Int) (s : α) (l : List α) : ∀ y ∈ putL c s l, y = s ∨ y ∈ l := by
  intro y hy
  unfold putL at hy
  split at hy
  · exact putSt_mem c s l y hy
  · rcases List.mem_append.1 hy with h | h
    · exact putSt_mem c s l y h
    · exact .inl (List.mem_singleton.1 h)

theorem putSt_map {β : Type} (f : α → β) (c : β → Int) (s : α) (l : List α) : ((putSt (fun x => c (f x)) s l).1.map f, (putSt (fun x => c (f x)) s l).2) = putSt c (f s) (l.map f) := by
  have key : ∀ (l : List α) (r : List α × Bool), ((l.foldl (putStep (fun x => c (f x)) s) r).1.map f, (l.foldl (putStep (fun x => c (f x)) s) r).2) = (l.map f).foldl (putStep c (f s)) (r.1.map f, r.2) := by
    intro l
    induction l with
    | nil => intro r; rfl
    | cons x l ih =>
      intro r
      rw [List.foldl_cons, ih, List.map_cons, List.foldl_cons]
      congr 1
      unfold putStep
      simp only [Prod.mk.injEq, List.map_append, List.map_cons, List.map_nil, and_true]
      split <;> simp
  exact key l ([], false)

theorem putL_map {β : Type} (f : α → β) (c : β → Int) (s : α) (l : List α) : (putL (fun x => c (f x)) s l).map f = putL c (f s) (l.map f) := by
  have h := putSt_map f c s l
  unfold putL
  rw [← h]
  simp only
  split <;> simp
end

/-- Where a version stands among others. -/
def cmpTo (s : LSib) (x : LSib) : Int := cmpSib s.er x.er

set_option maxRecDepth 100000 in
set_option maxHeartbeats 2000000 in
theorem l2Put_any (x : Loc LSib) (s : LSib) (w : World) (hx : x.At w) (hs : Dat.At w s) (hn : x.xs.length ≤ 1048576) (hv : ∀ y ∈ x.xs, y.vv.xs.length = 3) (hvs : s.vv.xs.length = 3) :
    Calls Tryz.prog 107 #[x.val, s.val] w fun e w' => ∃ y : Loc LSib, e = .returned y.val ∧ y.xs = putL (cmpTo s) s x.xs ∧ Own (w.heap.size + 1) 42 w' y ∧ Below w.heap.size w w' := by
  obtain ⟨xa, xc, xs⟩ := x
  obtain ⟨sv, sg, st⟩ := s
  show Calls Tryz.prog 107 #[Value.slice xa xs.length xc, Value.agg #[sv.val, Value.bool sg, Value.string st]] w _
  simp only at hn hv
  have h1 : xs.length ≤ 9223372036854775807 := by omega
  have hW0 : Below w.heap.size w (w.alloc (Obj.cells #[sv.val, .bool sg, .string st] 42)) := (Below.refl _ _).alloc (Nat.le_refl _) _
  have HW0 := Lib.hid hW0
  have HX0 := Lib.hid (hx.belowAll hW0)
  have HS0 := Lib.hid (Dat.belowAll hs hW0)
  have HLX := Lib.hid (Loc.lt_of_At hx)
  have HLS := Lib.hid (Dat.lt hs)
  have HN := Lib.hid hn
  have HV := Lib.hid hv
  have HVS := Lib.hid hvs
  have HO0 := Lib.hid (Own.made (α := LSib) (w.alloc (Obj.cells #[sv.val, .bool sg, .string st] 42)) 42)
  have HBX := Lib.hid (fun j => cell_of_row (w.alloc (Obj.cells #[sv.val, .bool sg, .string st] 42)) w.heap.size j _ _ (0, 0) (heap_alloc_new w _))
  have hS0 : (w.alloc (Obj.cells #[sv.val, .bool sg, .string st] 42)).heap.size = w.heap.size + 1 := by simp
  clear hx hs hn hv hvs hW0
  have HS00 := Lib.hid hS0
  clear hS0
  go_enter Tryz.func107, Tryz.ntmps107
  go_wp2_with fail
  generalize hW : w.alloc (Obj.cells #[sv.val, .bool sg, .string st] 42) = W0 at *
  have HH := Lib.hid hW
  clear hW
  go_loopw [5, 6, 7] (fun o p i wr => ∃ (k : Nat) (l : Loc LSib), k ≤ xs.length ∧ i = .int .i64 k ∧ o = l.val ∧ p = .bool (putSt (cmpTo (⟨sv, sg, st⟩ : LSib)) (⟨sv, sg, st⟩ : LSib) (xs.take k)).2 ∧ l.xs = (putSt (cmpTo (⟨sv, sg, st⟩ : LSib)) (⟨sv, sg, st⟩ : LSib) (xs.take k)).1 ∧ Own (w.heap.size + 1) 42 wr l ∧ Below (w.heap.size + 1) W0 wr) (fun _ _ i _ => xs.length - (intOf i).toNat)
  case atStart => exact ⟨0, _, Nat.zero_le _, rfl, rfl, rfl, rfl, by have := HO0.out; rw [HS00.out] at this; exact this, (Below.refl _ _).alloc (by rw [HS00.out]; exact Nat.le_refl _) _⟩
  case round =>
    obtain ⟨k, l, hk, rfl, rfl, rfl, hl, hO, hB⟩ := hrel
    have HL := Lib.hid hl
    have HO := Lib.hid hO
    have HB := Lib.hid hB
    have HC : Hid (∀ W, Below (w.heap.size + 1) W0 W → (∀ i (h : i < xs.length) (a : Nat) (ao : Nat), xa = some ⟨a, ao, none⟩ → W.cell? ⟨a, ao + i * 3, none⟩ = some xs[i].vv.val ∧ W.cell? ⟨a, ao + i * 3 + 1, none⟩ = some (.bool xs[i].gone) ∧ W.cell? ⟨a, ao + i * 3 + 2, none⟩ = some (.string xs[i].text)) ∧
        (W.cell? ⟨w.heap.size, 0, none⟩ = some sv.val ∧ W.cell? ⟨w.heap.size, 1, none⟩ = some (.bool sg) ∧ W.cell? ⟨w.heap.size, 2, none⟩ = some (.string st)) ∧ (∀ y, y = (⟨sv, sg, st⟩ : LSib) ∨ y ∈ xs → Dat.At W y ∧ ∀ b ∈ Dat.fp y, b < w.heap.size)) := Lib.hid (by
      intro W hW
      have hxW : Loc.At W ⟨xa, xc, xs⟩ := HX0.out.below hW (fun b hb => by have := HLX.out b hb; omega)
      refine ⟨fun i h a ao ha => ?_, ⟨?_, ?_, ?_⟩, ?_⟩
      · subst ha; exact hxW.sib rfl h
      · rw [hW.cell (by simp), HBX.out]; rfl
      · rw [hW.cell (by simp), HBX.out]; rfl
      · rw [hW.cell (by simp), HBX.out]; rfl
      · rintro y (rfl | hy)
        · exact ⟨Dat.below HS0.out hW (fun b hb => by have := HLS.out b hb; omega), HLS.out⟩
        · refine ⟨hxW.elem hy, fun b hb => HLX.out b ?_⟩
          exact List.mem_append_right _ (List.mem_flatMap.2 ⟨y, hy, hb⟩))
    have hlen := putSt_len (cmpTo (⟨sv, sg, st⟩ : LSib)) (⟨sv, sg, st⟩ : LSib) (xs.take k)
    have hll : l.xs.length ≤ 1048577 := by
      have h2 := HN.out
      rw [HL.out]
      rw [List.length_take] at hlen
      have : (putSt (cmpTo (⟨sv, sg, st⟩ : LSib)) (⟨sv, sg, st⟩ : LSib) (xs.take k)).2.toNat ≤ 1 := Bool.toNat_le _
      omega
    have HLL := Lib.hid hll
    clear hl hO hB hlen hll
    by_cases hlt : k < xs.length
    · obtain ⟨a, ao, ha⟩ := HX0.out.place hlt
      simp only at ha
      subst ha
      have hst := putSt_take (c := cmpTo (⟨sv, sg, st⟩ : LSib)) (s := (⟨sv, sg, st⟩ : LSib)) hlt
      generalize hp : putSt (cmpTo (⟨sv, sg, st⟩ : LSib)) (⟨sv, sg, st⟩ : LSib) (xs.take k) = r at *
      obtain ⟨ro, rp⟩ := r
      have HST := Lib.hid hst
      have HP := Lib.hid hp
      clear hst hp
      simp only at HL ⊢
      have HF : Hid (∀ w', Below wr.heap.size wr w' → (w'.cell? ⟨a, ao + k * 3, none⟩ = some xs[k].vv.val ∧ w'.cell? ⟨a, ao + k * 3 + 1, none⟩ = some (.bool xs[k].gone) ∧ w'.cell? ⟨a, ao + k * 3 + 2, none⟩ = some (.string xs[k].text)) ∧
          (w'.cell? ⟨w.heap.size, 0, none⟩ = some sv.val ∧ w'.cell? ⟨w.heap.size, 1, none⟩ = some (.bool sg) ∧ w'.cell? ⟨w.heap.size, 2, none⟩ = some (.string st))) := Lib.hid (fun w' h => by
        have := HC.out w' (HB.out.trans (h.mono (by have := HB.out.size; rw [HS00.out] at this; exact this)))
        exact ⟨this.1 k hlt a ao rfl, this.2.1⟩)
      have HA1 : Hid (∀ w', Below wr.heap.size wr w' → Dat.At w' (⟨sv, sg, st⟩ : LSib) ∧ Dat.At w' xs[k]) := Lib.hid (fun w' h => by
        have := (HC.out w' (HB.out.trans (h.mono (by have := HB.out.size; rw [HS00.out] at this; exact this)))).2.2
        exact ⟨(this _ (.inl rfl)).1, (this _ (.inr (List.getElem_mem hlt))).1⟩)
      generalize hc : cmpSib (⟨sv, sg, st⟩ : LSib).er xs[k].er = c
      have HCC := Lib.hid hc
      clear hc
      go_wp2_with fail
      refine wp_region_inv 7 (by kernel_rfl) (by kernel_rfl) (fun w' => Below wr.heap.size wr w') (Below.refl _ _).drew ?_
      simp only [List.take_succ_cons, List.take_zero, List.drop_succ_cons, List.drop_zero]
      refine' wpInv_step (by rfl) (fun w' hI => ?_) ?_
      rotate_left
      · have hf := HF.out w' hI
        unfold invAt
        go_simp
        first | exact rfl | exact ⟨rfl, hI⟩
      simp only [Act.put, List.setIfInBounds_toArray, List.set_cons_zero, List.set_cons_succ]
      refine' wpInv_step (by rfl) (fun w' hI => ?_) ?_
      rotate_left
      · have hf := HF.out w' hI
        unfold invAt
        go_simp
        first | exact rfl | exact ⟨rfl, hI⟩
      simp only [Act.put, List.setIfInBounds_toArray, List.set_cons_zero, List.set_cons_succ]
      refine' wpInv_step (by rfl) (fun w' hI => ?_) ?_
      rotate_left
      · have hf := HF.out w' hI
        unfold invAt
        go_simp
        first | exact rfl | exact ⟨rfl, hI⟩
      simp only [Act.put, List.setIfInBounds_toArray, List.set_cons_zero, List.set_cons_succ]
      refine' wpInv_step (by rfl) (fun w' hI => ?_) ?_
      rotate_left
      · have hf := HF.out w' hI
        unfold invAt
        go_simp
        first | exact rfl | exact ⟨rfl, hI⟩
      simp only [Act.put, List.setIfInBounds_toArray, List.set_cons_zero, List.set_cons_succ]
      refine' wpInv_step (by rfl) (fun w' hI => ?_) ?_
      rotate_left
      · have hf := HF.out w' hI
        unfold invAt
        go_simp
        first | exact rfl | exact ⟨rfl, hI⟩
      simp only [Act.put, List.setIfInBounds_toArray, List.set_cons_zero, List.set_cons_succ]
      refine' wpInv_step (by rfl) (fun w' hI => ?_) ?_
      rotate_left
      · have hf := HF.out w' hI
        unfold invAt
        go_simp
        clear hf
        refine (sl2Cmp_any ⟨sv, sg, st⟩ xs[k] w' (HA1.out w' hI).1 (HA1.out w' hI).2 HVS.out (HV.out _ (List.getElem_mem hlt))).mono ?_
        rw [HCC.out]
        rintro e w'' ⟨rfl, hb2⟩
        exact ⟨rfl, hI.trans (hb2.mono hI.size)⟩
      simp only [Act.put, List.setIfInBounds_toArray, List.set_cons_zero, List.set_cons_succ]
      refine' wpInv_step (by rfl) (fun w' hI => ?_) ?_
      rotate_left
      · have hf := HF.out w' hI
        unfold invAt
        go_simp
        first | exact rfl | exact ⟨rfl, hI⟩
      simp only [Act.put, List.setIfInBounds_toArray, List.set_cons_zero, List.set_cons_succ]
      intro w1 hI
      have B1 := Lib.hid (HB.out.trans (hI.mono (by have := HB.out.size; rw [HS00.out] at this; exact this)))
      have O1 := Lib.hid (HO.out.belowAll hI)
      clear hI
      cases rp with
      | true =>
        obtain ⟨f1, -, f3⟩ := HC.out w1 B1.out
        obtain ⟨c0, c1, c2⟩ := f1 k hlt a ao rfl
        have hm3 := f3 xs[k] (.inr (List.getElem_mem hlt))
        have HMX := Lib.hid (one_more (W := w1) (e' := 42) (cs := #[xs[k].vv.val, .bool xs[k].gone, .string xs[k].text]) (g := w1.heap.size) l xs[k] rfl rfl O1.out hm3.1 (fun b hb h => by have := hm3.2 b hb; have := (O1.out.lt b h.symm).1; omega) (by have := HLL.out; omega) (by have := B1.out.size; rw [HS00.out] at this; exact this))
        clear f1 f3 hm3
        go_wp2_with (at_builtin; refine wpList_append_one rfl _ _ 37 rfl _ 42 elem_sib l rfl (w1.heap.size) xs[k] rfl HMX.out ?_)
        intro l3 w3 hap3
        have BL := Lib.hid (B1.out.trans ((Below.refl (w1.heap.size) w1).alloc (Nat.le_refl _) (Obj.cells #[xs[k].vv.val, .bool xs[k].gone, .string xs[k].text] 42) |>.mono (by have := B1.out.size; rw [HS00.out] at this; exact this)))
        have B3 := Lib.hid (hap3.below HMX.out.own BL.out (Nat.le_refl _) HMX.out.lo)
        have A3 := Lib.hid hap3
        clear hap3 c0 c1 c2
        go_wp2_with fail
        go_roundw
        case rel => exact ⟨k + 1, l3, by omega, by go_num, rfl, by rw [HST.out]; simp [putStep], by rw [HST.out, A3.out.xs, HL.out]; simp [putStep], A3.out.own, B3.out⟩
        case measure => simp [intOf]; omega
      | false =>
        have HCM : Hid (cmpTo (⟨sv, sg, st⟩ : LSib) xs[k] = c) := Lib.hid HCC.out
        by_cases hc1 : c < 0
        · have hc2 : c ≤ 0 := by omega
          obtain ⟨f1, ⟨d0, d1, d2⟩, f3⟩ := HC.out w1 B1.out
          have hm3 := f3 (⟨sv, sg, st⟩ : LSib) (.inl rfl)
          have HMS := Lib.hid (one_more (W := w1) (e' := 42) (cs := #[sv.val, .bool sg, .string st]) (g := w1.heap.size) l (⟨sv, sg, st⟩ : LSib) rfl rfl O1.out hm3.1 (fun b hb h => by have := hm3.2 b hb; have := (O1.out.lt b h.symm).1; omega) (by have := HLL.out; omega) (by have := B1.out.size; rw [HS00.out] at this; exact this))
          clear f1 f3 hm3
          go_wp2_with (at_builtin; refine wpList_append_one rfl _ _ 37 rfl _ 42 elem_sib l rfl (w1.heap.size) (⟨sv, sg, st⟩ : LSib) rfl HMS.out ?_)
          intro l2 w2 hap2
          have BS := Lib.hid (B1.out.trans ((Below.refl (w1.heap.size) w1).alloc (Nat.le_refl _) (Obj.cells #[sv.val, .bool sg, .string st] 42) |>.mono (by have := B1.out.size; rw [HS00.out] at this; exact this)))
          have B2 := Lib.hid (hap2.below HMS.out.own BS.out (Nat.le_refl _) HMS.out.lo)
          have A2 := Lib.hid hap2
          have O2 := Lib.hid hap2.own
          have hl2 : l2.xs.length ≤ 1048578 := by have := HLL.out; rw [A2.out.xs]; simp; omega
          have HL2 := Lib.hid hl2
          clear hap2 d0 d1 d2 hl2
          obtain ⟨f1, -, f3⟩ := HC.out w2 B2.out
          obtain ⟨c0, c1, c2⟩ := f1 k hlt a ao rfl
          have hm3 := f3 xs[k] (.inr (List.getElem_mem hlt))
          have HMX := Lib.hid (one_more (W := w2) (e' := 42) (cs := #[xs[k].vv.val, .bool xs[k].gone, .string xs[k].text]) (g := w2.heap.size) l2 xs[k] rfl rfl O2.out hm3.1 (fun b hb h => by have := hm3.2 b hb; have := (O2.out.lt b h.symm).1; omega) (by have := HL2.out; omega) (by have := B2.out.size; rw [HS00.out] at this; exact this))
          clear f1 f3 hm3
          go_wp2_with (at_builtin; refine wpList_append_one rfl _ _ 37 rfl _ 42 elem_sib l2 rfl (w2.heap.size) xs[k] rfl HMX.out ?_)
          intro l3 w3 hap3
          have BL := Lib.hid (B2.out.trans ((Below.refl (w2.heap.size) w2).alloc (Nat.le_refl _) (Obj.cells #[xs[k].vv.val, .bool xs[k].gone, .string xs[k].text] 42) |>.mono (by have := B2.out.size; rw [HS00.out] at this; exact this)))
          have B3 := Lib.hid (hap3.below HMX.out.own BL.out (Nat.le_refl _) HMX.out.lo)
          have A3 := Lib.hid hap3
          clear hap3 c0 c1 c2
          go_wp2_with fail
          go_roundw
          case rel => exact ⟨k + 1, l3, by omega, by go_num, rfl, by rw [HST.out]; simp [putStep, HCM.out, hc2], by rw [HST.out, A3.out.xs, A2.out.xs, HL.out]; simp [putStep, HCM.out, hc1], A3.out.own, B3.out⟩
          case measure => simp [intOf]; omega
        · by_cases hc2 : c ≤ 0
          · have hc3 : decide (c ≤ 0) = true := decide_eq_true hc2
            obtain ⟨f1, -, f3⟩ := HC.out w1 B1.out
            obtain ⟨c0, c1, c2⟩ := f1 k hlt a ao rfl
            have hm3 := f3 xs[k] (.inr (List.getElem_mem hlt))
            have HMX := Lib.hid (one_more (W := w1) (e' := 42) (cs := #[xs[k].vv.val, .bool xs[k].gone, .string xs[k].text]) (g := w1.heap.size) l xs[k] rfl rfl O1.out hm3.1 (fun b hb h => by have := hm3.2 b hb; have := (O1.out.lt b h.symm).1; omega) (by have := HLL.out; omega) (by have := B1.out.size; rw [HS00.out] at this; exact this))
            clear f1 f3 hm3
            go_wp2_with (at_builtin; refine wpList_append_one rfl _ _ 37 rfl _ 42 elem_sib l rfl (w1.heap.size) xs[k] rfl HMX.out ?_)
            intro l3 w3 hap3
            have BL := Lib.hid (B1.out.trans ((Below.refl (w1.heap.size) w1).alloc (Nat.le_refl _) (Obj.cells #[xs[k].vv.val, .bool xs[k].gone, .string xs[k].text] 42) |>.mono (by have := B1.out.size; rw [HS00.out] at this; exact this)))
            have B3 := Lib.hid (hap3.below HMX.out.own BL.out (Nat.le_refl _) HMX.out.lo)
            have A3 := Lib.hid hap3
            clear hap3 c0 c1 c2
            go_wp2_with fail
            go_roundw
            case rel => exact ⟨k + 1, l3, by omega, by go_num, rfl, by rw [HST.out]; simp [putStep, HCM.out, hc2], by rw [HST.out, A3.out.xs, HL.out]; simp [putStep, HCM.out, hc1], A3.out.own, B3.out⟩
            case measure => simp [intOf]; omega
          · have hc3 : decide (c ≤ 0) = false := decide_eq_false hc2
            obtain ⟨f1, -, f3⟩ := HC.out w1 B1.out
            obtain ⟨c0, c1, c2⟩ := f1 k hlt a ao rfl
            have hm3 := f3 xs[k] (.inr (List.getElem_mem hlt))
            have HMX := Lib.hid (one_more (W := w1) (e' := 42) (cs := #[xs[k].vv.val, .bool xs[k].gone, .string xs[k].text]) (g := w1.heap.size) l xs[k] rfl rfl O1.out hm3.1 (fun b hb h => by have := hm3.2 b hb; have := (O1.out.lt b h.symm).1; omega) (by have := HLL.out; omega) (by have := B1.out.size; rw [HS00.out] at this; exact this))
            clear f1 f3 hm3
            go_wp2_with (at_builtin; refine wpList_append_one rfl _ _ 37 rfl _ 42 elem_sib l rfl (w1.heap.size) xs[k] rfl HMX.out ?_)
            intro l3 w3 hap3
            have BL := Lib.hid (B1.out.trans ((Below.refl (w1.heap.size) w1).alloc (Nat.le_refl _) (Obj.cells #[xs[k].vv.val, .bool xs[k].gone, .string xs[k].text] 42) |>.mono (by have := B1.out.size; rw [HS00.out] at this; exact this)))
            have B3 := Lib.hid (hap3.below HMX.out.own BL.out (Nat.le_refl _) HMX.out.lo)
            have A3 := Lib.hid hap3
            clear hap3 c0 c1 c2
            go_wp2_with fail
            go_roundw
            case rel => exact ⟨k + 1, l3, by omega, by go_num, rfl, by rw [HST.out]; simp [putStep, HCM.out, hc2], by rw [HST.out, A3.out.xs, HL.out]; simp [putStep, HCM.out, hc1], A3.out.own, B3.out⟩
            case measure => simp [intOf]; omega
    · have hkk : k = xs.length := by omega
      subst hkk
      rw [List.take_length] at HL ⊢
      generalize hp : putSt (cmpTo (⟨sv, sg, st⟩ : LSib)) (⟨sv, sg, st⟩ : LSib) xs = r at *
      obtain ⟨ro, rp⟩ := r
      have HP := Lib.hid hp
      clear hp
      simp only at HL ⊢
      cases rp with
      | true =>
        go_wp2_with fail
        go_ret
        exact ⟨l, rfl, by rw [HL.out, putL, HP.out]; rfl, HO.out, HW0.out.trans (HB.out.mono (by omega))⟩
      | false =>
        obtain ⟨f1, ⟨d0, d1, d2⟩, f3⟩ := HC.out wr HB.out
        have hm3 := f3 (⟨sv, sg, st⟩ : LSib) (.inl rfl)
        have HMS := Lib.hid (one_more (W := wr) (e' := 42) (cs := #[sv.val, .bool sg, .string st]) (g := wr.heap.size) l (⟨sv, sg, st⟩ : LSib) rfl rfl HO.out hm3.1 (fun b hb h => by have := hm3.2 b hb; have := (HO.out.lt b h.symm).1; omega) (by have := HLL.out; omega) (by have := HB.out.size; rw [HS00.out] at this; exact this))
        clear f1 f3 hm3
        go_wp2_with (at_builtin; refine wpList_append_one rfl _ _ 37 rfl _ 42 elem_sib l rfl (wr.heap.size) (⟨sv, sg, st⟩ : LSib) rfl HMS.out ?_)
        intro l2 w2 hap2
        have BS := Lib.hid (HB.out.trans ((Below.refl (wr.heap.size) wr).alloc (Nat.le_refl _) (Obj.cells #[sv.val, .bool sg, .string st] 42) |>.mono (by have := HB.out.size; rw [HS00.out] at this; exact this)))
        have B2 := Lib.hid (hap2.below HMS.out.own BS.out (Nat.le_refl _) HMS.out.lo)
        have A2 := Lib.hid hap2
        have O2 := Lib.hid hap2.own
        have hl2 : l2.xs.length ≤ 1048578 := by have := HLL.out; rw [A2.out.xs]; simp; omega
        have HL2 := Lib.hid hl2
        clear hap2 d0 d1 d2 hl2
        go_wp2_with fail
        go_ret
        exact ⟨l2, rfl, by rw [A2.out.xs, HL.out, putL, HP.out]; rfl, O2.out, HW0.out.trans (B2.out.mono (by omega))⟩
end Go.Proofs.YtdidkfadiaafiaaGreatDoor
