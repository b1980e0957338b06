/- The reference's draws: l72Log. The reference's draws: DrawLogEnd, DrawLogAdd, DrawLogCut. The reference's draws: DrawLogFree, DrawLogRest, DrawLogOk. -/
import Derived.Test.YtdbejmnfnbkndaaGreatDoorDrawF
import Derived.Test.YtdbejmnfnbkndaaGreatDoorDraw7
import Derived.Test.YtdbejmnfnbkndaaGreatDoorMake
namespace Go.Proofs.YtdbejmnfnbkndaaGreatDoor
open Go Go.RowKit

/-- A log under way: its own block, the result's block, its records. -/
structure LogWay (R : Nat) (code : Loc UInt8) (N : Nat) (w : World) (S P : Nat) (f : Int) (l : Loc LRec) (W : World) : Prop where
  drew : Drew R code N w W
  row : W.heap[S]? = some (.cells #[.int .i64 f, l.val] 25 (0, 0))
  res : W.heap[P]? = some (.cells #[.int .i64 0, .slice none 0 0] 25 (0, 0))
  own : Own w.heap.size 53 W l
  fp : ∀ x ∈ l.xs, ∀ b ∈ Dat.fp x, w.heap.size ≤ b ∧ b ≠ S ∧ b ≠ P
  ob : ∀ b, l.val.ownBlock = some b → b ≠ S ∧ b ≠ P

section
variable {R : Nat} {code : Loc UInt8} {N M : Nat} {w W W' : World} {S P : Nat} {f : Int} {l l' : Loc LRec}

theorem LogWay.ltS (h : LogWay R code N w S P f l W) : S < W.heap.size := (Array.getElem?_eq_some_iff.1 h.row).1
theorem LogWay.ltP (h : LogWay R code N w S P f l W) : P < W.heap.size := (Array.getElem?_eq_some_iff.1 h.res).1
theorem LogWay.next (h : LogWay R code N w S P f l W) (hR : R < w.heap.size) (hS : w.heap.size ≤ S) (hP : P ≠ R) (hd : Drew R code M W W') : LogWay R code M w S P f l W' :=
  ⟨h.drew.trans hd, (hd.touch.block S h.ltS (by simp; omega)).trans h.row, (hd.touch.block P h.ltP (by simpa using hP)).trans h.res,
    hd.keepOwn h.own hR (fun x hx b hb => by have := (h.fp x hx b hb).1; omega), h.fp, h.ob⟩
theorem LogWay.later (h : LogWay R code N w S P f l W) (hb : Below W.heap.size W W') : LogWay R code N w S P f l W' :=
  ⟨h.drew.later hb, (hb.block S h.ltS).trans h.row, (hb.block P h.ltP).trans h.res, h.own.belowAll hb, h.fp, h.ob⟩
theorem LogWay.cells (h : LogWay R code N w S P f l W) : (W.cell? ⟨S, 0, none⟩ = some (.int .i64 f) ∧ W.cell? ⟨S, 1, none⟩ = some l.val) ∧ (∀ j, W.frozen? ⟨S, j, none⟩ = false) ∧
    (W.cell? ⟨P, 0, none⟩ = some (.int .i64 0) ∧ W.cell? ⟨P, 1, none⟩ = some (.slice none 0 0)) ∧ (∀ j, W.frozen? ⟨P, j, none⟩ = false) :=
  ⟨⟨by rw [cell_of_row _ _ _ _ _ _ h.row]; rfl, by rw [cell_of_row _ _ _ _ _ _ h.row]; rfl⟩, fun j => frozen_of_row _ _ _ _ _ h.row,
   ⟨by rw [cell_of_row _ _ _ _ _ _ h.res]; rfl, by rw [cell_of_row _ _ _ _ _ _ h.res]; rfl⟩, fun j => frozen_of_row _ _ _ _ _ h.res⟩
theorem Own.setOther {α : Type} [Dat α] {base : Nat} {e : TypeId} {l : Loc α} {p : Addr} {v : Value} (h : Own base e W l) (h1 : ∀ b, l.val.ownBlock = some b → b ≠ p.block) (h2 : ∀ x ∈ l.xs, ∀ b ∈ Dat.fp x, b ≠ p.block) : Own base e (W.setCell p v) l :=
  h.keep (fun b hb => Below.heap_setCell _ _ _ _ (h1 b hb)) fun x hx b hb => Below.heap_setCell _ _ _ _ (h2 x hx b hb)
/-- Another number of the first record. -/
theorem LogWay.put (h : LogWay R code N w S P f l W) (hcl : ∀ b ∈ code.fp, b < w.heap.size) (hR : R < w.heap.size) (hS : w.heap.size ≤ S) (hSP : S ≠ P) (f' : Int) : LogWay R code N w S P f' l (W.setCell ⟨S, 0, none⟩ (.int .i64 f')) :=
  ⟨h.drew.setCell hcl hR hS, by rw [heap_setCell_same W S 0 _ _ _ h.row]; rfl, by rw [Below.heap_setCell _ _ _ _ (by simpa using fun e => hSP e.symm)]; exact h.res,
    h.own.setOther (fun b hb => (h.ob b hb).1) (fun x hx b hb => (h.fp x hx b hb).2.1), h.fp, h.ob⟩
/-- Behind an append: the row as it was. -/
theorem LogWay.mid {ys : List LRec} (h : LogWay R code N w S P f l W) (hap : Appended w.heap.size 53 W l ys l' W') : W'.heap[S]? = some (.cells #[.int .i64 f, l.val] 25 (0, 0)) ∧ W'.heap[P]? = some (.cells #[.int .i64 0, .slice none 0 0] 25 (0, 0)) :=
  ⟨(hap.grown.block S h.ltS (fun e => (h.ob S e.symm).1 rfl)).trans h.row, (hap.grown.block P h.ltP (fun e => (h.ob P e.symm).2 rfl)).trans h.res⟩
/-- More records, put where they belong. -/
theorem LogWay.more {ys : List LRec} (h : LogWay R code N w S P f l W) (hcl : ∀ b ∈ code.fp, b < w.heap.size) (hR : R < w.heap.size) (hS : w.heap.size ≤ S) (hSP : S ≠ P) (hap : Appended w.heap.size 53 W l ys l' W')
    (hys : ∀ y ∈ ys, ∀ b ∈ Dat.fp y, w.heap.size ≤ b ∧ b ≠ S ∧ b ≠ P) : LogWay R code N w S P f l' (W'.setCell ⟨S, 1, none⟩ l'.val) := by
  obtain ⟨m1, m2⟩ := h.mid hap
  have hfp : ∀ x ∈ l'.xs, ∀ b ∈ Dat.fp x, w.heap.size ≤ b ∧ b ≠ S ∧ b ≠ P := by
    intro x hx b hb
    rw [hap.xs] at hx
    rcases List.mem_append.1 hx with hx | hx
    · exact h.fp x hx b hb
    · exact hys x hx b hb
  have hob : ∀ b, l'.val.ownBlock = some b → b ≠ S ∧ b ≠ P := by
    intro b hb
    rcases hap.ob b hb with h1 | h1
    · exact h.ob b h1
    · have := h.ltS; have := h.ltP; omega
  exact ⟨(h.drew.appended hcl hR h.own (Nat.le_refl _) hap).setCell hcl hR hS, by rw [heap_setCell_same W' S 1 _ _ _ m1]; rfl, by rw [Below.heap_setCell _ _ _ _ (by simpa using fun e => hSP e.symm)]; exact m2,
    hap.own.setOther (fun b hb => (hob b hb).1) (fun x hx b hb => (hfp x hx b hb).2.1), hfp, hob⟩
theorem LogWay.fpAll (h : LogWay R code N w S P f l W) : ∀ b ∈ l.fp, w.heap.size ≤ b ∧ b ≠ S ∧ b ≠ P := by
  intro b hb
  rcases List.mem_append.1 hb with hb | hb
  · exact ⟨(h.own.lt b (Loc.blk_own hb)).1, h.ob b (Loc.blk_own hb)⟩
  · obtain ⟨x, hx, hb⟩ := List.mem_flatMap.1 hb
    exact h.fp x hx b hb
end

/-- A drawn log. -/
def LogDraw (R : Nat) (code : Loc UInt8) (N : Nat) (w : World) (e : Ending) (w' : World) : Prop :=
  ∃ y : LLog, e = .returned y.val ∧ -1 ≤ y.from_ ∧ y.from_ ≤ 17 ∧ y.recs.xs.length ≤ 43 ∧ Own w.heap.size 53 w' y.recs ∧ (∀ b ∈ y.recs.fp, w.heap.size ≤ b) ∧ Drew R code N w w'

/-- A drawing region: the reader alone is written. -/
def Way.draw (R : Nat) (code : Loc UInt8) (N : Nat) (w : World) (chain : List Nat) : Way :=
  ⟨chain, fun m w' => Drew R code (N + 300 * m) w w', Touch [R], fun _ _ _ h k => h.later k, fun _ _ h => Touch.of_below _ h⟩
def IntR (a b : Int) (v : Value) (_ : World) : Prop := ∃ n : Int, v = .int .i64 n ∧ a ≤ n ∧ n < b
theorem IntR.stable {G : World → World → Prop} (a b : Int) : StableG G (IntR a b) := fun _ _ _ _ h => h
theorem LogWay.keep {R : Nat} {code : Loc UInt8} {N M : Nat} {w W W' : World} {S P : Nat} {f : Int} {l : Loc LRec} (h : LogWay R code N w S P f l W) (hR : R < w.heap.size) (hS : w.heap.size ≤ S) (hd : Drew R code M W W') : W'.cell? ⟨S, 0, none⟩ = some (.int .i64 f) ∧ W'.cell? ⟨S, 1, none⟩ = some l.val := by
  have hr := (hd.touch.block S h.ltS (by simp; omega)).trans h.row
  exact ⟨by rw [cell_of_row _ _ _ _ _ _ hr]; rfl, by rw [cell_of_row _ _ _ _ _ _ hr]; rfl⟩

/-- A record, one's own block of a record: of new memory. -/
def RecD (B : Nat) (v : Value) (W : World) : Prop := ∃ y : LRec, v = y.val ∧ Dat.At W y ∧ ∀ c ∈ Dat.fp y, B ≤ c
theorem RecD.stable {R B : Nat} (hR : R < B) : StableG (Touch [R]) (RecD B) := fun _ _ _ hb ⟨y, h1, h2, h3⟩ => ⟨y, h1, hb.keepDat h2 (fun c hc => by have := h3 c hc; simp; omega), h3⟩
def RowD (B : Nat) (v : Value) (W : World) : Prop := ∃ (y : LRec) (g : Nat), v = .slice (some ⟨g, 0, none⟩) 1 1 ∧ Dat.At W y ∧ (∀ c ∈ Dat.fp y, B ≤ c) ∧ B ≤ g ∧ W.heap[g]? = some (.cells #[.int .i64 y.kind, .string y.name, y.sibs.val, .int .i64 y.n, .int .i64 y.sum] 53 (0, 0))
theorem RowD.stable {R B : Nat} (hR : R < B) : StableG (Touch [R]) (RowD B) := fun _ _ _ hb ⟨y, g, h1, h2, h3, h4, h5⟩ =>
  ⟨y, g, h1, hb.keepDat h2 (fun c hc => by have := h3 c hc; simp; omega), h3, h4, (hb.block g (Array.getElem?_eq_some_iff.1 h5).1 (by simp; omega)).trans h5⟩
/-- Whether there is room for one more. -/
def RoomR (n : Nat) (v : Value) (_ : World) : Prop := ∃ p : Int, v = .bool (decide ((n : Int) < 40 + p)) ∧ 0 ≤ p ∧ p < 2
theorem RoomR.stable {G : World → World → Prop} (n : Nat) : StableG G (RoomR n) := fun _ _ _ _ h => h
set_option maxRecDepth 100000 in
set_option maxHeartbeats 4000000 in
theorem l72Log_any (R : Nat) (code : Loc UInt8) (N : Nat) (w : World) (h : Rd R code N w) (hN : N ≤ 400000000) :
    Calls Tryz.prog 13 #[.pointer (some ⟨R, 0, none⟩)] w (LogDraw R code (N + 80000) w) := by
  have hB0 : Below w.heap.size w (w.alloc (Obj.cells #[.int .i64 0, .slice none 0 0] 25)) := (Below.refl _ _).alloc (Nat.le_refl _) _
  have H0 := Lib.hid (h.refl.later hB0)
  have HS := Lib.hid h.lt
  have HCL := Lib.hid (Loc.lt_of_At h.at_)
  have HPR : Hid (w.heap.size ≠ R) := Lib.hid (by have := h.lt; omega)
  have HP0 := Lib.hid (heap_alloc_new w (Obj.cells #[.int .i64 0, .slice none 0 0] 25))
  have HZ0 : Hid ((w.alloc (Obj.cells #[.int .i64 0, .slice none 0 0] 25)).heap.size = w.heap.size + 1) := Lib.hid (by simp)
  clear h hB0
  go_enter Tryz.func13, Tryz.ntmps13
  go_wp2_with fail
  generalize w.alloc (Obj.cells #[.int .i64 0, .slice none 0 0] 25) = w0 at *
  refine (pick_any R code N 4 w0 H0.out.rd (by omega) (by decide) (by decide)).mono ?_
  rintro e w1 ⟨⟨v, rfl, vl, vh⟩, hd⟩
  have H1 := Lib.hid (H0.out.trans hd)
  have HP1 := Lib.hid ((hd.touch.block w.heap.size (by have := HZ0.out; omega) (by have := HPR.out; simpa using this)).trans HP0.out)
  have HZ1 := Lib.hid (show w.heap.size + 1 ≤ w1.heap.size by have := hd.touch.size; have := HZ0.out; omega)
  have e5 : IntKind.i64.wrap (5 * v) = 5 * v := IntWalk.i64_in _ (by omega)
  have hway : LogWay R code (N + 1) w (w1.heap.size + 1) w.heap.size (5 * v) ⟨some ⟨w1.heap.size, 0, none⟩, 0, []⟩ ((w1.alloc (Obj.cells #[] 53)).alloc (Obj.cells #[.int .i64 (5 * v), .slice (some ⟨w1.heap.size, 0, none⟩) 0 0] 25)) := by
    have b1 : Below w1.heap.size w1 (w1.alloc (Obj.cells #[] 53)) := (Below.refl _ _).alloc (Nat.le_refl _) _
    have b2 : Below (w1.alloc (Obj.cells #[] 53)).heap.size (w1.alloc (Obj.cells #[] 53)) ((w1.alloc (Obj.cells #[] 53)).alloc (Obj.cells #[.int .i64 (5 * v), .slice (some ⟨w1.heap.size, 0, none⟩) 0 0] 25)) := (Below.refl _ _).alloc (Nat.le_refl _) _
    have hz : (w1.alloc (Obj.cells #[] 53)).heap.size = w1.heap.size + 1 := by simp
    have hz1 := HZ1.out
    have hr := heap_alloc_new (w1.alloc (Obj.cells #[] 53)) (Obj.cells #[.int .i64 (5 * v), .slice (some ⟨w1.heap.size, 0, none⟩) 0 0] 25)
    rw [hz] at hr
    refine ⟨(H1.out.later b1).later b2, hr, ?_, ((Own.made (α := LRec) w1 53).mono (by omega)).belowAll b2, fun x hx => (by cases hx), fun b hb => ?_⟩
    · rw [b2.block _ (by omega), b1.block _ (by omega)]; exact HP1.out
    · simp [Loc.val, Value.ownBlock] at hb; omega
  have HW := Lib.hid hway
  have HSP : Hid (w1.heap.size + 1 ≠ w.heap.size) := Lib.hid (by have := HZ1.out; omega)
  have HSS : Hid (w.heap.size ≤ w1.heap.size + 1) := Lib.hid (by have := HZ1.out; omega)
  clear hway hd HP0 HZ0 HP1 H1
  go_wp2_with fail
  generalize (w1.alloc (Obj.cells #[] 53)).alloc (Obj.cells #[.int .i64 (5 * v), .slice (some ⟨w1.heap.size, 0, none⟩) 0 0] 25) = w2 at *
  generalize w1.heap.size + 1 = S at *
  refine (pick_any R code (N + 1) 6 w2 HW.out.drew.rd (by omega) (by decide) (by decide)).mono ?_
  rintro e w3 ⟨⟨n, rfl, nl, nh⟩, hd⟩
  have HW3 := Lib.hid (HW.out.next HS.out HSS.out HPR.out hd)
  obtain ⟨n, rfl⟩ : ∃ j : Nat, n = (j : Int) := ⟨n.toNat, by omega⟩
  have hn5 : n ≤ 5 := by omega
  clear hd HW
  go_wp2_with fail
  go_loopw [4] (fun i wr => ∃ (k : Nat) (l : Loc LRec), k ≤ n ∧ i = .int .i64 k ∧ l.xs.length ≤ 40 ∧ LogWay R code (N + 2 + 12000 * (n - k)) w S w.heap.size (5 * v) l wr) (fun i _ => (intOf i).toNat)
  case atStart => exact ⟨n, _, Nat.le_refl _, rfl, Nat.zero_le _, by simpa using HW3.out⟩
  case round =>
    obtain ⟨k, l, hk, rfl, hl, hway⟩ := hrel
    have HLW := Lib.hid hway
    have HLL := Lib.hid hl
    clear hway HW3
    by_cases hk0 : 0 < k
    · have hk1 : (0 : Int) < (k : Int) := by omega
      go_wp2_with fail
      refine (l71Files_any R code (N + 2 + 12000 * (n - k)) wr HLW.out.drew.rd (by omega)).mono ?_
      rintro e w4 ⟨t, rfl, -, htA, htF, hd⟩
      have HT := Lib.hid htA
      have HW4 := Lib.hid (HLW.out.next HS.out HSS.out HPR.out hd)
      clear htA htF hd
      go_wp2_with fail
      refine (groupMake_any t w4 HT.out).mono ?_
      rintro e w5 ⟨x, rfl, ⟨hx7, -⟩, hxA, hxF, hb5⟩
      have HW5 := Lib.hid (HW4.out.later hb5)
      have HX := Lib.hid hxA
      have HXF := Lib.hid (show ∀ y ∈ x.xs, ∀ b ∈ Dat.fp y, w4.heap.size ≤ b from fun y hy b hb => hxF.ge b (List.mem_append_right _ (List.mem_flatMap.2 ⟨y, hy, hb⟩)))
      have HSL := Lib.hid HW4.out.ltS
      have HPL := Lib.hid HW4.out.ltP
      have HWL := Lib.hid HW4.out.drew.touch.size
      have HOL := Lib.hid HW4.out.own.lt
      clear hxA hxF hb5
      obtain ⟨⟨s0, s1⟩, zs, -, -⟩ := HW5.out.cells
      have zs1 := zs 1
      obtain ⟨la, lc, ls⟩ := l
      obtain ⟨xa, xc, xs⟩ := x
      simp only [Loc.val] at s1 hl hx7 ⊢
      by_cases h40 : ls.length + xs.length ≤ 40
      · have h41 : (ls.length : Int) + (xs.length : Int) ≤ 40 := by omega
        go_wp2_with (at_builtin; refine wpList_append_all rfl _ _ 23 rfl w.heap.size 53 elem_rec ⟨la, lc, ls⟩ rfl HW5.out.own ⟨xa, xc, xs⟩ rfl HX.out (fun z hz b hb h => by have := HXF.out z hz b hb; have := (HOL.out b h.symm).2; omega) (by simp only; omega) HW5.out.drew.touch.size ?_)
        intro l' w6 hap
        have HAP := Lib.hid hap
        have HW6 := Lib.hid (HW5.out.more HCL.out HS.out HSS.out HSP.out hap (fun y hy b hb => by have := HXF.out y hy b hb; have := HSL.out; have := HPL.out; have := HWL.out; omega))
        obtain ⟨m1, m2⟩ := HW5.out.mid hap
        have c1 : w6.cell? ⟨S, 1, none⟩ = some (.slice la ls.length lc) := by rw [cell_of_row _ _ _ _ _ _ m1]; rfl
        have z1 := frozen_of_row _ _ 1 _ _ m1
        obtain ⟨na, nc, ns⟩ := l'
        simp only [Loc.val] at HW6 ⊢
        clear hap m1 m2 s0 s1 zs zs1
        go_wp2_with fail
        go_roundw
        case rel =>
          refine ⟨k - 1, ⟨na, nc, ns⟩, by omega, by go_num, ?_, ?_⟩
          · rw [HAP.out.xs, List.length_append]; exact h40
          · have := HW6.out
            exact ⟨this.drew.mono (by omega), this.row, this.res, this.own, this.fp, this.ob⟩
        case measure => simp [intOf]; omega
      · have h41 : ¬ (ls.length : Int) + (xs.length : Int) ≤ 40 := by omega
        go_wp2_with fail
        go_roundw
        case rel =>
          refine ⟨k - 1, ⟨la, lc, ls⟩, by omega, by go_num, hl, ?_⟩
          have := HW5.out
          exact ⟨this.drew.mono (by omega), this.row, this.res, this.own, this.fp, this.ob⟩
        case measure => simp [intOf]; omega
    · have hk00 : k = 0 := by omega
      subst hk00
      go_wp2_with fail
      refine (pick_any R code (N + 2 + 12000 * (n - 0)) 24 wr HLW.out.drew.rd (by omega) (by decide) (by decide)).mono ?_
      rintro e w4 ⟨⟨q, rfl, ql, qh⟩, hd⟩
      have HW4 := Lib.hid (HLW.out.next HS.out HSS.out HPR.out hd)
      clear hd HLW
      obtain ⟨la, lc, ls⟩ := l
      simp only at hl
      by_cases hq0 : q = 0
      · subst hq0
        go_wp2_with fail
        have HF : Hid (∀ {m} w', Drew R code (N + 2 + 12000 * (n - 0) + 1 + 300 * m) w4 w' → w'.cell? ⟨S, 0, none⟩ = some (.int .i64 (5 * v))) := Lib.hid (fun w' h => (HW4.out.keep HS.out HSS.out h).1)
        refine wp_region_way 7 (by kernel_rfl) (by kernel_rfl) (by rfl) (Way.draw R code (N + 2 + 12000 * (n - 0) + 1) w4 [3]) (by kernel_rfl) ?_ ?_
        · exact (HW4.out.drew.rd.refl).later (Below.refl _ _).drew
        simp only [List.take_succ_cons, List.take_zero, List.drop_succ_cons, List.drop_zero]
        refine' wpRel_fix (by rfl) (fun U => by rfl) (fun m U w' hI hG => ?_) ?_
        rotate_left
        · have hf := HF.out w' hI
          unfold relAt
          go_simp
          first | exact ⟨rfl, Below.refl _ _⟩ | exact Below.refl _ _ | exact ⟨trivial, Below.refl _ _⟩
        simp only [Act.put, List.setIfInBounds_toArray, List.set_cons_zero, List.set_cons_succ]
        refine' wpRel_fix (by rfl) (fun U => by rfl) (fun m U w' hI hG => ?_) ?_
        rotate_left
        · have hf := HF.out w' hI
          unfold relAt
          go_simp
          first | exact ⟨rfl, Below.refl _ _⟩ | exact Below.refl _ _ | exact ⟨trivial, Below.refl _ _⟩
        simp only [Act.put, List.setIfInBounds_toArray, List.set_cons_zero, List.set_cons_succ]
        refine' wpRel_fix (by rfl) (fun U => by rfl) (fun m U w' hI hG => ?_) ?_
        rotate_left
        · have hf := HF.out w' hI
          unfold relAt
          go_simp
          first | exact ⟨rfl, Below.refl _ _⟩ | exact Below.refl _ _ | exact ⟨trivial, Below.refl _ _⟩
        simp only [Act.put, List.setIfInBounds_toArray, List.set_cons_zero, List.set_cons_succ]
        refine wpRel_chain 0 (IntR 0 4) rfl rfl (IntR.stable _ _) (fun U => by rfl) (fun U w' hI hG => ?_) ?_
        · unfold chainAt
          go_simp
          refine (pick_any R code (N + 2 + 12000 * (n - 0) + 1 + 300 * 0) 4 w' hI.rd (by omega) (by decide) (by decide)).mono ?_
          rintro e w'' ⟨⟨p, rfl, pl, ph⟩, hd⟩
          exact ⟨⟨_, rfl, p, rfl, pl, ph⟩, hd.touch, hI.trans (hd.mono (by omega))⟩
        simp only [Act.put, List.setIfInBounds_toArray, List.set_cons_zero, List.set_cons_succ]
        refine wpRel_rel (IntR (5 * v) (5 * v + 4)) rfl (IntR.stable _ _) (by rfl) (fun U => by rfl) (fun m U w' hI hG => ?_) ?_
        · obtain ⟨p, hp, pl, ph⟩ := hG _ (List.Mem.head _) (by rfl)
          have ew : IntKind.i64.wrap (5 * v + p) = 5 * v + p := IntWalk.i64_in _ (by omega)
          simp only at hp
          unfold relAt
          simp only [hp]
          go_simp
          exact ⟨⟨_, rfl, by omega, by omega⟩, Below.refl _ _⟩
        simp only [Act.put, List.setIfInBounds_toArray, List.set_cons_zero, List.set_cons_succ]
        refine wpRel_rel (IntR (5 * v - 1) (5 * v + 3)) rfl (IntR.stable _ _) (by rfl) (fun U => by rfl) (fun m U w' hI hG => ?_) ?_
        · obtain ⟨p, hp, pl, ph⟩ := hG _ (List.Mem.head _) (by rfl)
          have ew : IntKind.i64.wrap (p - 1) = p - 1 := IntWalk.i64_in _ (by omega)
          simp only at hp
          unfold relAt
          simp only [hp]
          go_simp
          exact ⟨⟨_, rfl, by omega, by omega⟩, Below.refl _ _⟩
        simp only [Act.put, List.setIfInBounds_toArray, List.set_cons_zero, List.set_cons_succ]
        refine' wpRel_fix (by rfl) (fun U => by rfl) (fun m U w' hI hG => ?_) ?_
        rotate_left
        · have hf := HF.out w' hI
          unfold relAt
          go_simp
          first | exact ⟨rfl, Below.refl _ _⟩ | exact Below.refl _ _ | exact ⟨trivial, Below.refl _ _⟩
        simp only [Act.put, List.setIfInBounds_toArray, List.set_cons_zero, List.set_cons_succ]
        intro U w5 hI hG
        obtain ⟨p, hp, pl, ph⟩ := hG _ (List.Mem.head _)
        simp only at hp
        simp only [hp]
        have hd : Drew R code (N + 2 + 12000 * (n - 0) + 1 + 300 * 1) w4 w5 := hI
        have HW5 := Lib.hid (HW4.out.next HS.out HSS.out HPR.out hd)
        have HW6 := Lib.hid (HW5.out.put HCL.out HS.out HSS.out HSP.out p)
        have HRW := Lib.hid (And.intro HW5.out.row HW5.out.res)
        clear hI hG hp HF hd
        obtain ⟨m1, m2⟩ := HRW.out
        have s0 := cell_of_row _ _ 0 _ _ _ m1
        have s1 := cell_of_row _ _ 1 _ _ _ m1
        have p0 := cell_of_row _ _ 0 _ _ _ m2
        have p1 := cell_of_row _ _ 1 _ _ _ m2
        simp only [List.getElem?_toArray, List.getElem?_cons_zero, List.getElem?_cons_succ, Loc.val] at s0 s1 p0 p1
        have y0 := frozen_of_row _ _ 0 _ _ m1
        have y1 := frozen_of_row _ _ 1 _ _ m1
        have z0 := frozen_of_row _ _ 0 _ _ m2
        have z1 := frozen_of_row _ _ 1 _ _ m2
        have q1 : ¬ S = w.heap.size := HSP.out
        have q2 : ¬ w.heap.size = S := fun h => HSP.out h.symm
        clear m1 m2
        go_wp2_with fail
        refine bodyPost_ret (v := .agg #[.int .i64 p, .slice la (ls).length lc]) ?_ rfl ⟨⟨p, ⟨la, lc, ls⟩⟩, rfl, ?_, ?_, ?_, ?_, ?_, ?_⟩
        · simp only [results, Tryz.results13]
          go_simp
        · simp only; omega
        · simp only; omega
        · simp only; omega
        · exact (HW6.out.own.setOther (fun b hb => (HW6.out.ob b hb).2) (fun x hx b hb => (HW6.out.fp x hx b hb).2.2)).setOther (fun b hb => (HW6.out.ob b hb).2) (fun x hx b hb => (HW6.out.fp x hx b hb).2.2)
        · exact fun b hb => (HW6.out.fpAll b hb).1
        · exact ((HW6.out.drew.setCell HCL.out HS.out (Nat.le_refl _)).setCell HCL.out HS.out (Nat.le_refl _)).mono (by omega)
      · have hq0' : (q == 0) = false := by rw [beq_eq_false_iff_ne]; exact hq0
        by_cases hq1 : q = 1
        · subst hq1
          go_wp2_with fail
          have HF : Hid (∀ {m} w', Drew R code (N + 2 + 12000 * (n - 0) + 1 + 300 * m) w4 w' → w'.cell? ⟨S, 1, none⟩ = some (.slice la ls.length lc)) := Lib.hid (fun w' h => (HW4.out.keep HS.out HSS.out h).2)
          refine wp_region_way 5 (by kernel_rfl) (by kernel_rfl) (by rfl) (Way.draw R code (N + 2 + 12000 * (n - 0) + 1) w4 [3]) (by kernel_rfl) ?_ ?_
          · exact (HW4.out.drew.rd.refl).later (Below.refl _ _).drew
          simp only [List.take_succ_cons, List.take_zero, List.drop_succ_cons, List.drop_zero]
          refine' wpRel_fix (by rfl) (fun U => by rfl) (fun m U w' hI hG => ?_) ?_
          rotate_left
          · have hf := HF.out w' hI
            unfold relAt
            go_simp
            first | exact ⟨rfl, Below.refl _ _⟩ | exact Below.refl _ _ | exact ⟨trivial, Below.refl _ _⟩
          simp only [Act.put, List.setIfInBounds_toArray, List.set_cons_zero, List.set_cons_succ]
          refine' wpRel_fix (by rfl) (fun U => by rfl) (fun m U w' hI hG => ?_) ?_
          rotate_left
          · have hf := HF.out w' hI
            unfold relAt
            go_simp
            first | exact ⟨rfl, Below.refl _ _⟩ | exact Below.refl _ _ | exact ⟨trivial, Below.refl _ _⟩
          simp only [Act.put, List.setIfInBounds_toArray, List.set_cons_zero, List.set_cons_succ]
          refine' wpRel_fix (by rfl) (fun U => by rfl) (fun m U w' hI hG => ?_) ?_
          rotate_left
          · have hf := HF.out w' hI
            unfold relAt
            go_simp
            first | exact ⟨rfl, Below.refl _ _⟩ | exact Below.refl _ _ | exact ⟨trivial, Below.refl _ _⟩
          simp only [Act.put, List.setIfInBounds_toArray, List.set_cons_zero, List.set_cons_succ]
          refine wpRel_chain 0 (RecD w4.heap.size) rfl rfl (RecD.stable HW4.out.drew.rd.lt) (fun U => by rfl) (fun U w' hI hG => ?_) ?_
          · unfold chainAt
            go_simp
            refine (l71Rec_any R code (N + 2 + 12000 * (n - 0) + 1 + 300 * 0) w' hI.rd (by omega)).mono ?_
            rintro e w'' ⟨y, rfl, hyA, hyF, hd⟩
            exact ⟨⟨_, rfl, y, rfl, hyA, fun c hc => by have := hyF c hc; have := hI.touch.size; omega⟩, hd.touch, hI.trans (hd.mono (by omega))⟩
          simp only [Act.put, List.setIfInBounds_toArray, List.set_cons_zero, List.set_cons_succ]
          refine wpRel_rel (RowD w4.heap.size) rfl (RowD.stable HW4.out.drew.rd.lt) (by rfl) (fun U => by rfl) (fun m U w' hI hG => ?_) ?_
          · obtain ⟨y, hy, hyA, hyF⟩ := hG _ (List.Mem.head _) (by rfl)
            simp only at hy
            unfold relAt
            simp only [hy, LRec.val, Loc.val]
            go_simp
            have hb := (Below.refl w'.heap.size w').alloc (Nat.le_refl _) (Obj.cells #[.int .i64 y.kind, .string y.name, .slice y.sibs.a y.sibs.xs.length y.sibs.cap, .int .i64 y.n, .int .i64 y.sum] 53)
            exact ⟨⟨y, w'.heap.size, rfl, Dat.belowAll hyA hb, hyF, (show Drew R code _ w4 w' from hI).touch.size, heap_alloc_new w' _⟩, hb⟩
          simp only [Act.put, List.setIfInBounds_toArray, List.set_cons_zero, List.set_cons_succ]
          intro U w5 hI hG
          obtain ⟨y, g, hv, hyA, hyF, hgB, hgR⟩ := hG _ (List.Mem.head _)
          simp only at hv
          simp only [hv]
          have hd : Drew R code (N + 2 + 12000 * (n - 0) + 1 + 300 * 1) w4 w5 := hI
          have HW5 := Lib.hid (HW4.out.next HS.out HSS.out HPR.out hd)
          have hoff : ∀ b ∈ Dat.fp y, w.heap.size ≤ b ∧ b ≠ S ∧ b ≠ w.heap.size := by
            intro b hb
            have := hyF b hb; have := HW4.out.ltS; have := HW4.out.ltP; have := HW4.out.drew.touch.size
            omega
          have HM := Lib.hid (one_there (W := w5) (e' := 53) (⟨la, lc, ls⟩ : Loc LRec) y hgR rfl HW5.out.own hyA (fun b hb h => by have := hyF b hb; have := (HW4.out.own.lt b h.symm).2; omega) (by simp only; omega) HW5.out.drew.touch.size)
          have HOFF := Lib.hid hoff
          clear hI hG hv hyA hyF hgB hgR hd hoff HF
          go_wp2_with (at_builtin; refine wpList_append_one rfl _ _ 23 rfl _ 53 elem_rec ⟨la, lc, ls⟩ rfl g y rfl HM.out ?_)
          intro l' w6 hap
          have hln : l'.xs.length ≤ 41 := by rw [hap.xs, List.length_append]; simp only [List.length_singleton]; omega
          have HW6 := Lib.hid (HW5.out.more HCL.out HS.out HSS.out HSP.out hap (fun z hz b hb => by rw [List.mem_singleton.1 hz] at hb; exact HOFF.out b hb))
          have HRW := Lib.hid (HW5.out.mid hap)
          clear hap
          obtain ⟨na, nc, ns⟩ := l'
          simp only [Loc.val] at HW6 hln ⊢
          obtain ⟨m1, m2⟩ := HRW.out
          have s0 := cell_of_row _ _ 0 _ _ _ m1
          have s1 := cell_of_row _ _ 1 _ _ _ m1
          have p0 := cell_of_row _ _ 0 _ _ _ m2
          have p1 := cell_of_row _ _ 1 _ _ _ m2
          simp only [List.getElem?_toArray, List.getElem?_cons_zero, List.getElem?_cons_succ, Loc.val] at s0 s1 p0 p1
          have y0 := frozen_of_row _ _ 0 _ _ m1
          have y1 := frozen_of_row _ _ 1 _ _ m1
          have z0 := frozen_of_row _ _ 0 _ _ m2
          have z1 := frozen_of_row _ _ 1 _ _ m2
          have q1 : ¬ S = w.heap.size := HSP.out
          have q2 : ¬ w.heap.size = S := fun h => HSP.out h.symm
          clear m1 m2
          go_wp2_with fail
          refine bodyPost_ret (v := .agg #[.int .i64 (5 * v), .slice na (ns).length nc]) ?_ rfl ⟨⟨(5 * v), ⟨na, nc, ns⟩⟩, rfl, ?_, ?_, ?_, ?_, ?_, ?_⟩
          · simp only [results, Tryz.results13]
            go_simp
          · simp only; omega
          · simp only; omega
          · simp only; omega
          · exact (HW6.out.own.setOther (fun b hb => (HW6.out.ob b hb).2) (fun x hx b hb => (HW6.out.fp x hx b hb).2.2)).setOther (fun b hb => (HW6.out.ob b hb).2) (fun x hx b hb => (HW6.out.fp x hx b hb).2.2)
          · exact fun b hb => (HW6.out.fpAll b hb).1
          · exact ((HW6.out.drew.setCell HCL.out HS.out (Nat.le_refl _)).setCell HCL.out HS.out (Nat.le_refl _)).mono (by omega)
        · have hq1' : (q == 1) = false := by rw [beq_eq_false_iff_ne]; exact hq1
          by_cases hq2 : q = 2
          · subst hq2
            have hlw : LogWay R code (N + 2 + 12000 * (n - 0) + 1 + 300 * ls.length) w S w.heap.size (5 * v) ⟨la, lc, ls⟩ w4 := by
              have := HW4.out
              exact ⟨this.drew.mono (by omega), this.row, this.res, this.own, this.fp, this.ob⟩
            have HWS := Lib.hid hlw
            clear hlw HW4 HLL
            go_wp2_with fail
            go_loopg [] (41 - ls.length) (fun k wr => ∃ l : Loc LRec, k = 41 - l.xs.length ∧ l.xs.length ≤ 41 ∧ LogWay R code (N + 2 + 12000 * (n - 0) + 1 + 300 * l.xs.length) w S w.heap.size (5 * v) l wr)
            case atStart => exact ⟨⟨la, lc, ls⟩, rfl, by simp only; omega, HWS.out⟩
            case round =>
              obtain ⟨⟨ka, kc, ks⟩, hkk, hk41, hlw⟩ := hrel
              have HWR := Lib.hid hlw
              have HKK := Lib.hid hkk
              simp only at hk41 HWR
              clear hlw hkk HWS
              obtain ⟨w7, hw7⟩ : ∃ w7 : World, w7 = wr := ⟨_, rfl⟩
              subst hw7
              have HF : Hid (∀ {m} w', Drew R code (N + 2 + 12000 * (n - 0) + 1 + 300 * ks.length + 300 * m) w7 w' → w'.cell? ⟨S, 1, none⟩ = some (.slice ka ks.length kc)) := Lib.hid (fun w' h => (HWR.out.keep HS.out HSS.out h).2)
              have hkl : (ks.length : Int) ≤ 41 := by omega
              go_wp2_with fail
              refine wp_region_way 7 (by kernel_rfl) (by kernel_rfl) (by rfl) (Way.draw R code (N + 2 + 12000 * (n - 0) + 1 + 300 * ks.length) w7 [4]) (by kernel_rfl) ?_ ?_
              · exact (HWR.out.drew.rd.refl).later (Below.refl _ _).drew
              simp only [List.take_succ_cons, List.take_zero, List.drop_succ_cons, List.drop_zero]
              refine' wpRel_fix (by rfl) (fun U => by rfl) (fun m U w' hI hG => ?_) ?_
              rotate_left
              · have hf := HF.out w' hI
                unfold relAt
                go_simp
                first | exact ⟨rfl, Below.refl _ _⟩ | exact Below.refl _ _ | exact ⟨trivial, Below.refl _ _⟩
              simp only [Act.put, List.setIfInBounds_toArray, List.set_cons_zero, List.set_cons_succ]
              refine' wpRel_fix (by rfl) (fun U => by rfl) (fun m U w' hI hG => ?_) ?_
              rotate_left
              · have hf := HF.out w' hI
                unfold relAt
                go_simp
                first | exact ⟨rfl, Below.refl _ _⟩ | exact Below.refl _ _ | exact ⟨trivial, Below.refl _ _⟩
              simp only [Act.put, List.setIfInBounds_toArray, List.set_cons_zero, List.set_cons_succ]
              refine' wpRel_fix (by rfl) (fun U => by rfl) (fun m U w' hI hG => ?_) ?_
              rotate_left
              · have hf := HF.out w' hI
                unfold relAt
                go_simp
                first | exact ⟨rfl, Below.refl _ _⟩ | exact Below.refl _ _ | exact ⟨trivial, Below.refl _ _⟩
              simp only [Act.put, List.setIfInBounds_toArray, List.set_cons_zero, List.set_cons_succ]
              refine' wpRel_fix (by rfl) (fun U => by rfl) (fun m U w' hI hG => ?_) ?_
              rotate_left
              · have hf := HF.out w' hI
                unfold relAt
                go_simp
                first | exact ⟨rfl, Below.refl _ _⟩ | exact Below.refl _ _ | exact ⟨trivial, Below.refl _ _⟩
              simp only [Act.put, List.setIfInBounds_toArray, List.set_cons_zero, List.set_cons_succ]
              refine wpRel_chain 0 (IntR 0 2) rfl rfl (IntR.stable _ _) (fun U => by rfl) (fun U w' hI hG => ?_) ?_
              · unfold chainAt
                go_simp
                refine (pick_any R code (N + 2 + 12000 * (n - 0) + 1 + 300 * ks.length + 300 * 0) 2 w' hI.rd (by omega) (by decide) (by decide)).mono ?_
                rintro e w'' ⟨⟨p, rfl, pl, ph⟩, hd⟩
                exact ⟨⟨_, rfl, p, rfl, pl, ph⟩, hd.touch, hI.trans (hd.mono (by omega))⟩
              simp only [Act.put, List.setIfInBounds_toArray, List.set_cons_zero, List.set_cons_succ]
              refine wpRel_rel (IntR 40 42) rfl (IntR.stable _ _) (by rfl) (fun U => by rfl) (fun m U w' hI hG => ?_) ?_
              · obtain ⟨p, hp, pl, ph⟩ := hG _ (List.Mem.head _) (by rfl)
                have ew : IntKind.i64.wrap (40 + p) = 40 + p := IntWalk.i64_in _ (by omega)
                simp only at hp
                unfold relAt
                simp only [hp]
                go_simp
                exact ⟨⟨_, rfl, by omega, by omega⟩, Below.refl _ _⟩
              simp only [Act.put, List.setIfInBounds_toArray, List.set_cons_zero, List.set_cons_succ]
              refine wpRel_rel (RoomR ks.length) rfl (RoomR.stable _) (by rfl) (fun U => by rfl) (fun m U w' hI hG => ?_) ?_
              · obtain ⟨p, hp, pl, ph⟩ := hG _ (List.Mem.head _) (by rfl)
                simp only at hp
                unfold relAt
                simp only [hp]
                go_simp
                exact ⟨⟨p - 40, by rw [show 40 + (p - 40) = p by omega], by omega, by omega⟩, Below.refl _ _⟩
              simp only [Act.put, List.setIfInBounds_toArray, List.set_cons_zero, List.set_cons_succ]
              intro U w5 hI hG
              obtain ⟨p, hv, pl, ph⟩ := hG _ (List.Mem.head _)
              simp only at hv
              simp only [hv]
              have hd : Drew R code (N + 2 + 12000 * (n - 0) + 1 + 300 * ks.length + 300 * 1) w7 w5 := hI
              have HW5 := Lib.hid (HWR.out.next HS.out HSS.out HPR.out hd)
              clear hI hG hv hd HF HWR
              by_cases hroom : (ks.length : Int) < 40 + p
              · have hd1 : decide ((ks.length : Int) < 40 + p) = true := decide_eq_true hroom
                have hk40 : ks.length ≤ 40 := by omega
                have HM := Lib.hid (one_more (W := w5) (e' := 53) (cs := #[.int .i64 2, .string ⟨#[]⟩, .slice none 0 0, .int .i64 1, .int .i64 0]) (g := w5.heap.size) (⟨ka, kc, ks⟩ : Loc LRec) (⟨2, ⟨#[]⟩, ⟨none, 0, []⟩, 1, 0⟩ : LRec) rfl rfl HW5.out.own
                  ⟨⟨Nat.le_refl _, Nat.zero_le _, by simp, by simp, by simp⟩, Nat.zero_le _⟩ (fun b hb => by simp [Dat.fp, Loc.fp, Loc.blk] at hb) (by simp only; omega) HW5.out.drew.touch.size)
                have HB6 := Lib.hid ((Below.refl w5.heap.size w5).alloc (Nat.le_refl _) (Obj.cells #[.int .i64 2, .string ⟨#[]⟩, .slice none 0 0, .int .i64 1, .int .i64 0] 53))
                have HW6 := Lib.hid (HW5.out.later HB6.out)
                obtain ⟨⟨s0, s1⟩, -, -, -⟩ := HW5.out.cells
                simp only [Loc.val] at s1
                rw [hd1]
                have hSL := HW5.out.ltS
                have hSne : ¬ S = w5.heap.size := by omega
                go_wp2_with (at_builtin; refine wpList_append_one rfl _ _ 23 rfl _ 53 elem_rec ⟨ka, kc, ks⟩ rfl w5.heap.size (⟨2, ⟨#[]⟩, ⟨none, 0, []⟩, 1, 0⟩ : LRec) rfl HM.out ?_)
                intro l' w8 hap
                have hln : l'.xs.length = ks.length + 1 := by rw [hap.xs, List.length_append]; rfl
                have HLN := Lib.hid hln
                have HW8 := Lib.hid (HW6.out.more HCL.out HS.out HSS.out HSP.out hap (fun z hz b hb => by rw [List.mem_singleton.1 hz] at hb; simp [Dat.fp, Loc.fp, Loc.blk] at hb))
                obtain ⟨m1, m2⟩ := HW6.out.mid hap
                have c1 : w8.cell? ⟨S, 1, none⟩ = some (.slice ka ks.length kc) := by rw [cell_of_row _ _ _ _ _ _ m1]; rfl
                have z1 := frozen_of_row _ _ 1 _ _ m1
                obtain ⟨na, nc, ns⟩ := l'
                simp only [Loc.val] at HW8 HLN ⊢
                clear hap m1 m2 s0 s1 hln
                go_wp2_with fail
                go_roundg (41 - (ks.length + 1))
                case measure => have := HKK.out; (try simp only at this); omega
                case rel =>
                  refine ⟨⟨na, nc, ns⟩, by simp only; rw [HLN.out], by simp only; rw [HLN.out]; omega, ?_⟩
                  have := HW8.out
                  exact ⟨this.drew.mono (by simp only; rw [HLN.out]; omega), this.row, this.res, this.own, this.fp, this.ob⟩
              · have hd1 : decide ((ks.length : Int) < 40 + p) = false := decide_eq_false hroom
                rw [hd1]
                have HRW := Lib.hid (And.intro HW5.out.row HW5.out.res)
                obtain ⟨m1, m2⟩ := HRW.out
                have s0 := cell_of_row _ _ 0 _ _ _ m1
                have s1 := cell_of_row _ _ 1 _ _ _ m1
                have p0 := cell_of_row _ _ 0 _ _ _ m2
                have p1 := cell_of_row _ _ 1 _ _ _ m2
                simp only [List.getElem?_toArray, List.getElem?_cons_zero, List.getElem?_cons_succ, Loc.val] at s0 s1 p0 p1
                have y0 := frozen_of_row _ _ 0 _ _ m1
                have y1 := frozen_of_row _ _ 1 _ _ m1
                have z0 := frozen_of_row _ _ 0 _ _ m2
                have z1 := frozen_of_row _ _ 1 _ _ m2
                have q1 : ¬ S = w.heap.size := HSP.out
                have q2 : ¬ w.heap.size = S := fun h => HSP.out h.symm
                clear m1 m2
                go_wp2_with fail
                refine bodyPost_ret (v := .agg #[.int .i64 (5 * v), .slice ka (ks).length kc]) ?_ rfl ⟨⟨(5 * v), ⟨ka, kc, ks⟩⟩, rfl, ?_, ?_, ?_, ?_, ?_, ?_⟩
                · simp only [results, Tryz.results13]
                  go_simp
                · simp only; omega
                · simp only; omega
                · simp only; omega
                · exact (HW5.out.own.setOther (fun b hb => (HW5.out.ob b hb).2) (fun x hx b hb => (HW5.out.fp x hx b hb).2.2)).setOther (fun b hb => (HW5.out.ob b hb).2) (fun x hx b hb => (HW5.out.fp x hx b hb).2.2)
                · exact fun b hb => (HW5.out.fpAll b hb).1
                · exact ((HW5.out.drew.setCell HCL.out HS.out (Nat.le_refl _)).setCell HCL.out HS.out (Nat.le_refl _)).mono (by omega)
          · have hq2' : (q == 2) = false := by rw [beq_eq_false_iff_ne]; exact hq2
            have HRW := Lib.hid (And.intro HW4.out.row HW4.out.res)
            obtain ⟨m1, m2⟩ := HRW.out
            have s0 := cell_of_row _ _ 0 _ _ _ m1
            have s1 := cell_of_row _ _ 1 _ _ _ m1
            have p0 := cell_of_row _ _ 0 _ _ _ m2
            have p1 := cell_of_row _ _ 1 _ _ _ m2
            simp only [List.getElem?_toArray, List.getElem?_cons_zero, List.getElem?_cons_succ, Loc.val] at s0 s1 p0 p1
            have y0 := frozen_of_row _ _ 0 _ _ m1
            have y1 := frozen_of_row _ _ 1 _ _ m1
            have z0 := frozen_of_row _ _ 0 _ _ m2
            have z1 := frozen_of_row _ _ 1 _ _ m2
            have q1 : ¬ S = w.heap.size := HSP.out
            have q2 : ¬ w.heap.size = S := fun h => HSP.out h.symm
            clear m1 m2
            go_wp2_with fail
            refine bodyPost_ret (v := .agg #[.int .i64 (5 * v), .slice la (ls).length lc]) ?_ rfl ⟨⟨(5 * v), ⟨la, lc, ls⟩⟩, rfl, ?_, ?_, ?_, ?_, ?_, ?_⟩
            · simp only [results, Tryz.results13]
              go_simp
            · simp only; omega
            · simp only; omega
            · simp only; omega
            · exact (HW4.out.own.setOther (fun b hb => (HW4.out.ob b hb).2) (fun x hx b hb => (HW4.out.fp x hx b hb).2.2)).setOther (fun b hb => (HW4.out.ob b hb).2) (fun x hx b hb => (HW4.out.fp x hx b hb).2.2)
            · exact fun b hb => (HW4.out.fpAll b hb).1
            · exact ((HW4.out.drew.setCell HCL.out HS.out (Nat.le_refl _)).setCell HCL.out HS.out (Nat.le_refl _)).mono (by omega)
end Go.Proofs.YtdbejmnfnbkndaaGreatDoor

namespace Go.Proofs.YtdbejmnfnbkndaaGreatDoor
open Go Go.RowKit

/-- A drawn log. -/
structure DLog (w : World) (y : LLog) (w' : World) : Prop where
  lo : -1 ≤ y.from_
  hi : y.from_ ≤ 17
  few : y.recs.xs.length ≤ 44
  at_ : y.At w'
  bel : Below w.heap.size w w'
  ge : ∀ b ∈ y.recs.fp, w.heap.size ≤ b
def LogDrawn (w : World) (e : Ending) (w' : World) : Prop := ∃ y : LLog, e = .returned y.val ∧ DLog w y w'
def CutDrawn (w : World) (e : Ending) (w' : World) : Prop := ∃ (y : LLog) (n : Int), e = .returned (.tuple #[y.val, .int .i64 n]) ∧ -90 ≤ n ∧ n ≤ 70 ∧ DLog w y w'
def AddDrawn (w : World) (e : Ending) (w' : World) : Prop := ∃ (y : LLog) (z : Loc LRec), e = .returned (.tuple #[y.val, z.val]) ∧ z.xs.length ≤ 7 ∧ (∀ r ∈ z.xs, recB r.er = true) ∧ z.At w' ∧ DLog w y w'

/-- The region that draws twice, and lays the log as the result. -/
def Way.cut (R : Nat) (code : Loc UInt8) (N : Nat) (w : World) (P : Nat) (a b : Value) : Way :=
  ⟨[8, 12, 16], fun m w' => match m with
      | 0 => Drew R code N w w'
      | 1 => Drew R code (N + 300) w w'
      | 2 => Drew R code (N + 600) w w'
      | _ => ∃ W, Drew R code (N + 600) w W ∧ Later ((W.setCell ⟨P, 0, none⟩ a).setCell ⟨P, 1, none⟩ b) w', Touch [R, P],
    fun m _ _ h k => match m, h with
      | 0, h => Drew.later h k
      | 1, h => Drew.later h k
      | 2, h => Drew.later h k
      | _ + 3, ⟨W, h1, h2⟩ => ⟨W, h1, h2.trans (k.mono h2.size)⟩,
    fun _ _ h => Touch.of_below _ h⟩
theorem Touch.wide {R P : Nat} {w w' : World} (h : Touch [R] w w') : Touch [R, P] w w' := h.mono (fun x hx => by simp at hx; simp [hx])
theorem Way.cut_touch {R : Nat} {code : Loc UInt8} {N : Nat} {w : World} {P : Nat} {a b : Value} : ∀ {m : Nat} {w' : World}, (Way.cut R code N w P a b).I m w' → Touch [R, P] w w'
  | 0, _, h => Touch.wide (Drew.touch h)
  | 1, _, h => Touch.wide (Drew.touch h)
  | 2, _, h => Touch.wide (Drew.touch h)
  | _ + 3, _, ⟨_, h1, h2⟩ => ((Touch.wide h1.touch).trans ((Touch.setCell _ (by simp) _).trans (Touch.setCell _ (by simp) _))).trans (Touch.of_below _ h2)

set_option maxRecDepth 100000 in
set_option maxHeartbeats 1000000 in
theorem drawLogAdd_any (x : Loc UInt8) (w : World) (hx : x.At w) : Calls Tryz.prog 4 #[x.val] w (AddDrawn w) := by
  have hB0 : Below w.heap.size w (w.alloc (Obj.cells #[.int .i64 0, .slice none 0 0] 25)) := (Below.refl _ _).alloc (Nat.le_refl _) _
  have hc := Lib.hid (l6Open_new x _ (hx.belowAll hB0))
  have HP0 := Lib.hid (heap_alloc_new w (Obj.cells #[.int .i64 0, .slice none 0 0] 25))
  have HZ0 : Hid ((w.alloc (Obj.cells #[.int .i64 0, .slice none 0 0] 25)).heap.size = w.heap.size + 1) := Lib.hid (by simp)
  have HB0 := Lib.hid hB0
  clear hx hB0
  go_enter Tryz.func4, Tryz.ntmps4
  go_wp2_with fail
  generalize w.alloc (Obj.cells #[.int .i64 0, .slice none 0 0] 25) = w0 at *
  refine hc.out.mono ?_
  rintro e w1 ⟨R, code, rfl, hrd, hb, hR⟩
  have HRD := Lib.hid hrd
  have HS := Lib.hid hrd.lt
  have HCL := Lib.hid (Loc.lt_of_At hrd.at_)
  have HB1 := Lib.hid (HB0.out.trans (hb.mono HB0.out.size))
  have HRW : Hid (w.heap.size ≤ R) := Lib.hid (by have := HZ0.out; omega)
  have HPR : Hid (w.heap.size ≠ R) := Lib.hid (by have := HZ0.out; omega)
  have HP1 := Lib.hid ((hb.block w.heap.size (by rw [HZ0.out]; omega)).trans HP0.out)
  have HZ1 : Hid (w.heap.size < w1.heap.size) := Lib.hid (by have := hb.size; rw [HZ0.out] at this; omega)
  clear hrd hb hR hc
  go_wp2_with fail
  refine (l72Log_any R code 0 w1 HRD.out (by decide)).mono ?_
  rintro e w2 ⟨⟨yf, ⟨ya, yc, ys⟩⟩, rfl, hlo, hhi, hfew, hyO, hyF, hd⟩
  simp only [LLog.val, Loc.val]
  simp only at hlo hhi hfew hyO hyF
  have D2 := Lib.hid hd
  have HO := Lib.hid hyO
  have HF := Lib.hid hyF
  clear hd hyO hyF
  go_wp2_with fail
  refine (l71Files_any R code (0 + 80000) w2 D2.out.rd (by decide)).mono ?_
  rintro e w3 ⟨t, rfl, -, htA, htF, hd⟩
  have HT := Lib.hid htA
  have D3 := Lib.hid (D2.out.trans hd)
  have HO3 := Lib.hid (hd.keepOwn HO.out HS.out (fun x hx b hb => by have := HF.out b (List.mem_append_right _ (List.mem_flatMap.2 ⟨x, hx, hb⟩)); have := HS.out; omega))
  clear hd htA htF
  go_wp2_with fail
  refine (groupMake_any t w3 HT.out).mono ?_
  rintro e w4 ⟨⟨za, zc, zs⟩, rfl, ⟨hz7, hzR⟩, hzA, hzF, hb4⟩
  have D4 := Lib.hid (D3.out.later hb4)
  have HO4 := Lib.hid (HO3.out.belowAll hb4)
  have HZA := Lib.hid hzA
  have HZF := Lib.hid hzF
  have HZR := Lib.hid hzR
  have HW3 := Lib.hid D3.out.touch.size
  have hp4 := (D4.out.touch.block w.heap.size HZ1.out (by simpa using HPR.out)).trans HP1.out
  simp only [Loc.val] at hz7 ⊢
  have p0 := cell_of_row _ _ 0 _ _ _ hp4
  have p1 := cell_of_row _ _ 1 _ _ _ hp4
  simp only [List.getElem?_toArray, List.getElem?_cons_zero, List.getElem?_cons_succ, Loc.val] at p0 p1
  have z0 := frozen_of_row _ _ 0 _ _ hp4
  have z1 := frozen_of_row _ _ 1 _ _ hp4
  clear hp4 hzA hzF hzR hb4
  go_wp2_with fail
  refine bodyPost_ret (v := .tuple #[.agg #[.int .i64 yf, .slice ya ys.length yc], .slice za zs.length zc]) ?_ rfl ⟨⟨yf, ⟨ya, yc, ys⟩⟩, ⟨za, zc, zs⟩, rfl, hz7, HZR.out, ?_, hlo, hhi, by simp only; omega, ?_, ?_, fun b hb => by have := HF.out b hb; have := HZ1.out; omega⟩
  · simp only [results, Tryz.results4]
    go_simp
  · refine Loc.keep_At HZA.out fun b hb => ?_
    have h1 := HZF.out.ge b hb
    have h2 := HZ1.out
    have h3 := HW3.out
    rw [Below.heap_setCell _ _ _ _ (by simp only; omega), Below.heap_setCell _ _ _ _ (by simp only; omega)]
  · refine Loc.keep_At HO4.out.at_ fun b hb => ?_
    have h1 := HF.out b hb
    have h2 := HZ1.out
    rw [Below.heap_setCell _ _ _ _ (by simp only; omega), Below.heap_setCell _ _ _ _ (by simp only; omega)]
  · exact ((D4.out.below HB1.out HRW.out HB1.out.size).setCell (Nat.le_refl _) _).setCell (Nat.le_refl _) _

end Go.Proofs.YtdbejmnfnbkndaaGreatDoor

namespace Go.Proofs.YtdbejmnfnbkndaaGreatDoor
open Go Go.RowKit

end Go.Proofs.YtdbejmnfnbkndaaGreatDoor
