/- isRec, areRecs, isLog: what they answer. -/
import Derived.Test.YtdbejmnfnbkndaaGreatDoorTree
namespace Go.Proofs.YtdbejmnfnbkndaaGreatDoor
open Go Go.RowKit

theorem empty_iff {s : ByteArray} : s = ByteArray.empty ↔ s.toList = [] := by rw [← toList_inj, empty_toList]

noncomputable def recB (r : Rec) : Bool :=
  if r.kind = 1 then nameB r.name && sibsB r.sibs && decide (r.n = 0) && decide (r.sum = 0)
  else if r.kind = 2 then decide (r.name = ByteArray.empty) && decide (r.sibs = []) && decide (1 ≤ r.n ∧ r.n ≤ 6) && decide (0 ≤ r.sum ∧ r.sum ≤ 96)
  else false

set_option maxRecDepth 100000 in
set_option maxHeartbeats 1000000 in
theorem isRec_any (x : LRec) (w : World) (hx : Dat.At w x) :
    Calls Tryz.prog 38 #[x.val] w fun e w' => e = .returned (.bool (recB x.er)) ∧ Below w.heap.size w w' := by
  obtain ⟨xk, xn, xs, xm, xq⟩ := x
  simp only [LRec.val]
  have hB := (Below.refl w.heap.size w).alloc (Nat.le_refl _) (Obj.cells #[.int .i64 xk, .string xn, xs.val, .int .i64 xm, .int .i64 xq] 53)
  have HB := Lib.hid hB
  clear hB
  by_cases h1 : xk = 1
  · subst h1
    have h3 := Lib.hid (isFileName_any xn (w.alloc (Obj.cells #[.int .i64 1, .string xn, xs.val, .int .i64 xm, .int .i64 xq] 53)) hx.2)
    have h4 := Lib.hid (areSibs_any xs (w.alloc (Obj.cells #[.int .i64 1, .string xn, xs.val, .int .i64 xm, .int .i64 xq] 53)) (Loc.At.belowAll hx.1 HB.out))
    have h5 : Hid (Calls Tryz.prog 50 #[xs.val] (w.alloc (Obj.cells #[.int .i64 1, .string xn, xs.val, .int .i64 xm, .int .i64 xq] 53)) fun e w' => e = .returned (.bool (sibsB (xs.xs.map LSib.er))) ∧
        Below (w.heap.size + 1) (w.alloc (Obj.cells #[.int .i64 1, .string xn, xs.val, .int .i64 xm, .int .i64 xq] 53)) w' ∧ w'.cell? ⟨w.heap.size, 3, none⟩ = some (.int .i64 xm) ∧ w'.cell? ⟨w.heap.size, 4, none⟩ = some (.int .i64 xq)) := by
      refine h4.out.mono ?_
      rintro e w' ⟨he, hb⟩
      exact ⟨he, hb.mono (by simp), (hb.cell (by simp)).trans (cell_of_row _ _ _ _ _ (0, 0) (heap_alloc_new w _)), (hb.cell (by simp)).trans (cell_of_row _ _ _ _ _ (0, 0) (heap_alloc_new w _))⟩
    clear h4
    cases hn : nameB xn with
    | false =>
      rw [hn] at h3
      have HN := Lib.hid hn
      clear hn
      go_enter Tryz.func38, Tryz.ntmps38
      go_wp2_with (go_at_call 49; refine h3.out.mono ?_; rintro e w' ⟨rfl, rfl⟩)
      go_ret
      exact ⟨ret_bool (by simp [recB, LRec.er, HN.out]), HB.out⟩
    | true =>
      rw [hn] at h3
      have HN := Lib.hid hn
      clear hn
      generalize hs : sibsB (xs.xs.map LSib.er) = sb at h5
      have HS := Lib.hid hs
      clear hs
      cases sb
      all_goals
        go_enter Tryz.func38, Tryz.ntmps38
        go_wp2_with (first | (go_at_call 49; refine h3.out.mono ?_; rintro e w' ⟨rfl, rfl⟩) | (go_at_call 50; refine h5.out.mono ?_; rintro e w' ⟨rfl, hb, f3, f4⟩))
        all_goals
          go_ret
          exact ⟨ret_bool (by simp_all [recB, LRec.er, HN.out, HS.out] <;> (try (rw [Bool.eq_iff_iff]; simp))), HB.out.trans (hb.mono (by omega))⟩
  · by_cases h2 : xk = 2
    · subst h2
      obtain ⟨sa, sc, ss⟩ := xs
      simp only [Loc.val] at HB ⊢
      go_enter Tryz.func38, Tryz.ntmps38
      go_wp2_with fail
      all_goals
        go_ret
        refine ⟨ret_bool ?_, (Below.refl _ _).alloc (Nat.le_refl _) _⟩
        simp_all [recB, LRec.er, empty_iff]
        try omega
    · have h1' : (xk == 1) = false := by simp [h1]
      have h2' : (xk == 2) = false := by simp [h2]
      go_enter Tryz.func38, Tryz.ntmps38
      go_wp2_with fail
      go_ret
      exact ⟨ret_bool (by simp_all [recB, LRec.er]), (Below.refl _ _).alloc (Nat.le_refl _) _⟩
/-- What is asked of the predicate: at each element, in each later world. -/
def PredOnR (g : Nat) (cap : Array Value) (xs : List LRec) (p : LRec → Bool) (w : World) : Prop :=
  ∀ W x, x ∈ xs → Below w.heap.size w W → Calls Tryz.prog g (#[x.val] ++ cap) W fun e W' => e = .returned (.bool (p x)) ∧ Below W.heap.size W W'

set_option maxRecDepth 100000 in
set_option maxHeartbeats 400000 in
theorem index_rec (g : Nat) (cap : Array Value) (eg : ∀ args w, (callFunc g args).run Tryz.prog w = .ok (.enter g args) w) (x : Loc LRec) (p : LRec → Bool) (w : World) (hx : x.At w) (hp : PredOnR g cap x.xs p w) :
    Calls Tryz.prog 48 #[x.val, .func (.func g) #[] cap] w fun e w' => (∃ r : Int, e = .returned (.int .i64 r) ∧ decide (0 ≤ r) = x.xs.any p) ∧ Below w.heap.size w w' := by
  obtain ⟨xa, xc, xs⟩ := x
  simp only [Loc.val]
  have h1 := hx.lenMax
  simp only at h1 hp
  have HP := Lib.hid hp
  clear hp
  go_enter Tryz.func48, Tryz.ntmps48
  go_wp2_with fail
  go_loopw [5, 8] (fun j i wr => ∃ k : Nat, k ≤ xs.length ∧ i = .int .i64 k ∧ xs.any p = (xs.drop k).any p ∧ Below w.heap.size w wr) (fun _ i _ => xs.length - (intOf i).toNat)
  case atStart => exact ⟨0, Nat.zero_le _, rfl, rfl, Below.refl _ _⟩
  case round =>
    obtain ⟨k, hk, rfl, hrel, hb⟩ := hrel
    have HR := Lib.hid hrel
    clear hrel
    by_cases hlt : k < xs.length
    · obtain ⟨a, ao, ha⟩ := hx.place hlt
      simp only at ha
      subst ha
      obtain ⟨c0, c1, c2, c3, c4⟩ := (hx.belowAll hb).rec_ rfl hlt
      simp only at c0 c1 c2 c3 c4
      have hcall := Lib.hid (HP.out wr xs[k] (List.getElem_mem hlt) hb)
      have HC : Hid ((xs.drop k).any p = (p xs[k] || (xs.drop (k + 1)).any p)) := by
        show _ = _
        rw [List.drop_eq_getElem_cons hlt]; rfl
      cases hpk : p xs[k] with
      | true =>
        rw [hpk] at hcall
        have HK := Lib.hid hpk
        clear hpk
        go_wp2_with fail
        refine hcall.out.mono ?_
        rintro e w' ⟨rfl, hb2⟩
        go_wp2_with fail
        go_ret
        exact ⟨⟨k, rfl, by rw [HR.out, HC.out, HK.out]; simp⟩, hb.trans (hb2.mono hb.size)⟩
      | false =>
        rw [hpk] at hcall
        have HK := Lib.hid hpk
        clear hpk
        go_wp2_with fail
        refine hcall.out.mono ?_
        rintro e w' ⟨rfl, hb2⟩
        go_wp2_with fail
        go_roundw
        case rel => exact ⟨k + 1, by omega, by go_num, by rw [HR.out, HC.out, HK.out]; rfl, hb.trans (hb2.mono hb.size)⟩
        case measure => simp [intOf]; omega
    · have HK := Lib.hid (show k = xs.length by omega)
      go_wp2_with fail
      go_ret
      exact ⟨⟨-1, rfl, by rw [HR.out, List.drop_of_length_le (by rw [HK.out]; exact Nat.le_refl _)]; rfl⟩, hb⟩

set_option maxHeartbeats 400000 in
theorem contains_rec (g : Nat) (cap : Array Value) (eg : ∀ args w, (callFunc g args).run Tryz.prog w = .ok (.enter g args) w) (x : Loc LRec) (p : LRec → Bool) (w : World) (hx : x.At w) (hp : PredOnR g cap x.xs p w) :
    Calls Tryz.prog 36 #[x.val, .func (.func g) #[] cap] w fun e w' => e = .returned (.bool (x.xs.any p)) ∧ Below w.heap.size w w' := by
  have h := Lib.hid (index_rec g cap eg x p w hx hp)
  clear hp
  go_enter Tryz.func36, Tryz.ntmps36
  go_wp2_with (go_at_call 48; refine h.out.mono ?_; rintro e w' ⟨⟨r, rfl, hr⟩, hb⟩; have HR := Lib.hid hr; clear hr)
  go_ret
  exact ⟨ret_bool HR.out, hb⟩

set_option maxRecDepth 100000 in
set_option maxHeartbeats 400000 in
theorem areRecs_clo (x : LRec) (W : World) (hx : Dat.At W x) :
    Calls Tryz.prog 37 #[x.val] W fun e W' => e = .returned (.bool (!recB x.er)) ∧ Below W.heap.size W W' := by
  have hB := (Below.refl W.heap.size W).alloc (Nat.le_refl _) (Obj.cells x.cells.toArray 53)
  have h3 := Lib.hid (isRec_any x _ (Dat.belowAll hx hB))
  have HB := Lib.hid hB
  clear hB
  simp only [LRec.val]
  simp only [LRec.cells] at h3 HB
  go_enter Tryz.func37, Tryz.ntmps37
  go_wp2_with (go_at_call 38; refine h3.out.mono ?_; rintro e w' ⟨rfl, hb2⟩)
  go_ret
  exact ⟨rfl, HB.out.trans (hb2.mono (by simp))⟩

noncomputable def recsB (l : List Rec) : Bool := l.all recB

set_option maxRecDepth 100000 in
set_option maxHeartbeats 400000 in
theorem areRecs_any (x : Loc LRec) (w : World) (hx : x.At w) :
    Calls Tryz.prog 21 #[x.val] w fun e w' => e = .returned (.bool (recsB (x.xs.map LRec.er))) ∧ Below w.heap.size w w' := by
  have eg : ∀ args w, (callFunc 37 args).run Tryz.prog w = .ok (.enter 37 args) w := enters_of Tryz.func37 (by kernel_rfl) rfl
  have hcon := Lib.hid (contains_rec 37 #[] eg x (fun b => !recB b.er) w hx (fun W y hy hb => areRecs_clo y W (Dat.belowAll (hx.elem hy) hb)))
  go_enter Tryz.func21, Tryz.ntmps21
  go_wp2_with (go_at_call 36; refine hcon.out.mono ?_; rintro e w' ⟨rfl, hb2⟩)
  go_ret
  refine ⟨ret_bool ?_, hb2⟩
  simp only [recsB, List.all_map, List.not_any_eq_all_not, Bool.not_not]
  rfl

noncomputable def logB (l : Log) : Bool := decide (0 ≤ l.from_) && decide (l.from_ ≤ 5000) && decide (l.from_ % 5 = 0) && decide (l.recs.length ≤ 40) && recsB l.recs

theorem logB_iff (l : Log) : logB l = true ↔ 0 ≤ l.from_ ∧ l.from_ ≤ 5000 ∧ l.from_ % 5 = 0 ∧ l.recs.length ≤ 40 ∧ recsB l.recs = true := by
  simp only [logB, Bool.and_eq_true, decide_eq_true_eq, and_assoc]

set_option maxRecDepth 100000 in
set_option maxHeartbeats 1000000 in
theorem isLog_any (x : LLog) (w : World) (hx : x.recs.At w) :
    Calls Tryz.prog 20 #[x.val] w fun e w' => e = .returned (.bool (logB x.er)) ∧ Below w.heap.size w w' := by
  obtain ⟨xf, xr⟩ := x
  simp only [LLog.val]
  simp only at hx
  have h3 := Lib.hid (areRecs_any xr (w.alloc (Obj.cells #[.int .i64 xf, xr.val] 25)) (hx.belowAll ((Below.refl _ _).alloc (Nat.le_refl _) _)))
  generalize hrb : recsB (xr.xs.map LRec.er) = rb at h3
  have HR := Lib.hid hrb
  clear hrb
  obtain ⟨ra, rc, rs⟩ := xr
  simp only [Loc.val] at h3 ⊢
  go_enter Tryz.func20, Tryz.ntmps20
  go_wp2_with (go_at_call 21; refine h3.out.mono ?_; rintro e w' ⟨rfl, hb2⟩)
  all_goals
    go_ret
    refine ⟨ret_bool ?_, ?_⟩
    rotate_left
    · first
        | exact ((Below.refl _ _).alloc (Nat.le_refl _) _).trans (hb2.mono (by simp))
        | exact (Below.refl _ _).alloc (Nat.le_refl _) _
    refine Bool.eq_iff_iff.2 ?_
    rw [logB_iff]
    have hR := HR.out
    constructor
    · intro h
      first
        | cases h; done
        | exact ⟨by simp only [LLog.er]; omega, by simp only [LLog.er]; omega, by simp only [LLog.er]; omega, by simp only [LLog.er, List.length_map]; omega, hR.trans h⟩
    · intro h
      have h4 := h.2.2.2.1
      simp only [LLog.er, List.length_map] at h4
      obtain ⟨h0, h1, h2, _, h5⟩ := h
      simp only [LLog.er] at h0 h1 h2
      first
        | exact hR.symm.trans h5
        | (exfalso; omega)
end Go.Proofs.YtdbejmnfnbkndaaGreatDoor
