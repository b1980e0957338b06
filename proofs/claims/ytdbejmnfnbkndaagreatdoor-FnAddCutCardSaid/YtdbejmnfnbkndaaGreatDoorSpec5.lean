/- The reference's RecOk, LogOk: they answer as the program's. -/
import Derived.Test.YtdbejmnfnbkndaaGreatDoorSpec4
namespace Go.Proofs.YtdbejmnfnbkndaaGreatDoor
open Go Go.RowKit

theorem recB_done (n : ByteArray) (s : List Sib) (a b : Int) : recB ⟨2, n, s, a, b⟩ = (decide (n = ByteArray.empty) && decide (s = []) && decide (1 ≤ a ∧ a ≤ 6) && decide (0 ≤ b ∧ b ≤ 96)) := by
  unfold recB
  rw [if_neg (show ¬ (2 : Int) = 1 by decide), if_pos (show (2 : Int) = 2 from rfl)]

set_option maxRecDepth 100000 in
set_option maxHeartbeats 1000000 in
theorem sRecOk_any (x : LRec) (w : World) (hx : Dat.At w x) :
    Calls Tryz.prog 34 #[x.val] w fun e w' => e = .returned (.bool (recB x.er)) ∧ Below w.heap.size w w' := by
  obtain ⟨xk, xn, xs, xm, xq⟩ := x
  simp only [LRec.val]
  have hB := (Below.refl w.heap.size w).alloc (Nat.le_refl _) (Obj.cells #[.int .i64 xk, .string xn, xs.val, .int .i64 xm, .int .i64 xq] 53)
  have HB := Lib.hid hB
  clear hB
  by_cases h1 : xk = 1
  · subst h1
    have h3 := Lib.hid (sl3Name_any xn (w.alloc (Obj.cells #[.int .i64 1, .string xn, xs.val, .int .i64 xm, .int .i64 xq] 53)) hx.2)
    have h4 := Lib.hid (sSibsOk_any xs (w.alloc (Obj.cells #[.int .i64 1, .string xn, xs.val, .int .i64 xm, .int .i64 xq] 53)) (Loc.At.belowAll hx.1 HB.out))
    have h5 : Hid (Calls Tryz.prog 45 #[xs.val] (w.alloc (Obj.cells #[.int .i64 1, .string xn, xs.val, .int .i64 xm, .int .i64 xq] 53)) fun e w' => e = .returned (.bool (sibsB (xs.xs.map LSib.er))) ∧
        Below (w.heap.size + 1) (w.alloc (Obj.cells #[.int .i64 1, .string xn, xs.val, .int .i64 xm, .int .i64 xq] 53)) w' ∧ w'.cell? ⟨w.heap.size, 3, none⟩ = some (.int .i64 xm) ∧ w'.cell? ⟨w.heap.size, 4, none⟩ = some (.int .i64 xq)) := by
      refine h4.out.mono ?_
      rintro e w' ⟨he, hb⟩
      exact ⟨he, hb.mono (by simp), (hb.cell (by simp)).trans (cell_of_row _ _ _ _ _ (0, 0) (heap_alloc_new w _)), (hb.cell (by simp)).trans (cell_of_row _ _ _ _ _ (0, 0) (heap_alloc_new w _))⟩
    clear h4
    cases hn : nameB xn with
    | false =>
      rw [hn] at h3
      have HN := Lib.hid hn
      clear hn
      go_enter Tryz.func34, Tryz.ntmps34
      go_wp2_with (go_at_call 44; refine h3.out.mono ?_; rintro e w' ⟨rfl, rfl⟩)
      go_ret
      exact ⟨ret_bool (by simp [recB, LRec.er, HN.out]), HB.out⟩
    | true =>
      rw [hn] at h3
      have HN := Lib.hid hn
      clear hn
      generalize hs : sibsB (xs.xs.map LSib.er) = sb at h5
      have HS := Lib.hid hs
      clear hs
      cases sb
      all_goals
        go_enter Tryz.func34, Tryz.ntmps34
        go_wp2_with (first | (go_at_call 44; refine h3.out.mono ?_; rintro e w' ⟨rfl, rfl⟩) | (go_at_call 45; refine h5.out.mono ?_; rintro e w' ⟨rfl, hb, f3, f4⟩))
        all_goals
          go_ret
          exact ⟨ret_bool (by simp_all [recB, LRec.er, HN.out, HS.out] <;> (try (rw [Bool.eq_iff_iff]; simp))), HB.out.trans (hb.mono (by omega))⟩
  · by_cases h2 : xk = 2
    · subst h2
      obtain ⟨sa, sc, ss⟩ := xs
      simp only [Loc.val] at HB ⊢
      have h3 := fun w' => l6In_any xm 1 6 w'
      have h4 := fun w' => l6In_any xq 0 96 w'
      have hrec : recB (LRec.er ⟨2, xn, ⟨sa, sc, ss⟩, xm, xq⟩) = (decide (xn.toList = []) && decide (ss = []) && decide (1 ≤ xm ∧ xm ≤ 6) && decide (0 ≤ xq ∧ xq ≤ 96)) := by
        show recB ⟨2, xn, ss.map LSib.er, xm, xq⟩ = _
        rw [recB_done, decide_eq_decide.2 (empty_iff (s := xn)), decide_eq_decide.2 (List.map_eq_nil_iff (f := LSib.er) (l := ss))]
      generalize hb1 : decide (1 ≤ xm ∧ xm ≤ 6) = b1 at h3 hrec
      generalize hb2 : decide (0 ≤ xq ∧ xq ≤ 96) = b2 at h4 hrec
      have HREC := Lib.hid hrec
      have H3 := Lib.hid h3
      have H4 := Lib.hid h4
      clear hb1 hb2 h3 h4 hrec
      cases b1 <;> cases b2
      all_goals
        go_enter Tryz.func34, Tryz.ntmps34
        go_wp2_with (first | (go_at_call_of 33 (xm); refine (H3.out _).mono ?_; rintro e w' ⟨rfl, rfl⟩) | (go_at_call_of 33 (xq); refine (H4.out _).mono ?_; rintro e w' ⟨rfl, rfl⟩))
        all_goals
          go_ret
          refine ⟨ret_bool ?_, (Below.refl _ _).alloc (Nat.le_refl _) _⟩
          rw [HREC.out]
          simp [*]
    · have h1' : (xk == 1) = false := by simp [h1]
      have h2' : (xk == 2) = false := by simp [h2]
      go_enter Tryz.func34, Tryz.ntmps34
      go_wp2_with fail
      go_ret
      exact ⟨ret_bool (by simp_all [recB, LRec.er]), (Below.refl _ _).alloc (Nat.le_refl _) _⟩

theorem recsB_drop {xs : List LRec} {k : Nat} (h : k < xs.length) : recsB ((xs.drop k).map LRec.er) = (recB xs[k].er && recsB ((xs.drop (k + 1)).map LRec.er)) := by
  rw [List.drop_eq_getElem_cons h]; rfl

set_option maxRecDepth 100000 in
set_option maxHeartbeats 1000000 in
theorem sLogOk_any (x : LLog) (w : World) (hx : x.recs.At w) :
    Calls Tryz.prog 16 #[x.val] w fun e w' => e = .returned (.bool (logB x.er)) ∧ Below w.heap.size w w' := by
  obtain ⟨xf, ⟨ra, rc, rs⟩⟩ := x
  simp only [LLog.val, Loc.val]
  simp only at hx
  have hm := hx.lenMax
  simp only at hm
  have hB := (Below.refl w.heap.size w).alloc (Nat.le_refl _) (Obj.cells #[.int .i64 xf, .slice ra rs.length rc] 25)
  have HB := Lib.hid hB
  clear hB
  by_cases h1 : 0 ≤ xf ∧ xf ≤ 5000
  · have hc := Lib.hid (fun w' => l6In_yes xf 0 5000 w' h1)
    obtain ⟨h10, h11⟩ := h1
    by_cases h2 : xf % 5 = 0
    · by_cases h3 : (rs.length : Int) ≤ 40
      · have h2' : (xf % 5 != 0) = false := by simp [h2]
        have H2 := Lib.hid h2
        clear h2
        go_enter Tryz.func16, Tryz.ntmps16
        go_wp2_with (go_at_call 33; refine (hc.out _).mono ?_; rintro e w' ⟨rfl, rfl⟩)
        have e0 : (w.alloc (Obj.cells #[.int .i64 xf, .slice ra rs.length rc] 25)).cell? ⟨w.heap.size, 1, none⟩ = some (.slice ra rs.length rc) := by go_simp
        have hsz : (w.alloc (Obj.cells #[.int .i64 xf, .slice ra rs.length rc] 25)).heap.size = w.heap.size + 1 := by simp
        generalize w.alloc (Obj.cells #[.int .i64 xf, .slice ra rs.length rc] 25) = W1 at *
        have E0 := Lib.hid e0
        have HSZ := Lib.hid hsz
        clear e0 hsz
        go_loopw [3] (fun i wr => ∃ k : Nat, k ≤ rs.length ∧ i = .int .i64 k ∧ recsB (rs.map LRec.er) = recsB ((rs.drop k).map LRec.er) ∧ Below (w.heap.size + 1) W1 wr) (fun i _ => rs.length - (intOf i).toNat)
        case atStart => exact ⟨0, Nat.zero_le _, rfl, rfl, Below.refl _ _⟩
        case round =>
          obtain ⟨k, hk, rfl, hrel, hb⟩ := hrel
          have HR := Lib.hid hrel
          clear hrel
          have e1 : wr.cell? ⟨w.heap.size, 1, none⟩ = some (.slice ra rs.length rc) := (hb.cell (by simp)).trans E0.out
          have hbb : Below w.heap.size w wr := HB.out.trans (hb.mono (by simp))
          have HBB := Lib.hid hbb
          clear hbb
          by_cases hlt : k < rs.length
          · obtain ⟨a, ao, ha⟩ := hx.place hlt
            simp only at ha
            subst ha
            have hli : (k : Int) < (rs.length : Int) := by omega
            obtain ⟨c0, c1, c2, c3, c4⟩ := (hx.belowAll HBB.out).rec_ rfl hlt
            simp only at c0 c1 c2 c3 c4
            have hcall := Lib.hid (sRecOk_any rs[k] wr ((hx.belowAll HBB.out).elem (List.getElem_mem hlt)))
            have HC := Lib.hid (recsB_drop hlt)
            cases hr : recB rs[k].er with
            | true =>
              rw [hr] at hcall
              have HV := Lib.hid hr
              clear hr
              go_wp2_with (go_at_call 34; refine hcall.out.mono ?_; rintro e w' ⟨rfl, hb2⟩)
              go_roundw
              case rel => exact ⟨k + 1, by omega, by go_num, by rw [HR.out, HC.out, HV.out]; rfl, hb.trans (hb2.mono (by have := hb.size; rw [HSZ.out] at this; exact this))⟩
              case measure => simp [intOf]; omega
            | false =>
              rw [hr] at hcall
              have HV := Lib.hid hr
              clear hr
              go_wp2_with (go_at_call 34; refine hcall.out.mono ?_; rintro e w' ⟨rfl, hb2⟩)
              go_ret
              refine ⟨ret_bool ?_, HBB.out.trans (hb2.mono HBB.out.size)⟩
              symm
              rw [← Bool.not_eq_true, logB_iff]
              rintro ⟨_, _, _, _, h⟩
              have h' : recsB (rs.map LRec.er) = true := h
              rw [HR.out, HC.out, HV.out] at h'
              cases h'
          · have hli : ¬ (k : Int) < (rs.length : Int) := by omega
            have HK := Lib.hid (show k = rs.length by omega)
            go_wp2_with fail
            go_ret
            refine ⟨ret_bool ?_, HBB.out⟩
            symm
            rw [logB_iff]
            refine ⟨by simp only [LLog.er]; omega, by simp only [LLog.er]; omega, H2.out, by simp only [LLog.er, List.length_map]; omega, ?_⟩
            show recsB (rs.map LRec.er) = true
            rw [HR.out, List.drop_of_length_le (by rw [HK.out]; exact Nat.le_refl _)]; rfl
      · have h2' : (xf % 5 != 0) = false := by simp [h2]
        have H2 := Lib.hid h2
        clear h2
        go_enter Tryz.func16, Tryz.ntmps16
        go_wp2_with (go_at_call 33; refine (hc.out _).mono ?_; rintro e w' ⟨rfl, rfl⟩)
        go_ret
        refine ⟨ret_bool ?_, HB.out⟩
        symm
        rw [← Bool.not_eq_true, logB_iff]
        rintro ⟨_, _, _, h, _⟩
        simp only [LLog.er, List.length_map] at h
        omega
    · have h2' : (xf % 5 != 0) = true := by simp [h2]
      have H2 := Lib.hid h2
      clear h2
      go_enter Tryz.func16, Tryz.ntmps16
      go_wp2_with (go_at_call 33; refine (hc.out _).mono ?_; rintro e w' ⟨rfl, rfl⟩)
      go_ret
      refine ⟨ret_bool ?_, HB.out⟩
      symm
      rw [← Bool.not_eq_true, logB_iff]
      rintro ⟨_, _, h, _, _⟩
      exact H2.out h
  · have hc := Lib.hid (fun w' => l6In_no xf 0 5000 w' h1)
    have H1 := Lib.hid h1
    clear h1
    go_enter Tryz.func16, Tryz.ntmps16
    go_wp2_with (go_at_call 33; refine (hc.out _).mono ?_; rintro e w' ⟨rfl, rfl⟩)
    go_ret
    refine ⟨ret_bool ?_, HB.out⟩
    symm
    rw [← Bool.not_eq_true, logB_iff]
    rintro ⟨h0, h1, _⟩
    exact H1.out ⟨h0, h1⟩
end Go.Proofs.YtdbejmnfnbkndaaGreatDoor
