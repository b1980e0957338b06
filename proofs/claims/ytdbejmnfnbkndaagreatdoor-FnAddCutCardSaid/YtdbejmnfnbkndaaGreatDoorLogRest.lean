/- LogRest, the program's and the reference's. -/
import Derived.Test.YtdbejmnfnbkndaaGreatDoorLogF
import Derived.Test.YtdbejmnfnbkndaaGreatDoorSpec5
namespace Go.Proofs.YtdbejmnfnbkndaaGreatDoor
open Go Go.RowKit

theorem recB_sibs {r : Rec} (h : recB r = true) : r.sibs = [] ∨ SibsOK r.sibs := by
  unfold recB at h
  split at h
  · simp only [Bool.and_eq_true] at h; exact .inr (SibsOK.of h.1.1.2)
  · split at h
    · simp only [Bool.and_eq_true, decide_eq_true_eq] at h; exact .inl h.1.1.2
    · cases h
theorem logB_recsK {l : Log} (h : logB l = true) : recsK l.recs := by
  intro r hr
  have := (logB_iff l).1 h
  have h5 := this.2.2.2.2
  unfold recsB at h5
  exact recB_sibs (List.all_eq_true.1 h5 r hr)

/-- What both LogRests answer. -/
noncomputable def restZ (n : Int) (l : Log) : List Rec := if logB l = true ∧ 0 ≤ n then l.recs.drop (placeN l.from_ n l.recs.length) else []
theorem restZ_k (n : Int) (l : Log) : recsK (restZ n l) := by
  unfold restZ
  split
  · rename_i h
    exact fun r hr => logB_recsK h.1 r (List.mem_of_mem_drop hr)
  · intro r hr; cases hr

set_option maxRecDepth 100000 in
set_option maxHeartbeats 1000000 in
theorem iLogRest_any (x : LLog) (n : Int) (w : World) (hx : x.At w) (hn : -9223372036854775808 ≤ n ∧ n ≤ 9223372036854775807) :
    Calls Tryz.prog 11 #[x.val, .int .i64 n] w (NewPost w (fun ys : List LRec => ys.map LRec.er = restZ n x.er)) := by
  have hB := (Below.refl w.heap.size w).alloc (Nat.le_refl _) (Obj.cells #[.int .i64 x.from_, x.recs.val] 25)
  have hc := Lib.hid (isLog_any x _ (Loc.At.belowAll hx hB))
  have HX0 := Lib.hid (show LLog.At _ x from Loc.At.belowAll hx hB)
  generalize hb : logB x.er = b at hc
  have HBB := Lib.hid hb
  have HRE := Lib.hid (fun W (hW : x.At W) (h1 : 0 ≤ x.from_ ∧ x.from_ ≤ 5000) (h2 : 0 ≤ n) => rest_any x n W hW h1 ⟨h2, hn.2⟩)
  have HER : Hid (x.er.from_ = x.from_ ∧ x.er.recs = x.recs.xs.map LRec.er) := Lib.hid ⟨rfl, rfl⟩
  generalize hxx : x = x' at *
  obtain ⟨xf, xa, xc, xs⟩ := x
  subst hxx
  simp only [LLog.val, Loc.val] at hc hB HRE HX0 ⊢
  have HB := Lib.hid hB
  have BX := Lib.hid (Boxed.new w #[.int .i64 xf, .slice xa xs.length xc] 25)
  clear hB hb hx
  go_enter Tryz.func11, Tryz.ntmps11
  go_wp2_with fail
  generalize w.alloc (Obj.cells #[.int .i64 xf, .slice xa xs.length xc] 25) = w0 at *
  refine hc.out.mono ?_
  rintro e w1 ⟨rfl, hb1⟩
  have B1 := Lib.hid (HB.out.trans (hb1.mono HB.out.size))
  have X1 := Lib.hid (show LLog.At w1 _ from Loc.At.belowAll HX0.out hb1)
  have BX1 := Lib.hid (BX.out.keep hb1)
  have xc0 := BX1.out.2 0 _ rfl
  have xc1 := BX1.out.2 1 _ rfl
  clear hb1 hc
  cases b with
  | false =>
    go_wp2_with fail
    go_ret
    exact ⟨⟨none, 0, []⟩, rfl, by simp [restZ, HBB.out]; try omega, ⟨Nat.le_refl _, Nat.zero_le _, by simp, by simp, by simp⟩, by simpa [Loc.fp, Loc.blk] using Fr.nil _ _, B1.out⟩
  | true =>
    have HLB := Lib.hid ((logB_iff _).1 HBB.out)
    by_cases hn0 : n < 0
    · skip
      go_wp2_with fail
      go_ret
      exact ⟨⟨none, 0, []⟩, rfl, by simp [restZ, HBB.out]; try omega, ⟨Nat.le_refl _, Nat.zero_le _, by simp, by simp, by simp⟩, by simpa [Loc.fp, Loc.blk] using Fr.nil _ _, B1.out⟩
    · have hnd : decide (n < 0) = false := decide_eq_false hn0
      go_wp2_with fail
      refine (HRE.out w1 X1.out ⟨HLB.out.1, HLB.out.2.1⟩ (by omega)).mono ?_
      rintro e w2 ⟨y, rfl, hy, hyA, hb2⟩
      have B2 := Lib.hid (B1.out.trans (hb2.mono B1.out.size))
      have HYA := Lib.hid hyA
      have HZ := Lib.hid (show y.xs.map LRec.er = restZ n (LLog.er ⟨xf, ⟨xa, xc, xs⟩⟩) by
        rw [restZ, if_pos ⟨HBB.out, by omega⟩, hy, List.map_drop]
        simp only [LLog.er, List.length_map])
      have hyl : y.xs.length ≤ 1048576 := by
        have h4 := HLB.out.2.2.2.1
        simp only [LLog.er, List.length_map] at h4
        rw [hy, List.length_drop]; omega
      have HC := Lib.hid (copyRecs_own y w2 HYA.out hyl (by rw [HZ.out]; exact restZ_k _ _))
      clear hy hyA hb2 hyl
      go_wp2_with fail
      refine HC.out.mono ?_
      rintro e w3 hpost
      obtain ⟨z, rfl, hz, hzA, hzF, hb3⟩ := hpost.post
      have HZZ := Lib.hid (show z.xs.map LRec.er = _ from hz)
      have HZA := Lib.hid hzA
      have HZF := Lib.hid hzF
      have B3 := Lib.hid (B2.out.trans (hb3.mono B2.out.size))
      have S2 := Lib.hid B2.out.size
      clear hz hzA hzF hb3 hpost
      go_wp2_with fail
      go_ret
      exact ⟨z, rfl, HZZ.out.trans HZ.out, HZA.out, HZF.out.mono S2.out, B3.out⟩
end Go.Proofs.YtdbejmnfnbkndaaGreatDoor
