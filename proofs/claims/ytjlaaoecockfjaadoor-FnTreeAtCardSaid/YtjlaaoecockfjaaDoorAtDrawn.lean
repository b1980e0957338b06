/- The walk of FnTreeAt: a file is found by its name. -/
import Derived.Test.YtjlaaoecockfjaaDoorDraw6
import Derived.Test.YtjlaaoecockfjaaDoorAtLaw
import Derived.Test.YtjlaaoecockfjaaDoorLv
namespace Go.Proofs.YtjlaaoecockfjaaDoor
open Go Go.RowKit

set_option maxRecDepth 100000 in
set_option maxHeartbeats 1000000 in
theorem treeAt_walk (x : Loc UInt8) (w : World) (hx : x.At w) :
    Calls Tryd.prog 7 #[x.val] w fun e w' => e = .returned (.bool true) ∧ Below w.heap.size w w' := by
  have h1 := hx.lenMax
  have HX := Lib.hid hx
  clear hx
  by_cases hbig : (1048576 : Int) < (x.xs.length : Int)
  · obtain ⟨xa, xc, xs⟩ := x
    simp only [Loc.val] at hbig ⊢
    go_enter Tryd.func7, Tryd.ntmps7
    go_wp2_with fail
    go_ret
    exact ⟨rfl, Below.refl _ _⟩
  · have hc := Lib.hid (drawTreeAt_any x w HX.out)
    obtain ⟨xa, xc, xs⟩ := x
    simp only [Loc.val] at hbig hc ⊢
    go_enter Tryd.func7, Tryd.ntmps7
    go_wp2_with fail
    refine hc.out.mono ?_
    rintro e w1 ⟨t, n, rfl, ht5, hn, htA, b1⟩
    have B1 := Lib.hid b1
    have T1 := Lib.hid htA
    have HT5 := Lib.hid ht5
    clear b1 htA ht5 hc
    generalize hz : atZ n (t.xs.map LFile.er) = Z
    have HZ := Lib.hid hz
    clear hz
    go_wp2_with fail
    refine (iTreeAt_any t n w1 T1.out).mono ?_
    rintro e w2 ⟨g, rfl, hg, hgA, -, b2⟩
    have HG := Lib.hid (show g.xs.map LSib.er = Z from hg.trans HZ.out)
    have G2 := Lib.hid hgA
    have B2 := Lib.hid (nextB B1.out b2)
    have T2 := Lib.hid (T1.out.belowAll b2)
    clear b2 hg hgA B1 T1
    go_wp2_with fail
    refine (sTreeAt_any t n w2 T2.out).mono ?_
    rintro e w3 ⟨v, rfl, hv, hvA, -, b3⟩
    have HV := Lib.hid (show v.xs.map LSib.er = Z from hv.trans HZ.out)
    have V3 := Lib.hid hvA
    have B3 := Lib.hid (nextB B2.out b3)
    have T3 := Lib.hid (T2.out.belowAll b3)
    have G3 := Lib.hid (G2.out.belowAll b3)
    clear b3 hv hvA B2 T2 G2
    go_wp2_with fail
    refine (lvSibs_any g v w3 G3.out V3.out).mono ?_
    rintro e w4 ⟨⟨q, rfl, hq⟩, b4⟩
    obtain rfl : q = true := hq.2 (HG.out.trans HV.out.symm)
    have B4 := Lib.hid (nextB B3.out b4)
    have T4 := Lib.hid (T3.out.belowAll b4)
    have G4 := Lib.hid (G3.out.belowAll b4)
    clear b4 hq B3 T3 G3
    go_wp2_with fail
    refine (sTreeOk_any t w4 T4.out).mono ?_
    rintro e w5 ⟨rfl, b5⟩
    have B5 := Lib.hid (nextB B4.out b5)
    have T5 := Lib.hid (T4.out.belowAll b5)
    have G5 := Lib.hid (G4.out.belowAll b5)
    clear b5 B4 T4 G4
    generalize hb : treeB (t.xs.map LFile.er) = b
    have HB := Lib.hid hb
    clear hb
    cases b with
    | false =>
      go_wp2_with fail
      refine (sTreeAt_any t n w5 T5.out).mono ?_
      rintro e w6 ⟨u, rfl, hu, huA, -, b6⟩
      have HU := Lib.hid (show u.xs.map LSib.er = Z from hu.trans HZ.out)
      have U6 := Lib.hid huA
      have B6 := Lib.hid (nextB B5.out b6)
      have G6 := Lib.hid (G5.out.belowAll b6)
      clear b6 hu huA
      go_wp2_with fail
      refine (lvSibs_any g u w6 G6.out U6.out).mono ?_
      rintro e w7 ⟨⟨q, rfl, hq⟩, b7⟩
      obtain rfl : q = true := hq.2 (HG.out.trans HU.out.symm)
      have B7 := Lib.hid (nextB B6.out b7)
      clear b7 hq
      go_wp2_with fail
      go_ret
      exact ⟨rfl, B7.out⟩
    | true =>
      have HZL : Hid (Z = (atLoc n t.xs).xs.map LSib.er) := Lib.hid (by rw [atLoc_er, ← HZ.out, atZ, if_pos HB.out])
      obtain ⟨ta, tc, ts⟩ := t
      have ht6 : ts.length ≤ 5 := HT5.out
      simp only [Loc.val] at T5 HZL ⊢
      go_wp2_with fail
      go_loop [6] (fun i => ∃ k : Nat, k ≤ ts.length ∧ i = .int .i64 k ∧ atLoc n ts = atLoc n (ts.drop k)) (fun i => ts.length - (intOf i).toNat)
      case atStart => exact ⟨0, Nat.zero_le _, rfl, rfl⟩
      case round =>
        obtain ⟨k, hk, rfl, hrel⟩ := hrel
        have HR := Lib.hid hrel
        clear hrel
        by_cases hlt : k < ts.length
        · obtain ⟨a, ao, ha⟩ := T5.out.place hlt
          simp only at ha
          subst ha
          have hc1 := T5.out.file rfl hlt
          simp only at hc1
          obtain ⟨c0, c1⟩ := hc1
          have hd := List.drop_eq_getElem_cons hlt
          have HD := Lib.hid hd
          clear hd
          by_cases hnn : ts[k].name = n
          · have he : (ts[k].name.toList == n.toList) = true := by simp [hnn]
            have HN := Lib.hid hnn
            have HS5 := Lib.hid (T5.out.elem (List.getElem_mem hlt)).1
            clear hnn
            go_wp2_with fail
            refine (lvSibs_any g ts[k].sibs w5 G5.out HS5.out).mono ?_
            rintro e w7 ⟨⟨q, rfl, hq⟩, b7⟩
            obtain rfl : q = true := hq.2 (by rw [HG.out, HZL.out, HR.out, HD.out, atLoc, if_pos HN.out])
            have B7 := Lib.hid (nextB B5.out b7)
            clear b7 hq
            go_wp2_with fail
            go_ret
            exact ⟨rfl, B7.out⟩
          · have he : (ts[k].name.toList == n.toList) = false := by rw [beq_eq_false_iff_ne]; exact fun h => hnn (toList_inj.1 h)
            have HN := Lib.hid hnn
            clear hnn
            go_wp2_with fail
            go_round
            case rel => exact ⟨k + 1, by omega, by go_num, by rw [HR.out, HD.out, atLoc, if_neg HN.out]⟩
            case measure => simp [intOf]; omega
        · have hkk : k = ts.length := by omega
          subst hkk
          have hg0 : g.xs.length = 0 := by
            have h2 := HG.out
            rw [HZL.out, HR.out, List.drop_length] at h2
            have := congrArg List.length h2
            simpa [atLoc] using this
          obtain ⟨ga, gc, gs⟩ := g
          simp only at hg0
          have hz0 : (((gs.length : Nat) : Int) == 0) = true := by simp [hg0]
          have HG0 := Lib.hid hg0
          clear hg0
          simp only [Loc.val]
          go_wp2_with fail
          go_ret
          exact ⟨rfl, B5.out⟩
end Go.Proofs.YtjlaaoecockfjaaDoor
