/- markWorld, heldWorld; the walk of FnExactWorldNew. -/
import Derived.Test.YtcfbppdfiehlnaaWor1
import Derived.Test.YtcfbppdfiehlnaaWor3
namespace Go.Proofs.Ytcfbppdfiehlnaa
open Go Go.RowKit

theorem er_three {xs : List LStore} (h : xs.map LStore.er = [newStore, newStore, newStore]) : xs.length = 3 ∧ ∀ q (hq : q < xs.length), xs[q].er = newStore := by
  have hl : xs.length = 3 := by have := congrArg List.length h; simpa using this
  refine ⟨hl, fun q hq => ?_⟩
  have h1 : (xs.map LStore.er)[q]? = some xs[q].er := by rw [List.getElem?_map, List.getElem?_eq_getElem hq]; rfl
  rw [h] at h1
  have h3 : q = 0 ∨ q = 1 ∨ q = 2 := by omega
  rcases h3 with rfl | rfl | rfl <;> exact (Option.some.inj h1).symm

set_option maxRecDepth 100000 in
theorem markWorld_any (x : Loc LStore) (k lo : Nat) (w : World) (hx : x.At w) (hf : Fr lo w x.fp) (hn : ∀ q (h : q < x.xs.length), x.xs[q].er = newStore) (hk : k + 8 * x.xs.length ≤ 1099511627776) :
    Calls Try.prog 13 #[.agg #[x.val], .int .i64 k] w (MarkPost lo x ((k + 8 * x.xs.length : Nat) : Int) (fun ys => ∀ q (h : q < ys.length), ys[q].er = mkSt k q) w) := by
  have b1 : Below w.heap.size w (w.alloc (Obj.cells #[x.val] 35)) := (Below.refl _ _).alloc (Nat.le_refl _) _
  have B := Lib.hid b1
  have HM := Lib.hid (markStoreS_any x k lo _ (hx.belowAll b1) (hf.belowAll b1) hn hk)
  clear b1 hx hf hn hk
  obtain ⟨xa, xc, xs⟩ := x
  simp only [Loc.val] at *
  go_enter Try.func13, Try.ntmps13
  go_wp2_with fail
  refine HM.out.mono ?_
  rintro e w4 ⟨ys, rfl, h2, h3, h4, h5, h6⟩
  have H2 := Lib.hid h2
  have H3 := Lib.hid h3
  have H4 := Lib.hid h4
  have H5 := Lib.hid h5
  have H6 := Lib.hid ((Touch.of_below _ B.out).trans h6)
  clear h2 h3 h4 h5 h6
  go_wp2_with fail
  go_ret
  exact ⟨ys, rfl, H2.out, H3.out, H4.out, H5.out, H6.out⟩

set_option maxRecDepth 100000 in
theorem heldWorld_any (x : Loc LStore) (k : Nat) (w : World) (hx : x.At w) (hc : ∀ q (h : q < x.xs.length), x.xs[q].er = mkSt k q) (hk : k + 8 * x.xs.length ≤ 1099511627776) :
    Calls Try.prog 14 #[.agg #[x.val], .int .i64 k] w fun e w' => e = .returned (.int .i64 ((k + 8 * x.xs.length : Nat) : Int)) ∧ Below w.heap.size w w' := by
  have b1 : Below w.heap.size w (w.alloc (Obj.cells #[x.val] 35)) := (Below.refl _ _).alloc (Nat.le_refl _) _
  have B := Lib.hid b1
  have hm := heldStoreS_any x k _ (hx.belowAll b1) hc hk
  obtain ⟨r, hr⟩ : ∃ r, k + 8 * x.xs.length = r := ⟨_, rfl⟩
  rw [hr] at hm ⊢
  have HM := Lib.hid hm
  have hr0 : ¬ ((r : Nat) : Int) < 0 := by omega
  clear b1 hx hc hk hr hm
  obtain ⟨xa, xc, xs⟩ := x
  simp only [Loc.val] at *
  go_enter Try.func14, Try.ntmps14
  go_wp2_with fail
  refine HM.out.mono ?_
  rintro e w4 ⟨rfl, b4⟩
  have B4 := Lib.hid (B.out.trans (b4.mono B.out.size))
  clear b4
  go_wp2_with fail
  go_ret
  exact ⟨rfl, B4.out⟩

set_option maxRecDepth 100000 in
set_option maxHeartbeats 2000000 in
theorem exactWorldNew_walk (w : World) :
    Calls Try.prog 4 #[] w fun e w' => e = .returned (.bool true) ∧ Below w.heap.size w w' := by
  go_enter Try.func4, Try.ntmps4
  go_wp2_with fail
  refine (sWorldNew_any _).mono ?_
  rintro e w1 ⟨⟨va, vc, vs⟩, rfl, hv, hvA, -, b1⟩
  have HV := Lib.hid hv
  have AV := Lib.hid hvA
  have B := Lib.hid b1
  clear hv hvA b1
  simp only [Loc.val]
  go_wp2_with fail
  have b2 : Below w1.heap.size w1 (w1.alloc (Obj.cells #[.slice va vs.length vc] 35)) := (Below.refl _ _).alloc (Nat.le_refl _) _
  have BV := Lib.hid (Boxed.new w1 #[.slice va vs.length vc] 35)
  have LV := Lib.hid (Loc.lt_of_At AV.out)
  first
    | replace B := Lib.hid (Loc.At.belowAll B.out (b2))
    | replace B := Lib.hid (nextB B.out (b2))
    | replace B := Lib.hid (Boxed.keep B.out (b2))
    | replace B := Lib.hid (Dat.belowAll B.out (b2))
    | replace B := Lib.hid (Fr.belowAll B.out (b2))
    | replace B := Lib.hid (Own.belowAll B.out (b2))
    | replace B := Lib.hid (Grows.next B.out (b2))
  first
    | replace AV := Lib.hid (Loc.At.belowAll AV.out (b2))
    | replace AV := Lib.hid (nextB AV.out (b2))
    | replace AV := Lib.hid (Boxed.keep AV.out (b2))
    | replace AV := Lib.hid (Dat.belowAll AV.out (b2))
    | replace AV := Lib.hid (Fr.belowAll AV.out (b2))
    | replace AV := Lib.hid (Own.belowAll AV.out (b2))
    | replace AV := Lib.hid (Grows.next AV.out (b2))
  have S2 := Lib.hid b2.size
  have LB : Hid (w1.heap.size < (w1.alloc (Obj.cells #[.slice va vs.length vc] 35)).heap.size) := Lib.hid (by simp)
  clear b2
  generalize w1.alloc (Obj.cells #[.slice va vs.length vc] 35) = w2 at *
  generalize w1.heap.size = pv at *
  have SW := Lib.hid B.out.size
  refine (iWorldNew_any _).mono ?_
  rintro e w3 ⟨⟨ga, gc, gs⟩, rfl, hg, hgA, hgF, b3⟩
  have HG := Lib.hid hg
  have AG := Lib.hid hgA
  have FG := Lib.hid hgF
  first
    | replace B := Lib.hid (Loc.At.belowAll B.out (b3))
    | replace B := Lib.hid (nextB B.out (b3))
    | replace B := Lib.hid (Boxed.keep B.out (b3))
    | replace B := Lib.hid (Dat.belowAll B.out (b3))
    | replace B := Lib.hid (Fr.belowAll B.out (b3))
    | replace B := Lib.hid (Own.belowAll B.out (b3))
    | replace B := Lib.hid (Grows.next B.out (b3))
  first
    | replace AV := Lib.hid (Loc.At.belowAll AV.out (b3))
    | replace AV := Lib.hid (nextB AV.out (b3))
    | replace AV := Lib.hid (Boxed.keep AV.out (b3))
    | replace AV := Lib.hid (Dat.belowAll AV.out (b3))
    | replace AV := Lib.hid (Fr.belowAll AV.out (b3))
    | replace AV := Lib.hid (Own.belowAll AV.out (b3))
    | replace AV := Lib.hid (Grows.next AV.out (b3))
  first
    | replace BV := Lib.hid (Loc.At.belowAll BV.out (b3))
    | replace BV := Lib.hid (nextB BV.out (b3))
    | replace BV := Lib.hid (Boxed.keep BV.out (b3))
    | replace BV := Lib.hid (Dat.belowAll BV.out (b3))
    | replace BV := Lib.hid (Fr.belowAll BV.out (b3))
    | replace BV := Lib.hid (Own.belowAll BV.out (b3))
    | replace BV := Lib.hid (Grows.next BV.out (b3))
  have S3 := Lib.hid b3.size
  clear hg hgA hgF b3
  have b4 : Below w3.heap.size w3 (w3.alloc (Obj.cells #[.slice ga gs.length gc] 35)) := (Below.refl _ _).alloc (Nat.le_refl _) _
  have BG := Lib.hid (Boxed.new w3 #[.slice ga gs.length gc] 35)
  have LG := Lib.hid FG.out.lt
  first
    | replace B := Lib.hid (Loc.At.belowAll B.out (b4))
    | replace B := Lib.hid (nextB B.out (b4))
    | replace B := Lib.hid (Boxed.keep B.out (b4))
    | replace B := Lib.hid (Dat.belowAll B.out (b4))
    | replace B := Lib.hid (Fr.belowAll B.out (b4))
    | replace B := Lib.hid (Own.belowAll B.out (b4))
    | replace B := Lib.hid (Grows.next B.out (b4))
  first
    | replace AV := Lib.hid (Loc.At.belowAll AV.out (b4))
    | replace AV := Lib.hid (nextB AV.out (b4))
    | replace AV := Lib.hid (Boxed.keep AV.out (b4))
    | replace AV := Lib.hid (Dat.belowAll AV.out (b4))
    | replace AV := Lib.hid (Fr.belowAll AV.out (b4))
    | replace AV := Lib.hid (Own.belowAll AV.out (b4))
    | replace AV := Lib.hid (Grows.next AV.out (b4))
  first
    | replace BV := Lib.hid (Loc.At.belowAll BV.out (b4))
    | replace BV := Lib.hid (nextB BV.out (b4))
    | replace BV := Lib.hid (Boxed.keep BV.out (b4))
    | replace BV := Lib.hid (Dat.belowAll BV.out (b4))
    | replace BV := Lib.hid (Fr.belowAll BV.out (b4))
    | replace BV := Lib.hid (Own.belowAll BV.out (b4))
    | replace BV := Lib.hid (Grows.next BV.out (b4))
  first
    | replace AG := Lib.hid (Loc.At.belowAll AG.out (b4))
    | replace AG := Lib.hid (nextB AG.out (b4))
    | replace AG := Lib.hid (Boxed.keep AG.out (b4))
    | replace AG := Lib.hid (Dat.belowAll AG.out (b4))
    | replace AG := Lib.hid (Fr.belowAll AG.out (b4))
    | replace AG := Lib.hid (Own.belowAll AG.out (b4))
    | replace AG := Lib.hid (Grows.next AG.out (b4))
  first
    | replace FG := Lib.hid (Loc.At.belowAll FG.out (b4))
    | replace FG := Lib.hid (nextB FG.out (b4))
    | replace FG := Lib.hid (Boxed.keep FG.out (b4))
    | replace FG := Lib.hid (Dat.belowAll FG.out (b4))
    | replace FG := Lib.hid (Fr.belowAll FG.out (b4))
    | replace FG := Lib.hid (Own.belowAll FG.out (b4))
    | replace FG := Lib.hid (Grows.next FG.out (b4))
  clear b4
  have v0 := BV.out.2 0 _ rfl
  simp only [Loc.val]
  go_wp2_with fail
  refine (eqWorld_any ⟨ga, gc, gs⟩ ⟨va, vc, vs⟩ _ AG.out AV.out).mono ?_
  rintro e w4 ⟨⟨q, rfl, hq⟩, b4⟩
  obtain rfl : q = true := hq.2 (HG.out.trans HV.out.symm)
  first
    | replace B := Lib.hid (Loc.At.belowAll B.out (b4))
    | replace B := Lib.hid (nextB B.out (b4))
    | replace B := Lib.hid (Boxed.keep B.out (b4))
    | replace B := Lib.hid (Dat.belowAll B.out (b4))
    | replace B := Lib.hid (Fr.belowAll B.out (b4))
    | replace B := Lib.hid (Own.belowAll B.out (b4))
    | replace B := Lib.hid (Grows.next B.out (b4))
  first
    | replace AV := Lib.hid (Loc.At.belowAll AV.out (b4))
    | replace AV := Lib.hid (nextB AV.out (b4))
    | replace AV := Lib.hid (Boxed.keep AV.out (b4))
    | replace AV := Lib.hid (Dat.belowAll AV.out (b4))
    | replace AV := Lib.hid (Fr.belowAll AV.out (b4))
    | replace AV := Lib.hid (Own.belowAll AV.out (b4))
    | replace AV := Lib.hid (Grows.next AV.out (b4))
  first
    | replace BV := Lib.hid (Loc.At.belowAll BV.out (b4))
    | replace BV := Lib.hid (nextB BV.out (b4))
    | replace BV := Lib.hid (Boxed.keep BV.out (b4))
    | replace BV := Lib.hid (Dat.belowAll BV.out (b4))
    | replace BV := Lib.hid (Fr.belowAll BV.out (b4))
    | replace BV := Lib.hid (Own.belowAll BV.out (b4))
    | replace BV := Lib.hid (Grows.next BV.out (b4))
  first
    | replace BG := Lib.hid (Loc.At.belowAll BG.out (b4))
    | replace BG := Lib.hid (nextB BG.out (b4))
    | replace BG := Lib.hid (Boxed.keep BG.out (b4))
    | replace BG := Lib.hid (Dat.belowAll BG.out (b4))
    | replace BG := Lib.hid (Fr.belowAll BG.out (b4))
    | replace BG := Lib.hid (Own.belowAll BG.out (b4))
    | replace BG := Lib.hid (Grows.next BG.out (b4))
  first
    | replace AG := Lib.hid (Loc.At.belowAll AG.out (b4))
    | replace AG := Lib.hid (nextB AG.out (b4))
    | replace AG := Lib.hid (Boxed.keep AG.out (b4))
    | replace AG := Lib.hid (Dat.belowAll AG.out (b4))
    | replace AG := Lib.hid (Fr.belowAll AG.out (b4))
    | replace AG := Lib.hid (Own.belowAll AG.out (b4))
    | replace AG := Lib.hid (Grows.next AG.out (b4))
  first
    | replace FG := Lib.hid (Loc.At.belowAll FG.out (b4))
    | replace FG := Lib.hid (nextB FG.out (b4))
    | replace FG := Lib.hid (Boxed.keep FG.out (b4))
    | replace FG := Lib.hid (Dat.belowAll FG.out (b4))
    | replace FG := Lib.hid (Fr.belowAll FG.out (b4))
    | replace FG := Lib.hid (Own.belowAll FG.out (b4))
    | replace FG := Lib.hid (Grows.next FG.out (b4))
  clear hq b4 v0
  have HG3 := Lib.hid (er_three HG.out)
  have g0 := BG.out.2 0 _ rfl
  have hm := markWorld_any ⟨ga, gc, gs⟩ 1 w2.heap.size w4 AG.out FG.out HG3.out.2 (by rw [show (⟨ga, gc, gs⟩ : Loc LStore).xs.length = 3 from HG3.out.1]; omega)
  simp only [Loc.val, show gs.length = 3 from HG3.out.1] at hm
  have hgl : gs.length = 3 := HG3.out.1
  have HGL := Lib.hid hgl
  have HM := Lib.hid hm
  clear hm
  rw [hgl] at g0
  clear hgl
  go_wp2_with fail
  refine HM.out.mono ?_
  rintro e w5 ⟨ys, rfl, hys, hyf, hyA, hyF, hT⟩
  have HYL : Hid (ys.length = 3) := Lib.hid (by have h := congrArg List.length hyf; simp only [List.length_map] at h; rw [h]; exact HGL.out)
  replace B := Lib.hid (B.out.trans (hT.below B.out.size (fun b hb => by have := FG.out.ge b hb; have := SW.out; omega)))
  replace AV := Lib.hid (hT.keepLoc AV.out (fun b hb hb2 => by have := LV.out b hb; have := FG.out.ge b hb2; have := LB.out; omega))
  replace BV := Lib.hid (BV.out.touch hT (fun hb2 => by have := FG.out.ge _ hb2; have := LB.out; omega))
  replace BG := Lib.hid (BG.out.touch hT (fun hb2 => by have := LG.out _ hb2; omega))
  have AY := Lib.hid hyA
  have HH : Hid (∀ W, (⟨ga, gc, ys⟩ : Loc LStore).At W → Calls Try.prog 14 #[.agg #[.slice ga 3 gc], .int .i64 1] W fun e w' => e = .returned (.int .i64 25) ∧ Below W.heap.size W w') := Lib.hid (fun W hW => by
    have h := heldWorld_any ⟨ga, gc, ys⟩ 1 W hW hys (by rw [show (⟨ga, gc, ys⟩ : Loc LStore).xs.length = 3 from HYL.out]; omega)
    simp only [Loc.val, HYL.out] at h
    exact h.mono fun e w' ⟨h1, h2⟩ => ⟨h1.trans (ret_int (by decide)), h2⟩)
  clear hys hyf hyA hyF hT HM g0 AG FG
  have g0 := BG.out.2 0 _ rfl
  rw [HGL.out] at g0
  go_wp2_with fail
  refine (HH.out _ AY.out).mono ?_
  rintro e w6 ⟨rfl, b6⟩
  first
    | replace B := Lib.hid (Loc.At.belowAll B.out (b6))
    | replace B := Lib.hid (nextB B.out (b6))
    | replace B := Lib.hid (Boxed.keep B.out (b6))
    | replace B := Lib.hid (Dat.belowAll B.out (b6))
    | replace B := Lib.hid (Fr.belowAll B.out (b6))
    | replace B := Lib.hid (Own.belowAll B.out (b6))
    | replace B := Lib.hid (Grows.next B.out (b6))
  first
    | replace AV := Lib.hid (Loc.At.belowAll AV.out (b6))
    | replace AV := Lib.hid (nextB AV.out (b6))
    | replace AV := Lib.hid (Boxed.keep AV.out (b6))
    | replace AV := Lib.hid (Dat.belowAll AV.out (b6))
    | replace AV := Lib.hid (Fr.belowAll AV.out (b6))
    | replace AV := Lib.hid (Own.belowAll AV.out (b6))
    | replace AV := Lib.hid (Grows.next AV.out (b6))
  first
    | replace BV := Lib.hid (Loc.At.belowAll BV.out (b6))
    | replace BV := Lib.hid (nextB BV.out (b6))
    | replace BV := Lib.hid (Boxed.keep BV.out (b6))
    | replace BV := Lib.hid (Dat.belowAll BV.out (b6))
    | replace BV := Lib.hid (Fr.belowAll BV.out (b6))
    | replace BV := Lib.hid (Own.belowAll BV.out (b6))
    | replace BV := Lib.hid (Grows.next BV.out (b6))
  first
    | replace BG := Lib.hid (Loc.At.belowAll BG.out (b6))
    | replace BG := Lib.hid (nextB BG.out (b6))
    | replace BG := Lib.hid (Boxed.keep BG.out (b6))
    | replace BG := Lib.hid (Dat.belowAll BG.out (b6))
    | replace BG := Lib.hid (Fr.belowAll BG.out (b6))
    | replace BG := Lib.hid (Own.belowAll BG.out (b6))
    | replace BG := Lib.hid (Grows.next BG.out (b6))
  first
    | replace AY := Lib.hid (Loc.At.belowAll AY.out (b6))
    | replace AY := Lib.hid (nextB AY.out (b6))
    | replace AY := Lib.hid (Boxed.keep AY.out (b6))
    | replace AY := Lib.hid (Dat.belowAll AY.out (b6))
    | replace AY := Lib.hid (Fr.belowAll AY.out (b6))
    | replace AY := Lib.hid (Own.belowAll AY.out (b6))
    | replace AY := Lib.hid (Grows.next AY.out (b6))
  clear b6 g0
  go_wp2_with fail
  refine (iWorldNew_any _).mono ?_
  rintro e w7 ⟨⟨ha, hc, hs⟩, rfl, hh, hhA, -, b7⟩
  have HHE := Lib.hid hh
  have AH := Lib.hid hhA
  first
    | replace B := Lib.hid (Loc.At.belowAll B.out (b7))
    | replace B := Lib.hid (nextB B.out (b7))
    | replace B := Lib.hid (Boxed.keep B.out (b7))
    | replace B := Lib.hid (Dat.belowAll B.out (b7))
    | replace B := Lib.hid (Fr.belowAll B.out (b7))
    | replace B := Lib.hid (Own.belowAll B.out (b7))
    | replace B := Lib.hid (Grows.next B.out (b7))
  first
    | replace AV := Lib.hid (Loc.At.belowAll AV.out (b7))
    | replace AV := Lib.hid (nextB AV.out (b7))
    | replace AV := Lib.hid (Boxed.keep AV.out (b7))
    | replace AV := Lib.hid (Dat.belowAll AV.out (b7))
    | replace AV := Lib.hid (Fr.belowAll AV.out (b7))
    | replace AV := Lib.hid (Own.belowAll AV.out (b7))
    | replace AV := Lib.hid (Grows.next AV.out (b7))
  first
    | replace BV := Lib.hid (Loc.At.belowAll BV.out (b7))
    | replace BV := Lib.hid (nextB BV.out (b7))
    | replace BV := Lib.hid (Boxed.keep BV.out (b7))
    | replace BV := Lib.hid (Dat.belowAll BV.out (b7))
    | replace BV := Lib.hid (Fr.belowAll BV.out (b7))
    | replace BV := Lib.hid (Own.belowAll BV.out (b7))
    | replace BV := Lib.hid (Grows.next BV.out (b7))
  first
    | replace BG := Lib.hid (Loc.At.belowAll BG.out (b7))
    | replace BG := Lib.hid (nextB BG.out (b7))
    | replace BG := Lib.hid (Boxed.keep BG.out (b7))
    | replace BG := Lib.hid (Dat.belowAll BG.out (b7))
    | replace BG := Lib.hid (Fr.belowAll BG.out (b7))
    | replace BG := Lib.hid (Own.belowAll BG.out (b7))
    | replace BG := Lib.hid (Grows.next BG.out (b7))
  first
    | replace AY := Lib.hid (Loc.At.belowAll AY.out (b7))
    | replace AY := Lib.hid (nextB AY.out (b7))
    | replace AY := Lib.hid (Boxed.keep AY.out (b7))
    | replace AY := Lib.hid (Dat.belowAll AY.out (b7))
    | replace AY := Lib.hid (Fr.belowAll AY.out (b7))
    | replace AY := Lib.hid (Own.belowAll AY.out (b7))
    | replace AY := Lib.hid (Grows.next AY.out (b7))
  clear hh hhA b7
  have b8 : Below w7.heap.size w7 (w7.alloc (Obj.cells #[.slice ha hs.length hc] 35)) := (Below.refl _ _).alloc (Nat.le_refl _) _
  first
    | replace B := Lib.hid (Loc.At.belowAll B.out (b8))
    | replace B := Lib.hid (nextB B.out (b8))
    | replace B := Lib.hid (Boxed.keep B.out (b8))
    | replace B := Lib.hid (Dat.belowAll B.out (b8))
    | replace B := Lib.hid (Fr.belowAll B.out (b8))
    | replace B := Lib.hid (Own.belowAll B.out (b8))
    | replace B := Lib.hid (Grows.next B.out (b8))
  first
    | replace AV := Lib.hid (Loc.At.belowAll AV.out (b8))
    | replace AV := Lib.hid (nextB AV.out (b8))
    | replace AV := Lib.hid (Boxed.keep AV.out (b8))
    | replace AV := Lib.hid (Dat.belowAll AV.out (b8))
    | replace AV := Lib.hid (Fr.belowAll AV.out (b8))
    | replace AV := Lib.hid (Own.belowAll AV.out (b8))
    | replace AV := Lib.hid (Grows.next AV.out (b8))
  first
    | replace BV := Lib.hid (Loc.At.belowAll BV.out (b8))
    | replace BV := Lib.hid (nextB BV.out (b8))
    | replace BV := Lib.hid (Boxed.keep BV.out (b8))
    | replace BV := Lib.hid (Dat.belowAll BV.out (b8))
    | replace BV := Lib.hid (Fr.belowAll BV.out (b8))
    | replace BV := Lib.hid (Own.belowAll BV.out (b8))
    | replace BV := Lib.hid (Grows.next BV.out (b8))
  first
    | replace BG := Lib.hid (Loc.At.belowAll BG.out (b8))
    | replace BG := Lib.hid (nextB BG.out (b8))
    | replace BG := Lib.hid (Boxed.keep BG.out (b8))
    | replace BG := Lib.hid (Dat.belowAll BG.out (b8))
    | replace BG := Lib.hid (Fr.belowAll BG.out (b8))
    | replace BG := Lib.hid (Own.belowAll BG.out (b8))
    | replace BG := Lib.hid (Grows.next BG.out (b8))
  first
    | replace AY := Lib.hid (Loc.At.belowAll AY.out (b8))
    | replace AY := Lib.hid (nextB AY.out (b8))
    | replace AY := Lib.hid (Boxed.keep AY.out (b8))
    | replace AY := Lib.hid (Dat.belowAll AY.out (b8))
    | replace AY := Lib.hid (Fr.belowAll AY.out (b8))
    | replace AY := Lib.hid (Own.belowAll AY.out (b8))
    | replace AY := Lib.hid (Grows.next AY.out (b8))
  first
    | replace AH := Lib.hid (Loc.At.belowAll AH.out (b8))
    | replace AH := Lib.hid (nextB AH.out (b8))
    | replace AH := Lib.hid (Boxed.keep AH.out (b8))
    | replace AH := Lib.hid (Dat.belowAll AH.out (b8))
    | replace AH := Lib.hid (Fr.belowAll AH.out (b8))
    | replace AH := Lib.hid (Own.belowAll AH.out (b8))
    | replace AH := Lib.hid (Grows.next AH.out (b8))
  clear b8
  have v0 := BV.out.2 0 _ rfl
  simp only [Loc.val]
  go_wp2_with fail
  refine (eqWorld_any ⟨ha, hc, hs⟩ ⟨va, vc, vs⟩ _ AH.out AV.out).mono ?_
  rintro e w9 ⟨⟨q, rfl, hq⟩, b9⟩
  obtain rfl : q = true := hq.2 (HHE.out.trans HV.out.symm)
  first
    | replace B := Lib.hid (Loc.At.belowAll B.out (b9))
    | replace B := Lib.hid (nextB B.out (b9))
    | replace B := Lib.hid (Boxed.keep B.out (b9))
    | replace B := Lib.hid (Dat.belowAll B.out (b9))
    | replace B := Lib.hid (Fr.belowAll B.out (b9))
    | replace B := Lib.hid (Own.belowAll B.out (b9))
    | replace B := Lib.hid (Grows.next B.out (b9))
  first
    | replace BG := Lib.hid (Loc.At.belowAll BG.out (b9))
    | replace BG := Lib.hid (nextB BG.out (b9))
    | replace BG := Lib.hid (Boxed.keep BG.out (b9))
    | replace BG := Lib.hid (Dat.belowAll BG.out (b9))
    | replace BG := Lib.hid (Fr.belowAll BG.out (b9))
    | replace BG := Lib.hid (Own.belowAll BG.out (b9))
    | replace BG := Lib.hid (Grows.next BG.out (b9))
  first
    | replace AY := Lib.hid (Loc.At.belowAll AY.out (b9))
    | replace AY := Lib.hid (nextB AY.out (b9))
    | replace AY := Lib.hid (Boxed.keep AY.out (b9))
    | replace AY := Lib.hid (Dat.belowAll AY.out (b9))
    | replace AY := Lib.hid (Fr.belowAll AY.out (b9))
    | replace AY := Lib.hid (Own.belowAll AY.out (b9))
    | replace AY := Lib.hid (Grows.next AY.out (b9))
  clear hq b9 v0
  have g0 := BG.out.2 0 _ rfl
  rw [HGL.out] at g0
  go_wp2_with fail
  refine (HH.out _ AY.out).mono ?_
  rintro e w10 ⟨rfl, b10⟩
  first
    | replace B := Lib.hid (Loc.At.belowAll B.out (b10))
    | replace B := Lib.hid (nextB B.out (b10))
    | replace B := Lib.hid (Boxed.keep B.out (b10))
    | replace B := Lib.hid (Dat.belowAll B.out (b10))
    | replace B := Lib.hid (Fr.belowAll B.out (b10))
    | replace B := Lib.hid (Own.belowAll B.out (b10))
    | replace B := Lib.hid (Grows.next B.out (b10))
  clear b10
  go_wp2_with fail
  go_ret
  exact ⟨rfl, B.out⟩
end Go.Proofs.Ytcfbppdfiehlnaa
