/- eqStore, markStore, heldStore. -/
import Derived.Test.YtcfbppdfiehlnaaSto2
namespace Go.Proofs.Ytcfbppdfiehlnaa
open Go Go.RowKit

set_option maxRecDepth 100000 in
set_option maxHeartbeats 1000000 in
theorem eqStore_any (x y : LStore) (w : World) (hx : Dat.At w x) (hy : Dat.At w y) :
    Calls Try.prog 7 #[x.val, y.val] w (EqPost w (x.er = y.er)) := by
  have b1 : Below w.heap.size w (w.alloc (Obj.cells #[.slice x.ta 0 x.tc, .int .i64 x.from_, .slice x.ra 0 x.rc, .int .i64 x.safe, x.checks.val] 28)) := (Below.refl _ _).alloc (Nat.le_refl _) _
  have HBX := Lib.hid (Boxed.new w #[.slice x.ta 0 x.tc, .int .i64 x.from_, .slice x.ra 0 x.rc, .int .i64 x.safe, x.checks.val] 28)
  have AX := Lib.hid (Dat.belowAll hx b1)
  have AY := Lib.hid (Dat.belowAll hy b1)
  have B := Lib.hid b1
  have b2 : Below (w.alloc (Obj.cells #[.slice x.ta 0 x.tc, .int .i64 x.from_, .slice x.ra 0 x.rc, .int .i64 x.safe, x.checks.val] 28)).heap.size (w.alloc (Obj.cells #[.slice x.ta 0 x.tc, .int .i64 x.from_, .slice x.ra 0 x.rc, .int .i64 x.safe, x.checks.val] 28)) ((w.alloc (Obj.cells #[.slice x.ta 0 x.tc, .int .i64 x.from_, .slice x.ra 0 x.rc, .int .i64 x.safe, x.checks.val] 28)).alloc (Obj.cells #[.slice y.ta 0 y.tc, .int .i64 y.from_, .slice y.ra 0 y.rc, .int .i64 y.safe, y.checks.val] 28)) := (Below.refl _ _).alloc (Nat.le_refl _) _
  have HBY : Hid (Boxed ((w.alloc (Obj.cells #[.slice x.ta 0 x.tc, .int .i64 x.from_, .slice x.ra 0 x.rc, .int .i64 x.safe, x.checks.val] 28)).alloc (Obj.cells #[.slice y.ta 0 y.tc, .int .i64 y.from_, .slice y.ra 0 y.rc, .int .i64 y.safe, y.checks.val] 28)) (w.heap.size + 1) [.slice y.ta 0 y.tc, .int .i64 y.from_, .slice y.ra 0 y.rc, .int .i64 y.safe, y.checks.val]) := Lib.hid (by
    have := Boxed.new (w.alloc (Obj.cells #[.slice x.ta 0 x.tc, .int .i64 x.from_, .slice x.ra 0 x.rc, .int .i64 x.safe, x.checks.val] 28)) #[.slice y.ta 0 y.tc, .int .i64 y.from_, .slice y.ra 0 y.rc, .int .i64 y.safe, y.checks.val] 28
    simpa using this)
  first
    | replace B := Lib.hid (Loc.At.belowAll B.out (b2))
    | replace B := Lib.hid (nextB B.out (b2))
    | replace B := Lib.hid (Boxed.keep B.out (b2))
    | replace B := Lib.hid (Dat.belowAll B.out (b2))
    | replace B := Lib.hid (Fr.belowAll B.out (b2))
    | replace B := Lib.hid (Own.belowAll B.out (b2))
    | replace B := Lib.hid (Grows.next B.out (b2))
  first
    | replace HBX := Lib.hid (Loc.At.belowAll HBX.out (b2))
    | replace HBX := Lib.hid (nextB HBX.out (b2))
    | replace HBX := Lib.hid (Boxed.keep HBX.out (b2))
    | replace HBX := Lib.hid (Dat.belowAll HBX.out (b2))
    | replace HBX := Lib.hid (Fr.belowAll HBX.out (b2))
    | replace HBX := Lib.hid (Own.belowAll HBX.out (b2))
    | replace HBX := Lib.hid (Grows.next HBX.out (b2))
  first
    | replace AX := Lib.hid (Loc.At.belowAll AX.out (b2))
    | replace AX := Lib.hid (nextB AX.out (b2))
    | replace AX := Lib.hid (Boxed.keep AX.out (b2))
    | replace AX := Lib.hid (Dat.belowAll AX.out (b2))
    | replace AX := Lib.hid (Fr.belowAll AX.out (b2))
    | replace AX := Lib.hid (Own.belowAll AX.out (b2))
    | replace AX := Lib.hid (Grows.next AX.out (b2))
  first
    | replace AY := Lib.hid (Loc.At.belowAll AY.out (b2))
    | replace AY := Lib.hid (nextB AY.out (b2))
    | replace AY := Lib.hid (Boxed.keep AY.out (b2))
    | replace AY := Lib.hid (Dat.belowAll AY.out (b2))
    | replace AY := Lib.hid (Fr.belowAll AY.out (b2))
    | replace AY := Lib.hid (Own.belowAll AY.out (b2))
    | replace AY := Lib.hid (Grows.next AY.out (b2))
  clear b1 b2 hx hy
  obtain ⟨xta, xtc, xf, xra, xrc, xs, ⟨xca, xcc, xcs⟩⟩ := x
  obtain ⟨yta, ytc, yf, yra, yrc, ys, ⟨yca, ycc, ycs⟩⟩ := y
  simp only [Loc.val, LStore.val] at *
  go_enter Try.func7, Try.ntmps7
  go_wp2_with fail
  generalize (w.alloc (Obj.cells #[.slice xta 0 xtc, .int .i64 xf, .slice xra 0 xrc, .int .i64 xs, .slice xca xcs.length xcc] 28)).alloc (Obj.cells #[.slice yta 0 ytc, .int .i64 yf, .slice yra 0 yrc, .int .i64 ys, .slice yca ycs.length ycc] 28) = W2 at *
  refine (eqFileS_nil xta yta xtc ytc W2).mono ?_
  rintro e w' ⟨rfl, rfl⟩
  have x1 := HBX.out.2 1 _ rfl
  have x2 := HBX.out.2 2 _ rfl
  have y1 := HBY.out.2 1 _ rfl
  have y2 := HBY.out.2 2 _ rfl
  go_wp2_with fail
  refine (eqLog_nil xf yf xra yra xrc yrc _).mono ?_
  rintro e w3 ⟨⟨v, rfl, hv⟩, b3⟩
  first
    | replace B := Lib.hid (Loc.At.belowAll B.out (b3))
    | replace B := Lib.hid (nextB B.out (b3))
    | replace B := Lib.hid (Boxed.keep B.out (b3))
    | replace B := Lib.hid (Dat.belowAll B.out (b3))
    | replace B := Lib.hid (Fr.belowAll B.out (b3))
    | replace B := Lib.hid (Own.belowAll B.out (b3))
    | replace B := Lib.hid (Grows.next B.out (b3))
  first
    | replace HBX := Lib.hid (Loc.At.belowAll HBX.out (b3))
    | replace HBX := Lib.hid (nextB HBX.out (b3))
    | replace HBX := Lib.hid (Boxed.keep HBX.out (b3))
    | replace HBX := Lib.hid (Dat.belowAll HBX.out (b3))
    | replace HBX := Lib.hid (Fr.belowAll HBX.out (b3))
    | replace HBX := Lib.hid (Own.belowAll HBX.out (b3))
    | replace HBX := Lib.hid (Grows.next HBX.out (b3))
  first
    | replace HBY := Lib.hid (Loc.At.belowAll HBY.out (b3))
    | replace HBY := Lib.hid (nextB HBY.out (b3))
    | replace HBY := Lib.hid (Boxed.keep HBY.out (b3))
    | replace HBY := Lib.hid (Dat.belowAll HBY.out (b3))
    | replace HBY := Lib.hid (Fr.belowAll HBY.out (b3))
    | replace HBY := Lib.hid (Own.belowAll HBY.out (b3))
    | replace HBY := Lib.hid (Grows.next HBY.out (b3))
  first
    | replace AX := Lib.hid (Loc.At.belowAll AX.out (b3))
    | replace AX := Lib.hid (nextB AX.out (b3))
    | replace AX := Lib.hid (Boxed.keep AX.out (b3))
    | replace AX := Lib.hid (Dat.belowAll AX.out (b3))
    | replace AX := Lib.hid (Fr.belowAll AX.out (b3))
    | replace AX := Lib.hid (Own.belowAll AX.out (b3))
    | replace AX := Lib.hid (Grows.next AX.out (b3))
  first
    | replace AY := Lib.hid (Loc.At.belowAll AY.out (b3))
    | replace AY := Lib.hid (nextB AY.out (b3))
    | replace AY := Lib.hid (Boxed.keep AY.out (b3))
    | replace AY := Lib.hid (Dat.belowAll AY.out (b3))
    | replace AY := Lib.hid (Fr.belowAll AY.out (b3))
    | replace AY := Lib.hid (Own.belowAll AY.out (b3))
    | replace AY := Lib.hid (Grows.next AY.out (b3))
  have HV := Lib.hid hv
  clear hv b3 x1 x2 y1 y2
  cases v with
  | false =>
    go_wp2_with fail
    go_ret
    refine ⟨⟨_, rfl, ?_⟩, B.out⟩
    have h := HV.out
    constructor
    · intro h'; cases h'
    · intro h'; exact h.2 (congrArg Store.from_ h')
  | true =>
    have HFF := Lib.hid (HV.out.1 rfl)
    have x3 := HBX.out.2 3 _ rfl
    have x4 := HBX.out.2 4 _ rfl
    have y3 := HBY.out.2 3 _ rfl
    have y4 := HBY.out.2 4 _ rfl
    by_cases hs : xs = ys
    · have hsb : (xs != ys) = false := by simp [hs]
      have HSS := Lib.hid hs
      clear hs
      go_wp2_with fail
      refine (eqCheckS_any ⟨xca, xcc, xcs⟩ ⟨yca, ycc, ycs⟩ _ AX.out AY.out).mono ?_
      rintro e w4 ⟨⟨v, rfl, hv⟩, b4⟩
      first
        | replace B := Lib.hid (Loc.At.belowAll B.out (b4))
        | replace B := Lib.hid (nextB B.out (b4))
        | replace B := Lib.hid (Boxed.keep B.out (b4))
        | replace B := Lib.hid (Dat.belowAll B.out (b4))
        | replace B := Lib.hid (Fr.belowAll B.out (b4))
        | replace B := Lib.hid (Own.belowAll B.out (b4))
        | replace B := Lib.hid (Grows.next B.out (b4))
      have HW := Lib.hid hv
      clear hv b4 x3 x4 y3 y4
      cases v with
      | false =>
        go_wp2_with fail
        go_ret
        refine ⟨⟨_, rfl, ?_⟩, B.out⟩
        constructor
        · intro h'; cases h'
        · intro h'; exact HW.out.2 (congrArg Store.checks h')
      | true =>
        have HCC := Lib.hid (HW.out.1 rfl)
        go_wp2_with fail
        go_ret
        refine ⟨⟨_, rfl, ?_⟩, B.out⟩
        constructor
        · intro _
          simp only [LStore.er, Store.mk.injEq]
          exact ⟨HFF.out, HSS.out, HCC.out⟩
        · intro _; rfl
    · have hsb : (xs != ys) = true := by simp [hs]
      have HSS := Lib.hid hs
      clear hs
      go_wp2_with fail
      go_ret
      refine ⟨⟨_, rfl, ?_⟩, B.out⟩
      constructor
      · intro h'; cases h'
      · intro h'; exact absurd (congrArg Store.safe h') HSS.out

set_option maxRecDepth 100000 in
set_option maxHeartbeats 1000000 in
theorem markStore_any (x : LStore) (k lo : Nat) (w : World) (hx : Dat.At w x) (hf : Fr lo w x.checks.fp) (hk : k + 3 * x.checks.xs.length ≤ 1099511627776) :
    Calls Try.prog 8 #[x.val, .int .i64 k] w (MarkPost lo x.checks ((k + 3 * x.checks.xs.length : Nat) : Int) (fun ys => ys.map LCheck.er = markC k (x.checks.xs.map LCheck.er)) w) := by
  have b1 : Below w.heap.size w (w.alloc (Obj.cells #[.slice x.ta 0 x.tc, .int .i64 x.from_, .slice x.ra 0 x.rc, .int .i64 x.safe, x.checks.val] 28)) := (Below.refl _ _).alloc (Nat.le_refl _) _
  have HBX := Lib.hid (Boxed.new w #[.slice x.ta 0 x.tc, .int .i64 x.from_, .slice x.ra 0 x.rc, .int .i64 x.safe, x.checks.val] 28)
  have AX := Lib.hid (Dat.belowAll hx b1)
  have B := Lib.hid b1
  have F := Lib.hid (hf.belowAll b1)
  have HK := Lib.hid hk
  clear b1 hx hf hk
  obtain ⟨xta, xtc, xf, xra, xrc, xs, ⟨xca, xcc, xcs⟩⟩ := x
  simp only [Loc.val, LStore.val] at *
  go_enter Try.func8, Try.ntmps8
  go_wp2_with fail
  generalize w.alloc (Obj.cells #[.slice xta 0 xtc, .int .i64 xf, .slice xra 0 xrc, .int .i64 xs, .slice xca xcs.length xcc] 28) = W2 at *
  refine (markFileS_nil xta xtc _ W2).mono ?_
  rintro e w' ⟨rfl, rfl⟩
  have x1 := HBX.out.2 1 _ rfl
  have x2 := HBX.out.2 2 _ rfl
  go_wp2_with fail
  refine (markLog_nil xf xra xrc k _).mono ?_
  rintro e w3 ⟨rfl, b3⟩
  first
    | replace B := Lib.hid (Loc.At.belowAll B.out (b3))
    | replace B := Lib.hid (nextB B.out (b3))
    | replace B := Lib.hid (Boxed.keep B.out (b3))
    | replace B := Lib.hid (Dat.belowAll B.out (b3))
    | replace B := Lib.hid (Fr.belowAll B.out (b3))
    | replace B := Lib.hid (Own.belowAll B.out (b3))
    | replace B := Lib.hid (Grows.next B.out (b3))
  first
    | replace HBX := Lib.hid (Loc.At.belowAll HBX.out (b3))
    | replace HBX := Lib.hid (nextB HBX.out (b3))
    | replace HBX := Lib.hid (Boxed.keep HBX.out (b3))
    | replace HBX := Lib.hid (Dat.belowAll HBX.out (b3))
    | replace HBX := Lib.hid (Fr.belowAll HBX.out (b3))
    | replace HBX := Lib.hid (Own.belowAll HBX.out (b3))
    | replace HBX := Lib.hid (Grows.next HBX.out (b3))
  first
    | replace AX := Lib.hid (Loc.At.belowAll AX.out (b3))
    | replace AX := Lib.hid (nextB AX.out (b3))
    | replace AX := Lib.hid (Boxed.keep AX.out (b3))
    | replace AX := Lib.hid (Dat.belowAll AX.out (b3))
    | replace AX := Lib.hid (Fr.belowAll AX.out (b3))
    | replace AX := Lib.hid (Own.belowAll AX.out (b3))
    | replace AX := Lib.hid (Grows.next AX.out (b3))
  first
    | replace F := Lib.hid (Loc.At.belowAll F.out (b3))
    | replace F := Lib.hid (nextB F.out (b3))
    | replace F := Lib.hid (Boxed.keep F.out (b3))
    | replace F := Lib.hid (Dat.belowAll F.out (b3))
    | replace F := Lib.hid (Fr.belowAll F.out (b3))
    | replace F := Lib.hid (Own.belowAll F.out (b3))
    | replace F := Lib.hid (Grows.next F.out (b3))
  clear b3 x1 x2
  have x4 := HBX.out.2 4 _ rfl
  go_wp2_with fail
  refine (markCheckS_any ⟨xca, xcc, xcs⟩ k lo _ AX.out F.out HK.out).mono ?_
  rintro e w4 ⟨ys, rfl, h2, h3, h4, h5, h6⟩
  have H2 := Lib.hid h2
  have H3 := Lib.hid h3
  have H4 := Lib.hid h4
  have H5 := Lib.hid h5
  have H6 := Lib.hid ((Touch.of_below _ B.out).trans h6)
  clear h2 h3 h4 h5 h6 x4
  go_wp2_with fail
  go_ret
  exact ⟨ys, rfl, H2.out, H3.out, H4.out, H5.out, H6.out⟩

set_option maxRecDepth 100000 in
set_option maxHeartbeats 1000000 in
theorem heldStore_any (x : LStore) (k : Nat) (L : List Check) (w : World) (hx : Dat.At w x) (hc : x.checks.xs.map LCheck.er = markC k L) (hk : k + 3 * L.length ≤ 1099511627776) :
    Calls Try.prog 9 #[x.val, .int .i64 k] w fun e w' => e = .returned (.int .i64 ((k + 3 * L.length : Nat) : Int)) ∧ Below w.heap.size w w' := by
  have b1 : Below w.heap.size w (w.alloc (Obj.cells #[.slice x.ta 0 x.tc, .int .i64 x.from_, .slice x.ra 0 x.rc, .int .i64 x.safe, x.checks.val] 28)) := (Below.refl _ _).alloc (Nat.le_refl _) _
  have HBX := Lib.hid (Boxed.new w #[.slice x.ta 0 x.tc, .int .i64 x.from_, .slice x.ra 0 x.rc, .int .i64 x.safe, x.checks.val] 28)
  have AX := Lib.hid (Dat.belowAll hx b1)
  have B := Lib.hid b1
  have HC := Lib.hid hc
  have HK := Lib.hid hk
  clear b1 hx hc hk
  obtain ⟨xta, xtc, xf, xra, xrc, xs, ⟨xca, xcc, xcs⟩⟩ := x
  simp only [Loc.val, LStore.val] at *
  have hk0 : ¬ ((k : Nat) : Int) < 0 := by omega
  obtain ⟨r, hr⟩ : ∃ r, k + 3 * L.length = r := ⟨_, rfl⟩
  have hcon := heldCheckS_any ⟨xca, xcc, xcs⟩ k L
  rw [hr] at hcon HK
  rw [hr]
  have HCON := Lib.hid hcon
  have hr0 : ¬ ((r : Nat) : Int) < 0 := by omega
  clear hr hcon
  go_enter Try.func9, Try.ntmps9
  go_wp2_with fail
  generalize w.alloc (Obj.cells #[.slice xta 0 xtc, .int .i64 xf, .slice xra 0 xrc, .int .i64 xs, .slice xca xcs.length xcc] 28) = W2 at *
  refine (heldFileS_nil xta xtc _ W2).mono ?_
  rintro e w' ⟨rfl, rfl⟩
  have x1 := HBX.out.2 1 _ rfl
  have x2 := HBX.out.2 2 _ rfl
  go_wp2_with fail
  refine (heldLog_nil xf xra xrc k _).mono ?_
  rintro e w3 ⟨rfl, b3⟩
  first
    | replace B := Lib.hid (Loc.At.belowAll B.out (b3))
    | replace B := Lib.hid (nextB B.out (b3))
    | replace B := Lib.hid (Boxed.keep B.out (b3))
    | replace B := Lib.hid (Dat.belowAll B.out (b3))
    | replace B := Lib.hid (Fr.belowAll B.out (b3))
    | replace B := Lib.hid (Own.belowAll B.out (b3))
    | replace B := Lib.hid (Grows.next B.out (b3))
  first
    | replace HBX := Lib.hid (Loc.At.belowAll HBX.out (b3))
    | replace HBX := Lib.hid (nextB HBX.out (b3))
    | replace HBX := Lib.hid (Boxed.keep HBX.out (b3))
    | replace HBX := Lib.hid (Dat.belowAll HBX.out (b3))
    | replace HBX := Lib.hid (Fr.belowAll HBX.out (b3))
    | replace HBX := Lib.hid (Own.belowAll HBX.out (b3))
    | replace HBX := Lib.hid (Grows.next HBX.out (b3))
  first
    | replace AX := Lib.hid (Loc.At.belowAll AX.out (b3))
    | replace AX := Lib.hid (nextB AX.out (b3))
    | replace AX := Lib.hid (Boxed.keep AX.out (b3))
    | replace AX := Lib.hid (Dat.belowAll AX.out (b3))
    | replace AX := Lib.hid (Fr.belowAll AX.out (b3))
    | replace AX := Lib.hid (Own.belowAll AX.out (b3))
    | replace AX := Lib.hid (Grows.next AX.out (b3))
  clear b3 x1 x2
  have x4 := HBX.out.2 4 _ rfl
  go_wp2_with fail
  refine (HCON.out _ AX.out HC.out HK.out).mono ?_
  rintro e w4 ⟨rfl, b4⟩
  first
    | replace B := Lib.hid (Loc.At.belowAll B.out (b4))
    | replace B := Lib.hid (nextB B.out (b4))
    | replace B := Lib.hid (Boxed.keep B.out (b4))
    | replace B := Lib.hid (Dat.belowAll B.out (b4))
    | replace B := Lib.hid (Fr.belowAll B.out (b4))
    | replace B := Lib.hid (Own.belowAll B.out (b4))
    | replace B := Lib.hid (Grows.next B.out (b4))
  clear b4 x4
  go_wp2_with fail
  go_ret
  exact ⟨rfl, B.out⟩
end Go.Proofs.Ytcfbppdfiehlnaa
