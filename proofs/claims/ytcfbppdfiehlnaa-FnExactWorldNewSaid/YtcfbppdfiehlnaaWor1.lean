/- Lists of new stores: the laws' own equality, marks and what is found of them; worlds. -/
import Derived.Test.YtcfbppdfiehlnaaSto4
namespace Go.Proofs.Ytcfbppdfiehlnaa
open Go Go.RowKit

set_option maxRecDepth 100000 in
set_option maxHeartbeats 1000000 in
theorem eqStoreS_any (x y : Loc LStore) (w : World) (hx : x.At w) (hy : y.At w) :
    Calls Try.prog 26 #[x.val, y.val] w (EqPost w (x.xs.map LStore.er = y.xs.map LStore.er)) := by
  obtain ⟨xa, xc, xs⟩ := x
  obtain ⟨ya, yc, ys⟩ := y
  simp only [Loc.val]
  have h1 := hx.lenMax
  have h2 := hy.lenMax
  simp only at h1 h2
  by_cases hl : xs.length = ys.length
  · have hl1 : (((xs.length : Nat) : Int) != (ys.length : Nat)) = false := by simp [hl]
    have HL := Lib.hid hl
    clear hl
    go_enter Try.func26, Try.ntmps26
    go_wp2_with fail
    go_loopw [5] (fun i wr => ∃ k : Nat, k ≤ xs.length ∧ i = .int .i64 k ∧ (xs.map LStore.er).take k = (ys.map LStore.er).take k ∧ Below w.heap.size w wr) (fun i _ => xs.length - (intOf i).toNat)
    case atStart => exact ⟨0, Nat.zero_le _, rfl, rfl, Below.refl _ _⟩
    case round =>
      obtain ⟨k, hk, rfl, hrel, hb⟩ := hrel
      have HR := Lib.hid hrel
      clear hrel
      by_cases hlt : k < xs.length
      · have hlt2 : k < ys.length := by have := HL.out; omega
        obtain ⟨a, ao, ha⟩ := hx.place hlt
        obtain ⟨b, bo, hbb⟩ := hy.place hlt2
        simp only at ha hbb
        subst ha hbb
        have hcx := (hx.belowAll hb).sto rfl hlt
        have hcy := (hy.belowAll hb).sto rfl hlt2
        simp only at hcx hcy
        have hc := Lib.hid (fun n => eqStore_any xs[k] ys[k] (wr.drewN n) (Dat.belowAll ((hx.belowAll hb).elem (List.getElem_mem hlt)) (belowN (Below.refl _ _) n)) (Dat.belowAll ((hy.belowAll hb).elem (List.getElem_mem hlt2)) (belowN (Below.refl _ _) n)))
        go_wp2_with fail
        go_still_tail 8, (by kernel_rfl)
        go_wp2_with fail
        refine (hc.out 1).mono ?_
        rintro e w' ⟨⟨v, rfl, hv⟩, hb2⟩
        have HV := Lib.hid hv
        clear hv hcx hcy
        cases v with
        | true =>
          go_wp2_with fail
          go_roundw
          case rel =>
            refine ⟨k + 1, by omega, by go_num, ?_, (belowN hb 1).trans (hb2.mono hb.size)⟩
            exact take_succ_eq HR.out (by simpa using hlt) (by simpa using hlt2) (by simpa using HV.out.1 (by simp))
          case measure => simp [intOf]; omega
        | false =>
          go_wp2_with fail
          go_ret
          refine ⟨⟨_, rfl, ?_⟩, (belowN hb 1).trans (hb2.mono hb.size)⟩
          refine ⟨fun h => (by cases h), fun h => ?_⟩
          refine HV.out.2 ?_
          have e1 : (xs.map LStore.er)[k]? = (ys.map LStore.er)[k]? := by rw [h]
          simpa [hlt, hlt2] using e1
      · have HK := Lib.hid (show k = xs.length by omega)
        go_wp2_with fail
        go_ret
        refine ⟨⟨_, rfl, ⟨fun _ => ?_, fun _ => rfl⟩⟩, hb⟩
        have h1 := HR.out
        have h2 := HL.out
        rwa [HK.out, List.take_of_length_le (by simp), List.take_of_length_le (by simp [h2])] at h1
  · have hl1 : (((xs.length : Nat) : Int) != (ys.length : Nat)) = true := by simp; omega
    have HL := Lib.hid hl
    clear hl
    go_enter Try.func26, Try.ntmps26
    go_wp2_with fail
    go_ret
    refine ⟨⟨_, rfl, ⟨fun h => (by cases h), fun h => absurd (by simpa using congrArg List.length h) HL.out⟩⟩, Below.refl _ _⟩

set_option maxRecDepth 100000 in
theorem eqWorld_any (x y : Loc LStore) (w : World) (hx : x.At w) (hy : y.At w) :
    Calls Try.prog 12 #[.agg #[x.val], .agg #[y.val]] w (EqPost w (x.xs.map LStore.er = y.xs.map LStore.er)) := by
  obtain ⟨xa, xc, xs⟩ := x
  obtain ⟨ya, yc, ys⟩ := y
  simp only [Loc.val]
  have b1 : Below w.heap.size w (w.alloc (Obj.cells #[.slice xa xs.length xc] 35)) := (Below.refl _ _).alloc (Nat.le_refl _) _
  have hB := b1.alloc b1.size (Obj.cells #[.slice ya ys.length yc] 35)
  have HB := Lib.hid hB
  have AX := Lib.hid (hx.belowAll hB)
  have AY := Lib.hid (hy.belowAll hB)
  clear hB b1 hx hy
  go_enter Try.func12, Try.ntmps12
  go_wp2_with fail
  refine (eqStoreS_any ⟨xa, xc, xs⟩ ⟨ya, yc, ys⟩ _ AX.out AY.out).mono ?_
  rintro e w3 ⟨⟨v, rfl, hv⟩, b3⟩
  have HV := Lib.hid hv
  have B := Lib.hid (HB.out.trans (b3.mono HB.out.size))
  clear hv b3
  cases v with
  | true =>
    go_wp2_with fail
    go_ret
    exact ⟨⟨_, rfl, by simpa using HV.out⟩, B.out⟩
  | false =>
    go_wp2_with fail
    go_ret
    exact ⟨⟨_, rfl, by simpa using HV.out⟩, B.out⟩

/-- The i-th new store, marked from k on. -/
def mkSt (k i : Nat) : Store := ⟨((k + 8 * i : Nat) : Int), ((k + 8 * i + 1 : Nat) : Int), markC (k + 8 * i + 2) newStore.checks⟩

set_option maxRecDepth 100000 in
set_option maxHeartbeats 2000000 in
theorem heldStoreS_any (x : Loc LStore) (k : Nat) (w : World) (hx : x.At w) (hc : ∀ q (h : q < x.xs.length), x.xs[q].er = mkSt k q) (hk : k + 8 * x.xs.length ≤ 1099511627776) :
    Calls Try.prog 28 #[x.val, .int .i64 k] w fun e w' => e = .returned (.int .i64 ((k + 8 * x.xs.length : Nat) : Int)) ∧ Below w.heap.size w w' := by
  obtain ⟨xa, xc, xs⟩ := x
  simp only [Loc.val]
  have h1 := hx.lenMax
  simp only at hc h1 hk
  have HX := Lib.hid hx
  have HK := Lib.hid hk
  have HC := Lib.hid hc
  clear hx hk hc
  go_enter Try.func28, Try.ntmps28
  go_wp2_with fail
  go_loopw [1, 5] (fun c i wr => ∃ (j kj : Nat), j ≤ xs.length ∧ i = .int .i64 j ∧ c = .int .i64 kj ∧ kj = k + 8 * j ∧ Below w.heap.size w wr) (fun _ i _ => xs.length - (intOf i).toNat)
  case atStart => exact ⟨0, k, Nat.zero_le _, rfl, rfl, rfl, Below.refl _ _⟩
  case round =>
    obtain ⟨j, kj, hj, rfl, rfl, hkj, hb⟩ := hrel
    have HKJ := Lib.hid hkj
    have HB := Lib.hid hb
    clear hb hkj
    by_cases hlt : j < xs.length
    · have hej := HC.out j hlt
      have hkb : kj + 8 ≤ 1099511627776 := by have := HK.out; have := HKJ.out; omega
      obtain ⟨a, ao, ha⟩ := HX.out.place hlt
      simp only at ha
      subst ha
      have AX := Lib.hid (HX.out.belowAll HB.out)
      obtain ⟨c0, c1, c2, c3, c4⟩ := AX.out.sto rfl hlt
      simp only at c0 c1 c2 c3 c4
      have AE := Lib.hid (show (xs[j]).checks.At wr from AX.out.elem (List.getElem_mem hlt))
      have g0 : xs[j].from_ = (kj : Int) := by have := congrArg Store.from_ hej; simp only [LStore.er, mkSt] at this; rw [this, HKJ.out]
      have g1 : xs[j].safe = (kj : Int) + 1 := by have := congrArg Store.safe hej; simp only [LStore.er, mkSt] at this; rw [this, HKJ.out]; omega
      have G2 : Hid ((xs[j]).checks.xs.map LCheck.er = markC (kj + 2) newStore.checks) := Lib.hid (by have := congrArg Store.checks hej; simp only [LStore.er, mkSt] at this; rw [this, HKJ.out])
      rw [g0] at c1
      rw [g1] at c3
      clear g0 g1 hej
      generalize xs[j] = y at *
      obtain ⟨yta, ytc, yf, yra, yrc, ysf, ⟨yca, ycc, ycs⟩⟩ := y
      simp only [Loc.val] at c0 c1 c2 c3 c4 AE G2
      have hh := heldCheckS_any ⟨yca, ycc, ycs⟩ (kj + 2) newStore.checks wr AE.out G2.out (by show kj + 2 + 3 * 2 ≤ _; omega)
      rw [show kj + 2 + 3 * newStore.checks.length = kj + 8 from rfl, show ((kj + 2 : Nat) : Int) = (kj : Int) + 1 + 1 from by omega] at hh
      obtain ⟨r, hr⟩ : ∃ r, kj + 8 = r := ⟨_, rfl⟩
      rw [hr] at hh
      have HH := Lib.hid hh
      have HR := Lib.hid hr
      have hk8 : ¬ ((r : Nat) : Int) < 0 := by omega
      clear hh hr
      have hk0 : ¬ ((kj : Nat) : Int) < 0 := by omega
      have hk1 : ¬ ((kj : Nat) : Int) + 1 < 0 := by omega
      have hb0 : ((kj : Int) != (kj : Int)) = false := by simp
      have hb1 : ((kj : Int) + 1 != (kj : Int) + 1) = false := by simp
      go_wp2_with (first | (go_at_call 22; refine (heldFileS_nil _ _ _ _).mono ?_; rintro e w' ⟨rfl, rfl⟩) | (go_at_call 36; refine (heldRecS_nil _ _ _ _).mono ?_; rintro e w' ⟨rfl, rfl⟩))
      refine HH.out.mono ?_
      rintro e w2 ⟨rfl, b2⟩
      have B2 := Lib.hid (HB.out.trans (b2.mono HB.out.size))
      clear b2 c0 c1 c2 c3 c4
      go_wp2_with fail
      go_roundw
      case rel => exact ⟨j + 1, r, by omega, by go_num, rfl, by have := HKJ.out; have := HR.out; omega, B2.out⟩
      case measure => simp [intOf]; omega
    · have hjj : j = xs.length := by omega
      subst hjj
      go_wp2_with fail
      go_ret
      exact ⟨ret_int (by have := HKJ.out; rw [this]), HB.out⟩
set_option maxRecDepth 100000 in
set_option maxHeartbeats 4000000 in
theorem markStoreS_any (x : Loc LStore) (k lo : Nat) (w : World) (hx : x.At w) (hf : Fr lo w x.fp) (hn : ∀ q (h : q < x.xs.length), x.xs[q].er = newStore) (hk : k + 8 * x.xs.length ≤ 1099511627776) :
    Calls Try.prog 27 #[x.val, .int .i64 k] w (MarkPost lo x ((k + 8 * x.xs.length : Nat) : Int) (fun ys => ∀ q (h : q < ys.length), ys[q].er = mkSt k q) w) := by
  obtain ⟨xa, xc, xs⟩ := x
  simp only [Loc.val]
  have h1 := hx.lenMax
  simp only at hk h1 hn
  have HX := Lib.hid hx
  have HF := Lib.hid hf
  have HK := Lib.hid hk
  have HN := Lib.hid hn
  clear hx hf hk hn
  go_enter Try.func27, Try.ntmps27
  go_wp2_with fail
  go_loopw [1, 5] (fun c i wr => ∃ (j kj : Nat) (ys : List LStore), j ≤ xs.length ∧ i = .int .i64 j ∧ c = .int .i64 kj ∧ kj = k + 8 * j ∧ ys.map Dat.fp = xs.map Dat.fp ∧ (∀ q (h : q < ys.length), ys[q].er = if q < j then mkSt k q else newStore) ∧ (⟨xa, xc, ys⟩ : Loc LStore).At wr ∧ Fr lo wr (Loc.fp ⟨xa, xc, xs⟩) ∧ Touch (Loc.fp ⟨xa, xc, xs⟩) w wr) (fun _ i _ => xs.length - (intOf i).toNat)
  case atStart => exact ⟨0, k, xs, Nat.zero_le _, rfl, rfl, rfl, rfl, fun q h => by rw [if_neg (by omega)]; exact HN.out q h, HX.out, HF.out, Touch.refl _ _⟩
  case round =>
    obtain ⟨j, kj, ys, hj, rfl, rfl, hkj, hyf, hy, hA, hFr, hT⟩ := hrel
    have HKJ := Lib.hid hkj
    have HY := Lib.hid hy
    have HT := Lib.hid hT
    have HYF := Lib.hid hyf
    have HA := Lib.hid hA
    have HFR := Lib.hid hFr
    have HL : Hid (ys.length = xs.length) := Lib.hid (by have := congrArg List.length hyf; simpa using this)
    clear hy hA hFr hT hyf hkj
    by_cases hlt : j < xs.length
    · have hlt2 : j < ys.length := by have := HL.out; omega
      have hkb : kj + 8 ≤ 1099511627776 := by have := HK.out; have := HKJ.out; omega
      have hej := HY.out j hlt2
      rw [if_neg (Nat.lt_irrefl j)] at hej
      obtain ⟨a, ao, ha⟩ := HA.out.place hlt2
      simp only at ha
      subst ha
      have E0 := Lib.hid (EW.start (x := (⟨some ⟨a, ao, none⟩, xc, xs⟩ : Loc LStore)) hlt2 HA.out HFR.out HYF.out)
      generalize hye : ys[j] = y at *
      obtain ⟨yta, ytc, yf, yra, yrc, ysf, ⟨yca, ycc, ycs⟩⟩ := y
      have HCE : Hid (ycs.map LCheck.er = newStore.checks) := Lib.hid (congrArg Store.checks hej)
      clear hye hej
      have c0 := E0.out.cell (g := a) (o := ao) rfl (j := 0) (v := .slice yta 0 ytc) rfl
      have c1 := E0.out.cell (g := a) (o := ao) rfl (j := 1) (v := .int .i64 yf) rfl
      have c2 := E0.out.cell (g := a) (o := ao) rfl (j := 2) (v := .slice yra 0 yrc) rfl
      have c3 := E0.out.cell (g := a) (o := ao) rfl (j := 3) (v := .int .i64 ysf) rfl
      have c4 := E0.out.cell (g := a) (o := ao) rfl (j := 4) (v := .slice yca ycs.length ycc) rfl
      have z1 := E0.out.frozen (g := a) (o := ao) rfl (ao + j * 5 + 1)
      have z3 := E0.out.frozen (g := a) (o := ao) rfl (ao + j * 5 + 3)
      have e1 := E0.out.store (g := a) (o := ao) rfl (⟨yta, ytc, (kj : Int), yra, yrc, ysf, ⟨yca, ycc, ycs⟩⟩ : LStore) 1 (.int .i64 (kj : Int)) (by decide) rfl rfl E0.out.elem
      have e2 := e1.1.store (g := a) (o := ao) rfl (⟨yta, ytc, (kj : Int), yra, yrc, (kj : Int) + 1, ⟨yca, ycc, ycs⟩⟩ : LStore) 3 (.int .i64 ((kj : Int) + 1)) (by decide) rfl rfl e1.1.elem
      simp only [show Dat.k LStore = 5 from rfl, Nat.add_zero] at c0 c1 c2 c3 c4 e1 e2
      have E2 := Lib.hid e2.1
      have T2 := Lib.hid (HT.out.trans (e1.2.trans e2.2))
      have hm := markCheckS_any ⟨yca, ycc, ycs⟩ (kj + 2) lo _ E2.out.elem E2.out.frE (by have := congrArg List.length HCE.out; simp only [List.length_map] at this; rw [this]; show kj + 2 + 3 * 2 ≤ _; omega)
      have hcl : ycs.length = 2 := by have := congrArg List.length HCE.out; simpa [newStore] using this
      simp only [Loc.val, hcl] at hm
      rw [show kj + 2 + 3 * 2 = kj + 8 from rfl, show ((kj + 2 : Nat) : Int) = (kj : Int) + 1 + 1 from by omega] at hm
      rw [hcl] at c4
      have HM := Lib.hid hm
      have HCL := Lib.hid hcl
      clear e1 e2 E0 hm hcl
      go_wp2_with (first | (go_at_call 19; refine (markFileS_nil _ _ _ _).mono ?_; rintro e w' ⟨rfl, rfl⟩) | (go_at_call 34; refine (markRecS_nil _ _ _ _).mono ?_; rintro e w' ⟨rfl, rfl⟩))
      refine HM.out.mono ?_
      rintro e w2 ⟨cs, rfl, hcs, hcf, hA2, hF2, hT2⟩
      have hcsl : cs.length = 2 := by have := congrArg List.length hcf; simp only [List.length_map] at this; rw [this]; exact HCL.out
      have e3 := E2.out.inner (⟨yta, ytc, (kj : Int), yra, yrc, (kj : Int) + 1, ⟨yca, ycc, cs⟩⟩ : LStore) hT2 (by simp only [Dat.enc, LStore.cells, Loc.val, hcsl, HCL.out]) (Loc.re_fp ⟨yca, ycc, ycs⟩ cs hcf) hA2 hF2
      have E3 := Lib.hid e3.1
      have T3 := Lib.hid (T2.out.trans e3.2)
      have HCS := Lib.hid hcs
      clear e3 hcs hcf hA2 hF2 hT2 c0 c1 c2 c3 c4 z1 z3 E2 T2 HM hcsl
      go_wp2_with fail
      go_roundw
      case rel =>
        refine ⟨j + 1, kj + 8, ys.set j ⟨yta, ytc, (kj : Int), yra, yrc, (kj : Int) + 1, ⟨yca, ycc, cs⟩⟩, by omega, by go_num, by go_num, by have := HKJ.out; omega, E3.out.fpEq, fun q hq => ?_, E3.out.at_, E3.out.fr, T3.out⟩
        by_cases hqj2 : q = j
        · subst hqj2
          rw [List.getElem_set_self, if_pos (by omega)]
          have h1 := HKJ.out
          have h2 : cs.map LCheck.er = markC (kj + 2) newStore.checks := by rw [← HCE.out]; exact HCS.out
          simp only [LStore.er, mkSt, ← h1, h2, Store.mk.injEq]
          exact ⟨trivial, by omega, trivial⟩
        · rw [List.getElem_set_ne (Ne.symm hqj2)]
          have := HY.out q (by simpa using hq)
          rw [this]
          by_cases hqq : q < j
          · rw [if_pos hqq, if_pos (by omega)]
          · rw [if_neg hqq, if_neg (by omega)]
      case measure => simp [intOf]; omega
    · have hjj : j = xs.length := by omega
      subst hjj
      go_wp2_with fail
      go_ret
      refine ⟨ys, ret_int (by have := HKJ.out; rw [this]), fun q h => ?_, HYF.out, HA.out, HFR.out, HT.out⟩
      have := HY.out q h
      rwa [if_pos (by have := HL.out; omega)] at this

end Go.Proofs.Ytcfbppdfiehlnaa
