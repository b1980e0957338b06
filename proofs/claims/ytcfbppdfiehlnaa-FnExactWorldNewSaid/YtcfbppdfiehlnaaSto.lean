/- Stores of empty trees and logs: the laws' own equality, marks and what is found of them. -/
import Derived.Test.YtcfbppdfiehlnaaTouch2
import Derived.Test.YtcfbppdfiehlnaaMarkR
import Derived.Test.YtcfbppdfiehlnaaBox
import Derived.StillTailTactics
namespace Go.Proofs.Ytcfbppdfiehlnaa
open Go Go.RowKit

/-! Nothing is like nothing; nothing is marked. -/
theorem eqFileS_nil (a b : Option Addr) (c d : Nat) (w : World) : Calls Try.prog 16 #[.slice a 0 c, .slice b 0 d] w fun e w' => e = .returned (.bool true) ∧ w' = w := by
  go_enter Try.func16, Try.ntmps16
  go_wp2_with fail
  go_loopw [5] (fun i wr => i = .int .i64 0 ∧ wr = w) (fun _ _ => 0)
  case atStart => exact ⟨rfl, rfl⟩
  case round =>
    obtain ⟨rfl, rfl⟩ := hrel
    go_wp2_with fail
    go_ret
    exact ⟨rfl, rfl⟩
theorem eqRecS_nil (a b : Option Addr) (c d : Nat) (w : World) : Calls Try.prog 30 #[.slice a 0 c, .slice b 0 d] w fun e w' => e = .returned (.bool true) ∧ w' = w := by
  go_enter Try.func30, Try.ntmps30
  go_wp2_with fail
  go_loopw [5] (fun i wr => i = .int .i64 0 ∧ wr = w) (fun _ _ => 0)
  case atStart => exact ⟨rfl, rfl⟩
  case round =>
    obtain ⟨rfl, rfl⟩ := hrel
    go_wp2_with fail
    go_ret
    exact ⟨rfl, rfl⟩
theorem markFileS_nil (a : Option Addr) (c : Nat) (k : Int) (w : World) : Calls Try.prog 19 #[.slice a 0 c, .int .i64 k] w fun e w' => e = .returned (.int .i64 k) ∧ w' = w := by
  go_enter Try.func19, Try.ntmps19
  go_wp2_with fail
  go_loopw [1, 5] (fun c i wr => c = .int .i64 k ∧ i = .int .i64 0 ∧ wr = w) (fun _ _ _ => 0)
  case atStart => exact ⟨rfl, rfl, rfl⟩
  case round =>
    obtain ⟨rfl, rfl, rfl⟩ := hrel
    go_wp2_with fail
    go_ret
    exact ⟨rfl, rfl⟩
theorem heldFileS_nil (a : Option Addr) (c : Nat) (k : Int) (w : World) : Calls Try.prog 22 #[.slice a 0 c, .int .i64 k] w fun e w' => e = .returned (.int .i64 k) ∧ w' = w := by
  go_enter Try.func22, Try.ntmps22
  go_wp2_with fail
  go_loopw [1, 5] (fun c i wr => c = .int .i64 k ∧ i = .int .i64 0 ∧ wr = w) (fun _ _ _ => 0)
  case atStart => exact ⟨rfl, rfl, rfl⟩
  case round =>
    obtain ⟨rfl, rfl, rfl⟩ := hrel
    go_wp2_with fail
    go_ret
    exact ⟨rfl, rfl⟩
theorem markRecS_nil (a : Option Addr) (c : Nat) (k : Int) (w : World) : Calls Try.prog 34 #[.slice a 0 c, .int .i64 k] w fun e w' => e = .returned (.int .i64 k) ∧ w' = w := by
  go_enter Try.func34, Try.ntmps34
  go_wp2_with fail
  go_loopw [1, 5] (fun c i wr => c = .int .i64 k ∧ i = .int .i64 0 ∧ wr = w) (fun _ _ _ => 0)
  case atStart => exact ⟨rfl, rfl, rfl⟩
  case round =>
    obtain ⟨rfl, rfl, rfl⟩ := hrel
    go_wp2_with fail
    go_ret
    exact ⟨rfl, rfl⟩
theorem heldRecS_nil (a : Option Addr) (c : Nat) (k : Int) (w : World) : Calls Try.prog 36 #[.slice a 0 c, .int .i64 k] w fun e w' => e = .returned (.int .i64 k) ∧ w' = w := by
  go_enter Try.func36, Try.ntmps36
  go_wp2_with fail
  go_loopw [1, 5] (fun c i wr => c = .int .i64 k ∧ i = .int .i64 0 ∧ wr = w) (fun _ _ _ => 0)
  case atStart => exact ⟨rfl, rfl, rfl⟩
  case round =>
    obtain ⟨rfl, rfl, rfl⟩ := hrel
    go_wp2_with fail
    go_ret
    exact ⟨rfl, rfl⟩

/-! Checkpoints of empty trees. -/
structure LCheck where
  gen : Int
  at_ : Int
  ta : Option Addr
  tc : Nat
  good : Bool
structure Check where
  gen : Int
  at_ : Int
  good : Bool
  deriving DecidableEq
def LCheck.cells (s : LCheck) : List Value := [.int .i64 s.gen, .int .i64 s.at_, .slice s.ta 0 s.tc, .bool s.good]
def LCheck.val (s : LCheck) : Value := .agg #[.int .i64 s.gen, .int .i64 s.at_, .slice s.ta 0 s.tc, .bool s.good]
def LCheck.er (s : LCheck) : Check := ⟨s.gen, s.at_, s.good⟩
instance : Dat LCheck where
  k := 4
  kpos := by omega
  enc := LCheck.cells
  len _ := rfl
  one x v hv := by simp [LCheck.cells] at hv; rcases hv with rfl | rfl | rfl | rfl <;> rfl
  At _ _ := True
  fp _ := []
  lt _ b hb := by cases hb
  keep _ _ := trivial
theorem Loc.At.chk {w : World} {l : Loc LCheck} (h : l.At w) {b o : Nat} (ha : l.a = some ⟨b, o, none⟩) {i : Nat} (hi : i < l.xs.length) :
    w.cell? ⟨b, o + i * 4, none⟩ = some (.int .i64 (l.xs[i]).gen) ∧ w.cell? ⟨b, o + i * 4 + 1, none⟩ = some (.int .i64 (l.xs[i]).at_) ∧ w.cell? ⟨b, o + i * 4 + 2, none⟩ = some (.slice (l.xs[i]).ta 0 (l.xs[i]).tc) ∧ w.cell? ⟨b, o + i * 4 + 3, none⟩ = some (.bool (l.xs[i]).good) :=
  ⟨h.cellK ha hi (j := 0) rfl, h.cellK ha hi (j := 1) rfl, h.cellK ha hi (j := 2) rfl, h.cellK ha hi (j := 3) rfl⟩

set_option maxRecDepth 100000 in
set_option maxHeartbeats 400000 in
theorem eqCheck_any (x y : LCheck) (w : World) (hx : Dat.At w x) (hy : Dat.At w y) :
    Calls Try.prog 31 #[x.val, y.val] w (EqPost w (x.er = y.er)) := by
  obtain ⟨xg, xt, xa, xc, xb⟩ := x
  obtain ⟨yg, yt, ya, yc, yb⟩ := y
  simp only [LCheck.val]
  have hB := ((Below.refl w.heap.size w).alloc (Nat.le_refl _) (Obj.cells #[.int .i64 xg, .int .i64 xt, .slice xa 0 xc, .bool xb] 41)).alloc (by simp) (Obj.cells #[.int .i64 yg, .int .i64 yt, .slice ya 0 yc, .bool yb] 41)
  have HB := Lib.hid hB
  clear hB
  go_enter Try.func31, Try.ntmps31
  go_wp2_with (go_at_call 16; refine (eqFileS_nil xa ya xc yc _).mono ?_; rintro e w' ⟨rfl, rfl⟩)
  all_goals
    go_ret
    refine ⟨⟨_, rfl, ?_⟩, by first | exact HB.out | exact belowN HB.out _⟩
    simp_all [LCheck.er, Check.mk.injEq]
set_option maxRecDepth 100000 in
set_option maxHeartbeats 1000000 in
theorem eqCheckS_any (x y : Loc LCheck) (w : World) (hx : x.At w) (hy : y.At w) :
    Calls Try.prog 18 #[x.val, y.val] w (EqPost w (x.xs.map LCheck.er = y.xs.map LCheck.er)) := by
  obtain ⟨xa, xc, xs⟩ := x
  obtain ⟨ya, yc, ys⟩ := y
  simp only [Loc.val]
  have h1 := hx.lenMax
  have h2 := hy.lenMax
  simp only at h1 h2
  by_cases hl : xs.length = ys.length
  · have hl1 : (((xs.length : Nat) : Int) != (ys.length : Nat)) = false := by simp [hl]
    have HL := Lib.hid hl
    clear hl
    go_enter Try.func18, Try.ntmps18
    go_wp2_with fail
    go_loopw [5] (fun i wr => ∃ k : Nat, k ≤ xs.length ∧ i = .int .i64 k ∧ (xs.map LCheck.er).take k = (ys.map LCheck.er).take k ∧ Below w.heap.size w wr) (fun i _ => xs.length - (intOf i).toNat)
    case atStart => exact ⟨0, Nat.zero_le _, rfl, rfl, Below.refl _ _⟩
    case round =>
      obtain ⟨k, hk, rfl, hrel, hb⟩ := hrel
      have HR := Lib.hid hrel
      clear hrel
      by_cases hlt : k < xs.length
      · have hlt2 : k < ys.length := by have := HL.out; omega
        obtain ⟨a, ao, ha⟩ := hx.place hlt
        obtain ⟨b, bo, hbb⟩ := hy.place hlt2
        simp only at ha hbb
        subst ha hbb
        have hcx := (hx.belowAll hb).chk rfl hlt
        have hcy := (hy.belowAll hb).chk rfl hlt2
        simp only at hcx hcy
        have hc := Lib.hid (fun n => eqCheck_any xs[k] ys[k] (wr.drewN n) (Dat.belowAll ((hx.belowAll hb).elem (List.getElem_mem hlt)) (belowN (Below.refl _ _) n)) (Dat.belowAll ((hy.belowAll hb).elem (List.getElem_mem hlt2)) (belowN (Below.refl _ _) n)))
        go_wp2_with fail
        go_still_tail 8, (by kernel_rfl)
        go_wp2_with fail
        refine (hc.out 1).mono ?_
        rintro e w' ⟨⟨v, rfl, hv⟩, hb2⟩
        have HV := Lib.hid hv
        clear hv hcx hcy
        cases v with
        | true =>
          go_wp2_with fail
          go_roundw
          case rel =>
            refine ⟨k + 1, by omega, by go_num, ?_, (belowN hb 1).trans (hb2.mono hb.size)⟩
            exact take_succ_eq HR.out (by simpa using hlt) (by simpa using hlt2) (by simpa using HV.out.1 (by simp))
          case measure => simp [intOf]; omega
        | false =>
          go_wp2_with fail
          go_ret
          refine ⟨⟨_, rfl, ?_⟩, (belowN hb 1).trans (hb2.mono hb.size)⟩
          refine ⟨fun h => (by cases h), fun h => ?_⟩
          refine HV.out.2 ?_
          have e1 : (xs.map LCheck.er)[k]? = (ys.map LCheck.er)[k]? := by rw [h]
          simpa [hlt, hlt2] using e1
      · have HK := Lib.hid (show k = xs.length by omega)
        go_wp2_with fail
        go_ret
        refine ⟨⟨_, rfl, ⟨fun _ => ?_, fun _ => rfl⟩⟩, hb⟩
        have h1 := HR.out
        have h2 := HL.out
        rwa [HK.out, List.take_of_length_le (by simp), List.take_of_length_le (by simp [h2])] at h1
  · have hl1 : (((xs.length : Nat) : Int) != (ys.length : Nat)) = true := by simp; omega
    have HL := Lib.hid hl
    clear hl
    go_enter Try.func18, Try.ntmps18
    go_wp2_with fail
    go_ret
    refine ⟨⟨_, rfl, ⟨fun h => (by cases h), fun h => absurd (by simpa using congrArg List.length h) HL.out⟩⟩, Below.refl _ _⟩

/-- Checkpoints marked, from k on. -/
def markC (k : Nat) : List Check → List Check
  | [] => []
  | _ :: l => ⟨(k : Int), ((k + 1 : Nat) : Int), ((k + 2 : Nat) : Int) % 3 == 0⟩ :: markC (k + 3) l
theorem markC_len (l : List Check) : ∀ k, (markC k l).length = l.length := by
  induction l with
  | nil => intro k; rfl
  | cons s l ih => intro k; simp [markC, ih]
theorem markC_get : ∀ {l : List Check} {i k : Nat} (h : i < l.length), (markC k l)[i]'(by rw [markC_len]; exact h) = ⟨((k + 3 * i : Nat) : Int), ((k + 3 * i + 1 : Nat) : Int), ((k + 3 * i + 2 : Nat) : Int) % 3 == 0⟩
  | [], _, _, h => by simp at h
  | c :: l, 0, k, _ => rfl
  | c :: l, i + 1, k, h => by
    have := markC_get (l := l) (i := i) (k := k + 3) (by simpa using h)
    simp only [markC, List.getElem_cons_succ]
    rw [this]
    rw [show k + 3 + 3 * i = k + 3 * (i + 1) by omega]

set_option maxRecDepth 100000 in
set_option maxHeartbeats 1000000 in
theorem heldCheckS_any (x : Loc LCheck) (k : Nat) (L : List Check) (w : World) (hx : x.At w) (hc : x.xs.map LCheck.er = markC k L) (hk : k + 3 * L.length ≤ 1099511627776) :
    Calls Try.prog 24 #[x.val, .int .i64 k] w fun e w' => e = .returned (.int .i64 ((k + 3 * L.length : Nat) : Int)) ∧ Below w.heap.size w w' := by
  obtain ⟨xa, xc, xs⟩ := x
  simp only [Loc.val]
  have h1 := hx.lenMax
  simp only at hc h1
  have HX := Lib.hid hx
  have HK := Lib.hid hk
  have HLL : Hid (L.length = xs.length) := Lib.hid (by have := congrArg List.length hc; rw [List.length_map, markC_len] at this; exact this.symm)
  have HC := Lib.hid hc
  clear hx hk hc
  go_enter Try.func24, Try.ntmps24
  go_wp2_with fail
  go_loopw [1, 5] (fun c i wr => ∃ (j kj : Nat), j ≤ xs.length ∧ i = .int .i64 j ∧ c = .int .i64 kj ∧ kj = k + 3 * j ∧ Below w.heap.size w wr) (fun _ i _ => xs.length - (intOf i).toNat)
  case atStart => exact ⟨0, k, Nat.zero_le _, rfl, rfl, rfl, Below.refl _ _⟩
  case round =>
    obtain ⟨j, kj, hj, rfl, rfl, hkj, hb⟩ := hrel
    have HKJ := Lib.hid hkj
    have HB := Lib.hid hb
    clear hb hkj
    by_cases hlt : j < xs.length
    · have hlL : j < L.length := by have := HLL.out; omega
      have hej : xs[j].er = ⟨((kj : Nat) : Int), ((kj + 1 : Nat) : Int), ((kj + 2 : Nat) : Int) % 3 == 0⟩ := by
        have h := congrArg (fun l => l[j]?) HC.out
        simp only [List.getElem?_map, List.getElem?_eq_getElem hlt, Option.map_some] at h
        rw [List.getElem?_eq_getElem (by rw [markC_len]; exact hlL), markC_get hlL, ← HKJ.out] at h
        exact Option.some.inj h
      have hkb : kj + 3 ≤ 1099511627776 := by have := HK.out; have := HKJ.out; omega
      obtain ⟨a, ao, ha⟩ := HX.out.place hlt
      simp only at ha
      subst ha
      obtain ⟨c0, c1, c2, c3⟩ := (HX.out.belowAll HB.out).chk rfl hlt
      simp only at c0 c1 c2 c3
      have g0 : xs[j].gen = (kj : Int) := congrArg Check.gen hej
      have g1 : xs[j].at_ = (kj : Int) + 1 := by have := congrArg Check.at_ hej; simp only [LCheck.er] at this; rw [this]; omega
      have g2 : xs[j].good = (((kj : Int) + 1 + 1) % 3 == 0) := by have := congrArg Check.good hej; simp only [LCheck.er] at this; rw [this]; congr 2
      rw [g0] at c0
      rw [g1] at c1
      rw [g2] at c3
      clear g0 g1 g2 hej
      have hbb : ((((kj : Int) + 1 + 1) % 3 == 0) != (((kj : Int) + 1 + 1) % 3 == 0)) = false := by simp
      have hk0 : ¬ ((kj : Int) + 1 + 1) < 0 := by omega
      go_wp2_with (go_at_call 22; refine (heldFileS_nil _ _ _ _).mono ?_; rintro e w' ⟨rfl, rfl⟩)
      go_roundw
      case rel => exact ⟨j + 1, kj + 3, by omega, by go_num, by go_num, by have := HKJ.out; omega, by first | exact HB.out | exact belowN HB.out _⟩
      case measure => simp [intOf]; omega
    · have hjj : j = xs.length := by omega
      subst hjj
      go_wp2_with fail
      go_ret
      exact ⟨ret_int (by have := HKJ.out; rw [← HLL.out] at this; rw [this]), HB.out⟩

def mkC (k i : Nat) : Check := ⟨((k + 3 * i : Nat) : Int), ((k + 3 * i + 1 : Nat) : Int), ((k + 3 * i + 2 : Nat) : Int) % 3 == 0⟩
set_option maxRecDepth 100000 in
set_option maxHeartbeats 2000000 in
theorem markCheckS_any (x : Loc LCheck) (k lo : Nat) (w : World) (hx : x.At w) (hf : Fr lo w x.fp) (hk : k + 3 * x.xs.length ≤ 1099511627776) :
    Calls Try.prog 21 #[x.val, .int .i64 k] w (MarkPost lo x ((k + 3 * x.xs.length : Nat) : Int) (fun ys => ys.map LCheck.er = markC k (x.xs.map LCheck.er)) w) := by
  obtain ⟨xa, xc, xs⟩ := x
  simp only [Loc.val]
  have h1 := hx.lenMax
  simp only at hk h1
  have HX := Lib.hid hx
  have HF := Lib.hid hf
  have HK := Lib.hid hk
  clear hx hf hk
  go_enter Try.func21, Try.ntmps21
  go_wp2_with fail
  go_loopw [1, 5] (fun c i wr => ∃ (j kj : Nat) (ys : List LCheck), j ≤ xs.length ∧ i = .int .i64 j ∧ c = .int .i64 kj ∧ kj = k + 3 * j ∧ ys.map Dat.fp = xs.map Dat.fp ∧ (∀ q (h : q < ys.length), q < j → ys[q].er = mkC k q) ∧ (⟨xa, xc, ys⟩ : Loc LCheck).At wr ∧ Fr lo wr (Loc.fp ⟨xa, xc, xs⟩) ∧ Touch (Loc.fp ⟨xa, xc, xs⟩) w wr) (fun _ i _ => xs.length - (intOf i).toNat)
  case atStart => exact ⟨0, k, xs, Nat.zero_le _, rfl, rfl, rfl, rfl, fun q _ h => absurd h (by omega), HX.out, HF.out, Touch.refl _ _⟩
  case round =>
    obtain ⟨j, kj, ys, hj, rfl, rfl, hkj, hyf, hy, hA, hFr, hT⟩ := hrel
    have HKJ := Lib.hid hkj
    have HY := Lib.hid hy
    have HT := Lib.hid hT
    have HYF := Lib.hid hyf
    have HA := Lib.hid hA
    have HFR := Lib.hid hFr
    have HL : Hid (ys.length = xs.length) := Lib.hid (by have := congrArg List.length hyf; simpa using this)
    clear hy hA hFr hT hyf hkj
    by_cases hlt : j < xs.length
    · have hlt2 : j < ys.length := by have := HL.out; omega
      have hkb : kj + 3 ≤ 1099511627776 := by have := HK.out; have := HKJ.out; omega
      obtain ⟨a, ao, ha⟩ := HA.out.place hlt2
      simp only at ha
      subst ha
      have E0 := Lib.hid (EW.start (x := (⟨some ⟨a, ao, none⟩, xc, xs⟩ : Loc LCheck)) hlt2 HA.out HFR.out HYF.out)
      generalize hye : ys[j] = y at *
      obtain ⟨yg, yt, ya, yc, yb⟩ := y
      clear hye
      have c0 := E0.out.cell (g := a) (o := ao) rfl (j := 0) (v := .int .i64 yg) rfl
      have c1 := E0.out.cell (g := a) (o := ao) rfl (j := 1) (v := .int .i64 yt) rfl
      have c2 := E0.out.cell (g := a) (o := ao) rfl (j := 2) (v := .slice ya 0 yc) rfl
      have c3 := E0.out.cell (g := a) (o := ao) rfl (j := 3) (v := .bool yb) rfl
      have z0 := E0.out.frozen (g := a) (o := ao) rfl (ao + j * 4)
      have z1 := E0.out.frozen (g := a) (o := ao) rfl (ao + j * 4 + 1)
      have z3 := E0.out.frozen (g := a) (o := ao) rfl (ao + j * 4 + 3)
      have e1 := E0.out.store (g := a) (o := ao) rfl (⟨(kj : Int), yt, ya, yc, yb⟩ : LCheck) 0 (.int .i64 (kj : Int)) (by decide) rfl rfl trivial
      have e2 := e1.1.store (g := a) (o := ao) rfl (⟨(kj : Int), (kj : Int) + 1, ya, yc, yb⟩ : LCheck) 1 (.int .i64 ((kj : Int) + 1)) (by decide) rfl rfl trivial
      have e3 := e2.1.store (g := a) (o := ao) rfl (⟨(kj : Int), (kj : Int) + 1, ya, yc, ((kj : Int) + 1 + 1) % 3 == 0⟩ : LCheck) 3 (.bool (((kj : Int) + 1 + 1) % 3 == 0)) (by decide) rfl rfl trivial
      simp only [show Dat.k LCheck = 4 from rfl, Nat.add_zero] at c0 c1 c2 c3 e1 e2 e3
      have E3 := Lib.hid e3.1
      have T3 := Lib.hid (HT.out.trans ((e1.2.trans e2.2).trans e3.2))
      clear e1 e2 e3 E0
      go_wp2_with (go_at_call 19; refine (markFileS_nil _ _ _ _).mono ?_; rintro e w' ⟨rfl, rfl⟩)
      go_roundw
      case rel =>
        refine ⟨j + 1, kj + 3, ys.set j ⟨(kj : Int), (kj : Int) + 1, ya, yc, ((kj : Int) + 1 + 1) % 3 == 0⟩, by omega, by go_num, by go_num, by have := HKJ.out; omega, E3.out.fpEq, fun q hq hqj => ?_, E3.out.at_, E3.out.fr, T3.out⟩
        by_cases hqj2 : q = j
        · subst hqj2
          rw [List.getElem_set_self]
          have := HKJ.out
          simp only [LCheck.er, mkC, ← this, Check.mk.injEq]
          refine ⟨trivial, by omega, ?_⟩
          congr 2
        · rw [List.getElem_set_ne (Ne.symm hqj2)]
          exact HY.out q (by simpa using hq) (by omega)
      case measure => simp [intOf]; omega
    · have hjj : j = xs.length := by omega
      subst hjj
      go_wp2_with fail
      go_ret
      refine ⟨ys, ret_int (by have := HKJ.out; rw [this]), ?_, HYF.out, HA.out, HFR.out, HT.out⟩
      apply List.ext_getElem
      · rw [markC_len, List.length_map, List.length_map, HL.out]
      · intro q h1 h2
        rw [List.getElem_map, markC_get (by rw [markC_len] at h2; exact h2)]
        exact HY.out q (by simpa using h1) (by rw [← HL.out]; simpa using h1)
end Go.Proofs.Ytcfbppdfiehlnaa
