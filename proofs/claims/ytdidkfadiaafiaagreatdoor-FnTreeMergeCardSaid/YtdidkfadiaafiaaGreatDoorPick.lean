/- The reference's reader of a code: l6Open, pick, of. -/
import Derived.Test.YtdidkfadiaafiaaGreatDoorTouch
import Derived.Test.YtdidkfadiaafiaaGreatDoorProg
import Derived.Test.YtdidkfadiaafiaaGreatDoorReg
import Derived.IntWalk
import Derived.Deep.QuietTactic
import Derived.BigQuiet
namespace Go.Proofs.YtdidkfadiaafiaaGreatDoor
open Go Go.RowKit

/-- A reader of a code: where it lies, at most how far it has come. -/
structure Rd (R : Nat) (code : Loc UInt8) (N : Nat) (w : World) : Prop where
  blk : ∃ p : Nat, p ≤ N ∧ w.heap[R]? = some (.cells #[code.val, .int .i64 p] 93 (0, 0))
  at_ : code.At w
  off : ∀ b ∈ code.fp, b ≠ R

theorem Rd.lt {R : Nat} {code : Loc UInt8} {N : Nat} {w : World} (h : Rd R code N w) : R < w.heap.size := by
  obtain ⟨p, _, hb⟩ := h.blk
  exact (Array.getElem?_eq_some_iff.1 hb).1
theorem Rd.mono {R : Nat} {code : Loc UInt8} {N N' : Nat} {w : World} (h : Rd R code N w) (hn : N ≤ N') : Rd R code N' w := by
  obtain ⟨p, hp, hb⟩ := h.blk
  exact ⟨⟨p, by omega, hb⟩, h.at_, h.off⟩
theorem Rd.later {R : Nat} {code : Loc UInt8} {N : Nat} {w w' : World} (h : Rd R code N w) (hb : Below w.heap.size w w') : Rd R code N w' := by
  obtain ⟨p, hp, hc⟩ := h.blk
  exact ⟨⟨p, hp, (hb.block R h.lt).trans hc⟩, Loc.At.belowAll h.at_ hb, h.off⟩

/-- What a draw leaves: the reader, and all else as it was. -/
structure Drew (R : Nat) (code : Loc UInt8) (N : Nat) (w w' : World) : Prop where
  rd : Rd R code N w'
  touch : Touch [R] w w'

theorem Drew.trans {R : Nat} {code : Loc UInt8} {N M : Nat} {a b c : World} (h : Drew R code N a b) (k : Drew R code M b c) : Drew R code M a c := ⟨k.rd, h.touch.trans k.touch⟩
theorem Drew.mono {R : Nat} {code : Loc UInt8} {N M : Nat} {a b : World} (h : Drew R code N a b) (k : N ≤ M) : Drew R code M a b := ⟨h.rd.mono k, h.touch⟩
theorem Drew.later {R : Nat} {code : Loc UInt8} {N : Nat} {a b c : World} (h : Drew R code N a b) (k : Below b.heap.size b c) : Drew R code N a c := ⟨h.rd.later k, h.touch.trans (Touch.of_below _ k)⟩
theorem Rd.refl {R : Nat} {code : Loc UInt8} {N : Nat} {w : World} (h : Rd R code N w) : Drew R code N w w := ⟨h, Touch.refl _ _⟩
theorem Drew.keepLoc {α : Type} [Dat α] {R : Nat} {code : Loc UInt8} {N : Nat} {w w' : World} {y : Loc α} (h : Drew R code N w w') (hy : y.At w) (hd : ∀ b ∈ y.fp, b ≠ R) : y.At w' :=
  h.touch.keepLoc hy fun b hb hm => hd b hb (by simpa using hm)
theorem Drew.keepDat {α : Type} [Dat α] {R : Nat} {code : Loc UInt8} {N : Nat} {w w' : World} {y : α} (h : Drew R code N w w') (hy : Dat.At w y) (hd : ∀ b ∈ Dat.fp y, b ≠ R) : Dat.At w' y :=
  h.touch.keepDat hy fun b hb hm => hd b hb (by simpa using hm)
theorem Drew.keepFr {R : Nat} {code : Loc UInt8} {N lo : Nat} {w w' : World} {f : List Nat} (h : Drew R code N w w') (hy : Fr lo w f) (hd : ∀ b ∈ f, b ≠ R) : Fr lo w' f :=
  h.touch.keepFr hy fun b hb hm => hd b hb (by simpa using hm)

theorem bits_xor_i64 (a b : Nat) (ha : a < 2 ^ 40) (hb : b < 2 ^ 40) : bits .xor .i64 (a : Int) (b : Int) = ((a ^^^ b : Nat) : Int) ∧ a ^^^ b < 2 ^ 40 := by
  have hx : a ^^^ b < 2 ^ 40 := Nat.xor_lt_two_pow ha hb
  have h1 : (BitVec.ofInt 64 (a : Int)).toNat = a := by
    rw [BitVec.ofInt_natCast, BitVec.toNat_ofNat]; exact Nat.mod_eq_of_lt (by omega)
  have h2 : (BitVec.ofInt 64 (b : Int)).toNat = b := by
    rw [BitVec.ofInt_natCast, BitVec.toNat_ofNat]; exact Nat.mod_eq_of_lt (by omega)
  refine ⟨?_, hx⟩
  show IntKind.i64.wrap ((BitVec.ofInt 64 (a : Int) ^^^ BitVec.ofInt 64 (b : Int)).toNat : Int) = _
  rw [BitVec.toNat_xor, h1, h2]
  exact IntWalk.i64_in _ (by omega)

theorem rem_range {a n : Int} (ha : 0 ≤ a) (hn : 1 ≤ n) : (0 ≤ a % n ∧ a % n < n) ∧ (0 ≤ a.tmod n ∧ a.tmod n < n) := by
  have h : 0 ≤ a % n ∧ a % n < n := ⟨Int.emod_nonneg _ (by omega), Int.emod_lt_of_pos _ (by omega)⟩
  exact ⟨h, by rw [Int.tmod_eq_emod_of_nonneg ha]; exact h⟩

set_option maxRecDepth 100000 in
set_option maxHeartbeats 1000000 in
theorem pick_any (R : Nat) (code : Loc UInt8) (N : Nat) (n : Int) (w : World) (h : Rd R code N w) (hN : N ≤ 1000000000) (hn1 : 1 ≤ n) (hn2 : n ≤ 1000000) :
    Calls Tryz.prog 50 #[.pointer (some ⟨R, 0, none⟩), .int .i64 n] w fun e w' => (∃ v : Int, e = .returned (.int .i64 v) ∧ 0 ≤ v ∧ v < n) ∧ Drew R code (N + 1) w w' := by
  obtain ⟨⟨p, hp, hb⟩, hA, hoff⟩ := h
  obtain ⟨ca, cc, cs⟩ := code
  have h1 := hA.lenMax
  simp only [Loc.val] at hb h1
  have c0 : w.cell? ⟨R, 0, none⟩ = some (.slice ca cs.length cc) := by rw [cell_of_row _ _ _ _ _ _ hb]; rfl
  have c1 : w.cell? ⟨R, 1, none⟩ = some (.int .i64 p) := by rw [cell_of_row _ _ _ _ _ _ hb]; rfl
  have z1 : w.frozen? ⟨R, 1, none⟩ = false := frozen_of_row _ _ _ _ _ hb
  have hb2 : (w.setCell ⟨R, 1, none⟩ (.int .i64 ((p : Int) + 1))).heap[R]? = some (.cells #[.slice ca cs.length cc, .int .i64 ((p + 1 : Nat) : Int)] 93 (0, 0)) := by
    rw [heap_setCell_same w R 1 _ _ _ hb]; rfl
  have hA2 : Loc.At (w.setCell ⟨R, 1, none⟩ (.int .i64 ((p : Int) + 1))) ⟨ca, cc, cs⟩ := Loc.keep_At hA fun b hb => Below.heap_setCell _ _ _ _ (hoff b hb)
  have HD := Lib.hid (show Drew R ⟨ca, cc, cs⟩ (N + 1) w (w.setCell ⟨R, 1, none⟩ (.int .i64 ((p : Int) + 1))) from ⟨⟨⟨p + 1, by omega, hb2⟩, hA2, hoff⟩, Touch.setCell w (by simp) _⟩)
  have HA2 := Lib.hid hA2
  have hpp : (p : Int) ≤ 1000000000 := by omega
  have hnn : ¬ n < 1 := by omega
  have hnd : decide (n < 1) = false := decide_eq_false hnn
  clear hb hb2 hA hA2 hoff
  by_cases hl : cs.length = 0
  · have hl0 : (((cs.length : Nat) : Int) == 0) = true := by simp [hl]
    have HL := Lib.hid hl
    clear hl
    go_enter Tryz.func50, Tryz.ntmps50
    go_wp2_with fail
    go_ret
    exact ⟨⟨0, rfl, by omega, by omega⟩, HD.out⟩
  · have hl0 : (((cs.length : Nat) : Int) == 0) = false := by rw [beq_eq_false_iff_ne]; omega
    by_cases hk : p < cs.length
    · obtain ⟨a, ao, ha⟩ := HA2.out.place hk
      simp only at ha
      subst ha
      have cb := HA2.out.byte rfl hk
      simp only at cb
      have hbt := cs[p].toNat_lt
      go_enter Tryz.func50, Tryz.ntmps50
      go_wp2_with fail
      go_ret
      refine ⟨⟨_, rfl, ?_, ?_⟩, HD.out⟩
      · exact (rem_range (by omega) hn1).1.1
      · exact (rem_range (by omega) hn1).1.2
    · have hL : 0 < cs.length := by omega
      obtain ⟨i1, hi1⟩ : ∃ i1 : Nat, i1 = p % cs.length := ⟨_, rfl⟩
      obtain ⟨i2, hi2⟩ : ∃ i2 : Nat, i2 = (p * 7 + 3) % cs.length := ⟨_, rfl⟩
      obtain ⟨j, hj⟩ : ∃ j : Nat, j = p / cs.length := ⟨_, rfl⟩
      have l1 : i1 < cs.length := by rw [hi1]; exact Nat.mod_lt _ hL
      have l2 : i2 < cs.length := by rw [hi2]; exact Nat.mod_lt _ hL
      have lj : j ≤ p := by rw [hj]; exact Nat.div_le_self _ _
      have e1 : (p : Int).tmod (cs.length : Int) = (i1 : Int) := by rw [hi1]; rfl
      have e2 : ((p : Int) * 7 + 3).tmod (cs.length : Int) = (i2 : Int) := by rw [hi2]; rfl
      have e3 : (p : Int).tdiv (cs.length : Int) = (j : Int) := by rw [hj]; rfl
      obtain ⟨a, ao, ha⟩ := HA2.out.place hL
      simp only at ha
      subst ha
      have b1 := cs[i1].toNat_lt
      have b2 := cs[i2].toNat_lt
      have HF : Hid (∀ w', Below (w.setCell ⟨R, 1, none⟩ (.int .i64 ((p : Int) + 1))).heap.size (w.setCell ⟨R, 1, none⟩ (.int .i64 ((p : Int) + 1))) w' → w'.cell? ⟨R, 0, none⟩ = some (.slice (some ⟨a, ao, none⟩) cs.length cc) ∧
          w'.cell? ⟨a, ao + i1, none⟩ = some (.int .u8 cs[i1].toNat) ∧ w'.cell? ⟨a, ao + i2, none⟩ = some (.int .u8 cs[i2].toNat)) := Lib.hid (fun w' h => by
        have hA3 := HA2.out.belowAll h
        refine ⟨?_, hA3.byte rfl l1, hA3.byte rfl l2⟩
        obtain ⟨q, _, hq⟩ := (HD.out.rd.later h).blk
        rw [cell_of_row _ _ _ _ _ _ hq]; rfl)
      have bb1 : ((cs[i1].toNat : Nat) : Int) ≤ 255 := by omega
      have bb2 : ((cs[i2].toNat : Nat) : Int) ≤ 255 := by omega
      have g1 : IntKind.i64.wrap ((p : Int) * 7) = (p : Int) * 7 := IntWalk.i64_in _ (by omega)
      have g2 : IntKind.i64.wrap ((p : Int) * 7 + 3) = (p : Int) * 7 + 3 := IntWalk.i64_in _ (by omega)
      have m1 : IntKind.i64.wrap ((cs[i1].toNat : Int) * 131) = (cs[i1].toNat : Int) * 131 := IntWalk.i64_in _ (by omega)
      have m2 : IntKind.i64.wrap ((cs[i2].toNat : Int) * 1117) = (cs[i2].toNat : Int) * 1117 := IntWalk.i64_in _ (by omega)
      have s1 : IntKind.i64.wrap ((cs[i1].toNat : Int) * 131 + (cs[i2].toNat : Int) * 1117) = (cs[i1].toNat : Int) * 131 + (cs[i2].toNat : Int) * 1117 := IntWalk.i64_in _ (by omega)
      have m3 : IntKind.i64.wrap ((p : Int) * 29) = (p : Int) * 29 := IntWalk.i64_in _ (by omega)
      have s2 : IntKind.i64.wrap ((cs[i1].toNat : Int) * 131 + (cs[i2].toNat : Int) * 1117 + (p : Int) * 29) = (cs[i1].toNat : Int) * 131 + (cs[i2].toNat : Int) * 1117 + (p : Int) * 29 := IntWalk.i64_in _ (by omega)
      have m4 : IntKind.i64.wrap ((j : Int) * 53) = (j : Int) * 53 := IntWalk.i64_in _ (by omega)
      have s3 : IntKind.i64.wrap ((cs[i1].toNat : Int) * 131 + (cs[i2].toNat : Int) * 1117 + (p : Int) * 29 + (j : Int) * 53) = (cs[i1].toNat : Int) * 131 + (cs[i2].toNat : Int) * 1117 + (p : Int) * 29 + (j : Int) * 53 := IntWalk.i64_in _ (by omega)
      have hx : ∃ y : Nat, bits .xor .i64 ((cs[i1].toNat : Int) * 131 + (cs[i2].toNat : Int) * 1117 + (p : Int) * 29 + (j : Int) * 53) (((cs[i1].toNat : Int) * 131 + (cs[i2].toNat : Int) * 1117 + (p : Int) * 29 + (j : Int) * 53) / 64) = (y : Int) ∧ y < 2 ^ 40 := by
        obtain ⟨X, hX⟩ : ∃ X : Nat, ((cs[i1].toNat : Int) * 131 + (cs[i2].toNat : Int) * 1117 + (p : Int) * 29 + (j : Int) * 53) = (X : Int) := ⟨cs[i1].toNat * 131 + cs[i2].toNat * 1117 + p * 29 + j * 53, by omega⟩
        have hXl : X < 2 ^ 40 := by omega
        have h := bits_xor_i64 X (X / 64) hXl (by omega)
        rw [hX]
        exact ⟨_, h.1, h.2⟩
      obtain ⟨y, hx, hy⟩ := hx
      clear hi1 hi2 hj
      go_enter Tryz.func50, Tryz.ntmps50
      go_wp2_with fail
      generalize w.setCell ⟨R, 1, none⟩ (.int .i64 ((p : Int) + 1)) = W1 at HF HD HA2 ⊢
      refine wp_region_inv 46 (by kernel_rfl) (by kernel_rfl) (fun w' => Below W1.heap.size W1 w') (Below.refl _ _).drew ?_
      simp only [List.take_succ_cons, List.take_zero, List.drop_succ_cons, List.drop_zero]
      refine' wpInv_step (by rfl) (fun w' hI => ?_) ?_
      rotate_left
      · have hf := HF.out w' hI
        unfold invAt
        go_simp
        first | exact rfl | exact ⟨rfl, hI⟩
      simp only [Act.put, List.setIfInBounds_toArray, List.set_cons_zero, List.set_cons_succ]
      refine' wpInv_step (by rfl) (fun w' hI => ?_) ?_
      rotate_left
      · have hf := HF.out w' hI
        unfold invAt
        go_simp
        first | exact rfl | exact ⟨rfl, hI⟩
      simp only [Act.put, List.setIfInBounds_toArray, List.set_cons_zero, List.set_cons_succ]
      refine' wpInv_step (by rfl) (fun w' hI => ?_) ?_
      rotate_left
      · have hf := HF.out w' hI
        unfold invAt
        go_simp
        first | exact rfl | exact ⟨rfl, hI⟩
      simp only [Act.put, List.setIfInBounds_toArray, List.set_cons_zero, List.set_cons_succ]
      refine' wpInv_step (by rfl) (fun w' hI => ?_) ?_
      rotate_left
      · have hf := HF.out w' hI
        unfold invAt
        go_simp
        first | exact rfl | exact ⟨rfl, hI⟩
      simp only [Act.put, List.setIfInBounds_toArray, List.set_cons_zero, List.set_cons_succ]
      refine' wpInv_step (by rfl) (fun w' hI => ?_) ?_
      rotate_left
      · have hf := HF.out w' hI
        unfold invAt
        go_simp
        first | exact rfl | exact ⟨rfl, hI⟩
      simp only [Act.put, List.setIfInBounds_toArray, List.set_cons_zero, List.set_cons_succ]
      refine' wpInv_step (by rfl) (fun w' hI => ?_) ?_
      rotate_left
      · have hf := HF.out w' hI
        unfold invAt
        go_simp
        first | exact rfl | exact ⟨rfl, hI⟩
      simp only [Act.put, List.setIfInBounds_toArray, List.set_cons_zero, List.set_cons_succ]
      refine' wpInv_step (by rfl) (fun w' hI => ?_) ?_
      rotate_left
      · have hf := HF.out w' hI
        unfold invAt
        go_simp
        first | exact rfl | exact ⟨rfl, hI⟩
      simp only [Act.put, List.setIfInBounds_toArray, List.set_cons_zero, List.set_cons_succ]
      refine' wpInv_step (by rfl) (fun w' hI => ?_) ?_
      rotate_left
      · have hf := HF.out w' hI
        unfold invAt
        go_simp
        first | exact rfl | exact ⟨rfl, hI⟩
      simp only [Act.put, List.setIfInBounds_toArray, List.set_cons_zero, List.set_cons_succ]
      refine' wpInv_step (by rfl) (fun w' hI => ?_) ?_
      rotate_left
      · have hf := HF.out w' hI
        unfold invAt
        go_simp
        first | exact rfl | exact ⟨rfl, hI⟩
      simp only [Act.put, List.setIfInBounds_toArray, List.set_cons_zero, List.set_cons_succ]
      refine' wpInv_step (by rfl) (fun w' hI => ?_) ?_
      rotate_left
      · have hf := HF.out w' hI
        unfold invAt
        go_simp
        first | exact rfl | exact ⟨rfl, hI⟩
      simp only [Act.put, List.setIfInBounds_toArray, List.set_cons_zero, List.set_cons_succ]
      refine' wpInv_step (by rfl) (fun w' hI => ?_) ?_
      rotate_left
      · have hf := HF.out w' hI
        unfold invAt
        go_simp
        first | exact rfl | exact ⟨rfl, hI⟩
      simp only [Act.put, List.setIfInBounds_toArray, List.set_cons_zero, List.set_cons_succ]
      refine' wpInv_step (by rfl) (fun w' hI => ?_) ?_
      rotate_left
      · have hf := HF.out w' hI
        unfold invAt
        go_simp
        first | exact rfl | exact ⟨rfl, hI⟩
      simp only [Act.put, List.setIfInBounds_toArray, List.set_cons_zero, List.set_cons_succ]
      refine' wpInv_step (by rfl) (fun w' hI => ?_) ?_
      rotate_left
      · have hf := HF.out w' hI
        unfold invAt
        go_simp
        first | exact rfl | exact ⟨rfl, hI⟩
      simp only [Act.put, List.setIfInBounds_toArray, List.set_cons_zero, List.set_cons_succ]
      refine' wpInv_step (by rfl) (fun w' hI => ?_) ?_
      rotate_left
      · have hf := HF.out w' hI
        unfold invAt
        go_simp
        first | exact rfl | exact ⟨rfl, hI⟩
      simp only [Act.put, List.setIfInBounds_toArray, List.set_cons_zero, List.set_cons_succ]
      refine' wpInv_step (by rfl) (fun w' hI => ?_) ?_
      rotate_left
      · have hf := HF.out w' hI
        unfold invAt
        go_simp
        first | exact rfl | exact ⟨rfl, hI⟩
      simp only [Act.put, List.setIfInBounds_toArray, List.set_cons_zero, List.set_cons_succ]
      refine' wpInv_step (by rfl) (fun w' hI => ?_) ?_
      rotate_left
      · have hf := HF.out w' hI
        unfold invAt
        go_simp
        first | exact rfl | exact ⟨rfl, hI⟩
      simp only [Act.put, List.setIfInBounds_toArray, List.set_cons_zero, List.set_cons_succ]
      refine' wpInv_step (by rfl) (fun w' hI => ?_) ?_
      rotate_left
      · have hf := HF.out w' hI
        unfold invAt
        go_simp
        first | exact rfl | exact ⟨rfl, hI⟩
      simp only [Act.put, List.setIfInBounds_toArray, List.set_cons_zero, List.set_cons_succ]
      refine' wpInv_step (by rfl) (fun w' hI => ?_) ?_
      rotate_left
      · have hf := HF.out w' hI
        unfold invAt
        go_simp
        first | exact rfl | exact ⟨rfl, hI⟩
      simp only [Act.put, List.setIfInBounds_toArray, List.set_cons_zero, List.set_cons_succ]
      refine' wpInv_step (by rfl) (fun w' hI => ?_) ?_
      rotate_left
      · have hf := HF.out w' hI
        unfold invAt
        go_simp
        first | exact rfl | exact ⟨rfl, hI⟩
      simp only [Act.put, List.setIfInBounds_toArray, List.set_cons_zero, List.set_cons_succ]
      refine' wpInv_step (by rfl) (fun w' hI => ?_) ?_
      rotate_left
      · have hf := HF.out w' hI
        unfold invAt
        go_simp
        first | exact rfl | exact ⟨rfl, hI⟩
      simp only [Act.put, List.setIfInBounds_toArray, List.set_cons_zero, List.set_cons_succ]
      refine' wpInv_step (by rfl) (fun w' hI => ?_) ?_
      rotate_left
      · have hf := HF.out w' hI
        unfold invAt
        go_simp
        first | exact rfl | exact ⟨rfl, hI⟩
      simp only [Act.put, List.setIfInBounds_toArray, List.set_cons_zero, List.set_cons_succ]
      refine' wpInv_step (by rfl) (fun w' hI => ?_) ?_
      rotate_left
      · have hf := HF.out w' hI
        unfold invAt
        go_simp
        first | exact rfl | exact ⟨rfl, hI⟩
      simp only [Act.put, List.setIfInBounds_toArray, List.set_cons_zero, List.set_cons_succ]
      refine' wpInv_step (by rfl) (fun w' hI => ?_) ?_
      rotate_left
      · have hf := HF.out w' hI
        unfold invAt
        go_simp
        first | exact rfl | exact ⟨rfl, hI⟩
      simp only [Act.put, List.setIfInBounds_toArray, List.set_cons_zero, List.set_cons_succ]
      refine' wpInv_step (by rfl) (fun w' hI => ?_) ?_
      rotate_left
      · have hf := HF.out w' hI
        unfold invAt
        go_simp
        first | exact rfl | exact ⟨rfl, hI⟩
      simp only [Act.put, List.setIfInBounds_toArray, List.set_cons_zero, List.set_cons_succ]
      refine' wpInv_step (by rfl) (fun w' hI => ?_) ?_
      rotate_left
      · have hf := HF.out w' hI
        unfold invAt
        go_simp
        first | exact rfl | exact ⟨rfl, hI⟩
      simp only [Act.put, List.setIfInBounds_toArray, List.set_cons_zero, List.set_cons_succ]
      refine' wpInv_step (by rfl) (fun w' hI => ?_) ?_
      rotate_left
      · have hf := HF.out w' hI
        unfold invAt
        go_simp
        first | exact rfl | exact ⟨rfl, hI⟩
      simp only [Act.put, List.setIfInBounds_toArray, List.set_cons_zero, List.set_cons_succ]
      refine' wpInv_step (by rfl) (fun w' hI => ?_) ?_
      rotate_left
      · have hf := HF.out w' hI
        unfold invAt
        go_simp
        first | exact rfl | exact ⟨rfl, hI⟩
      simp only [Act.put, List.setIfInBounds_toArray, List.set_cons_zero, List.set_cons_succ]
      refine' wpInv_step (by rfl) (fun w' hI => ?_) ?_
      rotate_left
      · have hf := HF.out w' hI
        unfold invAt
        go_simp
        first | exact rfl | exact ⟨rfl, hI⟩
      simp only [Act.put, List.setIfInBounds_toArray, List.set_cons_zero, List.set_cons_succ]
      refine' wpInv_step (by rfl) (fun w' hI => ?_) ?_
      rotate_left
      · have hf := HF.out w' hI
        unfold invAt
        go_simp
        first | exact rfl | exact ⟨rfl, hI⟩
      simp only [Act.put, List.setIfInBounds_toArray, List.set_cons_zero, List.set_cons_succ]
      refine' wpInv_step (by rfl) (fun w' hI => ?_) ?_
      rotate_left
      · have hf := HF.out w' hI
        unfold invAt
        go_simp
        first | exact rfl | exact ⟨rfl, hI⟩
      simp only [Act.put, List.setIfInBounds_toArray, List.set_cons_zero, List.set_cons_succ]
      refine' wpInv_step (by rfl) (fun w' hI => ?_) ?_
      rotate_left
      · have hf := HF.out w' hI
        unfold invAt
        go_simp
        first | exact rfl | exact ⟨rfl, hI⟩
      simp only [Act.put, List.setIfInBounds_toArray, List.set_cons_zero, List.set_cons_succ]
      refine' wpInv_step (by rfl) (fun w' hI => ?_) ?_
      rotate_left
      · have hf := HF.out w' hI
        unfold invAt
        go_simp
        first | exact rfl | exact ⟨rfl, hI⟩
      simp only [Act.put, List.setIfInBounds_toArray, List.set_cons_zero, List.set_cons_succ]
      refine' wpInv_step (by rfl) (fun w' hI => ?_) ?_
      rotate_left
      · have hf := HF.out w' hI
        unfold invAt
        go_simp
        first | exact rfl | exact ⟨rfl, hI⟩
      simp only [Act.put, List.setIfInBounds_toArray, List.set_cons_zero, List.set_cons_succ]
      refine' wpInv_step (by rfl) (fun w' hI => ?_) ?_
      rotate_left
      · have hf := HF.out w' hI
        unfold invAt
        go_simp
        first | exact rfl | exact ⟨rfl, hI⟩
      simp only [Act.put, List.setIfInBounds_toArray, List.set_cons_zero, List.set_cons_succ]
      refine' wpInv_step (by rfl) (fun w' hI => ?_) ?_
      rotate_left
      · have hf := HF.out w' hI
        unfold invAt
        go_simp
        first | exact rfl | exact ⟨rfl, hI⟩
      simp only [Act.put, List.setIfInBounds_toArray, List.set_cons_zero, List.set_cons_succ]
      refine' wpInv_step (by rfl) (fun w' hI => ?_) ?_
      rotate_left
      · have hf := HF.out w' hI
        unfold invAt
        go_simp
        first | exact rfl | exact ⟨rfl, hI⟩
      simp only [Act.put, List.setIfInBounds_toArray, List.set_cons_zero, List.set_cons_succ]
      refine' wpInv_step (by rfl) (fun w' hI => ?_) ?_
      rotate_left
      · have hf := HF.out w' hI
        unfold invAt
        go_simp
        first | exact rfl | exact ⟨rfl, hI⟩
      simp only [Act.put, List.setIfInBounds_toArray, List.set_cons_zero, List.set_cons_succ]
      refine' wpInv_step (by rfl) (fun w' hI => ?_) ?_
      rotate_left
      · have hf := HF.out w' hI
        unfold invAt
        go_simp
        first | exact rfl | exact ⟨rfl, hI⟩
      simp only [Act.put, List.setIfInBounds_toArray, List.set_cons_zero, List.set_cons_succ]
      refine' wpInv_step (by rfl) (fun w' hI => ?_) ?_
      rotate_left
      · have hf := HF.out w' hI
        unfold invAt
        go_simp
        first | exact rfl | exact ⟨rfl, hI⟩
      simp only [Act.put, List.setIfInBounds_toArray, List.set_cons_zero, List.set_cons_succ]
      refine' wpInv_step (by rfl) (fun w' hI => ?_) ?_
      rotate_left
      · have hf := HF.out w' hI
        unfold invAt
        go_simp
        first | exact rfl | exact ⟨rfl, hI⟩
      simp only [Act.put, List.setIfInBounds_toArray, List.set_cons_zero, List.set_cons_succ]
      refine' wpInv_step (by rfl) (fun w' hI => ?_) ?_
      rotate_left
      · have hf := HF.out w' hI
        unfold invAt
        go_simp
        first | exact rfl | exact ⟨rfl, hI⟩
      simp only [Act.put, List.setIfInBounds_toArray, List.set_cons_zero, List.set_cons_succ]
      refine' wpInv_step (by rfl) (fun w' hI => ?_) ?_
      rotate_left
      · have hf := HF.out w' hI
        unfold invAt
        go_simp
        first | exact rfl | exact ⟨rfl, hI⟩
      simp only [Act.put, List.setIfInBounds_toArray, List.set_cons_zero, List.set_cons_succ]
      refine' wpInv_step (by rfl) (fun w' hI => ?_) ?_
      rotate_left
      · have hf := HF.out w' hI
        unfold invAt
        go_simp
        first | exact rfl | exact ⟨rfl, hI⟩
      simp only [Act.put, List.setIfInBounds_toArray, List.set_cons_zero, List.set_cons_succ]
      refine' wpInv_step (by rfl) (fun w' hI => ?_) ?_
      rotate_left
      · have hf := HF.out w' hI
        unfold invAt
        go_simp
        first | exact rfl | exact ⟨rfl, hI⟩
      simp only [Act.put, List.setIfInBounds_toArray, List.set_cons_zero, List.set_cons_succ]
      refine' wpInv_step (by rfl) (fun w' hI => ?_) ?_
      rotate_left
      · have hf := HF.out w' hI
        unfold invAt
        go_simp
        first | exact rfl | exact ⟨rfl, hI⟩
      simp only [Act.put, List.setIfInBounds_toArray, List.set_cons_zero, List.set_cons_succ]
      refine' wpInv_step (by rfl) (fun w' hI => ?_) ?_
      rotate_left
      · have hf := HF.out w' hI
        unfold invAt
        go_simp
        first | exact rfl | exact ⟨rfl, hI⟩
      simp only [Act.put, List.setIfInBounds_toArray, List.set_cons_zero, List.set_cons_succ]
      intro w1 hI
      go_wp2_with fail
      go_ret
      refine ⟨⟨_, rfl, ?_, ?_⟩, ⟨HD.out.rd.later hI, HD.out.touch.trans (Touch.of_below _ hI)⟩⟩
      · first | exact (rem_range (by omega) hn1).1.1 | exact (rem_range (by omega) hn1).2.1
      · first | exact (rem_range (by omega) hn1).1.2 | exact (rem_range (by omega) hn1).2.2
end Go.Proofs.YtdidkfadiaafiaaGreatDoor
