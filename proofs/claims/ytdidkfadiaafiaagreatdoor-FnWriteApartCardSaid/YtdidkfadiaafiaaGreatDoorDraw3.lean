/- The reference's draws: l6Open, of, l71Vv, l71Text. The reference's draws: l71Vv, l71Text. The reference's draws: l71Sib. -/
import Derived.Test.YtdidkfadiaafiaaGreatDoorPick
import Derived.Test.YtdidkfadiaafiaaGreatDoorInfo
namespace Go.Proofs.YtdidkfadiaafiaaGreatDoor
open Go Go.RowKit

theorem Loc.At.take {α : Type} [Dat α] {w : World} {l : Loc α} (h : l.At w) (n : Nat) : Loc.At w ⟨l.a, l.cap, l.xs.take n⟩ := by
  have hl := h.lenCap
  refine ⟨by simp; omega, h.2.1, fun hn => h.2.2.1 (fun h0 => hn (by simp [h0])), fun a ha i x hx j v hv => ?_, fun x hx => h.elem (List.mem_of_mem_take hx)⟩
  have hx2 : l.xs[i]? = some x := by
    have : (l.xs.take n)[i]? = some x := hx
    rw [List.getElem?_take] at this
    split at this
    · exact this
    · cases this
  exact h.cell ha hx2 hv

set_option maxRecDepth 100000 in
theorem l6Open_any' (x : Loc UInt8) (w : World) (hx : x.At w) :
    Calls Tryz.prog 47 #[x.val] w fun e w' => ∃ (R : Nat) (code : Loc UInt8), e = .returned (.pointer (some ⟨R, 0, none⟩)) ∧ Rd R code 0 w' ∧ Below w.heap.size w w' ∧ w.heap.size ≤ R := by
  obtain ⟨xa, xc, xs⟩ := x
  simp only [Loc.val]
  have h1 := hx.lenMax
  have h2 := hx.lenCap
  have h3 := hx.capMax
  simp only at h1 h2
  simp only [maxLen] at h3
  have HX := Lib.hid hx
  have HA : Hid (∀ code : Loc UInt8, code.At w → Rd w.heap.size code 0 (w.alloc (Obj.cells #[code.val, .int .i64 0] 93))) := Lib.hid (fun code hc =>
    ⟨⟨0, Nat.le_refl _, heap_alloc_new w _⟩, hc.belowAll ((Below.refl _ _).alloc (Nat.le_refl _) _), fun b hb => by have := Loc.lt_of_At hc b hb; omega⟩)
  have HB : Hid (∀ o, Below w.heap.size w (w.alloc o)) := Lib.hid (fun o => (Below.refl _ _).alloc (Nat.le_refl _) o)
  clear hx
  by_cases hl : 2000 < xs.length
  · have hl2 : decide ((2000 : Int) < (xs.length : Int)) = true := decide_eq_true (by omega)
    have hl3 : 2000 ≤ xc := by omega
    obtain ⟨a, ao, ha⟩ := HX.out.place (show 0 < xs.length by omega)
    simp only at ha
    subst ha
    go_enter Tryz.func47, Tryz.ntmps47
    go_wp2_with fail
    go_ret
    refine ⟨w.heap.size, ⟨some ⟨a, ao, none⟩, xc, xs.take 2000⟩, rfl, ?_, HB.out _, Nat.le_refl _⟩
    have := HA.out _ (HX.out.take 2000)
    simp only [Loc.val, List.length_take, Nat.min_eq_left (show 2000 ≤ xs.length by omega)] at this
    exact this
  · have hl2 : decide ((2000 : Int) < (xs.length : Int)) = false := decide_eq_false (by omega)
    go_enter Tryz.func47, Tryz.ntmps47
    go_wp2_with fail
    go_ret
    exact ⟨w.heap.size, ⟨xa, xc, xs⟩, rfl, HA.out _ HX.out, HB.out _, Nat.le_refl _⟩

theorem byteArr_size1 (c : UInt8) : (ByteArray.mk #[c]).size = 1 := rfl

set_option maxRecDepth 100000 in
set_option maxHeartbeats 400000 in
theorem of_any (R : Nat) (code : Loc UInt8) (N : Nat) (l : Loc ByteArray) (w : World) (h : Rd R code N w) (hN : N ≤ 1000000000) (hl : l.At w) (h0 : 0 < l.xs.length) (hm : l.xs.length ≤ 1000) (hR : ∀ b ∈ l.fp, b ≠ R) :
    Calls Tryz.prog 49 #[.pointer (some ⟨R, 0, none⟩), l.val] w fun e w' => (∃ s, e = .returned (.string s) ∧ s ∈ l.xs ∧ s.size ≤ maxLen) ∧ Drew R code (N + 1) w w' := by
  obtain ⟨la, lc, xs⟩ := l
  simp only [Loc.val]
  simp only at h0 hm
  have hc := Lib.hid (pick_any R code N (xs.length : Int) w h hN (by omega) (by omega))
  obtain ⟨a, ao, ha⟩ := hl.place h0
  simp only at ha
  subst ha
  have HL := Lib.hid hl
  have HR := Lib.hid hR
  clear h hl hR
  go_enter Tryz.func49, Tryz.ntmps49
  go_wp2_with fail
  refine hc.out.mono ?_
  rintro e w1 ⟨⟨v, rfl, hv0, hv1⟩, hd⟩
  obtain ⟨i, rfl⟩ : ∃ i : Nat, v = (i : Int) := ⟨v.toNat, by omega⟩
  have hi : i < xs.length := by omega
  have HD := Lib.hid hd
  have hl1 := HD.out.keepLoc HL.out HR.out
  have ci : w1.cell? ⟨a, ao + i, none⟩ = some (.string xs[i]) := by
    have := hl1.cellK (b := a) (o := ao) rfl hi (j := 0) (v := .string xs[i]) rfl
    simpa [Dat.k] using this
  have HE := Lib.hid (hl1.elem (List.getElem_mem hi))
  clear hd hl1
  go_wp2_with fail
  go_ret
  exact ⟨⟨xs[i], rfl, List.getElem_mem hi, HE.out⟩, HD.out⟩

/-- New data, drawn: where it lies, what is known of it. -/
def DrawPost {α : Type} [Dat α] (R : Nat) (code : Loc UInt8) (N : Nat) (w : World) (p : List α → Prop) (e : Ending) (w' : World) : Prop :=
  ∃ y : Loc α, e = .returned y.val ∧ p y.xs ∧ y.At w' ∧ (∀ b ∈ y.fp, w.heap.size ≤ b) ∧ Drew R code N w w'
end Go.Proofs.YtdidkfadiaafiaaGreatDoor

namespace Go.Proofs.YtdidkfadiaafiaaGreatDoor
open Go Go.RowKit

theorem row3_At {w : World} {g : Nat} {e : TypeId} {a b c : Int} (h : w.heap[g]? = some (.cells #[.int .i64 a, .int .i64 b, .int .i64 c] e (0, 0))) : Loc.At w (⟨some ⟨g, 0, none⟩, 3, [a, b, c]⟩ : Loc Int) :=
  blk_At h [a, b, c] 3 rfl (Nat.le_refl _) (by decide) (fun _ _ => trivial)

set_option maxRecDepth 100000 in
set_option maxHeartbeats 1000000 in
theorem l71Vv_any (R : Nat) (code : Loc UInt8) (N : Nat) (w : World) (h : Rd R code N w) (hN : N ≤ 900000000) :
    Calls Tryz.prog 129 #[.pointer (some ⟨R, 0, none⟩)] w (DrawPost (α := Int) R code (N + 10) w (fun l => l.length ≤ 3)) := by
  have H0 := Lib.hid h.refl
  have HS := Lib.hid h.lt
  have HCL := Lib.hid (Loc.lt_of_At h.at_)
  clear h
  go_enter Tryz.func129, Tryz.ntmps129
  go_wp2_with fail
  refine (pick_any R code (N) 4 w H0.out.rd (by omega) (by decide) (by decide)).mono ?_
  rintro e w1 ⟨⟨a, rfl, al, ah⟩, hd⟩
  have H1 := Lib.hid (H0.out.trans hd)
  have TH1 := Lib.hid hd.touch
  clear hd
  go_wp2_with fail
  refine (pick_any R code (N + 1) 4 w1 H1.out.rd (by omega) (by decide) (by decide)).mono ?_
  rintro e w2 ⟨⟨b, rfl, bl, bh⟩, hd⟩
  have H2 := Lib.hid (H1.out.trans hd)
  have TH2 := Lib.hid hd.touch
  clear hd
  go_wp2_with fail
  refine (pick_any R code (N + 2) 4 w2 H2.out.rd (by omega) (by decide) (by decide)).mono ?_
  rintro e w3 ⟨⟨c, rfl, cl, ch⟩, hd⟩
  have H3 := Lib.hid (H2.out.trans hd)
  have TH3 := Lib.hid hd.touch
  clear hd
  have hB4 : Below w3.heap.size w3 (w3.alloc (Obj.cells #[.int .i64 a, .int .i64 b, .int .i64 c] 3)) := (Below.refl _ _).alloc (Nat.le_refl _) _
  have H4 := Lib.hid (H3.out.later hB4)
  have hr4 := heap_alloc_new w3 (Obj.cells #[.int .i64 a, .int .i64 b, .int .i64 c] 3)
  have HR4 := Lib.hid hr4
  have HZ4 : Hid ((w3.alloc (Obj.cells #[.int .i64 a, .int .i64 b, .int .i64 c] 3)).heap.size = w3.heap.size + 1) := Lib.hid (by simp)
  have HRV : Hid (R ≠ w3.heap.size) := Lib.hid (by have := HS.out; have := H3.out.touch.size; omega)
  have HVW : Hid (w.heap.size ≤ w3.heap.size) := Lib.hid H3.out.touch.size
  clear hB4 hr4
  go_wp2_with fail
  generalize hw4 : w3.alloc (Obj.cells #[.int .i64 a, .int .i64 b, .int .i64 c] 3) = w4 at *
  clear hw4
  refine (pick_any R code (N + 3) 40 w4 H4.out.rd (by omega) (by decide) (by decide)).mono ?_
  rintro e w5 ⟨⟨k, rfl, kl, kh⟩, hd⟩
  have H5 := Lib.hid (H4.out.trans hd)
  have TH5 := Lib.hid hd.touch
  clear hd
  have HR5 := Lib.hid ((TH5.out.block w3.heap.size (by rw [HZ4.out]; omega) (by simpa using fun h => HRV.out h.symm)).trans HR4.out)
  have HZ5 := Lib.hid (show w3.heap.size < w5.heap.size by have := TH5.out.size; rw [HZ4.out] at this; omega)
  by_cases hk0 : k = 0
  · subst hk0
    go_wp2_with fail
    refine (pick_any R code (N + 4) 3 w5 H5.out.rd (by omega) (by decide) (by decide)).mono ?_
    rintro e w6 ⟨⟨i, rfl, il, ih⟩, hd⟩
    have H6 := Lib.hid (H5.out.trans hd)
    have TH6 := Lib.hid hd.touch
    clear hd
    obtain ⟨i, rfl⟩ : ∃ j : Nat, i = (j : Int) := ⟨i.toNat, by omega⟩
    have HR6 := Lib.hid ((TH6.out.block w3.heap.size HZ5.out (by simpa using fun h => HRV.out h.symm)).trans HR5.out)
    have HZ6 := Lib.hid (show w3.heap.size < w6.heap.size from Nat.lt_of_lt_of_le HZ5.out TH6.out.size)
    have hB7 : Below w6.heap.size w6 (w6.alloc (Obj.cells #[.int .i64 (-1), .int .i64 30, .int .i64 31] 3)) := (Below.refl _ _).alloc (Nat.le_refl _) _
    have H7 := Lib.hid (H6.out.later hB7)
    have HR7 := Lib.hid ((hB7.block w3.heap.size HZ6.out).trans HR6.out)
    have HL7 := Lib.hid (heap_alloc_new w6 (Obj.cells #[.int .i64 (-1), .int .i64 30, .int .i64 31] 3))
    have HZ7 : Hid ((w6.alloc (Obj.cells #[.int .i64 (-1), .int .i64 30, .int .i64 31] 3)).heap.size = w6.heap.size + 1) := Lib.hid (by simp)
    have HRL : Hid (R ≠ w6.heap.size) := Lib.hid (by have := HS.out; have := H6.out.touch.size; omega)
    clear hB7
    go_wp2_with fail
    generalize hw7 : w6.alloc (Obj.cells #[.int .i64 (-1), .int .i64 30, .int .i64 31] 3) = w7 at *
    clear hw7
    refine (pick_any R code (N + 5) 3 w7 H7.out.rd (by omega) (by decide) (by decide)).mono ?_
    rintro e w8 ⟨⟨j, rfl, jl, jh⟩, hd⟩
    have H8 := Lib.hid (H7.out.trans hd)
    have TH8 := Lib.hid hd.touch
    clear hd
    obtain ⟨j, rfl⟩ : ∃ q : Nat, j = (q : Int) := ⟨j.toNat, by omega⟩
    have hr8 := (TH8.out.block w3.heap.size (by have := HZ6.out; rw [HZ7.out]; omega) (by simpa using fun h => HRV.out h.symm)).trans HR7.out
    have hl8 := (TH8.out.block w6.heap.size (by rw [HZ7.out]; omega) (by simpa using fun h => HRL.out h.symm)).trans HL7.out
    have HR8 := Lib.hid hr8
    have hcl : ∃ u : Int, w8.cell? ⟨w6.heap.size, j, none⟩ = some (.int .i64 u) := by
      rw [cell_of_row _ _ _ _ _ _ hl8]
      match j, jh with
      | 0, _ => exact ⟨_, rfl⟩
      | 1, _ => exact ⟨_, rfl⟩
      | 2, _ => exact ⟨_, rfl⟩
      | j + 3, hj => exact absurd hj (by omega)
    obtain ⟨u, hcl⟩ := hcl
    have hcv : ∃ q : Value, w8.cell? ⟨w3.heap.size, i, none⟩ = some q := by
      rw [cell_of_row _ _ _ _ _ _ hr8]
      exact ⟨_, Array.getElem?_eq_getElem (by simp; omega)⟩
    obtain ⟨q, hcv⟩ := hcv
    have hz := frozen_of_row _ _ i _ _ hr8
    clear hr8 hl8
    go_wp2_with fail
    go_ret
    have hrow := heap_setCell_same w8 w3.heap.size i _ _ (.int .i64 u) HR8.out
    have hT : Touch [R] w (w8.setCell ⟨w3.heap.size, i, none⟩ (.int .i64 u)) :=
      ⟨H8.out.touch.os, H8.out.touch.tape, H8.out.touch.output, by simpa using H8.out.touch.size, fun b hb hn => by rw [Below.heap_setCell _ _ _ _ (by simp; have := HVW.out; omega)]; exact H8.out.touch.block b hb hn⟩
    have hD : Drew R code (N + 10) w (w8.setCell ⟨w3.heap.size, i, none⟩ (.int .i64 u)) := by
      obtain ⟨⟨p, hp, hb⟩, hA, ho⟩ := H8.out.rd
      refine ⟨⟨⟨p, by omega, by rw [Below.heap_setCell _ _ _ _ (by simpa using HRV.out)]; exact hb⟩, Loc.keep_At hA fun b hb => ?_, ho⟩, hT⟩
      refine Below.heap_setCell _ _ _ _ ?_
      have := HCL.out b hb
      have := HVW.out
      simp only; omega
    have hA : ∃ a' b' c' : Int, (w8.setCell ⟨w3.heap.size, i, none⟩ (.int .i64 u)).heap[w3.heap.size]? = some (.cells #[.int .i64 a', .int .i64 b', .int .i64 c'] 3 (0, 0)) := by
      rw [hrow]
      match i, ih with
      | 0, _ => exact ⟨_, _, _, rfl⟩
      | 1, _ => exact ⟨_, _, _, rfl⟩
      | 2, _ => exact ⟨_, _, _, rfl⟩
      | i + 3, hi => exact absurd hi (by omega)
    obtain ⟨a', b', c', hA⟩ := hA
    exact ⟨⟨some ⟨w3.heap.size, 0, none⟩, 3, [a', b', c']⟩, rfl, by simp, row3_At hA, fun b hb => by simp [Loc.fp, Loc.blk, Dat.fp] at hb; have := HVW.out; omega, hD⟩
  · have hk0' : (k == 0) = false := by rw [beq_eq_false_iff_ne]; exact hk0
    have HA5 := Lib.hid (row3_At HR5.out)
    by_cases hk1 : k = 1
    · subst hk1
      go_wp2_with fail
      go_ret
      refine ⟨⟨some ⟨w3.heap.size, 1, none⟩, 2, [b, c]⟩, rfl, by simp, ?_, fun b hb => by simp [Loc.fp, Loc.blk, Dat.fp] at hb; have := HVW.out; omega, H5.out.mono (by omega)⟩
      refine ⟨Nat.le_refl _, (by decide : 2 ≤ maxLen), fun _ => ⟨_, rfl⟩, fun a ha i x hx j v hv => ?_, fun _ _ => trivial⟩
      simp only [Option.some.injEq] at ha
      subst ha
      rw [add_lit', cell_of_row _ _ _ _ _ _ HR5.out]
      match i, j, hx, hv with
      | 0, 0, hx, hv => simp at hx; subst hx; simpa [Dat.enc, Dat.k] using hv
      | 1, 0, hx, hv => simp at hx; subst hx; simpa [Dat.enc, Dat.k] using hv
      | i + 2, j, hx, hv => simp at hx
      | i, j + 1, hx, hv => simp [Dat.enc] at hv
    · have hk1' : (k == 1) = false := by rw [beq_eq_false_iff_ne]; exact hk1
      go_wp2_with fail
      go_ret
      exact ⟨⟨some ⟨w3.heap.size, 0, none⟩, 3, [a, b, c]⟩, rfl, by simp, HA5.out, fun b hb => by simp [Loc.fp, Loc.blk, Dat.fp] at hb; have := HVW.out; omega, H5.out.mono (by omega)⟩

theorem strs_At {w : World} {g n : Nat} {e : TypeId} {cs : Array Value} {xs : List ByteArray} (h : w.heap[g]? = some (.cells cs e (0, 0))) (hc : cs.toList = xs.flatMap Dat.enc) (hn : xs.length = n) (hm : n ≤ 1000) (hs : ∀ s ∈ xs, s.size ≤ 1000) :
    Loc.At w (⟨some ⟨g, 0, none⟩, n, xs⟩ : Loc ByteArray) :=
  blk_At h xs n (by rw [hc]; exact List.take_of_length_le (by rw [flatMap_len]; exact Nat.le_refl _)) (Nat.le_of_eq hn) (by simp only [maxLen]; omega) (fun s h => by have := hs s h; show s.size ≤ maxLen; simp only [maxLen]; omega)

set_option maxRecDepth 100000 in
set_option maxHeartbeats 1000000 in
theorem l71Text_any (R : Nat) (code : Loc UInt8) (N : Nat) (w : World) (h : Rd R code N w) (hN : N ≤ 900000000) :
    Calls Tryz.prog 51 #[.pointer (some ⟨R, 0, none⟩)] w fun e w' => (∃ s, e = .returned (.string s) ∧ s.size ≤ 100) ∧ Drew R code (N + 10) w w' := by
  have H0 := Lib.hid h.refl
  have HS := Lib.hid h.lt
  clear h
  go_enter Tryz.func51, Tryz.ntmps51
  go_wp2_with fail
  refine (pick_any R code (N) 4 w H0.out.rd (by omega) (by decide) (by decide)).mono ?_
  rintro e w1 ⟨⟨n, rfl, nl, nh⟩, hd⟩
  have H1 := Lib.hid (H0.out.trans hd)
  have TH1 := Lib.hid hd.touch
  clear hd
  obtain ⟨n, rfl⟩ : ∃ j : Nat, n = (j : Int) := ⟨n.toNat, by omega⟩
  go_wp2_with fail
  go_loopw [3, 4] (fun o i wr => ∃ (k : Nat) (s : ByteArray), k ≤ n ∧ i = .int .i64 k ∧ o = .string s ∧ s.size ≤ 4 * (n - k) ∧ Drew R code (N + 1 + (n - k)) w wr) (fun _ i _ => (intOf i).toNat)
  case atStart => exact ⟨n, _, Nat.le_refl _, rfl, rfl, Nat.zero_le _, by simpa using H1.out⟩
  case round =>
    obtain ⟨k, s, hk, rfl, rfl, hs, hD⟩ := hrel
    have HD := Lib.hid hD
    clear hD
    by_cases hk0 : 0 < k
    · have hk1 : (0 : Int) < (k : Int) := by omega
      go_wp2_with fail
      have hBw2 : Below wr.heap.size wr (wr.alloc (Obj.cells #[.string ⟨#[97]⟩, .string ⟨#[98]⟩, .string ⟨#[99]⟩, .string ⟨#[100]⟩] 9)) := (Below.refl _ _).alloc (Nat.le_refl _) _
      have HBw2 := Lib.hid (HD.out.later hBw2)
      have hsA := strs_At (xs := [⟨#[97]⟩, ⟨#[98]⟩, ⟨#[99]⟩, ⟨#[100]⟩]) (heap_alloc_new wr (Obj.cells #[.string ⟨#[97]⟩, .string ⟨#[98]⟩, .string ⟨#[99]⟩, .string ⟨#[100]⟩] 9)) rfl rfl (by decide) (by intro s hs; simp only [List.mem_cons, List.mem_nil_iff, or_false] at hs; (first | (rcases hs with rfl | rfl | rfl | rfl) | (rcases hs with rfl | rfl | rfl) | (rcases hs with rfl | rfl | rfl | rfl | rfl | rfl)) <;> decide)
      have hc := Lib.hid (of_any R code (N + 1 + (n - k)) _ _ HBw2.out.rd (by omega) hsA (by simp) (by simp) (fun b hb => by simp [Loc.fp, Loc.blk, Dat.fp] at hb; have := HS.out; have := HD.out.touch.size; omega))
      clear hsA hBw2
      go_wp2_with fail
      refine hc.out.mono ?_
      rintro e w2 ⟨⟨t, rfl, tm, tz⟩, hd⟩
      have H2 := Lib.hid (HBw2.out.trans hd)
      have TH2 := Lib.hid hd.touch
      clear hd hc
      have ht : t.size ≤ 1 := by
        simp only [List.mem_cons, List.mem_nil_iff, or_false] at tm
        rcases tm with rfl | rfl | rfl | rfl <;> decide
      have hsz : s.size ≤ 1000 := by omega
      clear tm tz
      go_wp2_with fail
      go_roundw
      case rel =>
        refine ⟨k - 1, _, by omega, by go_num, rfl, ?_, H2.out.mono (by omega)⟩
        rw [ByteArray.size_append]; omega
      case measure => simp [intOf]; omega
    · have hk2 : k = 0 := by omega
      subst hk2
      have hsz : s.size ≤ 12 := by omega
      go_wp2_with fail
      refine (pick_any R code (N + 1 + (n - 0)) 40 wr HD.out.rd (by omega) (by decide) (by decide)).mono ?_
      rintro e w3 ⟨⟨q, rfl, ql, qh⟩, hd⟩
      have H3 := Lib.hid (HD.out.trans hd)
      have TH3 := Lib.hid hd.touch
      clear hd
      by_cases hq : q = 0
      · subst hq
        go_wp2_with fail
        have hBw4 : Below w3.heap.size w3 (w3.alloc (Obj.cells #[.string ⟨#[101]⟩, .string ⟨#[32]⟩, .string ⟨#[97, 97, 97, 97]⟩] 9)) := (Below.refl _ _).alloc (Nat.le_refl _) _
        have HBw4 := Lib.hid (H3.out.later hBw4)
        have hsA := strs_At (xs := [⟨#[101]⟩, ⟨#[32]⟩, ⟨#[97, 97, 97, 97]⟩]) (heap_alloc_new w3 (Obj.cells #[.string ⟨#[101]⟩, .string ⟨#[32]⟩, .string ⟨#[97, 97, 97, 97]⟩] 9)) rfl rfl (by decide) (by intro s hs; simp only [List.mem_cons, List.mem_nil_iff, or_false] at hs; (first | (rcases hs with rfl | rfl | rfl | rfl) | (rcases hs with rfl | rfl | rfl) | (rcases hs with rfl | rfl | rfl | rfl | rfl | rfl)) <;> decide)
        have hc := Lib.hid (of_any R code (N + 1 + (n - 0) + 1) _ _ HBw4.out.rd (by omega) hsA (by simp) (by simp) (fun b hb => by simp [Loc.fp, Loc.blk, Dat.fp] at hb; have := HS.out; have := H3.out.touch.size; omega))
        clear hsA hBw4
        go_wp2_with fail
        refine hc.out.mono ?_
        rintro e w4 ⟨⟨t, rfl, tm, tz⟩, hd⟩
        have H4 := Lib.hid (HBw4.out.trans hd)
        have TH4 := Lib.hid hd.touch
        clear hd hc
        have ht : t.size ≤ 4 := by
          simp only [List.mem_cons, List.mem_nil_iff, or_false] at tm
          rcases tm with rfl | rfl | rfl <;> decide
        clear tm tz
        go_wp2_with fail
        go_ret
        exact ⟨⟨_, rfl, by rw [ByteArray.size_append]; omega⟩, H4.out.mono (by omega)⟩
      · have hq' : (q == 0) = false := by rw [beq_eq_false_iff_ne]; exact hq
        go_wp2_with fail
        go_ret
        exact ⟨⟨_, rfl, by omega⟩, H3.out.mono (by omega)⟩
end Go.Proofs.YtdidkfadiaafiaaGreatDoor

namespace Go.Proofs.YtdidkfadiaafiaaGreatDoor
open Go Go.RowKit

theorem Drew.setCell {R : Nat} {code : Loc UInt8} {N g j : Nat} {w W : World} {v : Value} (h : Drew R code N w W) (hcl : ∀ b ∈ code.fp, b < w.heap.size) (hR : R < w.heap.size) (hg : w.heap.size ≤ g) : Drew R code N w (W.setCell ⟨g, j, none⟩ v) := by
  obtain ⟨⟨⟨p, hp, hb⟩, hA, ho⟩, hT⟩ := h
  refine ⟨⟨⟨p, hp, by rw [Below.heap_setCell _ _ _ _ (by simp only; omega)]; exact hb⟩, Loc.keep_At hA fun b hb => Below.heap_setCell _ _ _ _ (by have := hcl b hb; simp only; omega), ho⟩, ?_⟩
  exact ⟨hT.os, hT.tape, hT.output, by simpa using hT.size, fun b hb hn => by rw [Below.heap_setCell _ _ _ _ (by simp only; omega)]; exact hT.block b hb hn⟩

/-- A version under way: its own block, the result's block, its counts. -/
structure SibWay (R : Nat) (code : Loc UInt8) (N : Nat) (w : World) (S P : Nat) (v : Loc Int) (g : Bool) (t : ByteArray) (W : World) : Prop where
  drew : Drew R code N w W
  row : W.heap[S]? = some (.cells #[v.val, .bool g, .string t] 42 (0, 0))
  res : W.heap[P]? = some (.cells #[.slice none 0 0, .bool false, .string ⟨#[]⟩] 42 (0, 0))
  at_ : v.At W
  off : ∀ b ∈ v.fp, w.heap.size ≤ b ∧ b ≠ S ∧ b ≠ P
  len : v.xs.length ≤ 3
  txt : t.size ≤ 100

theorem SibWay.next {R : Nat} {code : Loc UInt8} {N M : Nat} {w : World} {S P : Nat} {v : Loc Int} {g : Bool} {t : ByteArray} {W W' : World} (h : SibWay R code N w S P v g t W) (hR : R < w.heap.size) (hS : w.heap.size ≤ S) (hP : w.heap.size ≤ P) (hd : Drew R code M W W') : SibWay R code M w S P v g t W' :=
  ⟨h.drew.trans hd, (hd.touch.block S (Array.getElem?_eq_some_iff.1 h.row).1 (by simp; omega)).trans h.row, (hd.touch.block P (Array.getElem?_eq_some_iff.1 h.res).1 (by simp; omega)).trans h.res,
    hd.keepLoc h.at_ (fun b hb => by have := (h.off b hb).1; omega), h.off, h.len, h.txt⟩

theorem SibWay.gone {R : Nat} {code : Loc UInt8} {N : Nat} {w : World} {S P : Nat} {v : Loc Int} {g : Bool} {t : ByteArray} {W : World} (h : SibWay R code N w S P v g t W) (hcl : ∀ b ∈ code.fp, b < w.heap.size) (hR : R < w.heap.size) (hS : w.heap.size ≤ S) (hSP : S ≠ P) (g' : Bool) :
    SibWay R code N w S P v g' t (W.setCell ⟨S, 1, none⟩ (.bool g')) :=
  ⟨h.drew.setCell hcl hR hS, by rw [heap_setCell_same W S 1 _ _ _ h.row]; rfl, by rw [Below.heap_setCell _ _ _ _ (by simpa using fun e => hSP e.symm)]; exact h.res,
    Loc.keep_At h.at_ fun b hb => Below.heap_setCell _ _ _ _ (by simpa using (h.off b hb).2.1), h.off, h.len, h.txt⟩
theorem SibWay.text {R : Nat} {code : Loc UInt8} {N : Nat} {w : World} {S P : Nat} {v : Loc Int} {g : Bool} {t : ByteArray} {W : World} (h : SibWay R code N w S P v g t W) (hcl : ∀ b ∈ code.fp, b < w.heap.size) (hR : R < w.heap.size) (hS : w.heap.size ≤ S) (hSP : S ≠ P) (t' : ByteArray) (ht : t'.size ≤ 100) :
    SibWay R code N w S P v g t' (W.setCell ⟨S, 2, none⟩ (.string t')) :=
  ⟨h.drew.setCell hcl hR hS, by rw [heap_setCell_same W S 2 _ _ _ h.row]; rfl, by rw [Below.heap_setCell _ _ _ _ (by simpa using fun e => hSP e.symm)]; exact h.res,
    Loc.keep_At h.at_ fun b hb => Below.heap_setCell _ _ _ _ (by simpa using (h.off b hb).2.1), h.off, h.len, ht⟩

theorem SibWay.cells {R : Nat} {code : Loc UInt8} {N : Nat} {w : World} {S P : Nat} {v : Loc Int} {g : Bool} {t : ByteArray} {W : World} (h : SibWay R code N w S P v g t W) :
    (W.cell? ⟨S, 0, none⟩ = some v.val ∧ W.cell? ⟨S, 1, none⟩ = some (.bool g) ∧ W.cell? ⟨S, 2, none⟩ = some (.string t)) ∧ (∀ j, W.frozen? ⟨S, j, none⟩ = false) ∧
    (W.cell? ⟨P, 0, none⟩ = some (.slice none 0 0) ∧ W.cell? ⟨P, 1, none⟩ = some (.bool false) ∧ W.cell? ⟨P, 2, none⟩ = some (.string ⟨#[]⟩)) ∧ (∀ j, W.frozen? ⟨P, j, none⟩ = false) :=
  ⟨⟨by rw [cell_of_row _ _ _ _ _ _ h.row]; rfl, by rw [cell_of_row _ _ _ _ _ _ h.row]; rfl, by rw [cell_of_row _ _ _ _ _ _ h.row]; rfl⟩, fun j => frozen_of_row _ _ _ _ _ h.row,
   ⟨by rw [cell_of_row _ _ _ _ _ _ h.res]; rfl, by rw [cell_of_row _ _ _ _ _ _ h.res]; rfl, by rw [cell_of_row _ _ _ _ _ _ h.res]; rfl⟩, fun j => frozen_of_row _ _ _ _ _ h.res⟩

/-- What a drawn version is. -/
def SibPost (R : Nat) (code : Loc UInt8) (N : Nat) (w : World) (e : Ending) (w' : World) : Prop :=
  ∃ y : LSib, e = .returned y.val ∧ Dat.At w' y ∧ (∀ b ∈ Dat.fp y, w.heap.size ≤ b) ∧ y.vv.xs.length ≤ 3 ∧ Drew R code N w w'

set_option maxRecDepth 100000 in
set_option maxHeartbeats 2000000 in
theorem l71Sib_any (R : Nat) (code : Loc UInt8) (N : Nat) (w : World) (h : Rd R code N w) (hN : N ≤ 800000000) :
    Calls Tryz.prog 108 #[.pointer (some ⟨R, 0, none⟩)] w (SibPost R code (N + 30) w) := by
  have hB0 : Below w.heap.size w (w.alloc (Obj.cells #[.slice none 0 0, .bool false, .string ⟨#[]⟩] 42)) := (Below.refl _ _).alloc (Nat.le_refl _) _
  have H0 := Lib.hid (h.refl.later hB0)
  have HS := Lib.hid h.lt
  have HCL := Lib.hid (Loc.lt_of_At h.at_)
  have HP0 := Lib.hid (heap_alloc_new w (Obj.cells #[.slice none 0 0, .bool false, .string ⟨#[]⟩] 42))
  have HZ0 : Hid ((w.alloc (Obj.cells #[.slice none 0 0, .bool false, .string ⟨#[]⟩] 42)).heap.size = w.heap.size + 1) := Lib.hid (by simp)
  clear h hB0
  go_enter Tryz.func108, Tryz.ntmps108
  go_wp2_with fail
  generalize hw0 : w.alloc (Obj.cells #[.slice none 0 0, .bool false, .string ⟨#[]⟩] 42) = w0 at *
  clear hw0
  refine (l71Vv_any R code N w0 H0.out.rd (by omega)).mono ?_
  rintro e w1 ⟨⟨va, vc, vs⟩, rfl, hv3, hvA, hvo, hd⟩
  simp only [Loc.val]
  have H1 := Lib.hid (H0.out.trans hd)
  have HV1 := Lib.hid hvA
  have HVO := Lib.hid hvo
  have HV3 := Lib.hid hv3
  have HP1 := Lib.hid ((hd.touch.block w.heap.size (by rw [HZ0.out]; omega) (by have := HS.out; simp; omega)).trans HP0.out)
  have HZ1 := Lib.hid (show w.heap.size < w1.heap.size by have := hd.touch.size; rw [HZ0.out] at this; omega)
  clear hd hvA hvo hv3
  go_wp2_with fail
  refine (l71Text_any R code (N + 10) w1 H1.out.rd (by omega)).mono ?_
  rintro e w2 ⟨⟨t, rfl, ht⟩, hd⟩
  have hsw : SibWay R code (N + 20) w w2.heap.size w.heap.size ⟨va, vc, vs⟩ false t (w2.alloc (Obj.cells #[.slice va vs.length vc, .bool false, .string t] 42)) := by
    have hb : Below w2.heap.size w2 (w2.alloc (Obj.cells #[.slice va vs.length vc, .bool false, .string t] 42)) := (Below.refl _ _).alloc (Nat.le_refl _) _
    have h12 := hd.touch.size
    have hz1 := HZ1.out
    have hvA2 := hd.keepLoc HV1.out (fun b hb => by have := HVO.out b hb; rw [HZ0.out] at this; have := HS.out; omega)
    refine ⟨((H1.out.trans hd).later hb).mono (by omega), heap_alloc_new w2 _, ?_, hvA2.belowAll hb, fun b hb2 => ?_, HV3.out, ht⟩
    · rw [hb.block _ (by omega), hd.touch.block _ hz1 (by have := HS.out; simp; omega)]; exact HP1.out
    · have h1 := HVO.out b hb2
      have h2 := Loc.lt_of_At hvA2 b hb2
      rw [HZ0.out] at h1
      omega
  have HSW := Lib.hid hsw
  have HSP : Hid (w2.heap.size ≠ w.heap.size) := Lib.hid (by have := hd.touch.size; have := HZ1.out; omega)
  have HSS : Hid (w.heap.size ≤ w2.heap.size) := Lib.hid (by have := hd.touch.size; have := HZ1.out; omega)
  clear hsw hd HV1 HVO HV3 HP1 H1
  go_wp2_with fail
  generalize hw3 : w2.alloc (Obj.cells #[.slice va vs.length vc, .bool false, .string t] 42) = w3 at *
  clear hw3
  generalize w2.heap.size = S at *
  refine (pick_any R code (N + 20) 5 w3 HSW.out.drew.rd (by omega) (by decide) (by decide)).mono ?_
  rintro e w4 ⟨⟨k, rfl, kl, kh⟩, hd⟩
  have HW4 := Lib.hid (HSW.out.next HS.out HSS.out (Nat.le_refl _) hd)
  clear hd HSW
  by_cases hk0 : k = 0
  · subst hk0
    obtain ⟨⟨s0, s1, s2⟩, zs, ⟨p0, p1, p2⟩, zp⟩ := HW4.out.cells
    have HW5 := Lib.hid ((HW4.out.gone HCL.out HS.out HSS.out HSP.out true).text HCL.out HS.out HSS.out HSP.out ⟨#[]⟩ (by decide))
    go_wp2_with fail
    clear s0 s1 s2 zs p0 p1 p2 zp HW4
    generalize (w4.setCell ⟨S, 1, none⟩ (.bool true)).setCell ⟨S, 2, none⟩ (.string ⟨#[]⟩) = w5 at *
    refine (pick_any R code (N + 21) 40 w5 HW5.out.drew.rd (by omega) (by decide) (by decide)).mono ?_
    rintro e w6 ⟨⟨q, rfl, ql, qh⟩, hd⟩
    have HW6 := Lib.hid (HW5.out.next HS.out HSS.out (Nat.le_refl _) hd)
    clear hd HW5
    by_cases hq0 : q = 0
    · subst hq0
      have HW7 := Lib.hid (HW6.out.gone HCL.out HS.out HSS.out HSP.out false)
      obtain ⟨⟨s0, s1, s2⟩, zs, ⟨p0, p1, p2⟩, zp⟩ := HW6.out.cells
      simp only [Loc.val] at s0
      have q1 : ¬ S = w.heap.size := HSP.out
      have q2 : ¬ w.heap.size = S := fun h => HSP.out h.symm
      go_wp2_with fail
      refine bodyPost_ret (v := .agg #[.slice va vs.length vc, .bool false, .string ⟨#[]⟩]) ?_ rfl ⟨⟨⟨va, vc, vs⟩, false, ⟨#[]⟩⟩, rfl, ?_, fun b hb => (HW7.out.off b hb).1, HW7.out.len, ?_⟩
      · simp only [results, Tryz.results108]
        go_simp
      · refine ⟨Loc.keep_At HW7.out.at_ fun b hb => ?_, by have := HW7.out.txt; simp only [maxLen]; omega⟩
        have hb2 := (HW7.out.off b hb).2.2
        rw [Below.heap_setCell _ _ _ _ (by simpa using hb2), Below.heap_setCell _ _ _ _ (by simpa using hb2), Below.heap_setCell _ _ _ _ (by simpa using hb2)]
      · exact (((HW7.out.drew.setCell HCL.out HS.out (Nat.le_refl _)).setCell HCL.out HS.out (Nat.le_refl _)).setCell HCL.out HS.out (Nat.le_refl _)).mono (by omega)
    · have hq' : (q == 0) = false := by rw [beq_eq_false_iff_ne]; exact hq0
      obtain ⟨⟨s0, s1, s2⟩, zs, ⟨p0, p1, p2⟩, zp⟩ := HW6.out.cells
      simp only [Loc.val] at s0
      have q1 : ¬ S = w.heap.size := HSP.out
      have q2 : ¬ w.heap.size = S := fun h => HSP.out h.symm
      go_wp2_with fail
      refine bodyPost_ret (v := .agg #[.slice va vs.length vc, .bool true, .string ⟨#[]⟩]) ?_ rfl ⟨⟨⟨va, vc, vs⟩, true, ⟨#[]⟩⟩, rfl, ?_, fun b hb => (HW6.out.off b hb).1, HW6.out.len, ?_⟩
      · simp only [results, Tryz.results108]
        go_simp
      · refine ⟨Loc.keep_At HW6.out.at_ fun b hb => ?_, by have := HW6.out.txt; simp only [maxLen]; omega⟩
        have hb2 := (HW6.out.off b hb).2.2
        rw [Below.heap_setCell _ _ _ _ (by simpa using hb2), Below.heap_setCell _ _ _ _ (by simpa using hb2), Below.heap_setCell _ _ _ _ (by simpa using hb2)]
      · exact (((HW6.out.drew.setCell HCL.out HS.out (Nat.le_refl _)).setCell HCL.out HS.out (Nat.le_refl _)).setCell HCL.out HS.out (Nat.le_refl _)).mono (by omega)
  · have hk' : (k == 0) = false := by rw [beq_eq_false_iff_ne]; exact hk0
    go_wp2_with fail
    refine (pick_any R code (N + 21) 40 w4 HW4.out.drew.rd (by omega) (by decide) (by decide)).mono ?_
    rintro e w6 ⟨⟨q, rfl, ql, qh⟩, hd⟩
    have HW6 := Lib.hid (HW4.out.next HS.out HSS.out (Nat.le_refl _) hd)
    clear hd HW4
    by_cases hq0 : q = 0
    · subst hq0
      have HW7 := Lib.hid (HW6.out.gone HCL.out HS.out HSS.out HSP.out true)
      obtain ⟨⟨s0, s1, s2⟩, zs, ⟨p0, p1, p2⟩, zp⟩ := HW6.out.cells
      simp only [Loc.val] at s0
      have q1 : ¬ S = w.heap.size := HSP.out
      have q2 : ¬ w.heap.size = S := fun h => HSP.out h.symm
      go_wp2_with fail
      refine bodyPost_ret (v := .agg #[.slice va vs.length vc, .bool true, .string t]) ?_ rfl ⟨⟨⟨va, vc, vs⟩, true, t⟩, rfl, ?_, fun b hb => (HW7.out.off b hb).1, HW7.out.len, ?_⟩
      · simp only [results, Tryz.results108]
        go_simp
      · refine ⟨Loc.keep_At HW7.out.at_ fun b hb => ?_, by have := HW7.out.txt; simp only [maxLen]; omega⟩
        have hb2 := (HW7.out.off b hb).2.2
        rw [Below.heap_setCell _ _ _ _ (by simpa using hb2), Below.heap_setCell _ _ _ _ (by simpa using hb2), Below.heap_setCell _ _ _ _ (by simpa using hb2)]
      · exact (((HW7.out.drew.setCell HCL.out HS.out (Nat.le_refl _)).setCell HCL.out HS.out (Nat.le_refl _)).setCell HCL.out HS.out (Nat.le_refl _)).mono (by omega)
    · have hq' : (q == 0) = false := by rw [beq_eq_false_iff_ne]; exact hq0
      obtain ⟨⟨s0, s1, s2⟩, zs, ⟨p0, p1, p2⟩, zp⟩ := HW6.out.cells
      simp only [Loc.val] at s0
      have q1 : ¬ S = w.heap.size := HSP.out
      have q2 : ¬ w.heap.size = S := fun h => HSP.out h.symm
      go_wp2_with fail
      refine bodyPost_ret (v := .agg #[.slice va vs.length vc, .bool false, .string t]) ?_ rfl ⟨⟨⟨va, vc, vs⟩, false, t⟩, rfl, ?_, fun b hb => (HW6.out.off b hb).1, HW6.out.len, ?_⟩
      · simp only [results, Tryz.results108]
        go_simp
      · refine ⟨Loc.keep_At HW6.out.at_ fun b hb => ?_, by have := HW6.out.txt; simp only [maxLen]; omega⟩
        have hb2 := (HW6.out.off b hb).2.2
        rw [Below.heap_setCell _ _ _ _ (by simpa using hb2), Below.heap_setCell _ _ _ _ (by simpa using hb2), Below.heap_setCell _ _ _ _ (by simpa using hb2)]
      · exact (((HW6.out.drew.setCell HCL.out HS.out (Nat.le_refl _)).setCell HCL.out HS.out (Nat.le_refl _)).setCell HCL.out HS.out (Nat.le_refl _)).mono (by omega)
end Go.Proofs.YtdidkfadiaafiaaGreatDoor
