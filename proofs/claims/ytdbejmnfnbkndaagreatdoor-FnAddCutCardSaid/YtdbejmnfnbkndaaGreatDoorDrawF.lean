/- The reference's draws: l71Files. -/
import Derived.Test.YtdbejmnfnbkndaaGreatDoorDraw5
namespace Go.Proofs.YtdbejmnfnbkndaaGreatDoor
open Go Go.RowKit

set_option maxRecDepth 100000 in
set_option maxHeartbeats 1000000 in
theorem l71Files_any (R : Nat) (code : Loc UInt8) (N : Nat) (w : World) (h : Rd R code N w) (hN : N ≤ 500000000) :
    Calls Tryz.prog 15 #[.pointer (some ⟨R, 0, none⟩)] w (DrawPost (α := LFile) R code (N + 12000) w (fun l => l.length ≤ 5)) := by
  have H0 := Lib.hid h
  have HS := Lib.hid h.lt
  clear h
  go_enter Tryz.func15, Tryz.ntmps15
  go_wp2_with fail
  refine (l71Tree_any R code N w H0.out (by omega)).mono ?_
  rintro e w1 ⟨t0, rfl, ht0, htA0, htF0, hd0⟩
  have T0 := Lib.hid htA0
  have F0 := Lib.hid htF0
  have D0 := Lib.hid hd0
  have L0 := Lib.hid ht0
  clear htA0 htF0 hd0 ht0
  go_wp2_with fail
  go_loopw [3, 4] (fun o i wr => ∃ (k : Nat) (l : Loc LFile), k ≤ 5 ∧ i = .int .i64 k ∧ o = l.val ∧ l.xs.length ≤ 5 ∧ l.At wr ∧ (∀ b ∈ l.fp, w.heap.size ≤ b) ∧ Drew R code (N + 2000 * (k + 1)) w wr) (fun _ i _ => 5 - (intOf i).toNat)
  case atStart => exact ⟨0, t0, by omega, rfl, rfl, L0.out, T0.out, F0.out, D0.out⟩
  case round =>
    obtain ⟨k, l, hk, rfl, rfl, hl5, hA, hF, hD⟩ := hrel
    have HA := Lib.hid hA
    have HF := Lib.hid hF
    have HD := Lib.hid hD
    have HL5 := Lib.hid hl5
    clear hA hF hD
    obtain ⟨la, lc, ls⟩ := l
    simp only [Loc.val] at hl5 ⊢
    by_cases hk5 : k < 5
    · have hk1 : (k : Int) < 5 := by omega
      by_cases h0 : ls.length = 0
      · have h0' : (((ls.length : Nat) : Int) == 0) = true := by simp [h0]
        clear h0
        go_wp2_with fail
        refine (l71Tree_any R code (N + 2000 * (k + 1)) wr HD.out.rd (by omega)).mono ?_
        rintro e w2 ⟨t, rfl, ht, htA, htF, hd⟩
        have T2 := Lib.hid htA
        have F2 := Lib.hid htF
        have L2 := Lib.hid ht
        have D2 := Lib.hid (HD.out.trans hd)
        have S2 := Lib.hid HD.out.touch.size
        clear ht htA htF hd
        go_wp2_with fail
        go_roundw
        case rel => exact ⟨k + 1, t, by omega, by go_num, rfl, L2.out, T2.out, fun b hb => by have := F2.out b hb; have := S2.out; omega, D2.out.mono (by omega)⟩
        case measure => simp [intOf]; omega
      · have h0' : (((ls.length : Nat) : Int) == 0) = false := by rw [beq_eq_false_iff_ne]; omega
        clear h0
        have hc := Lib.hid (sTreeOk_any (⟨la, lc, ls⟩ : Loc LFile) wr HA.out)
        simp only [Loc.val] at hc
        go_wp2_with fail
        refine hc.out.mono ?_
        rintro e w2 ⟨rfl, hb2⟩
        have D2 := Lib.hid (HD.out.later hb2)
        have A2 := Lib.hid (HA.out.belowAll hb2)
        clear hb2 hc
        generalize treeB (List.map LFile.er ls) = tb
        cases tb with
        | true =>
          go_wp2_with fail
          go_ret
          exact ⟨⟨la, lc, ls⟩, rfl, HL5.out, A2.out, HF.out, D2.out.mono (by omega)⟩
        | false =>
          go_wp2_with fail
          refine (l71Tree_any R code (N + 2000 * (k + 1)) w2 D2.out.rd (by omega)).mono ?_
          rintro e w3 ⟨t, rfl, ht, htA, htF, hd⟩
          have T3 := Lib.hid htA
          have F3 := Lib.hid htF
          have L3 := Lib.hid ht
          have D3 := Lib.hid (D2.out.trans hd)
          have S3 := Lib.hid D2.out.touch.size
          clear ht htA htF hd
          go_wp2_with fail
          go_roundw
          case rel => exact ⟨k + 1, t, by omega, by go_num, rfl, L3.out, T3.out, fun b hb => by have := F3.out b hb; have := S3.out; omega, D3.out.mono (by omega)⟩
          case measure => simp [intOf]; omega
    · go_wp2_with fail
      go_ret
      exact ⟨⟨la, lc, ls⟩, rfl, HL5.out, HA.out, HF.out, HD.out.mono (by omega)⟩
end Go.Proofs.YtdbejmnfnbkndaaGreatDoor
