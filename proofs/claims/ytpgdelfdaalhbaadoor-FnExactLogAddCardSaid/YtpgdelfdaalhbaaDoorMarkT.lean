/- The laws' markText: a letter and a number's figures. -/
import Derived.Test.YtpgdelfdaalhbaaDoorFill
import Derived.Test.YtpgdelfdaalhbaaDoorProg
import Derived.Laws.BytesArg
namespace Go.Proofs.YtpgdelfdaalhbaaDoor
open Go Go.RowKit

/-- The figures of k, before acc. -/
def figs : Nat → Nat → ByteArray → ByteArray
  | 0, _, acc => acc
  | f + 1, k, acc => if k = 0 then acc else figs f (k / 10) (⟨#[48 + UInt8.ofNat (k % 10)]⟩ ++ acc)
theorem figs_more : ∀ (f k : Nat) (acc : ByteArray), k ≤ f → figs (f + 1) k acc = figs f k acc
  | 0, k, acc, h => by
    obtain rfl : k = 0 := by omega
    rfl
  | f + 1, k, acc, h => by
    by_cases hk : k = 0
    · simp [figs, hk]
    · rw [figs, if_neg hk, figs_more f (k / 10) _ (by omega), figs, if_neg hk]
theorem figs_all : ∀ (f k : Nat) (acc : ByteArray), k ≤ f → figs f k acc = figs k k acc := by
  intro f
  induction f with
  | zero => intro k acc h; cases (show k = 0 by omega); rfl
  | succ f ih =>
    intro k acc h
    by_cases hk : k = f + 1
    · rw [hk]
    · rw [figs_more f k acc (by omega), ih k acc (by omega)]
theorem figs_step {k : Nat} (h : k ≠ 0) (acc : ByteArray) : figs k k acc = figs (k / 10) (k / 10) (⟨#[48 + UInt8.ofNat (k % 10)]⟩ ++ acc) := by
  obtain ⟨f, rfl⟩ : ∃ f, k = f + 1 := ⟨k - 1, by omega⟩
  rw [figs, if_neg h, figs_all f _ _ (by omega)]
def markT (k : Nat) : ByteArray := ⟨#[109]⟩ ++ figs k k ⟨#[]⟩

theorem run_conv_one {P : Program} (w : World) (src e dst : TypeId) (hs : P.underlying src = some (.slice e)) (he : P.underlying e = some (.int .u8)) (hd : P.underlying dst = some .string) (n : Int) (t : TypeId) :
    (convert src dst (.slice (some ⟨w.heap.size, 0, none⟩) 1 1)).run P (w.alloc (.cells #[.int .u8 n] t)) = .ok (.string ⟨#[UInt8.ofNat n.toNat]⟩) (w.alloc (.cells #[.int .u8 n] t)) :=
  run_convert_bytes_arg (P := P) (w.alloc (.cells #[.int .u8 n] t)) src e hs he w.heap.size 0 1 1 [n] rfl (fun i hi => by
    obtain rfl : i = 0 := by omega
    rw [cell_of_row _ _ _ _ _ (0, 0) (heap_alloc_new w _)]; rfl) dst hd

theorem ret_string' {a b : ByteArray} (h : a = b) : Ending.returned (.string a) = .returned (.string b) := by rw [h]

set_option maxRecDepth 100000 in
set_option maxHeartbeats 400000 in
theorem markText_any (k0 : Nat) (w : World) (h0 : 1 ≤ k0) (h1 : k0 ≤ 1099511627776) :
    Calls Tryd.prog 48 #[.int .i64 k0] w fun e w' => e = .returned (.string (markT k0)) ∧ (markT k0).size ≤ maxLen ∧ Below w.heap.size w w' := by
  have hz : ¬ (k0 : Int) ≤ 0 := by omega
  go_enter Tryd.func48, Tryd.ntmps48
  go_wp2_with fail
  go_loopw [0, 3] (fun n o wr => ∃ (k : Nat) (acc : ByteArray), n = .int .i64 k ∧ o = .string acc ∧ k ≤ k0 ∧ acc.size + k ≤ k0 ∧ figs k0 k0 ⟨#[]⟩ = figs k k acc ∧ Below w.heap.size w wr) (fun n _ _ => (intOf n).toNat)
  case atStart => exact ⟨k0, _, rfl, rfl, Nat.le_refl _, (by show 0 + k0 ≤ k0; omega), rfl, Below.refl _ _⟩
  case round =>
    obtain ⟨k, acc, rfl, rfl, hk, hs, hf, hb⟩ := hrel
    have HF := Lib.hid hf
    have HB := Lib.hid hb
    clear hf hb
    by_cases hk0 : k = 0
    · subst hk0
      go_wp2_with fail
      go_ret
      have e1 : markT k0 = ⟨#[109]⟩ ++ acc := by rw [markT, HF.out]; rfl
      refine ⟨ret_string' e1.symm, ?_, HB.out⟩
      rw [e1, ByteArray.size_append]
      have : (ByteArray.mk #[109]).size = 1 := rfl
      simp only [maxLen]; omega
    · have hk1 : (0 : Int) < (k : Int) := by omega
      have hk2 : (k : Int) ≤ 1099511627776 := by omega
      have hcv := run_conv_one (P := Tryd.prog) wr 42 5 9 Tryd.underlying42 Tryd.underlying5 Tryd.underlying9 (48 + (k : Int) % 10) 5
      have hs2 : acc.size ≤ 1099511627776 := by omega
      have HST := Lib.hid (figs_step hk0 acc)
      go_wp2_with fail
      go_roundw
      case rel =>
        refine ⟨k / 10, _, by go_num, rfl, by omega, ?_, ?_, HB.out.trans (((Below.refl wr.heap.size wr).alloc (Nat.le_refl _) _).mono HB.out.size)⟩
        · rw [ByteArray.size_append]
          have : ∀ c : UInt8, (ByteArray.mk #[c]).size = 1 := fun _ => rfl
          rw [this]
          omega
        · rw [HF.out, HST.out]
      case measure => simp [intOf]; omega
end Go.Proofs.YtpgdelfdaalhbaaDoor
