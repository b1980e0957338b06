/- The reference's texts of numbers: l6Dec, l1Text. -/
import Derived.Test.YtdidkfadiaafiaaGreatDoorInfo
import Derived.Test.YtdidkfadiaafiaaGreatDoorRel
import Derived.Test.YtdidkfadiaafiaaGreatDoorSpec1
import Derived.Test.YtdidkfadiaafiaaGreatDoorBox
namespace Go.Proofs.YtdidkfadiaafiaaGreatDoor
open Go Go.RowKit

/-- A text of at most so many bytes; memory as it was. -/
def TextPost (w : World) (m : Nat) (e : Ending) (w' : World) : Prop := (∃ s : ByteArray, e = .returned (.string s) ∧ s.size ≤ m) ∧ Below w.heap.size w w'

theorem run_conv_at {P : Program} (w : World) (src e dst : TypeId) (hs : P.underlying src = some (.slice e)) (he : P.underlying e = some (.int .u8)) (hd : P.underlying dst = some .string) (b : Nat) (n : Int) (hc : w.cell? ⟨b, 0, none⟩ = some (.int .u8 n)) :
    (convert src dst (.slice (some ⟨b, 0, none⟩) 1 1)).run P w = .ok (.string ⟨#[UInt8.ofNat n.toNat]⟩) w :=
  run_convert_bytes_arg (P := P) w src e hs he b 0 1 1 [n] rfl (fun i hi => by
    obtain rfl : i = 0 := by omega
    exact hc) dst hd

/-- A text of at most so many bytes. -/
def TextR (m : Nat) (v : Value) (_ : World) : Prop := ∃ s : ByteArray, v = .string s ∧ s.size ≤ m
theorem TextR.stable (m : Nat) : StableR (TextR m) := fun _ _ _ _ h => h
/-- A byte's own block. -/
def ByteR (n : Int) (v : Value) (w : World) : Prop := ∃ b : Nat, v = .slice (some ⟨b, 0, none⟩) 1 1 ∧ w.cell? ⟨b, 0, none⟩ = some (.int .u8 n)
theorem ByteR.stable (n : Int) : StableR (ByteR n) := fun _ w _ hb ⟨b, h1, h2⟩ => ⟨b, h1, (hb.cell (World.block_lt_of_cell? w _ h2)).trans h2⟩

theorem sibB_parts {s : Sib} (h : sibB s = true) : (∀ n ∈ s.vv, 0 ≤ n ∧ n ≤ 30) ∧ s.vv.length ≤ 3 ∧ s.text.size ≤ 4 := by
  unfold sibB vvB textB at h
  rw [Bool.and_eq_true, Bool.and_eq_true, Bool.and_eq_true, Bool.and_eq_true] at h
  obtain ⟨⟨⟨h1, h2⟩, h3, _⟩, _⟩ := h
  exact ⟨fun n hn => of_decide_eq_true (List.all_eq_true.1 h1 n hn), Nat.le_of_eq (of_decide_eq_true h2), of_decide_eq_true h3⟩

end Go.Proofs.YtdidkfadiaafiaaGreatDoor
