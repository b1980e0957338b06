/- What is known of the types of the program; what a call's answer is like. -/
import Derived.Test.YtdidkfadiaafiaaGreatDoorOwn
import Derived.Test.YtdidkfadiaafiaaGreatDoorReg
import Derived.Test.YtdidkfadiaafiaaGreatDoorProg
import Derived.IntWalk
import Derived.Deep.QuietTactic
import Derived.BigQuiet
namespace Go.Proofs.YtdidkfadiaafiaaGreatDoor
open Go Go.RowKit

theorem int_info : (Tryz.prog.info? 3).map (fun i => (i.zero, i.size, i.bytes)) = some (some (.int .i64 0), 1, 8) := by kernel_rfl
theorem sib_info : (Tryz.prog.info? 42).map (fun i => (i.zero, i.size, i.bytes)) = some (some (.agg #[.slice none 0 0, .bool false, .string ⟨#[]⟩]), 3, 48) := by kernel_rfl
theorem file_info : (Tryz.prog.info? 58).map (fun i => (i.zero, i.size, i.bytes)) = some (some (.agg #[.string ⟨#[]⟩, .slice none 0 0]), 2, 40) := by kernel_rfl

/-- A new slice that reads as told. -/
def NewPost {α : Type} [Dat α] (w : World) (p : List α → Prop) (e : Ending) (w' : World) : Prop :=
  ∃ y : Loc α, e = .returned y.val ∧ p y.xs ∧ y.At w' ∧ Fr w.heap.size w' y.fp ∧ Below w.heap.size w w'

def LLog.At (w : World) (x : LLog) : Prop := x.recs.At w

def EqPost (w : World) (b : Prop) (e : Ending) (w' : World) : Prop :=
  (∃ v : Bool, e = .returned (.bool v) ∧ (v = true ↔ b)) ∧ Below w.heap.size w w'

theorem Elem.of {P : Program} {α : Type} [Dat α] {t e : TypeId} {z : Value} {b : Nat} (hu : P.underlying t = some (.slice e)) (h : (P.info? e).map (fun i => (i.zero, i.size, i.bytes)) = some (some z, Dat.k α, b)) (hb : b ≤ 128) (hz : z.cells.size = Dat.k α) : Elem P α t e :=
  ⟨hu, by
    obtain ⟨i, h1, h2, h3, h4⟩ := info_parts h
    exact ⟨i, z, h1, h2, h3, by omega, hz⟩⟩

theorem elem_int : Elem Tryz.prog Int 40 3 := Elem.of Tryz.underlying40 int_info (by decide) rfl
theorem elem_sib : Elem Tryz.prog LSib 37 42 := Elem.of Tryz.underlying37 sib_info (by decide) rfl
theorem elem_file : Elem Tryz.prog LFile 24 58 := Elem.of Tryz.underlying24 file_info (by decide) rfl

theorem elem_string : Elem Tryz.prog ByteArray 47 9 :=
  ⟨Tryz.underlying47, by
    obtain ⟨i, h1, h2, h3, h4⟩ := info_parts (show (Tryz.prog.info? 9).map (fun i => (i.zero, i.size, i.bytes)) = some (some (.string ⟨#[]⟩), 1, 16) by kernel_rfl)
    exact ⟨i, _, h1, h2, h3, by omega, rfl⟩⟩

theorem ret_string {a b : ByteArray} (h : a = b) : Ending.returned (.string a) = .returned (.string b) := by rw [h]

theorem run_conv_one {P : Program} (w : World) (src e dst : TypeId) (hs : P.underlying src = some (.slice e)) (he : P.underlying e = some (.int .u8)) (hd : P.underlying dst = some .string) (n : Int) (t : TypeId) :
    (convert src dst (.slice (some ⟨w.heap.size, 0, none⟩) 1 1)).run P (w.alloc (.cells #[.int .u8 n] t)) = .ok (.string ⟨#[UInt8.ofNat n.toNat]⟩) (w.alloc (.cells #[.int .u8 n] t)) :=
  run_convert_bytes_arg (P := P) (w.alloc (.cells #[.int .u8 n] t)) src e hs he w.heap.size 0 1 1 [n] rfl (fun i hi => by
    obtain rfl : i = 0 := by omega
    rw [cell_of_row _ _ _ _ _ (0, 0) (heap_alloc_new w _)]; rfl) dst hd

theorem ret_string' {a b : ByteArray} (h : a = b) : Ending.returned (.string a) = .returned (.string b) := by rw [h]
end Go.Proofs.YtdidkfadiaafiaaGreatDoor
