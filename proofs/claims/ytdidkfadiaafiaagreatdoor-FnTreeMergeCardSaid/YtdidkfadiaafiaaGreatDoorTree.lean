/- isFileName, isTree: what they answer. -/
import Derived.Test.YtdidkfadiaafiaaGreatDoorSibs
namespace Go.Proofs.YtdidkfadiaafiaaGreatDoor
open Go Go.RowKit

def nameB (s : ByteArray) : Bool := match s.data.toList with | [c] => decide (65 ≤ c.toNat ∧ c.toNat ≤ 70) | _ => false

theorem isFileName_any (s : ByteArray) (w : World) (hs : s.size ≤ 9223372036854775807) : Calls Tryz.prog 38 #[.string s] w fun e w' => e = .returned (.bool (nameB s)) ∧ w = w' := by
  obtain ⟨⟨l⟩⟩ := s
  match l, hs with
  | [], _ =>
    go_enter Tryz.func38, Tryz.ntmps38
    go_wp2_with fail
    go_ret
    exact ⟨rfl, rfl⟩
  | [c], _ =>
    have h1 : (⟨#[c]⟩ : ByteArray).toList = [c] := by rw [ByteArray.toList_eq]
    by_cases hc1 : c.toNat < 65
    · have h2 : Op.bytesLess [c] [65] = true := by
        simp [Op.bytesLess, UInt8.lt_iff_toNat_lt]; omega
      go_enter Tryz.func38, Tryz.ntmps38
      go_wp2_with fail
      go_ret
      exact ⟨ret_bool (by simp [nameB]; omega), rfl⟩
    · have h2 : Op.bytesLess [c] [65] = false := by
        rw [← Bool.not_eq_true]; simp [Op.bytesLess, UInt8.lt_iff_toNat_lt]; omega
      by_cases hc2 : c.toNat ≤ 70
      · have h3 : (Op.bytesLess [c] [70] || [c] == [70]) = true := by
          simp [Op.bytesLess, UInt8.lt_iff_toNat_lt, ← UInt8.toNat_inj]; omega
        go_enter Tryz.func38, Tryz.ntmps38
        go_wp2_with fail
        go_ret
        refine ⟨ret_bool ?_, rfl⟩
        rw [Bool.eq_iff_iff]
        simp [nameB, Op.bytesLess, UInt8.lt_iff_toNat_lt, ← UInt8.toNat_inj]
        omega
      · have h3 : (Op.bytesLess [c] [70] || [c] == [70]) = false := by
          rw [← Bool.not_eq_true]; simp [Op.bytesLess, UInt8.lt_iff_toNat_lt, ← UInt8.toNat_inj]; omega
        go_enter Tryz.func38, Tryz.ntmps38
        go_wp2_with fail
        go_ret
        refine ⟨ret_bool ?_, rfl⟩
        rw [Bool.eq_iff_iff]
        simp [nameB, Op.bytesLess, UInt8.lt_iff_toNat_lt, ← UInt8.toNat_inj]
        omega
  | c :: d :: r, hs =>
    have hl : (((r.length + 2 : Nat) : Int) == 1) = false := by
      rw [beq_eq_false_iff_ne]; omega
    go_enter Tryz.func38, Tryz.ntmps38
    go_wp2_with fail
    go_ret
    refine ⟨ret_bool ?_, rfl⟩
    simp [nameB]
    try omega

/-- A tree. -/
structure TreeOK (t : List File) : Prop where
  name : ∀ i (h : i < t.length), nameB t[i].name = true
  sibs : ∀ i (h : i < t.length), SibsOK t[i].sibs
  asc : ∀ i (h : i + 1 < t.length), strLt t[i].name t[i + 1].name = true
  few : t.length ≤ 6

noncomputable def treeB (t : List File) : Bool := @decide (TreeOK t) (Classical.propDecidable _)
theorem treeB_true {l : List File} (h : TreeOK l) : treeB l = true := by unfold treeB; exact @decide_eq_true _ (Classical.propDecidable _) h
theorem treeB_false {l : List File} (h : ¬ TreeOK l) : treeB l = false := by unfold treeB; exact @decide_eq_false _ (Classical.propDecidable _) h
theorem TreeOK.of {l : List File} (h : treeB l = true) : TreeOK l := @of_decide_eq_true _ (Classical.propDecidable _) (by unfold treeB at h; exact h)
end Go.Proofs.YtdidkfadiaafiaaGreatDoor
