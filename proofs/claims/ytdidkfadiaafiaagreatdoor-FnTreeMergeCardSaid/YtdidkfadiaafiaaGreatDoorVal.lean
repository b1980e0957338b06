/- isSib: what it answers. -/
import Derived.Test.YtdidkfadiaafiaaGreatDoorSib
import Derived.Test.YtdidkfadiaafiaaGreatDoorShelf
namespace Go.Proofs.YtdidkfadiaafiaaGreatDoor
open Go Go.RowKit

theorem empty_toList : ByteArray.empty.toList = [] := by rw [ByteArray.toList_eq]; rfl

def isAD (c : UInt8) : Bool := decide (97 ≤ c.toNat ∧ c.toNat ≤ 100)
def textB (t : ByteArray) : Bool := decide (t.size ≤ 4) && t.data.toList.all isAD
def sibB (s : Sib) : Bool := vvB s.vv && textB s.text && (!s.gone || decide (s.text = ByteArray.empty))

theorem trim_any (s : ByteArray) (w : World) (hs : s.size ≤ 9223372036854775807) :
    Calls Tryz.prog 69 #[.string s, .string ⟨#[97, 98, 99, 100]⟩] w fun e w' => e = .returned (.string ⟨(Lib.trimS s.data.toList [97, 98, 99, 100]).toArray⟩) ∧ Below w.heap.size w w' := by
  have hcon := Any.strings_Trim_laid Tryz.lays160 (by kernel_rfl) s ⟨#[97, 98, 99, 100]⟩ w hs (by decide) (ascii_of_all (by decide))
  exact hcon

theorem isAD_iff (c : UInt8) : [97, 98, 99, 100].contains c = isAD c := by
  rw [Bool.eq_iff_iff]
  simp only [isAD, decide_eq_true_eq, List.contains_iff_mem, List.mem_cons, List.mem_nil_iff, or_false, ← UInt8.toNat_inj]
  show c.toNat = 97 ∨ c.toNat = 98 ∨ c.toNat = 99 ∨ c.toNat = 100 ↔ _
  omega

theorem trim_empty (l : List UInt8) : Lib.trimS l [97, 98, 99, 100] = [] ↔ l.all isAD = true := by
  unfold Lib.trimS Lib.trimRightS Lib.trimLeftS
  have hf : (fun x => List.contains [97, 98, 99, 100] x) = isAD := funext isAD_iff
  simp only [hf]
  constructor
  · intro h
    have h2 : ((l.reverse.dropWhile isAD).reverse.dropWhile isAD) = [] := by simpa using h
    have h3 : (l.reverse.dropWhile isAD).all isAD = true := by
      have := List.takeWhile_append_dropWhile (p := isAD) (l := (l.reverse.dropWhile isAD).reverse)
      rw [h2, List.append_nil] at this
      have h4 : ((l.reverse.dropWhile isAD).reverse).all isAD = true := by rw [← this]; exact List.all_takeWhile
      simpa using h4
    have h5 : l.reverse.takeWhile isAD ++ l.reverse.dropWhile isAD = l.reverse := List.takeWhile_append_dropWhile
    have h6 : l.reverse.all isAD = true := by rw [← h5, List.all_append, h3, List.all_takeWhile]; rfl
    simpa using h6
  · intro h
    have h1 : ∀ m : List UInt8, m.all isAD = true → m.dropWhile isAD = [] := by
      intro m
      induction m with
      | nil => intro _; rfl
      | cons x m ih =>
        intro hm
        simp only [List.all_cons, Bool.and_eq_true] at hm
        rw [List.dropWhile_cons, if_pos hm.1, ih hm.2]
    rw [h1 l.reverse (by simpa using h)]; rfl

set_option maxRecDepth 100000 in
set_option maxHeartbeats 400000 in
theorem isSib_any (x : LSib) (w : World) (hx : Dat.At w x) :
    Calls Tryz.prog 39 #[x.val] w fun e w' => e = .returned (.bool (sibB x.er)) ∧ Below w.heap.size w w' := by
  obtain ⟨xv, xg, xt⟩ := x
  simp only [LSib.val]
  have hB := (Below.refl w.heap.size w).alloc (Nat.le_refl _) (Obj.cells #[xv.val, Value.bool xg, Value.string xt] 42)
  have h1 := Lib.hid (isVv_any xv _ (Loc.At.belowAll hx.1 hB))
  have hsz : xt.size ≤ 9223372036854775807 := hx.2
  have h2 := (trim_any xt (w.alloc (Obj.cells #[xv.val, Value.bool xg, Value.string xt] 42)) hsz).mono (R' := fun e w' => e = .returned (.string ⟨(Lib.trimS xt.data.toList [97, 98, 99, 100]).toArray⟩) ∧
      Below (w.alloc (Obj.cells #[xv.val, Value.bool xg, Value.string xt] 42)).heap.size (w.alloc (Obj.cells #[xv.val, Value.bool xg, Value.string xt] 42)) w' ∧ w'.cell? ⟨w.heap.size, 1, none⟩ = some (.bool xg) ∧ w'.cell? ⟨w.heap.size, 2, none⟩ = some (.string xt))
    fun e w' ⟨he, hb⟩ => ⟨he, hb, (hb.cell (by simp)).trans (cell_of_row _ _ _ _ _ (0, 0) (heap_alloc_new w _)), (hb.cell (by simp)).trans (cell_of_row _ _ _ _ _ (0, 0) (heap_alloc_new w _))⟩
  generalize hr : (⟨(Lib.trimS xt.data.toList [97, 98, 99, 100]).toArray⟩ : ByteArray) = r at h2
  have HR := Lib.hid hr
  have HB := Lib.hid hB
  clear hB hr
  cases hv : vvB xv.xs with
  | false =>
    rw [hv] at h1
    have HV := Lib.hid hv
    clear hv
    go_enter Tryz.func39, Tryz.ntmps39
    go_wp2_with (go_at_call 66; refine h1.out.mono ?_; rintro e w' ⟨rfl, rfl⟩)
    go_ret
    exact ⟨ret_bool (by simp only [sibB, LSib.er, HV.out, Bool.false_and]), HB.out⟩
  | true =>
    rw [hv] at h1
    have HV := Lib.hid hv
    clear hv
    have H2 := Lib.hid h2
    clear h2
    have HE : Hid (r.toList = [] ↔ xt.data.toList.all isAD = true) := by
      show _ ↔ _
      rw [← trim_empty, ← HR.out, ByteArray.toList_eq]
    by_cases hl : (xt.size : Int) ≤ 4
    · by_cases hre : r.toList = []
      · have HA := Lib.hid (HE.out.1 hre)
        have HL := Lib.hid (show xt.size ≤ 4 by omega)
        cases xg with
        | false =>
          go_enter Tryz.func39, Tryz.ntmps39
          go_wp2_with (first | (go_at_call 66; refine h1.out.mono ?_; rintro e w' ⟨rfl, rfl⟩) | (go_at_call 69; refine H2.out.mono ?_; rintro e w' ⟨rfl, hb, f1, f2⟩))
          go_ret
          exact ⟨ret_bool (by simp [sibB, textB, LSib.er, HV.out, HA.out, HL.out]), HB.out.trans (hb.mono (by simp))⟩
        | true =>
          by_cases hx0 : xt.toList = []
          · have HX : Hid (xt = ByteArray.empty) := by
              show _ = _
              exact toList_inj.1 (hx0.trans empty_toList.symm)
            go_enter Tryz.func39, Tryz.ntmps39
            go_wp2_with (first | (go_at_call 66; refine h1.out.mono ?_; rintro e w' ⟨rfl, rfl⟩) | (go_at_call 69; refine H2.out.mono ?_; rintro e w' ⟨rfl, hb, f1, f2⟩))
            go_ret
            exact ⟨ret_bool (by simp [sibB, textB, LSib.er, HV.out, HA.out, HL.out, HX.out]), HB.out.trans (hb.mono (by simp))⟩
          · have HX : Hid (¬ xt = ByteArray.empty) := by
              show ¬ _
              intro h; apply hx0; rw [h]; exact empty_toList
            go_enter Tryz.func39, Tryz.ntmps39
            go_wp2_with (first | (go_at_call 66; refine h1.out.mono ?_; rintro e w' ⟨rfl, rfl⟩) | (go_at_call 69; refine H2.out.mono ?_; rintro e w' ⟨rfl, hb, f1, f2⟩))
            go_ret
            exact ⟨ret_bool (by simp [sibB, textB, LSib.er, HV.out, HA.out, HL.out, HX.out, hx0]), HB.out.trans (hb.mono (by simp))⟩
      · have HA : Hid (xt.data.toList.all isAD = false) := by
          show _ = _
          rw [← Bool.not_eq_true]; exact fun h => hre (HE.out.2 h)
        go_enter Tryz.func39, Tryz.ntmps39
        go_wp2_with (first | (go_at_call 66; refine h1.out.mono ?_; rintro e w' ⟨rfl, rfl⟩) | (go_at_call 69; refine H2.out.mono ?_; rintro e w' ⟨rfl, hb, f1, f2⟩))
        go_ret
        exact ⟨ret_bool (by simp only [sibB, textB, LSib.er, HV.out, HA.out, Bool.and_false, Bool.false_and]), HB.out.trans (hb.mono (by simp))⟩
    · have HL := Lib.hid (show ¬ xt.size ≤ 4 by omega)
      go_enter Tryz.func39, Tryz.ntmps39
      go_wp2_with (go_at_call 66; refine h1.out.mono ?_; rintro e w' ⟨rfl, rfl⟩)
      go_ret
      exact ⟨ret_bool (by simp [sibB, textB, LSib.er, HL.out]), HB.out⟩
end Go.Proofs.YtdidkfadiaafiaaGreatDoor
