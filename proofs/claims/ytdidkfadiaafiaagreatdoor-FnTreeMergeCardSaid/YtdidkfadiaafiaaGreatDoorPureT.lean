/- Plain laws: versions stand in a total order; what is merged of lists. Plain laws of trees: a file put in its place, trees merged. Plain laws of trees: writing. Plain laws: a file put where a search found its place; the reference's way of putting it; lists sorted and their doubles struck. -/
import Derived.Test.YtdidkfadiaafiaaGreatDoorMerge
import Derived.Test.YtdidkfadiaafiaaGreatDoorAt
import Derived.Test.YtdidkfadiaafiaaGreatDoorAtZ
namespace Go.Proofs.YtdidkfadiaafiaaGreatDoor
open Go Go.RowKit

/-- A total order by a comparison. -/
structure TO {α : Type} (c : α → α → Int) : Prop where
  zero : ∀ a b, c a b = 0 ↔ a = b
  anti : ∀ a b, c b a = - c a b
  trans : ∀ a b d, c a b < 0 → c b d < 0 → c a d < 0

theorem cmpInt_zero (a b : Int) : cmpInt a b = 0 ↔ a = b := by
  unfold cmpInt
  by_cases h1 : a < b
  · rw [if_pos h1]; omega
  · rw [if_neg h1]
    by_cases h2 : b < a
    · rw [if_pos h2]; omega
    · rw [if_neg h2]; omega
theorem cmpInt_neg (a b : Int) : cmpInt a b < 0 ↔ a < b := by
  unfold cmpInt
  by_cases h1 : a < b
  · rw [if_pos h1]; omega
  · rw [if_neg h1]
    by_cases h2 : b < a
    · rw [if_pos h2]; omega
    · rw [if_neg h2]; omega
theorem cmpInt_anti (a b : Int) : cmpInt b a = - cmpInt a b := by
  unfold cmpInt
  by_cases h1 : a < b
  · rw [if_neg (by omega), if_pos h1, if_pos h1]; rfl
  · by_cases h2 : b < a
    · rw [if_pos h2, if_neg h1, if_pos h2]
    · rw [if_neg h2, if_neg h1, if_neg h1, if_neg h2]; rfl

theorem cmpInts_zero : ∀ a b : List Int, cmpInts a b = 0 ↔ a = b
  | [], [] => by simp [cmpInts]
  | [], _ :: _ => by simp [cmpInts]
  | _ :: _, [] => by simp [cmpInts]
  | a :: p, b :: q => by
    have h := cmpInt_zero a b
    have ih := cmpInts_zero p q
    simp only [cmpInts]
    by_cases h0 : cmpInt a b = 0
    · obtain rfl := h.1 h0
      rw [if_pos h0, ih]; simp
    · rw [if_neg h0]
      have hne : a ≠ b := fun e => h0 (h.2 e)
      simp [h0, hne]
theorem cmpInts_anti : ∀ a b : List Int, cmpInts b a = - cmpInts a b
  | [], [] => by simp [cmpInts]
  | [], _ :: _ => by simp [cmpInts]
  | _ :: _, [] => by simp [cmpInts]
  | a :: p, b :: q => by
    have h := cmpInt_anti a b
    have ih := cmpInts_anti p q
    simp only [cmpInts, h]
    by_cases h0 : cmpInt a b = 0
    · rw [if_pos h0, if_pos (by omega), ih]
    · rw [if_neg h0, if_neg (by omega)]
theorem cmpInts_trans : ∀ a b d : List Int, cmpInts a b < 0 → cmpInts b d < 0 → cmpInts a d < 0
  | _, _ :: _, [] => by simp [cmpInts]
  | [], [], [] => by simp [cmpInts]
  | _ :: _, [], [] => by simp [cmpInts]
  | _ :: _, [], _ :: _ => by simp [cmpInts]
  | [], _, _ :: _ => by simp [cmpInts]
  | x :: p, y :: q, z :: r => by
    have ih := cmpInts_trans p q r
    simp only [cmpInts]
    intro h1 h2
    by_cases e1 : cmpInt x y = 0
    · rw [if_pos e1] at h1
      obtain rfl := (cmpInt_zero x y).1 e1
      by_cases e2 : cmpInt x z = 0
      · rw [if_pos e2] at h2 ⊢; exact ih h1 h2
      · rw [if_neg e2] at h2 ⊢; exact h2
    · rw [if_neg e1] at h1
      by_cases e2 : cmpInt y z = 0
      · obtain rfl := (cmpInt_zero y z).1 e2
        rw [if_neg e1]; exact h1
      · rw [if_neg e2] at h2
        have h3 : cmpInt x z < 0 := by rw [cmpInt_neg] at h1 h2 ⊢; omega
        rw [if_neg (by omega)]; exact h3

theorem bl_irr : ∀ a : List UInt8, Op.bytesLess a a = false
  | [] => rfl
  | a :: p => by simp [Op.bytesLess, bl_irr p]
theorem bl_trans : ∀ a b d : List UInt8, Op.bytesLess a b = true → Op.bytesLess b d = true → Op.bytesLess a d = true
  | [], [], _ => by simp [Op.bytesLess]
  | [], _ :: _, [] => by simp [Op.bytesLess]
  | [], _ :: _, _ :: _ => by simp [Op.bytesLess]
  | _ :: _, [], _ => by simp [Op.bytesLess]
  | _ :: _, _ :: _, [] => by simp [Op.bytesLess]
  | x :: p, y :: q, z :: r => by
    have ih := bl_trans p q r
    simp only [Op.bytesLess, Bool.or_eq_true, decide_eq_true_eq, Bool.and_eq_true, beq_iff_eq]
    rintro (h1 | ⟨rfl, h1⟩) (h2 | ⟨rfl, h2⟩)
    · exact .inl (UInt8.lt_trans h1 h2)
    · exact .inl h1
    · exact .inl h2
    · exact .inr ⟨rfl, ih h1 h2⟩
theorem bl_tri : ∀ a b : List UInt8, Op.bytesLess a b = false → Op.bytesLess b a = false → a = b
  | [], [] => fun _ _ => rfl
  | [], _ :: _ => by simp [Op.bytesLess]
  | _ :: _, [] => by simp [Op.bytesLess]
  | x :: p, y :: q => by
    have ih := bl_tri p q
    intro h1 h2
    have hxy : x = y := by
      rw [← UInt8.toNat_inj]
      have a1 : ¬ x < y := fun h => by rw [Op.bytesLess, decide_eq_true h] at h1; cases h1
      have a2 : ¬ y < x := fun h => by rw [Op.bytesLess, decide_eq_true h] at h2; cases h2
      rw [UInt8.lt_iff_toNat_lt] at a1 a2
      omega
    subst hxy
    simp [Op.bytesLess] at h1 h2
    rw [ih h1 h2]

theorem strLt_irr (a : ByteArray) : strLt a a = false := bl_irr _
theorem strLt_trans {a b d : ByteArray} (h : strLt a b = true) (k : strLt b d = true) : strLt a d = true := bl_trans _ _ _ h k
theorem strLt_tri {a b : ByteArray} (h : strLt a b = false) (k : strLt b a = false) : a = b := toList_inj.1 (bl_tri _ _ h k)
theorem strLt_asym {a b : ByteArray} (h : strLt a b = true) : strLt b a = false := by
  rw [← Bool.not_eq_true]; intro k
  have := strLt_trans h k
  rw [strLt_irr] at this; cases this
theorem strLt_ne {a b : ByteArray} (h : strLt a b = true) : a ≠ b := by
  rintro rfl
  rw [strLt_irr] at h; cases h

theorem cmpStr_lt {a b : ByteArray} (h : strLt a b = true) : cmpStr a b = -1 := by unfold cmpStr; rw [if_pos h]
theorem cmpStr_self (a : ByteArray) : cmpStr a a = 0 := by unfold cmpStr; rw [strLt_irr]; simp
theorem cmpStr_gt {a b : ByteArray} (h : strLt b a = true) : cmpStr a b = 1 := by
  unfold cmpStr
  rw [if_neg (by rw [strLt_asym h]; simp), if_pos]
  rw [strLt_asym h]
  simp only [Bool.not_false, Bool.true_and, Bool.not_eq_true', beq_eq_false_iff_ne]
  exact fun e => strLt_ne h (toList_inj.1 e).symm
theorem cmpStr_cases (a b : ByteArray) : (strLt a b = true ∧ cmpStr a b = -1) ∨ (a = b ∧ cmpStr a b = 0) ∨ (strLt b a = true ∧ cmpStr a b = 1) := by
  cases h1 : strLt a b with
  | true => exact .inl ⟨rfl, cmpStr_lt h1⟩
  | false =>
    cases h2 : strLt b a with
    | true => exact .inr (.inr ⟨rfl, cmpStr_gt h2⟩)
    | false =>
      obtain rfl := strLt_tri h1 h2
      exact .inr (.inl ⟨rfl, cmpStr_self a⟩)
theorem cmpStr_TO : TO cmpStr := by
  refine ⟨fun a b => ?_, fun a b => ?_, fun a b d h1 h2 => ?_⟩
  · rcases cmpStr_cases a b with ⟨h, e⟩ | ⟨h, e⟩ | ⟨h, e⟩
    · rw [e]; simp [strLt_ne h]
    · rw [e]; simp [h]
    · rw [e]; simp [(strLt_ne h).symm]
  · rcases cmpStr_cases a b with ⟨h, e⟩ | ⟨h, e⟩ | ⟨h, e⟩
    · rw [e, cmpStr_gt h]; rfl
    · subst h; rw [e]; rfl
    · rw [e, cmpStr_lt h]
  · rcases cmpStr_cases a b with ⟨h, e⟩ | ⟨h, e⟩ | ⟨h, e⟩
    · rcases cmpStr_cases b d with ⟨k, f⟩ | ⟨k, f⟩ | ⟨k, f⟩
      · rw [cmpStr_lt (strLt_trans h k)]; decide
      · rw [f] at h2; omega
      · rw [f] at h2; omega
    · rw [e] at h1; omega
    · rw [e] at h1; omega

theorem cmpSib_eq (a b : Sib) : cmpSib a b = if cmpInts a.vv b.vv = 0 then if cmpInt (goneNo a.gone) (goneNo b.gone) = 0 then cmpStr a.text b.text else cmpInt (goneNo a.gone) (goneNo b.gone) else cmpInts a.vv b.vv := by
  unfold cmpSib
  simp only [orInts]
  split <;> (try rfl)
  split <;> (try rfl)
  split
  · rename_i h; exact h.symm
  · rfl
theorem goneNo_inj {a b : Bool} (h : goneNo a = goneNo b) : a = b := by revert h; cases a <;> cases b <;> decide
theorem cmpSib_TO : TO cmpSib := by
  refine ⟨fun a b => ?_, fun a b => ?_, fun a b d h1 h2 => ?_⟩
  · rw [cmpSib_eq]
    obtain ⟨av, ag, at_⟩ := a
    obtain ⟨bv, bg, bt⟩ := b
    simp only [Sib.mk.injEq]
    by_cases h : cmpInts av bv = 0
    · rw [if_pos h]
      by_cases k : cmpInt (goneNo ag) (goneNo bg) = 0
      · rw [if_pos k, cmpStr_TO.zero]
        have e1 := (cmpInts_zero _ _).1 h
        have e2 := goneNo_inj ((cmpInt_zero _ _).1 k)
        simp [e1, e2]
      · rw [if_neg k]
        have : ag ≠ bg := fun e => k ((cmpInt_zero _ _).2 (by rw [e]))
        simp [k, this]
    · rw [if_neg h]
      have : av ≠ bv := fun e => h ((cmpInts_zero _ _).2 e)
      simp [h, this]
  · rw [cmpSib_eq, cmpSib_eq, cmpInts_anti a.vv b.vv, cmpInt_anti (goneNo a.gone), cmpStr_TO.anti a.text b.text]
    by_cases h : cmpInts a.vv b.vv = 0
    · rw [if_pos (by omega), if_pos h]
      by_cases k : cmpInt (goneNo a.gone) (goneNo b.gone) = 0
      · rw [if_pos (by omega), if_pos k]
      · rw [if_neg (by omega), if_neg k]
    · rw [if_neg (by omega), if_neg h]
  · rw [cmpSib_eq] at h1 h2 ⊢
    by_cases e1 : cmpInts a.vv b.vv = 0
    · rw [if_pos e1] at h1
      rw [(cmpInts_zero _ _).1 e1]
      by_cases e2 : cmpInts b.vv d.vv = 0
      · rw [if_pos e2] at h2
        rw [if_pos e2]
        by_cases g1 : cmpInt (goneNo a.gone) (goneNo b.gone) = 0
        · rw [if_pos g1] at h1
          rw [(cmpInt_zero _ _).1 g1]
          by_cases g2 : cmpInt (goneNo b.gone) (goneNo d.gone) = 0
          · rw [if_pos g2] at h2 ⊢
            exact cmpStr_TO.trans _ _ _ h1 h2
          · rw [if_neg g2] at h2 ⊢; exact h2
        · rw [if_neg g1] at h1
          by_cases g2 : cmpInt (goneNo b.gone) (goneNo d.gone) = 0
          · rw [← (cmpInt_zero _ _).1 g2, if_neg g1]; exact h1
          · rw [if_neg g2] at h2
            have h3 : cmpInt (goneNo a.gone) (goneNo d.gone) < 0 := by rw [cmpInt_neg] at h1 h2 ⊢; omega
            rw [if_neg (by omega)]; exact h3
      · rw [if_neg e2] at h2 ⊢; exact h2
    · rw [if_neg e1] at h1
      by_cases e2 : cmpInts b.vv d.vv = 0
      · rw [← (cmpInts_zero _ _).1 e2, if_neg e1]; exact h1
      · rw [if_neg e2] at h2
        have h3 := cmpInts_trans _ _ _ h1 h2
        rw [if_neg (by omega)]; exact h3

/-! Lists that ascend. -/
section
variable {α : Type}
theorem asc_pw {R : α → α → Prop} (tr : ∀ a b d, R a b → R b d → R a d) : ∀ (l : List α), (∀ i (h : i + 1 < l.length), R l[i] l[i + 1]) → l.Pairwise R
  | [], _ => List.Pairwise.nil
  | [a], _ => by simp
  | a :: b :: l, h => by
    have ih := asc_pw tr (b :: l) (fun i hi => by have := h (i + 1) (by simpa using hi); simpa using this)
    have h0 : R a b := h 0 (by simp)
    refine List.pairwise_cons.2 ⟨fun x hx => ?_, ih⟩
    rcases List.mem_cons.1 hx with rfl | hx
    · exact h0
    · exact tr _ _ _ h0 ((List.pairwise_cons.1 ih).1 x hx)
theorem pw_asc {R : α → α → Prop} {l : List α} (h : l.Pairwise R) : ∀ i (h : i + 1 < l.length), R l[i] l[i + 1] := fun i hi => List.pairwise_iff_getElem.1 h i (i + 1) (by omega) hi (by omega)
theorem pw_ext {R : α → α → Prop} (irr : ∀ a, ¬ R a a) (asym : ∀ a b, R a b → ¬ R b a) : ∀ (l m : List α), l.Pairwise R → m.Pairwise R → (∀ x, x ∈ l ↔ x ∈ m) → l = m
  | [], [], _, _, _ => rfl
  | [], b :: m, _, _, h => by have := (h b).2 List.mem_cons_self; cases this
  | a :: l, [], _, _, h => by have := (h a).1 List.mem_cons_self; cases this
  | a :: l, b :: m, hl, hm, h => by
    obtain ⟨l1, l2⟩ := List.pairwise_cons.1 hl
    obtain ⟨m1, m2⟩ := List.pairwise_cons.1 hm
    have hab : a = b := by
      rcases List.mem_cons.1 ((h a).1 List.mem_cons_self) with e | e
      · exact e
      · rcases List.mem_cons.1 ((h b).2 List.mem_cons_self) with f | f
        · exact f.symm
        · exact absurd (l1 b f) (asym _ _ (m1 a e))
    subst hab
    congr 1
    refine pw_ext irr asym l m l2 m2 fun x => ?_
    constructor
    · intro hx
      rcases List.mem_cons.1 ((h x).1 (List.mem_cons_of_mem _ hx)) with e | e
      · subst e; exact absurd (l1 x hx) (irr x)
      · exact e
    · intro hx
      rcases List.mem_cons.1 ((h x).2 (List.mem_cons_of_mem _ hx)) with e | e
      · subst e; exact absurd (m1 x hx) (irr x)
      · exact e
end

def Asc (l : List Sib) : Prop := l.Pairwise fun a b => cmpSib a b < 0
theorem sibLt_irr (a : Sib) : ¬ cmpSib a a < 0 := by have := (cmpSib_TO.zero a a).2 rfl; omega
theorem sibLt_asym (a b : Sib) (h : cmpSib a b < 0) : ¬ cmpSib b a < 0 := by have := cmpSib_TO.anti a b; omega
theorem Asc.ext {l m : List Sib} (hl : Asc l) (hm : Asc m) (h : ∀ x, x ∈ l ↔ x ∈ m) : l = m := pw_ext sibLt_irr sibLt_asym l m hl hm h
theorem SibsOK.up {l : List Sib} (h : SibsOK l) : Asc l := asc_pw cmpSib_TO.trans l h.asc

/-- One put in its place. -/
def ins (s : Sib) : List Sib → List Sib
  | [] => [s]
  | x :: r => if cmpSib s x < 0 then s :: x :: r else if cmpSib s x ≤ 0 then x :: r else x :: ins s r

theorem putSt_on (s : Sib) : ∀ (l o : List Sib), l.foldl (putStep (cmpSib s) s) (o, true) = (o ++ l, true)
  | [], o => by simp
  | x :: r, o => by
    rw [List.foldl_cons]
    have : putStep (cmpSib s) s (o, true) x = (o ++ [x], true) := by simp [putStep]
    rw [this, putSt_on s r]; simp
theorem putSt_off (s : Sib) : ∀ (l o : List Sib), (if (l.foldl (putStep (cmpSib s) s) (o, false)).2 then (l.foldl (putStep (cmpSib s) s) (o, false)).1 else (l.foldl (putStep (cmpSib s) s) (o, false)).1 ++ [s]) = o ++ ins s l
  | [], o => by simp [ins]
  | x :: r, o => by
    rw [List.foldl_cons]
    unfold ins
    by_cases h1 : cmpSib s x < 0
    · have : putStep (cmpSib s) s (o, false) x = (o ++ [s] ++ [x], true) := by simp [putStep, h1]; omega
      rw [this, putSt_on, if_pos h1]; simp
    · rw [if_neg h1]
      by_cases h2 : cmpSib s x ≤ 0
      · have : putStep (cmpSib s) s (o, false) x = (o ++ [x], true) := by simp [putStep, h1, h2]
        rw [this, putSt_on, if_pos h2]; simp
      · have : putStep (cmpSib s) s (o, false) x = (o ++ [x], false) := by simp [putStep, h1, h2]
        rw [this, if_neg h2, putSt_off s r]; simp
theorem putL_ins (s : Sib) (l : List Sib) : putL (cmpSib s) s l = ins s l := by
  have h := putSt_off s l []
  rw [List.nil_append] at h
  unfold putL putSt
  exact h
theorem ins_mem (s : Sib) : ∀ (l : List Sib) (y : Sib), y ∈ ins s l ↔ y = s ∨ y ∈ l
  | [], y => by simp [ins]
  | x :: r, y => by
    unfold ins
    by_cases h1 : cmpSib s x < 0
    · rw [if_pos h1]; simp
    · rw [if_neg h1]
      by_cases h2 : cmpSib s x ≤ 0
      · rw [if_pos h2]
        have : s = x := (cmpSib_TO.zero s x).1 (by omega)
        subst this
        simp
      · rw [if_neg h2, List.mem_cons, List.mem_cons, ins_mem s r]
        constructor
        · rintro (h | h | h)
          · exact .inr (.inl h)
          · exact .inl h
          · exact .inr (.inr h)
        · rintro (h | h | h)
          · exact .inr (.inl h)
          · exact .inl h
          · exact .inr (.inr h)
theorem ins_asc (s : Sib) : ∀ (l : List Sib), Asc l → Asc (ins s l)
  | [], _ => by simp [Asc, ins]
  | x :: r, h => by
    obtain ⟨h1, h2⟩ := List.pairwise_cons.1 h
    unfold ins
    by_cases c1 : cmpSib s x < 0
    · rw [if_pos c1]
      refine List.pairwise_cons.2 ⟨fun y hy => ?_, h⟩
      rcases List.mem_cons.1 hy with rfl | hy
      · exact c1
      · exact cmpSib_TO.trans _ _ _ c1 (h1 y hy)
    · rw [if_neg c1]
      by_cases c2 : cmpSib s x ≤ 0
      · rw [if_pos c2]; exact h
      · rw [if_neg c2]
        refine List.pairwise_cons.2 ⟨fun y hy => ?_, ins_asc s r h2⟩
        rcases (ins_mem s r y).1 hy with rfl | hy
        · have := cmpSib_TO.anti y x; omega
        · exact h1 y hy

theorem allL_spec {a : List Sib} (b : List Sib) (h : Asc a) : Asc (allL a b) ∧ ∀ y, y ∈ allL a b ↔ y ∈ a ∨ y ∈ b := by
  unfold allL
  induction b generalizing a with
  | nil => exact ⟨h, by simp⟩
  | cons s b ih =>
    rw [List.foldl_cons, putL_ins]
    obtain ⟨i1, i2⟩ := ih (ins_asc s a h)
    refine ⟨i1, fun y => ?_⟩
    rw [i2, ins_mem, List.mem_cons]
    constructor
    · rintro ((h | h) | h)
      · exact .inr (.inl h)
      · exact .inl h
      · exact .inr (.inr h)
    · rintro (h | h | h)
      · exact .inl (.inr h)
      · exact .inl (.inl h)
      · exact .inr h
theorem mergeL_asc {a : List Sib} (b : List Sib) (h : Asc a) : Asc (mergeL a b) := List.Pairwise.sublist List.filter_sublist (allL_spec b h).1
theorem mergeL_iff {a b : List Sib} (h : Asc a) (x : Sib) : x ∈ mergeL a b ↔ (x ∈ a ∨ x ∈ b) ∧ ∀ y, (y ∈ a ∨ y ∈ b) → supB x y = false := by
  unfold mergeL keptL
  rw [List.mem_filter, (allL_spec b h).2]
  simp only [Bool.not_eq_true', List.any_eq_false, Bool.not_eq_true]
  constructor
  · rintro ⟨h1, h2⟩
    exact ⟨h1, fun y hy => h2 y (((allL_spec b h).2 y).2 hy)⟩
  · rintro ⟨h1, h2⟩
    exact ⟨h1, fun y hy => h2 y (((allL_spec b h).2 y).1 hy)⟩

/-! Who knows whom. -/
def V3 (l : List Sib) : Prop := ∀ s ∈ l, s.vv.length = 3
theorem vvInL_trans : ∀ (a b d : List Int), a.length = b.length → b.length = d.length → vvInL a b = true → vvInL b d = true → vvInL a d = true
  | [], _, _, _, _, _, _ => rfl
  | _ :: _, [], _, h, _, _, _ => by simp at h
  | _ :: _, _ :: _, [], _, h, _, _ => by simp at h
  | x :: p, y :: q, z :: r, h1, h2, k1, k2 => by
    simp only [vvInL, Bool.and_eq_true, decide_eq_true_eq] at k1 k2 ⊢
    exact ⟨by omega, vvInL_trans p q r (by simpa using h1) (by simpa using h2) k1.2 k2.2⟩
theorem supB_iff {a b : Sib} : supB a b = true ↔ vvInL a.vv b.vv = true ∧ a.vv ≠ b.vv := by simp [supB]
theorem sup_trans {a b d : Sib} (ha : a.vv.length = 3) (hb : b.vv.length = 3) (hd : d.vv.length = 3) (h : supB a b = true) (k : supB b d = true) : supB a d = true := by
  rw [supB_iff] at h k ⊢
  refine ⟨vvInL_trans _ _ _ (by omega) (by omega) h.1 k.1, fun e => h.2 ?_⟩
  exact vvInL_len _ _ (by omega) h.1 (by rw [e]; exact k.1)
theorem sup_asym {a b : Sib} (ha : a.vv.length = 3) (hb : b.vv.length = 3) (h : supB a b = true) : supB b a = false := by
  rw [← Bool.not_eq_true]; intro k
  have := sup_trans ha hb ha h k
  rw [supB_self] at this; cases this
theorem top_above : ∀ (L : List Sib) (x : Sib), V3 (x :: L) → ∃ m ∈ x :: L, (m = x ∨ supB x m = true) ∧ ∀ y ∈ x :: L, supB m y = false
  | [], x, _ => ⟨x, List.mem_cons_self, .inl rfl, fun y hy => by simp at hy; subst hy; exact supB_self _⟩
  | a :: L, x, h => by
    obtain ⟨m, hm, h1, h2⟩ := top_above L x (fun s hs => h s (by simp at hs ⊢; rcases hs with e | e <;> simp [e]))
    have hm3 : m.vv.length = 3 := h m (by simp at hm ⊢; rcases hm with e | e <;> simp [e])
    have ha3 : a.vv.length = 3 := h a (by simp)
    have hx3 : x.vv.length = 3 := h x (by simp)
    cases hs : supB m a with
    | true =>
      refine ⟨a, by simp, .inr ?_, fun y hy => ?_⟩
      · rcases h1 with rfl | h1
        · exact hs
        · exact sup_trans hx3 hm3 ha3 h1 hs
      · rw [← Bool.not_eq_true]; intro k
        have hy3 : y.vv.length = 3 := h y hy
        have hmy := sup_trans hm3 ha3 hy3 hs k
        have : y = a ∨ y ∈ x :: L := by simp at hy ⊢; rcases hy with e | e | e <;> simp [e]
        rcases this with rfl | hy'
        · rw [supB_self] at k; cases k
        · rw [h2 y hy'] at hmy; cases hmy
    | false =>
      refine ⟨m, by simp at hm ⊢; rcases hm with e | e <;> simp [e], h1, fun y hy => ?_⟩
      have : y = a ∨ y ∈ x :: L := by simp at hy ⊢; rcases hy with e | e | e <;> simp [e]
      rcases this with rfl | hy'
      · exact hs
      · exact h2 y hy'
theorem top_in {L : List Sib} (h : V3 L) {x : Sib} (hx : x ∈ L) : ∃ m ∈ L, (m = x ∨ supB x m = true) ∧ ∀ y ∈ L, supB m y = false := by
  obtain ⟨m, hm, h1, h2⟩ := top_above L x (fun s hs => by rcases List.mem_cons.1 hs with rfl | hs; exact h _ hx; exact h s hs)
  refine ⟨m, ?_, h1, fun y hy => h2 y (List.mem_cons_of_mem _ hy)⟩
  rcases List.mem_cons.1 hm with rfl | hm
  · exact hx
  · exact hm

/-- A list of versions in order, none known by another one; perhaps none, perhaps many. -/
structure LOK (l : List Sib) : Prop where
  asc : Asc l
  v3 : V3 l
  free : ∀ a ∈ l, ∀ b ∈ l, supB a b = false
theorem LOK.nil : LOK [] := ⟨List.Pairwise.nil, fun _ h => (by cases h), fun _ h => (by cases h)⟩
theorem SibsOK.lok {l : List Sib} (h : SibsOK l) : LOK l := ⟨h.up, fun s hs => by obtain ⟨i, hi, rfl⟩ := List.getElem_of_mem hs; exact sibB_len (h.each i hi), h.free⟩
theorem LOK.of {l : List Sib} (h : l = [] ∨ SibsOK l) : LOK l := by rcases h with rfl | h; exact LOK.nil; exact h.lok
theorem LOK.merge {a b : List Sib} (ha : LOK a) (hb : LOK b) : LOK (mergeL a b) := by
  refine ⟨mergeL_asc b ha.asc, fun s hs => ?_, fun x hx y hy => ?_⟩
  · rcases mergeL_mem a b s hs with h | h
    · exact ha.v3 s h
    · exact hb.v3 s h
  · exact ((mergeL_iff ha.asc x).1 hx).2 y (mergeL_mem a b y hy)
theorem mergeL_nil {a : List Sib} (ha : LOK a) : mergeL a [] = a := by
  refine (mergeL_asc [] ha.asc).ext ha.asc fun x => ?_
  rw [mergeL_iff ha.asc]
  constructor
  · rintro ⟨h | h, _⟩
    · exact h
    · cases h
  · intro h
    refine ⟨.inl h, fun y hy => ?_⟩
    rcases hy with hy | hy
    · exact ha.free x h y hy
    · cases hy
theorem mergeL_comm {a b : List Sib} (ha : LOK a) (hb : LOK b) : mergeL a b = mergeL b a := by
  refine (mergeL_asc b ha.asc).ext (mergeL_asc a hb.asc) fun x => ?_
  rw [mergeL_iff ha.asc, mergeL_iff hb.asc]
  constructor
  · rintro ⟨h1, h2⟩; exact ⟨h1.symm, fun y hy => h2 y hy.symm⟩
  · rintro ⟨h1, h2⟩; exact ⟨h1.symm, fun y hy => h2 y hy.symm⟩
theorem nil_mergeL {a : List Sib} (ha : LOK a) : mergeL [] a = a := by rw [mergeL_comm LOK.nil ha, mergeL_nil ha]
theorem mergeL_self {a : List Sib} (ha : LOK a) : mergeL a a = a := by
  refine (mergeL_asc a ha.asc).ext ha.asc fun x => ?_
  rw [mergeL_iff ha.asc]
  constructor
  · rintro ⟨h | h, _⟩ <;> exact h
  · intro h
    exact ⟨.inl h, fun y hy => ha.free x h y (by rcases hy with hy | hy <;> exact hy)⟩
theorem merge3_iff {a b d : List Sib} (ha : LOK a) (hb : LOK b) (hd : LOK d) (x : Sib) : x ∈ mergeL (mergeL a b) d ↔ (x ∈ a ∨ x ∈ b ∨ x ∈ d) ∧ ∀ y, (y ∈ a ∨ y ∈ b ∨ y ∈ d) → supB x y = false := by
  rw [mergeL_iff (ha.merge hb).asc]
  have h3 : ∀ y, (y ∈ a ∨ y ∈ b ∨ y ∈ d) → y.vv.length = 3 := by
    rintro y (h | h | h)
    · exact ha.v3 y h
    · exact hb.v3 y h
    · exact hd.v3 y h
  constructor
  · rintro ⟨h1, h2⟩
    have hx : x ∈ a ∨ x ∈ b ∨ x ∈ d := by
      rcases h1 with h | h
      · rcases mergeL_mem a b x h with h | h
        · exact .inl h
        · exact .inr (.inl h)
      · exact .inr (.inr h)
    refine ⟨hx, fun y hy => ?_⟩
    have hab : y ∈ a ∨ y ∈ b → supB x y = false := by
      intro hy
      obtain ⟨m, hm, m1, m2⟩ := top_in (L := a ++ b) (fun s hs => by rcases List.mem_append.1 hs with h | h; exact ha.v3 s h; exact hb.v3 s h) (List.mem_append.2 hy)
      have hmm : m ∈ mergeL a b := (mergeL_iff ha.asc m).2 ⟨List.mem_append.1 hm, fun z hz => m2 z (List.mem_append.2 hz)⟩
      have hxm := h2 m (.inl hmm)
      rcases m1 with rfl | m1
      · exact hxm
      · rw [← Bool.not_eq_true]; intro k
        have := sup_trans (h3 x hx) (h3 y (by rcases hy with h | h; exact .inl h; exact .inr (.inl h))) (h3 m (by rcases List.mem_append.1 hm with h | h; exact .inl h; exact .inr (.inl h))) k m1
        rw [hxm] at this; cases this
    rcases hy with hy | hy | hy
    · exact hab (.inl hy)
    · exact hab (.inr hy)
    · exact h2 y (.inr hy)
  · rintro ⟨h1, h2⟩
    refine ⟨?_, fun y hy => h2 y ?_⟩
    · rcases h1 with h | h | h
      · exact .inl ((mergeL_iff ha.asc x).2 ⟨.inl h, fun y hy => h2 y (by rcases hy with e | e; exact .inl e; exact .inr (.inl e))⟩)
      · exact .inl ((mergeL_iff ha.asc x).2 ⟨.inr h, fun y hy => h2 y (by rcases hy with e | e; exact .inl e; exact .inr (.inl e))⟩)
      · exact .inr h
    · rcases hy with h | h
      · rcases mergeL_mem a b y h with h | h
        · exact .inl h
        · exact .inr (.inl h)
      · exact .inr (.inr h)
theorem mergeL_assoc {a b d : List Sib} (ha : LOK a) (hb : LOK b) (hd : LOK d) : mergeL (mergeL a b) d = mergeL a (mergeL b d) := by
  rw [mergeL_comm ha (hb.merge hd)]
  refine ((ha.merge hb).merge hd).asc.ext ((hb.merge hd).merge ha).asc fun x => ?_
  rw [merge3_iff ha hb hd, merge3_iff hb hd ha]
  constructor
  · rintro ⟨h1, h2⟩
    refine ⟨?_, fun y hy => h2 y ?_⟩
    · rcases h1 with h | h | h
      · exact .inr (.inr h)
      · exact .inl h
      · exact .inr (.inl h)
    · rcases hy with h | h | h
      · exact .inr (.inl h)
      · exact .inr (.inr h)
      · exact .inl h
  · rintro ⟨h1, h2⟩
    refine ⟨?_, fun y hy => h2 y ?_⟩
    · rcases h1 with h | h | h
      · exact .inr (.inl h)
      · exact .inr (.inr h)
      · exact .inl h
    · rcases hy with h | h | h
      · exact .inr (.inr h)
      · exact .inl h
      · exact .inr (.inl h)
theorem mergeL_again {a b : List Sib} (ha : LOK a) (hb : LOK b) : mergeL (mergeL a b) a = mergeL a b := by
  rw [mergeL_comm (ha.merge hb) ha, ← mergeL_assoc ha ha hb, mergeL_self ha]
theorem mergeL_some {a b : List Sib} (ha : LOK a) (hb : LOK b) (h : a ≠ [] ∨ b ≠ []) : mergeL a b ≠ [] := by
  intro he
  obtain ⟨x, hx⟩ : ∃ x, x ∈ a ++ b := by
    rcases h with h | h
    · obtain ⟨x, r, e⟩ := List.exists_cons_of_ne_nil h; exact ⟨x, by simp [e]⟩
    · obtain ⟨x, r, e⟩ := List.exists_cons_of_ne_nil h; exact ⟨x, by simp [e]⟩
  obtain ⟨m, hm, -, m2⟩ := top_in (L := a ++ b) (fun s hs => by rcases List.mem_append.1 hs with h | h; exact ha.v3 s h; exact hb.v3 s h) hx
  have : m ∈ mergeL a b := (mergeL_iff ha.asc m).2 ⟨List.mem_append.1 hm, fun z hz => m2 z (List.mem_append.2 hz)⟩
  rw [he] at this; cases this
end Go.Proofs.YtdidkfadiaafiaaGreatDoor

namespace Go.Proofs.YtdidkfadiaafiaaGreatDoor
open Go Go.RowKit

def NAsc (t : List File) : Prop := t.Pairwise fun a b => strLt a.name b.name = true
theorem TreeOK.up {t : List File} (h : TreeOK t) : NAsc t := asc_pw (R := fun a b : File => strLt a.name b.name = true) (fun _ _ _ => strLt_trans) t h.asc

/-- A file put in its place. -/
def tput (f : File) : List File → List File
  | [] => [f]
  | g :: r => if strLt g.name f.name = true then g :: tput f r else if g.name = f.name then f :: r else f :: g :: r

theorem tput_mem (f : File) : ∀ (t : List File), ∀ g ∈ tput f t, g = f ∨ g ∈ t
  | [], g, h => by simp [tput] at h; exact .inl h
  | x :: r, g, h => by
    unfold tput at h
    split at h
    · rcases List.mem_cons.1 h with rfl | h
      · exact .inr List.mem_cons_self
      · rcases tput_mem f r g h with h | h
        · exact .inl h
        · exact .inr (List.mem_cons_of_mem _ h)
    · split at h
      · rcases List.mem_cons.1 h with rfl | h
        · exact .inl rfl
        · exact .inr (List.mem_cons_of_mem _ h)
      · rcases List.mem_cons.1 h with rfl | h
        · exact .inl rfl
        · exact .inr h
theorem tput_len (f : File) : ∀ (t : List File), (tput f t).length ≤ t.length + 1
  | [] => by simp [tput]
  | x :: r => by
    unfold tput
    split
    · have := tput_len f r; simp; omega
    · split <;> simp
theorem tput_asc (f : File) : ∀ (t : List File), NAsc t → NAsc (tput f t)
  | [], _ => by simp [NAsc, tput]
  | x :: r, h => by
    obtain ⟨h1, h2⟩ := List.pairwise_cons.1 h
    unfold tput
    cases c : strLt x.name f.name with
    | true =>
      rw [if_pos rfl]
      refine List.pairwise_cons.2 ⟨fun y hy => ?_, tput_asc f r h2⟩
      rcases tput_mem f r y hy with rfl | hy
      · exact c
      · exact h1 y hy
    | false =>
      rw [if_neg (by simp)]
      by_cases e : x.name = f.name
      · rw [if_pos e]
        refine List.pairwise_cons.2 ⟨fun y hy => ?_, h2⟩
        rw [← e]; exact h1 y hy
      · rw [if_neg e]
        have hf : strLt f.name x.name = true := by
          cases k : strLt f.name x.name with
          | true => rfl
          | false => exact absurd (strLt_tri c k) e
        refine List.pairwise_cons.2 ⟨fun y hy => ?_, h⟩
        rcases List.mem_cons.1 hy with rfl | hy
        · exact hf
        · exact strLt_trans hf (h1 y hy)

theorem atL_none {n : ByteArray} : ∀ {t : List File}, (∀ g ∈ t, g.name ≠ n) → atL n t = []
  | [], _ => rfl
  | x :: r, h => by
    unfold atL
    rw [if_neg (h x List.mem_cons_self), atL_none fun g hg => h g (List.mem_cons_of_mem _ hg)]
theorem atL_some {n : ByteArray} : ∀ {t : List File}, atL n t ≠ [] → ∃ f ∈ t, f.name = n ∧ f.sibs = atL n t
  | [], h => absurd rfl h
  | x :: r, h => by
    unfold atL at h ⊢
    by_cases e : x.name = n
    · exact ⟨x, List.mem_cons_self, e, by rw [if_pos e]⟩
    · rw [if_neg e] at h ⊢
      obtain ⟨f, hf, h1, h2⟩ := atL_some h
      exact ⟨f, List.mem_cons_of_mem _ hf, h1, h2⟩
theorem atL_mem : ∀ {t : List File}, NAsc t → ∀ {f : File}, f ∈ t → atL f.name t = f.sibs
  | x :: r, h, f, hf => by
    obtain ⟨h1, h2⟩ := List.pairwise_cons.1 h
    unfold atL
    rcases List.mem_cons.1 hf with rfl | hf
    · rw [if_pos rfl]
    · rw [if_neg (strLt_ne (h1 f hf)), atL_mem h2 hf]
theorem atL_tput (n : ByteArray) (f : File) : ∀ {t : List File}, NAsc t → atL n (tput f t) = if f.name = n then f.sibs else atL n t
  | [], _ => by simp [tput, atL]
  | x :: r, h => by
    obtain ⟨h1, h2⟩ := List.pairwise_cons.1 h
    unfold tput
    cases c : strLt x.name f.name with
    | true =>
      rw [if_pos rfl]
      simp only [atL]
      rw [atL_tput n f h2]
      by_cases e : x.name = n
      · rw [if_pos e, if_neg (fun k => strLt_ne c (e.trans k.symm)), if_pos e]
      · rw [if_neg e, if_neg e]
    | false =>
      rw [if_neg (by simp)]
      by_cases e : x.name = f.name
      · rw [if_pos e]
        simp only [atL]
        by_cases k : f.name = n
        · rw [if_pos k, if_pos k]
        · rw [if_neg k, if_neg k, if_neg (fun q => k (e.symm.trans q))]
      · rw [if_neg e]; simp only [atL]

/-- A tree, its lists perhaps long. -/
structure TLOK (t : List File) : Prop where
  asc : NAsc t
  each : ∀ f ∈ t, LOK f.sibs ∧ f.sibs ≠ []
theorem SibsOK.ne {l : List Sib} (h : SibsOK l) : l ≠ [] := by rintro rfl; have := h.some_; simp at this
theorem TreeOK.sib {t : List File} (h : TreeOK t) : ∀ f ∈ t, SibsOK f.sibs := fun f hf => by obtain ⟨i, hi, rfl⟩ := List.getElem_of_mem hf; exact h.sibs i hi
theorem TreeOK.nam {t : List File} (h : TreeOK t) : ∀ f ∈ t, nameB f.name = true := fun f hf => by obtain ⟨i, hi, rfl⟩ := List.getElem_of_mem hf; exact h.name i hi
theorem TreeOK.tlok {t : List File} (h : TreeOK t) : TLOK t := ⟨h.up, fun f hf => ⟨(h.sib f hf).lok, (h.sib f hf).ne⟩⟩
theorem TLOK.nil : TLOK [] := ⟨List.Pairwise.nil, fun _ h => (by cases h)⟩
theorem TLOK.at_ {t : List File} (h : TLOK t) (n : ByteArray) : LOK (atL n t) := by
  by_cases e : atL n t = []
  · rw [e]; exact LOK.nil
  · obtain ⟨f, hf, -, h2⟩ := atL_some e
    rw [← h2]; exact (h.each f hf).1
theorem TLOK.put {t : List File} (h : TLOK t) {f : File} (h1 : LOK f.sibs) (h2 : f.sibs ≠ []) : TLOK (tput f t) :=
  ⟨tput_asc f t h.asc, fun g hg => by rcases tput_mem f t g hg with rfl | hg; exact ⟨h1, h2⟩; exact h.each g hg⟩
theorem TLOK.ext {t u : List File} (ht : TLOK t) (hu : TLOK u) (h : ∀ n, atL n t = atL n u) : t = u := by
  refine pw_ext (R := fun a b : File => strLt a.name b.name = true) (fun a => by simp [strLt_irr]) (fun a b k => by simp [strLt_asym k]) t u ht.asc hu.asc ?_
  have key : ∀ (t u : List File), TLOK t → TLOK u → (∀ n, atL n t = atL n u) → ∀ x ∈ t, x ∈ u := by
    intro t u ht hu h x hx
    have h1 := atL_mem ht.asc hx
    have h2 : atL x.name u ≠ [] := by rw [← h, h1]; exact (ht.each x hx).2
    obtain ⟨f, hf, e1, e2⟩ := atL_some h2
    have : f = x := by
      obtain ⟨fn, fs⟩ := f
      obtain ⟨xn, xs⟩ := x
      simp only at e1 e2 h1
      rw [← h, h1] at e2
      rw [e1, e2]
    rw [← this]; exact hf
  exact fun x => ⟨key t u ht hu h x, key u t hu ht (fun n => (h n).symm) x⟩

/-! Merging. -/
def mergeT (a b : List File) : List File := b.foldl (fun o f => tput ⟨f.name, mergeL (atL f.name o) f.sibs⟩ o) a
theorem mergeT_take {a b : List File} {k : Nat} (h : k < b.length) : mergeT a (b.take (k + 1)) = tput ⟨b[k].name, mergeL (atL b[k].name (mergeT a (b.take k))) b[k].sibs⟩ (mergeT a (b.take k)) := by
  unfold mergeT
  rw [List.take_succ_eq_append_getElem h, List.foldl_append]; rfl
theorem mergeT_spec : ∀ {b a : List File}, TLOK a → TLOK b → TLOK (mergeT a b) ∧ ∀ n, atL n (mergeT a b) = mergeL (atL n a) (atL n b)
  | [], a, ha, _ => ⟨ha, fun n => (mergeL_nil (ha.at_ n)).symm⟩
  | f :: r, a, ha, hb => by
    obtain ⟨h1, h2⟩ := List.pairwise_cons.1 hb.asc
    have hf := hb.each f List.mem_cons_self
    have hr : TLOK r := ⟨h2, fun g hg => hb.each g (List.mem_cons_of_mem _ hg)⟩
    have hp : TLOK (tput ⟨f.name, mergeL (atL f.name a) f.sibs⟩ a) := ha.put ((ha.at_ _).merge hf.1) (mergeL_some (ha.at_ _) hf.1 (.inr hf.2))
    obtain ⟨i1, i2⟩ := mergeT_spec hp hr
    refine ⟨i1, fun n => ?_⟩
    show atL n (mergeT (tput ⟨f.name, mergeL (atL f.name a) f.sibs⟩ a) r) = _
    rw [i2, atL_tput n _ ha.asc]
    simp only [atL]
    by_cases e : f.name = n
    · subst e
      rw [if_pos rfl, if_pos rfl, atL_none (t := r) fun g hg => (strLt_ne (h1 g hg)).symm, mergeL_nil ((ha.at_ _).merge hf.1)]
    · rw [if_neg e, if_neg e]
theorem mergeT_comm {a b : List File} (ha : TLOK a) (hb : TLOK b) : mergeT a b = mergeT b a :=
  (mergeT_spec ha hb).1.ext (mergeT_spec hb ha).1 fun n => by rw [(mergeT_spec ha hb).2, (mergeT_spec hb ha).2, mergeL_comm (ha.at_ n) (hb.at_ n)]
theorem mergeT_self {a : List File} (ha : TLOK a) : mergeT a a = a :=
  (mergeT_spec ha ha).1.ext ha fun n => by rw [(mergeT_spec ha ha).2, mergeL_self (ha.at_ n)]
theorem mergeT_again {a b : List File} (ha : TLOK a) (hb : TLOK b) : mergeT (mergeT a b) a = mergeT a b :=
  (mergeT_spec (mergeT_spec ha hb).1 ha).1.ext (mergeT_spec ha hb).1 fun n => by rw [(mergeT_spec (mergeT_spec ha hb).1 ha).2, (mergeT_spec ha hb).2, mergeL_again (ha.at_ n) (hb.at_ n)]
theorem mergeT_assoc {a b d : List File} (ha : TLOK a) (hb : TLOK b) (hd : TLOK d) : mergeT (mergeT a b) d = mergeT a (mergeT b d) :=
  (mergeT_spec (mergeT_spec ha hb).1 hd).1.ext (mergeT_spec ha (mergeT_spec hb hd).1).1 fun n => by
    rw [(mergeT_spec (mergeT_spec ha hb).1 hd).2, (mergeT_spec ha hb).2, (mergeT_spec ha (mergeT_spec hb hd).1).2, (mergeT_spec hb hd).2, mergeL_assoc (ha.at_ n) (hb.at_ n) (hd.at_ n)]

/-! What a tree is, by its files. -/
theorem few_below : ∀ (l : List Nat) (lo hi : Nat), l.Pairwise (· < ·) → (∀ x ∈ l, lo ≤ x ∧ x < hi) → l.length ≤ hi - lo
  | [], _, _, _, _ => by simp
  | a :: l, lo, hi, h, hm => by
    obtain ⟨h1, h2⟩ := List.pairwise_cons.1 h
    have ha := hm a List.mem_cons_self
    have := few_below l (a + 1) hi h2 fun x hx => ⟨h1 x hx, (hm x (List.mem_cons_of_mem _ hx)).2⟩
    simp only [List.length_cons]; omega
def nameN (s : ByteArray) : Nat := match s.data.toList with | [c] => c.toNat | _ => 0
theorem nameB_one {s : ByteArray} (h : nameB s = true) : ∃ c, s.data.toList = [c] ∧ 65 ≤ c.toNat ∧ c.toNat ≤ 70 := by
  unfold nameB at h
  split at h
  · rename_i c e
    exact ⟨c, e, by simpa using h⟩
  · cases h
theorem nameN_lt {s t : ByteArray} (hs : nameB s = true) (ht : nameB t = true) (h : strLt s t = true) : nameN s < nameN t := by
  obtain ⟨c, e, -⟩ := nameB_one hs
  obtain ⟨d, f, -⟩ := nameB_one ht
  unfold nameN
  unfold strLt at h
  rw [ByteArray.toList_eq, ByteArray.toList_eq, e, f] at h
  rw [e, f]
  simp [Op.bytesLess] at h
  rw [UInt8.lt_iff_toNat_lt] at h
  exact h
theorem names_few {t : List File} (h : NAsc t) (hn : ∀ f ∈ t, nameB f.name = true) : t.length ≤ 6 := by
  have := few_below (t.map fun f => nameN f.name) 65 71 (by
    rw [List.pairwise_map]
    exact List.Pairwise.imp_of_mem (fun ha hb k => nameN_lt (hn _ ha) (hn _ hb) k) h) (fun x hx => by
    obtain ⟨f, hf, rfl⟩ := List.mem_map.1 hx
    obtain ⟨c, e, h1, h2⟩ := nameB_one (hn f hf)
    unfold nameN; rw [e]
    exact ⟨h1, by show c.toNat < 71; omega⟩)
  simpa using this
theorem TreeOK.mk' {t : List File} (h : NAsc t) (h2 : ∀ f ∈ t, nameB f.name = true ∧ SibsOK f.sibs) : TreeOK t :=
  ⟨fun i hi => (h2 _ (List.getElem_mem hi)).1, fun i hi => (h2 _ (List.getElem_mem hi)).2, pw_asc h, names_few h fun f hf => (h2 f hf).1⟩
theorem TreeOK.nil : TreeOK [] := TreeOK.mk' List.Pairwise.nil (fun _ h => (by cases h))
theorem TreeOK.put {t : List File} (h : TreeOK t) {f : File} (h1 : nameB f.name = true) (h2 : SibsOK f.sibs) : TreeOK (tput f t) :=
  TreeOK.mk' (tput_asc f t h.up) fun g hg => by rcases tput_mem f t g hg with rfl | hg; exact ⟨h1, h2⟩; exact ⟨h.nam g hg, h.sib g hg⟩

/-- What both TreeMerges answer. -/
noncomputable def mergeTZ (a b : List File) : List File × Bool := if treeB a && treeB b && treeB (mergeT a b) then (mergeT a b, true) else ([], false)
theorem mergeTZ_yes {a b : List File} (ha : TreeOK a) (hb : TreeOK b) (h : TreeOK (mergeT a b)) : mergeTZ a b = (mergeT a b, true) := by
  unfold mergeTZ; rw [treeB_true ha, treeB_true hb, treeB_true h]; rfl
theorem mergeTZ_ok {a b m : List File} (h : mergeTZ a b = (m, true)) : TreeOK a ∧ TreeOK b ∧ TreeOK m ∧ m = mergeT a b := by
  unfold mergeTZ at h
  split at h
  · rename_i k
    simp only [Bool.and_eq_true] at k
    simp only [Prod.mk.injEq, and_true] at h
    subst h
    exact ⟨TreeOK.of k.1.1, TreeOK.of k.1.2, TreeOK.of k.2, rfl⟩
  · simp at h
theorem both_law {a b m : List File} (h : mergeTZ a b = (m, true)) : mergeTZ b a = (m, true) ∧ mergeTZ a a = (a, true) ∧ mergeTZ a [] = (a, true) ∧ mergeTZ m a = (m, true) := by
  obtain ⟨ha, hb, hm, rfl⟩ := mergeTZ_ok h
  refine ⟨?_, ?_, ?_, ?_⟩
  · have e := mergeT_comm hb.tlok ha.tlok
    rw [mergeTZ_yes hb ha (by rw [e]; exact hm), e]
  · have e := mergeT_self ha.tlok
    rw [mergeTZ_yes ha ha (by rw [e]; exact ha), e]
  · exact mergeTZ_yes ha TreeOK.nil ha
  · have e := mergeT_again ha.tlok hb.tlok
    rw [mergeTZ_yes hm ha (by rw [e]; exact hm), e]
theorem three_law {a b d m x y z : List File} (h : mergeTZ a b = (m, true)) (h1 : mergeTZ m d = (x, true)) (h2 : mergeTZ b d = (y, true)) (h3 : mergeTZ a y = (z, true)) : z = x := by
  obtain ⟨ha, hb, hm, rfl⟩ := mergeTZ_ok h
  obtain ⟨-, hd, -, rfl⟩ := mergeTZ_ok h1
  obtain ⟨-, -, -, rfl⟩ := mergeTZ_ok h2
  obtain ⟨-, -, -, rfl⟩ := mergeTZ_ok h3
  exact (mergeT_assoc ha.tlok hb.tlok hd.tlok).symm

/-- What SibsMerge answers. -/
noncomputable def mergeSZ (a b : List Sib) : List Sib × Bool := if sibsB a && sibsB b && sibsB (mergeL a b) then (mergeL a b, true) else ([], false)
theorem atZ_of {t : List File} (h : TreeOK t) (n : ByteArray) : atZ n t = atL n t := by unfold atZ; rw [if_pos (treeB_true h)]
theorem file_law {a b m : List File} (h : mergeTZ a b = (m, true)) (n : ByteArray) :
    ((mergeSZ (atZ n a) (atZ n b)).2 = true → atZ n m = (mergeSZ (atZ n a) (atZ n b)).1) ∧ ((mergeSZ (atZ n a) (atZ n b)).2 = false → atZ n m = atZ n a ++ atZ n b) := by
  obtain ⟨ha, hb, hm, rfl⟩ := mergeTZ_ok h
  rw [atZ_of ha, atZ_of hb, atZ_of hm, (mergeT_spec ha.tlok hb.tlok).2]
  unfold mergeSZ
  constructor
  · intro h
    split at h
    · rw [if_pos ‹_›]
    · cases h
  · intro h
    split at h
    · cases h
    · rename_i k
      rcases atL_ok ha n with ea | ea
      · rw [ea, nil_mergeL (hb.tlok.at_ n)]; rfl
      · rcases atL_ok hb n with eb | eb
        · rw [eb, mergeL_nil (ha.tlok.at_ n)]; simp
        · have hmm := atL_ok hm n
          rw [(mergeT_spec ha.tlok hb.tlok).2] at hmm
          have hne := mergeL_some ea.lok eb.lok (.inl ea.ne)
          rcases hmm with e | e
          · exact absurd e hne
          · rw [sibsB_true ea, sibsB_true eb, sibsB_true e] at k
            simp at k
end Go.Proofs.YtdidkfadiaafiaaGreatDoor

namespace Go.Proofs.YtdidkfadiaafiaaGreatDoor
open Go Go.RowKit

def joinV (a b : List Int) : List Int := List.zipWith max a b
def vvOf (l : List Sib) : List Int := l.foldl (fun o s => joinV o s.vv) [0, 0, 0]
theorem vvOf_take {l : List Sib} {k : Nat} (h : k < l.length) : vvOf (l.take (k + 1)) = joinV (vvOf (l.take k)) l[k].vv := by
  unfold vvOf
  rw [List.take_succ_eq_append_getElem h, List.foldl_append]; rfl
theorem joinV_len {a b : List Int} (h : a.length = b.length) : (joinV a b).length = a.length := by simp [joinV, h]
theorem joinV_left : ∀ {a b : List Int}, a.length = b.length → vvInL a (joinV a b) = true
  | [], [], _ => rfl
  | [], _ :: _, h => by simp at h
  | _ :: _, [], h => by simp at h
  | x :: p, y :: q, h => by
    have ih := joinV_left (a := p) (b := q) (by simpa using h)
    simp only [joinV, List.zipWith_cons_cons, vvInL, Bool.and_eq_true, decide_eq_true_eq]
    exact ⟨by omega, ih⟩
theorem joinV_right : ∀ {a b : List Int}, a.length = b.length → vvInL b (joinV a b) = true
  | [], [], _ => rfl
  | [], _ :: _, h => by simp at h
  | _ :: _, [], h => by simp at h
  | x :: p, y :: q, h => by
    have ih := joinV_right (a := p) (b := q) (by simpa using h)
    simp only [joinV, List.zipWith_cons_cons, vvInL, Bool.and_eq_true, decide_eq_true_eq]
    exact ⟨by omega, ih⟩
theorem joinV_in : ∀ {a b : List Int}, (∀ x ∈ a, 0 ≤ x ∧ x ≤ 30) → (∀ x ∈ b, 0 ≤ x ∧ x ≤ 30) → ∀ x ∈ joinV a b, 0 ≤ x ∧ x ≤ 30
  | [], _, _, _ => by simp [joinV]
  | _ :: _, [], _, _ => by simp [joinV]
  | x :: p, y :: q, h, k => by
    have ih := joinV_in (a := p) (b := q) (fun z hz => h z (List.mem_cons_of_mem _ hz)) (fun z hz => k z (List.mem_cons_of_mem _ hz))
    intro z hz
    simp only [joinV, List.zipWith_cons_cons, List.mem_cons] at hz
    rcases hz with rfl | hz
    · have h1 := h x List.mem_cons_self
      have h2 := k y List.mem_cons_self
      omega
    · exact ih z hz
theorem vvB_iff {v : List Int} : vvB v = true ↔ v.length = 3 ∧ ∀ x ∈ v, 0 ≤ x ∧ x ≤ 30 := by
  simp only [vvB, Bool.and_eq_true, List.all_eq_true, decide_eq_true_eq]
  exact And.comm
theorem sibB_vv {s : Sib} (h : sibB s = true) : vvB s.vv = true := by simp only [sibB, Bool.and_eq_true] at h; exact h.1.1
theorem vvOf_spec (l : List Sib) : ∀ (o : List Int), vvB o = true → (∀ s ∈ l, vvB s.vv = true) →
    vvB (l.foldl (fun o s => joinV o s.vv) o) = true ∧ vvInL o (l.foldl (fun o s => joinV o s.vv) o) = true ∧ ∀ s ∈ l, vvInL s.vv (l.foldl (fun o s => joinV o s.vv) o) = true := by
  induction l with
  | nil => intro o h _; exact ⟨h, vvInL_refl o, fun _ h => by cases h⟩
  | cons s l ih =>
    intro o ho hs
    obtain ⟨o1, o2⟩ := vvB_iff.1 ho
    obtain ⟨s1, s2⟩ := vvB_iff.1 (hs s List.mem_cons_self)
    have hlen := joinV_len (a := o) (b := s.vv) (by omega)
    have hj : vvB (joinV o s.vv) = true := vvB_iff.2 ⟨by omega, joinV_in o2 s2⟩
    obtain ⟨i1, i2, i3⟩ := ih (joinV o s.vv) hj (fun x hx => hs x (List.mem_cons_of_mem _ hx))
    have hf := (vvB_iff.1 i1).1
    rw [List.foldl_cons]
    refine ⟨i1, vvInL_trans _ _ _ (by omega) (by omega) (joinV_left (by omega)) i2, fun x hx => ?_⟩
    rcases List.mem_cons.1 hx with rfl | hx
    · exact vvInL_trans _ _ _ (by omega) (by omega) (joinV_right (by omega)) i2
    · exact i3 x hx
theorem SibsOK.each' {l : List Sib} (h : SibsOK l) : ∀ s ∈ l, sibB s = true := fun s hs => by obtain ⟨i, hi, rfl⟩ := List.getElem_of_mem hs; exact h.each i hi
theorem vvOf_ok {l : List Sib} (h : l = [] ∨ SibsOK l) : vvB (vvOf l) = true ∧ ∀ s ∈ l, vvInL s.vv (vvOf l) = true := by
  have := vvOf_spec l [0, 0, 0] (by decide) (fun s hs => by
    rcases h with rfl | h
    · cases hs
    · exact sibB_vv (h.each' s hs))
  exact ⟨this.1, this.2.2⟩

/-! One write more of a site. -/
def siteN (site : Int) : Nat := (site - 1).toNat
def nextOK (v : List Int) (site : Int) : Bool := vvB v && decide (1 ≤ site ∧ site ≤ 3) && !decide (v.getD (siteN site) 0 = 30)
def nextV (v : List Int) (site : Int) : List Int := v.set (siteN site) (v.getD (siteN site) 0 + 1)
theorem nextOK_iff {v : List Int} {site : Int} : nextOK v site = true ↔ vvB v = true ∧ (1 ≤ site ∧ site ≤ 3) ∧ ¬ v.getD (siteN site) 0 = 30 := by
  simp only [nextOK, Bool.and_eq_true, decide_eq_true_eq, Bool.not_eq_true', decide_eq_false_iff_not, and_assoc]
theorem vv3 {v : List Int} (h : vvB v = true) : ∃ a b d, v = [a, b, d] ∧ (0 ≤ a ∧ a ≤ 30) ∧ (0 ≤ b ∧ b ≤ 30) ∧ (0 ≤ d ∧ d ≤ 30) := by
  obtain ⟨h1, h2⟩ := vvB_iff.1 h
  match v, h1, h2 with
  | [a, b, d], _, h2 => exact ⟨a, b, d, rfl, h2 a (by simp), h2 b (by simp), h2 d (by simp)⟩
theorem site3 {site : Int} (h : 1 ≤ site ∧ site ≤ 3) : (site = 1 ∧ siteN site = 0) ∨ (site = 2 ∧ siteN site = 1) ∨ (site = 3 ∧ siteN site = 2) := by
  unfold siteN; omega
theorem next_ok {v : List Int} {site : Int} (h : nextOK v site = true) : vvB (nextV v site) = true ∧ vvInL v (nextV v site) = true ∧ v ≠ nextV v site := by
  obtain ⟨h1, h2, h3⟩ := nextOK_iff.1 h
  obtain ⟨a, b, d, rfl, ha, hb, hd⟩ := vv3 h1
  unfold nextV
  rcases site3 h2 with ⟨-, e⟩ | ⟨-, e⟩ | ⟨-, e⟩
  all_goals
    rw [e] at h3 ⊢
    simp at h3 ⊢
    simp [vvB, vvInL]
    omega
theorem next_apart {v : List Int} {s1 s2 : Int} (h1 : nextOK v s1 = true) (h2 : nextOK v s2 = true) (h : s1 ≠ s2) : vvInL (nextV v s1) (nextV v s2) = false := by
  obtain ⟨a1, a2, a3⟩ := nextOK_iff.1 h1
  obtain ⟨b1, b2, b3⟩ := nextOK_iff.1 h2
  obtain ⟨a, b, d, rfl, ha, hb, hd⟩ := vv3 a1
  unfold nextV
  rcases site3 a2 with ⟨q1, e⟩ | ⟨q1, e⟩ | ⟨q1, e⟩ <;> rcases site3 b2 with ⟨q2, f⟩ | ⟨q2, f⟩ | ⟨q2, f⟩
  all_goals
    rw [e, f]
    simp [vvInL]
    try omega

/-! Writing. -/
def newSib (t : List File) (site : Int) (n : ByteArray) (g : Bool) (x : ByteArray) : Sib := ⟨nextV (vvOf (atL n t)) site, g, x⟩
noncomputable def writeOK (t : List File) (site : Int) (n : ByteArray) (g : Bool) (x : ByteArray) : Bool :=
  nextOK (vvOf (atL n t)) site && nameB n && sibB (newSib t site n g x) && !(g && decide ((atL n t).length = 0))
def writeT (t : List File) (site : Int) (n : ByteArray) (g : Bool) (x : ByteArray) : List File := tput ⟨n, [newSib t site n g x]⟩ t
/-- What both TreeWrites answer. -/
noncomputable def writeZ (t : List File) (site : Int) (n : ByteArray) (g : Bool) (x : ByteArray) : List File × Bool :=
  if treeB t then if writeOK t site n g x then (writeT t site n g x, true) else (t, false) else ([], false)

theorem sibsOK_one {s : Sib} (h : sibB s = true) : SibsOK [s] :=
  ⟨fun i hi => by simp at hi; subst hi; exact h, fun i hi => by simp at hi, fun a ha b hb => by simp at ha hb; subst ha hb; exact supB_self _, by simp, by simp⟩
theorem writeOK_iff {t : List File} {site : Int} {n : ByteArray} {g : Bool} {x : ByteArray} : writeOK t site n g x = true ↔ nextOK (vvOf (atL n t)) site = true ∧ nameB n = true ∧ sibB (newSib t site n g x) = true ∧ ¬ (g = true ∧ (atL n t).length = 0) := by
  simp only [writeOK, Bool.and_eq_true, Bool.not_eq_true', Bool.and_eq_false_iff, decide_eq_false_iff_not, and_assoc]
  cases g <;> simp
theorem writeZ_ok {t x : List File} {site : Int} {n : ByteArray} {g : Bool} {s : ByteArray} (h : writeZ t site n g s = (x, true)) : TreeOK t ∧ writeOK t site n g s = true ∧ x = writeT t site n g s := by
  unfold writeZ at h
  split at h
  · rename_i k
    split at h
    · simp only [Prod.mk.injEq, and_true] at h
      exact ⟨TreeOK.of k, ‹_›, h.symm⟩
    · simp at h
  · simp at h
theorem writeZ_yes {t : List File} {site : Int} {n : ByteArray} {g : Bool} {s : ByteArray} (h : TreeOK t) (k : writeOK t site n g s = true) : writeZ t site n g s = (writeT t site n g s, true) := by
  unfold writeZ; rw [if_pos (treeB_true h), if_pos k]
theorem write_tree {t : List File} {site : Int} {n : ByteArray} {g : Bool} {s : ByteArray} (h : TreeOK t) (k : writeOK t site n g s = true) : TreeOK (writeT t site n g s) := by
  obtain ⟨-, k2, k3, -⟩ := writeOK_iff.1 k
  exact h.put k2 (sibsOK_one k3)
theorem write_at {t : List File} (site : Int) (n : ByteArray) (g : Bool) (s : ByteArray) (h : TreeOK t) (m : ByteArray) : atL m (writeT t site n g s) = if n = m then [newSib t site n g s] else atL m t := by
  unfold writeT; rw [atL_tput m _ h.up]
theorem new_knows {t : List File} {site : Int} {n : ByteArray} {g : Bool} {s : ByteArray} (h : TreeOK t) (k : writeOK t site n g s = true) : ∀ a ∈ atL n t, supB a (newSib t site n g s) = true := by
  obtain ⟨k1, -, -, -⟩ := writeOK_iff.1 k
  obtain ⟨v1, v2⟩ := vvOf_ok (atL_ok h n)
  obtain ⟨n1, n2, n3⟩ := next_ok k1
  intro a ha
  have hl := (atL_ok h n).resolve_left (by rintro e; rw [e] at ha; cases ha)
  have ha3 := hl.lok.v3 a ha
  have h3 := (vvB_iff.1 v1).1
  have h4 := (vvB_iff.1 n1).1
  rw [supB_iff]
  refine ⟨vvInL_trans _ _ _ (by omega) (by show (vvOf (atL n t)).length = (nextV (vvOf (atL n t)) site).length; omega) (v2 a ha) n2, fun e => n3 ?_⟩
  have e' : a.vv = nextV (vvOf (atL n t)) site := e
  exact vvInL_len _ _ (by omega) n2 (by rw [← e']; exact v2 a ha)
theorem writeMerge_law {t x : List File} {site : Int} {n : ByteArray} {g : Bool} {s : ByteArray} (h : writeZ t site n g s = (x, true)) : mergeTZ t x = (x, true) := by
  obtain ⟨ht, hk, rfl⟩ := writeZ_ok h
  have hx := write_tree ht hk
  have e : mergeT t (writeT t site n g s) = writeT t site n g s := by
    refine (mergeT_spec ht.tlok hx.tlok).1.ext hx.tlok fun m => ?_
    rw [(mergeT_spec ht.tlok hx.tlok).2, write_at site n g s ht]
    by_cases e : n = m
    · subst e
      rw [if_pos rfl]
      have hs := (sibsOK_one (writeOK_iff.1 hk).2.2.1).lok
      have ha := ht.tlok.at_ n
      refine (mergeL_asc _ ha.asc).ext hs.asc fun y => ?_
      rw [mergeL_iff ha.asc]
      have kn := new_knows ht hk
      generalize newSib t site n g s = z at *
      simp only [List.mem_singleton]
      constructor
      · rintro ⟨h1 | h1, h2⟩
        · have := h2 z (.inr rfl)
          rw [kn y h1] at this; cases this
        · exact h1
      · rintro rfl
        refine ⟨.inr rfl, fun a hy => ?_⟩
        rcases hy with hy | rfl
        · exact sup_asym (ha.v3 a hy) (hs.v3 _ (List.mem_singleton.2 rfl)) (kn a hy)
        · exact supB_self _
    · rw [if_neg e, mergeL_self (ht.tlok.at_ m)]
  rw [mergeTZ_yes ht hx (by rw [e]; exact hx), e]
theorem writeApart_law {t x y : List File} {s1 s2 : Int} {n : ByteArray} {g1 g2 : Bool} {x1 x2 : ByteArray} (h1 : writeZ t s1 n g1 x1 = (x, true)) (h2 : writeZ t s2 n g2 x2 = (y, true)) (hne : s1 ≠ s2) :
    ∃ m, mergeTZ x y = (m, true) ∧ (atL n m).length = 2 ∧ atL n x = [newSib t s1 n g1 x1] ∧ atL n y = [newSib t s2 n g2 x2] ∧ newSib t s1 n g1 x1 ∈ atL n m ∧ newSib t s2 n g2 x2 ∈ atL n m := by
  obtain ⟨ht, hk, rfl⟩ := writeZ_ok h1
  obtain ⟨-, hj, rfl⟩ := writeZ_ok h2
  have hx := write_tree ht hk
  have hy := write_tree ht hj
  have ax := write_at s1 n g1 x1 ht n
  have ay := write_at s2 n g2 x2 ht n
  rw [if_pos rfl] at ax ay
  have oa := (writeOK_iff.1 hk).2.2.1
  have ob := (writeOK_iff.1 hj).2.2.1
  have n1 := (writeOK_iff.1 hk).1
  have n2 := (writeOK_iff.1 hj).1
  have na : supB (newSib t s1 n g1 x1) (newSib t s2 n g2 x2) = false := by
    rw [← Bool.not_eq_true, supB_iff]; rintro ⟨q, -⟩
    rw [show vvInL (newSib t s1 n g1 x1).vv (newSib t s2 n g2 x2).vv = false from next_apart n1 n2 hne] at q; cases q
  have nb : supB (newSib t s2 n g2 x2) (newSib t s1 n g1 x1) = false := by
    rw [← Bool.not_eq_true, supB_iff]; rintro ⟨q, -⟩
    rw [show vvInL (newSib t s2 n g2 x2).vv (newSib t s1 n g1 x1).vv = false from next_apart n2 n1 (Ne.symm hne)] at q; cases q
  have hab : newSib t s1 n g1 x1 ≠ newSib t s2 n g2 x2 := by
    intro e
    have := next_apart n1 n2 hne
    rw [show nextV (vvOf (atL n t)) s1 = nextV (vvOf (atL n t)) s2 from congrArg Sib.vv e, vvInL_refl] at this
    cases this
  generalize newSib t s1 n g1 x1 = a at *
  generalize newSib t s2 n g2 x2 = b at *
  have la := (sibsOK_one oa).lok
  have lb := (sibsOK_one ob).lok
  have sp := mergeT_spec hx.tlok hy.tlok
  have hm : ∀ z, z ∈ mergeL [a] [b] ↔ z = a ∨ z = b := by
    intro z
    rw [mergeL_iff la.asc]
    simp only [List.mem_singleton]
    constructor
    · exact fun h => h.1
    · intro h
      refine ⟨h, fun y hy => ?_⟩
      rcases h with rfl | rfl <;> rcases hy with rfl | rfl
      · exact supB_self _
      · exact na
      · exact nb
      · exact supB_self _
  have ml : LOK (mergeL [a] [b]) := la.merge lb
  have hlen : mergeL [a] [b] = [a, b] ∨ mergeL [a] [b] = [b, a] := by
    have tri : cmpSib a b < 0 ∨ cmpSib b a < 0 := by
      have h0 : cmpSib a b ≠ 0 := fun e => hab ((cmpSib_TO.zero a b).1 e)
      have := cmpSib_TO.anti a b
      omega
    rcases tri with h | h
    · left
      exact ml.asc.ext (by simp [Asc, h]) (fun z => by rw [hm]; simp)
    · right
      exact ml.asc.ext (by simp [Asc, h]) (fun z => by rw [hm]; simp [or_comm])
  have hl2 : (mergeL [a] [b]).length = 2 := by rcases hlen with e | e <;> rw [e] <;> rfl
  have hsok : SibsOK (mergeL [a] [b]) := ⟨fun i hi => by
    rcases (hm _).1 (List.getElem_mem hi) with e | e <;> rw [e] <;> assumption, pw_asc ml.asc, ml.free, by omega, by omega⟩
  have hmt : TreeOK (mergeT (writeT t s1 n g1 x1) (writeT t s2 n g2 x2)) := by
    refine TreeOK.mk' sp.1.asc fun f hf => ?_
    have e1 := atL_mem sp.1.asc hf
    have hne2 := (sp.1.each f hf).2
    rw [sp.2] at e1
    by_cases e : n = f.name
    · refine ⟨by rw [← e]; exact (writeOK_iff.1 hk).2.1, ?_⟩
      rw [← e1, ← e, ax, ay]; exact hsok
    · have w1 := write_at s1 n g1 x1 ht f.name
      have w2 := write_at s2 n g2 x2 ht f.name
      rw [if_neg e] at w1 w2
      rw [w1, w2, mergeL_self (ht.tlok.at_ _)] at e1
      obtain ⟨u, hu, u1, u2⟩ := atL_some (n := f.name) (t := t) (by rw [e1]; exact hne2)
      exact ⟨by rw [← u1]; exact ht.nam u hu, by rw [← e1, ← u2]; exact ht.sib u hu⟩
  refine ⟨_, mergeTZ_yes hx hy hmt, ?_, ax, ay, ?_, ?_⟩
  · rw [sp.2, ax, ay]; exact hl2
  · rw [sp.2, ax, ay, hm]; exact .inl rfl
  · rw [sp.2, ax, ay, hm]; exact .inr rfl
theorem writeOK_other {t : List File} {s1 s2 : Int} {n m : ByteArray} {g1 g2 : Bool} {x1 x2 : ByteArray} (h : TreeOK t) (hne : m ≠ n) : writeOK (writeT t s1 n g1 x1) s2 m g2 x2 = writeOK t s2 m g2 x2 ∧ newSib (writeT t s1 n g1 x1) s2 m g2 x2 = newSib t s2 m g2 x2 := by
  have e := write_at s1 n g1 x1 h m
  rw [if_neg (Ne.symm hne)] at e
  unfold writeOK newSib
  rw [e]
  exact ⟨rfl, rfl⟩
theorem writeTwo_law {t x : List File} {s1 s2 : Int} {n m : ByteArray} {g1 g2 : Bool} {x1 x2 : ByteArray} (h : writeZ t s1 n g1 x1 = (x, true)) (hne : m ≠ n) :
    (writeZ x s2 m g2 x2).2 = (writeZ t s2 m g2 x2).2 ∧ ((writeZ x s2 m g2 x2).2 = true → writeZ (writeZ t s2 m g2 x2).1 s1 n g1 x1 = ((writeZ x s2 m g2 x2).1, true)) := by
  obtain ⟨ht, hk, rfl⟩ := writeZ_ok h
  have hx := write_tree ht hk
  obtain ⟨o1, o2⟩ := writeOK_other (s1 := s1) (s2 := s2) (g1 := g1) (g2 := g2) (x1 := x1) (x2 := x2) ht hne
  unfold writeZ
  rw [if_pos (treeB_true hx), if_pos (treeB_true ht), o1]
  cases hj : writeOK t s2 m g2 x2 with
  | false => exact ⟨rfl, fun h => by cases h⟩
  | true =>
    have hz := write_tree ht hj
    obtain ⟨p1, p2⟩ := writeOK_other (s1 := s2) (s2 := s1) (g1 := g2) (g2 := g1) (x1 := x2) (x2 := x1) ht (Ne.symm hne)
    refine ⟨rfl, fun _ => ?_⟩
    simp only [if_true]
    rw [if_pos (treeB_true hz), p1, hk, if_pos rfl]
    simp only [Prod.mk.injEq, and_true]
    have hb : writeOK (writeT t s2 m g2 x2) s1 n g1 x1 = true := by rw [p1]; exact hk
    have hd : writeOK (writeT t s1 n g1 x1) s2 m g2 x2 = true := by rw [o1]; exact hj
    refine (write_tree hz hb).tlok.ext (write_tree hx hd).tlok fun q => ?_
    rw [write_at _ _ _ _ hz, write_at _ _ _ _ hx, write_at _ _ _ _ ht, write_at _ _ _ _ ht, o2, p2]
    by_cases e1 : n = q
    · subst e1; rw [if_pos rfl, if_neg hne, if_pos rfl]
    · rw [if_neg e1]
      by_cases e2 : m = q
      · rw [if_pos e2, if_pos e2]
      · rw [if_neg e2, if_neg e2, if_neg e1]
theorem write_can {t : List File} {site : Int} {n : ByteArray} {g : Bool} {s : ByteArray} (h : TreeOK t) :
    writeOK t site n g s = (nextOK (vvOf (atL n t)) site && nameB n && sibB ⟨vvOf (atL n t), g, s⟩ && (!g || !decide ((atL n t).length = 0))) := by
  unfold writeOK newSib
  cases hn : nextOK (vvOf (atL n t)) site with
  | false => rfl
  | true =>
    have h1 := (next_ok hn).1
    have h2 := (vvOf_ok (atL_ok h n)).1
    simp only [sibB, h1, h2]
    cases g <;> simp
end Go.Proofs.YtdidkfadiaafiaaGreatDoor

namespace Go.Proofs.YtdidkfadiaafiaaGreatDoor
open Go Go.RowKit

theorem tput_found (f : File) : ∀ {t : List File} {i : Nat} (hi : i < t.length), (∀ j (h : j < t.length), j < i → strLt t[j].name f.name = true) → t[i].name = f.name → tput f t = t.set i f
  | g :: r, 0, hi, _, h2 => by
    have h2' : g.name = f.name := h2
    unfold tput
    rw [if_neg (by rw [h2', strLt_irr]; simp), if_pos h2']; rfl
  | g :: r, i + 1, hi, h1, h2 => by
    have h0 : strLt g.name f.name = true := h1 0 (by simp) (by omega)
    unfold tput
    rw [if_pos h0, tput_found f (t := r) (i := i) (by simpa using hi) (fun j h hj => by have := h1 (j + 1) (by simpa using h) (by omega); simpa using this) (by simpa using h2)]
    rfl
theorem tput_new (f : File) : ∀ {t : List File} {i : Nat} (_ : i ≤ t.length), (∀ j (h : j < t.length), j < i → strLt t[j].name f.name = true) → (∀ (h : i < t.length), strLt t[i].name f.name = false ∧ t[i].name ≠ f.name) → tput f t = t.take i ++ f :: t.drop i
  | [], i, hi, _, _ => by simp [tput]
  | g :: r, 0, hi, _, h2 => by
    obtain ⟨a, b⟩ := h2 (by simp)
    have a' : strLt g.name f.name = false := a
    have b' : g.name ≠ f.name := b
    unfold tput
    rw [if_neg (by rw [a']; simp), if_neg b']; rfl
  | g :: r, i + 1, hi, h1, h2 => by
    have h0 : strLt g.name f.name = true := h1 0 (by simp) (by omega)
    unfold tput
    rw [if_pos h0, tput_new f (t := r) (i := i) (by simpa using hi) (fun j h hj => by have := h1 (j + 1) (by simpa using h) (by omega); simpa using this) (fun h => by have := h2 (by simpa using h); simpa using this)]
    rfl

section
variable {α : Type}
/-- The reference's round of putting. -/
def tpStep (nm : α → ByteArray) (f : α) (r : List α × Bool) (g : α) : List α × Bool :=
  ((if !r.2 && !strLt (nm g) (nm f) then r.1 ++ [f] else r.1) ++ (if nm g = nm f then [] else [g]), r.2 || !strLt (nm g) (nm f))
def tpSt (nm : α → ByteArray) (f : α) (l : List α) : List α × Bool := l.foldl (tpStep nm f) ([], false)
def tpL (nm : α → ByteArray) (f : α) (l : List α) : List α := if (tpSt nm f l).2 then (tpSt nm f l).1 else (tpSt nm f l).1 ++ [f]
theorem tpSt_take {nm : α → ByteArray} {f : α} {l : List α} {k : Nat} (h : k < l.length) : tpSt nm f (l.take (k + 1)) = tpStep nm f (tpSt nm f (l.take k)) l[k] := by
  unfold tpSt
  rw [List.take_succ_eq_append_getElem h, List.foldl_append]; rfl
theorem tpSt_len (nm : α → ByteArray) (f : α) (l : List α) : (tpSt nm f l).1.length ≤ l.length + (tpSt nm f l).2.toNat := by
  have key : ∀ (l : List α) (r : List α × Bool), (l.foldl (tpStep nm f) r).1.length + r.2.toNat ≤ r.1.length + l.length + (l.foldl (tpStep nm f) r).2.toNat := by
    intro l
    induction l with
    | nil => intro r; simp
    | cons x l ih =>
      intro r
      have h := ih (tpStep nm f r x)
      rw [List.foldl_cons]
      obtain ⟨o, p⟩ := r
      have hs : (tpStep nm f (o, p) x).1.length + p.toNat ≤ o.length + 1 + (tpStep nm f (o, p) x).2.toNat := by
        unfold tpStep
        cases p <;> cases strLt (nm x) (nm f) <;> by_cases e : nm x = nm f <;> simp [e]
      simp only [List.length_cons]
      omega
  have := key l ([], false)
  simpa [tpSt] using this
theorem tpL_len (nm : α → ByteArray) (f : α) (l : List α) : (tpL nm f l).length ≤ l.length + 1 := by
  have := tpSt_len nm f l
  unfold tpL
  cases h : (tpSt nm f l).2 <;> simp [h] at this ⊢ <;> omega
theorem tpSt_mem (nm : α → ByteArray) (f : α) (l : List α) : ∀ y ∈ (tpSt nm f l).1, y = f ∨ y ∈ l := by
  have key : ∀ (l : List α) (r : List α × Bool), ∀ y ∈ (l.foldl (tpStep nm f) r).1, y ∈ r.1 ∨ y = f ∨ y ∈ l := by
    intro l
    induction l with
    | nil => intro r y hy; exact .inl hy
    | cons x l ih =>
      intro r y hy
      rw [List.foldl_cons] at hy
      rcases ih _ y hy with h | h | h
      · unfold tpStep at h
        simp only at h
        rcases List.mem_append.1 h with h | h
        · split at h
          · rcases List.mem_append.1 h with h | h
            · exact .inl h
            · exact .inr (.inl (List.mem_singleton.1 h))
          · exact .inl h
        · split at h
          · cases h
          · exact .inr (.inr (by rw [List.mem_singleton.1 h]; exact List.mem_cons_self))
      · exact .inr (.inl h)
      · exact .inr (.inr (List.mem_cons_of_mem _ h))
  intro y hy
  rcases key l _ y hy with h | h | h
  · cases h
  · exact .inl h
  · exact .inr h
theorem tpL_map {β : Type} (e : α → β) (nm : β → ByteArray) (f : α) (l : List α) : (tpL (fun x => nm (e x)) f l).map e = tpL nm (e f) (l.map e) := by
  have key : ∀ (l : List α) (r : List α × Bool), ((l.foldl (tpStep (fun x => nm (e x)) f) r).1.map e, (l.foldl (tpStep (fun x => nm (e x)) f) r).2) = (l.map e).foldl (tpStep nm (e f)) (r.1.map e, r.2) := by
    intro l
    induction l with
    | nil => intro r; rfl
    | cons x l ih =>
      intro r
      rw [List.foldl_cons, ih, List.map_cons, List.foldl_cons]
      congr 1
      unfold tpStep
      simp only [Prod.mk.injEq, List.map_append, and_true]
      congr 1
      · split <;> simp
      · split <;> simp
  have h := key l ([], false)
  unfold tpL tpSt
  simp only [List.map_nil] at h
  rw [← h]
  simp only
  split <;> simp
end
theorem tpL_tput {f : File} {t : List File} (h : NAsc t) : tpL File.name f t = tput f t := by
  have on : ∀ (l o : List File), (∀ g ∈ l, strLt f.name g.name = true) → l.foldl (tpStep File.name f) (o, true) = (o ++ l, true) := by
    intro l
    induction l with
    | nil => intro o _; simp
    | cons x l ih =>
      intro o hl
      have hx := hl x List.mem_cons_self
      rw [List.foldl_cons]
      have : tpStep File.name f (o, true) x = (o ++ [x], true) := by simp [tpStep, (strLt_ne hx).symm]
      rw [this, ih _ fun g hg => hl g (List.mem_cons_of_mem _ hg)]; simp
  have off : ∀ (l o : List File), NAsc l → (if (l.foldl (tpStep File.name f) (o, false)).2 then (l.foldl (tpStep File.name f) (o, false)).1 else (l.foldl (tpStep File.name f) (o, false)).1 ++ [f]) = o ++ tput f l := by
    intro l
    induction l with
    | nil => intro o _; simp [tput]
    | cons x l ih =>
      intro o hl
      obtain ⟨h1, h2⟩ := List.pairwise_cons.1 hl
      rw [List.foldl_cons]
      unfold tput
      cases c : strLt x.name f.name with
      | true =>
        have : tpStep File.name f (o, false) x = (o ++ [x], false) := by simp [tpStep, c, strLt_ne c]
        rw [this, if_pos rfl, ih _ h2]; simp
      | false =>
        rw [if_neg (by simp : ¬ false = true)]
        by_cases e : x.name = f.name
        · have : tpStep File.name f (o, false) x = (o ++ [f], true) := by simp [tpStep, e, strLt_irr]
          rw [this, on l _ (fun g hg => by rw [← e]; exact h1 g hg), if_pos e]; simp
        · have hf : strLt f.name x.name = true := by
            cases k : strLt f.name x.name with
            | true => rfl
            | false => exact absurd (strLt_tri c k) e
          have : tpStep File.name f (o, false) x = (o ++ [f, x], true) := by simp [tpStep, c, e]
          rw [this, on l _ (fun g hg => strLt_trans hf (h1 g hg)), if_neg e]; simp
  have h2 := off t [] h
  rw [List.nil_append] at h2
  unfold tpL tpSt
  exact h2

/-! Sorted, doubles struck. -/
section
variable {α : Type} (c : α → α → Int)
def ddFrom (p : α) : List α → List α
  | [] => []
  | b :: r => if c b p = 0 then ddFrom b r else b :: ddFrom b r
def dd : List α → List α
  | [] => []
  | a :: r => a :: ddFrom c a r
theorem ddFrom_map {β : Type} (e : α → β) (c : β → β → Int) : ∀ (l : List α) (p : α), (ddFrom (fun x y => c (e x) (e y)) p l).map e = ddFrom c (e p) (l.map e)
  | [], _ => rfl
  | b :: r, p => by
    simp only [ddFrom, List.map_cons]
    split
    · exact ddFrom_map e c r b
    · rw [List.map_cons, ddFrom_map e c r b]
theorem dd_map {β : Type} (e : α → β) (c : β → β → Int) (l : List α) : (dd (fun x y => c (e x) (e y)) l).map e = dd c (l.map e) := by
  cases l with
  | nil => rfl
  | cons a r => simp only [dd, List.map_cons, ddFrom_map]
theorem ddFrom_mem' : ∀ (l : List α) (p : α), ∀ x ∈ ddFrom c p l, x ∈ l
  | [], _, x, h => by cases h
  | b :: r, p, x, h => by
    unfold ddFrom at h
    split at h
    · exact List.mem_cons_of_mem _ (ddFrom_mem' r b x h)
    · rcases List.mem_cons.1 h with rfl | h
      · exact List.mem_cons_self
      · exact List.mem_cons_of_mem _ (ddFrom_mem' r b x h)
theorem dd_mem' (l : List α) : ∀ x ∈ dd c l, x ∈ l := by
  cases l with
  | nil => intro x h; cases h
  | cons a r =>
    intro x h
    rcases List.mem_cons.1 h with rfl | h
    · exact List.mem_cons_self
    · exact List.mem_cons_of_mem _ (ddFrom_mem' c r a x h)
end
theorem ddFrom_spec : ∀ (l : List Sib) (p : Sib), (p :: l).Pairwise (fun a b => ¬ cmpSib b a < 0) → Asc (p :: ddFrom cmpSib p l) ∧ ∀ x, x ∈ p :: ddFrom cmpSib p l ↔ x ∈ p :: l
  | [], p, _ => ⟨by simp [Asc, ddFrom], fun x => Iff.rfl⟩
  | b :: r, p, h => by
    obtain ⟨h1, h2⟩ := List.pairwise_cons.1 h
    obtain ⟨i1, i2⟩ := ddFrom_spec r b h2
    unfold ddFrom
    by_cases e : cmpSib b p = 0
    · have hb := (cmpSib_TO.zero b p).1 e
      subst hb
      rw [if_pos e]
      refine ⟨i1, fun x => ?_⟩
      rw [i2]; simp
    · rw [if_neg e]
      have hpb : cmpSib p b < 0 := by
        have := h1 b List.mem_cons_self
        have := cmpSib_TO.anti p b
        omega
      refine ⟨List.pairwise_cons.2 ⟨fun x hx => ?_, i1⟩, fun x => ?_⟩
      · rcases List.mem_cons.1 hx with rfl | hx'
        · exact hpb
        · exact cmpSib_TO.trans _ _ _ hpb ((List.pairwise_cons.1 i1).1 x hx')
      · rw [List.mem_cons, i2]; simp
theorem dd_all {a b S : List Sib} (ha : Asc a) (hS : S.Pairwise (fun x y => ¬ cmpSib y x < 0)) (hm : ∀ x, x ∈ S ↔ x ∈ a ∨ x ∈ b) : dd cmpSib S = allL a b := by
  obtain ⟨k1, k2⟩ := allL_spec b ha
  cases S with
  | nil =>
    refine Asc.ext List.Pairwise.nil k1 fun x => ?_
    rw [k2, ← hm]; rfl
  | cons p l =>
    obtain ⟨i1, i2⟩ := ddFrom_spec l p hS
    refine Asc.ext i1 k1 fun x => ?_
    show x ∈ p :: ddFrom cmpSib p l ↔ _
    rw [i2, hm, k2]
end Go.Proofs.YtdidkfadiaafiaaGreatDoor
