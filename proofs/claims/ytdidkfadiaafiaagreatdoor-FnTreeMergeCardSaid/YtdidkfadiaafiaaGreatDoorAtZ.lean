/- What both TreeAts answer; the program's TreeAt. -/
import Derived.Test.YtdidkfadiaafiaaGreatDoorAt
import Derived.Test.YtdidkfadiaafiaaGreatDoorAnew
import Derived.Test.YtdidkfadiaafiaaGreatDoorCopy
import Derived.Test.YtdidkfadiaafiaaGreatDoorTreeI
namespace Go.Proofs.YtdidkfadiaafiaaGreatDoor
open Go Go.RowKit

theorem atL_ok {t : List File} (h : TreeOK t) (n : ByteArray) : atL n t = [] ∨ SibsOK (atL n t) := by
  have key : ∀ l : List File, (∀ f ∈ l, SibsOK f.sibs) → atL n l = [] ∨ SibsOK (atL n l) := by
    intro l
    induction l with
    | nil => intro _; exact .inl rfl
    | cons f l ih =>
      intro hl
      unfold atL
      split
      · exact .inr (hl f List.mem_cons_self)
      · exact ih fun g hg => hl g (List.mem_cons_of_mem _ hg)
  refine key t fun f hf => ?_
  obtain ⟨i, hi, rfl⟩ := List.getElem_of_mem hf
  exact h.sibs i hi

/-- What both TreeAts answer. -/
noncomputable def atZ (n : ByteArray) (t : List File) : List Sib := if treeB t = true then atL n t else []
theorem atZ_ok (n : ByteArray) (t : List File) : atZ n t = [] ∨ SibsOK (atZ n t) := by
  unfold atZ
  split
  · exact atL_ok (TreeOK.of ‹_›) n
  · exact .inl rfl

set_option maxRecDepth 100000 in
theorem iTreeAt_any (x : Loc LFile) (n : ByteArray) (w : World) (hx : x.At w) :
    Calls Tryz.prog 21 #[x.val, .string n] w (NewPost w (fun ys : List LSib => ys.map LSib.er = atZ n (x.xs.map LFile.er))) := by
  have hc := Lib.hid (isTree_any x w hx)
  generalize hb : treeB (x.xs.map LFile.er) = b at hc
  have HB := Lib.hid hb
  have HX := Lib.hid hx
  clear hb hx
  go_enter Tryz.func21, Tryz.ntmps21
  go_wp2_with fail
  refine hc.out.mono ?_
  rintro e w1 ⟨rfl, hb1⟩
  have HB1 := Lib.hid hb1
  clear hb1
  cases b with
  | false =>
    go_wp2_with fail
    go_ret
    exact ⟨⟨none, 0, []⟩, rfl, by simp [atZ, HB.out], ⟨Nat.le_refl _, Nat.zero_le _, by simp, by simp, by simp⟩, by simpa [Loc.fp, Loc.blk] using Fr.nil _ _, HB1.out⟩
  | true =>
    have hX1 := Loc.At.belowAll HX.out HB1.out
    have HX1 := Lib.hid hX1
    clear hX1
    go_wp2_with fail
    refine (treeAt_any x n w1 HX1.out).mono ?_
    rintro e w2 ⟨rfl, hb2⟩
    have HB2 := Lib.hid (nextB HB1.out hb2)
    have HA2 := Lib.hid (atLoc_At n x.xs fun f hf => Dat.belowAll (HX1.out.elem hf) hb2)
    have hok := Lib.hid (sibsOk_len3 (l := (atLoc n x.xs).xs) (by rw [atLoc_er]; exact atL_ok (TreeOK.of HB.out) n))
    have HE := Lib.hid (atLoc_er n x.xs)
    generalize atLoc n x.xs = y at *
    clear hb2
    go_wp2_with fail
    refine (copySibs_any y w2 HA2.out (by have := hok.out.2; omega) (fun s hs => by have := hok.out.1 s hs; omega)).mono ?_
    rintro e w3 ⟨z, rfl, hz, hzA, hzF, hb3⟩
    have HZ := Lib.hid hz
    have HZA := Lib.hid hzA
    have HZF := Lib.hid hzF
    have HB3 := Lib.hid hb3
    clear hz hzA hzF hb3
    go_wp2_with fail
    go_ret
    refine ⟨z, rfl, ?_, HZA.out, HZF.out.mono HB2.out.size, nextB HB2.out HB3.out⟩
    have := HZ.out
    show z.xs.map LSib.er = atZ n (x.xs.map LFile.er)
    rw [this, HE.out, atZ, if_pos HB.out]

end Go.Proofs.YtdidkfadiaafiaaGreatDoor
