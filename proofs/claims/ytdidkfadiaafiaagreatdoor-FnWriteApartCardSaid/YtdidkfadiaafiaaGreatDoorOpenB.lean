/- Arguments opened: what came in as data is located data; bytes. -/
import Derived.Test.YtdidkfadiaafiaaGreatDoorBase
import Derived.Test.YtdidkfadiaafiaaGreatDoorProg
import Derived.ProofKit
import Derived.OpenShut
import Derived.Deep.Slices
import Derived.Deep.Strs
import Derived.Lib.SmallJoins
namespace Go.Proofs.YtdidkfadiaafiaaGreatDoor
open Go Go.RowKit Go.ChangeShapes Go.WideShapes Go.Deep

section
variable {H : Type} {enc : TypeId × Value → H} {P : Program} {w : World} {base : Nat} {spare : Nat → Bool} {held : Bool} {fuel : Nat} {cs : List Value} {x : DataW H × List MemPlace}

theorem open_loc {α : Type} [Dat α] {t e : TypeId} (ht : P.underlying t = some (.slice e)) (hc : P.cellsOf e = Dat.k α)
    (he : ∀ n cs x, DataW.trod enc P w base spare held n e cs = some x → ∃ y : α, cs = Dat.enc y ∧ Dat.At w y)
    (h : DataW.trod enc P w base spare held fuel t cs = some x) : ∃ l : Loc α, cs = [l.val] ∧ l.At w := by
  rcases open_slice ht h with ⟨rfl, _⟩ | ⟨a, len, cap, m, n, D, Pl, rfl, hb, hl, hm, hmm, _, hi⟩
  · exact ⟨⟨none, 0, []⟩, rfl, Nat.le_refl _, Nat.zero_le _, by simp, by simp, by simp⟩
  · have hlm : len ≤ m := by rw [hmm]; split <;> omega
    have key : ∀ i : Fin len, ∃ y : α, w.cells? base (a.add (i * Dat.k α)) (Dat.k α) = some (Dat.enc y) ∧ Dat.At w y := by
      intro i
      obtain ⟨cs', h1, h2⟩ := hi i (by omega)
      obtain ⟨y, rfl, hy⟩ := he _ _ _ h2
      rw [hc] at h1
      exact ⟨y, h1, hy⟩
    have hf := fun i => Classical.choose_spec (key i)
    refine ⟨⟨some a, cap, List.ofFn fun i => Classical.choose (key i)⟩, by simp [Loc.val], by simpa using hl, hm, fun _ => ⟨_, rfl⟩, ?_, ?_⟩
    · intro a' ha i y hy j v hv
      simp only [Option.some.injEq] at ha
      subst ha
      simp only [List.getElem?_ofFn] at hy
      split at hy
      · rename_i hlt
        simp only [Option.some.injEq] at hy
        obtain ⟨_, hcl, hat⟩ := World.cells?_some (hf ⟨i, hlt⟩).1
        have hj : j < Dat.k α := by have := (List.getElem?_eq_some_iff.1 hv).1; rwa [Dat.len] at this
        have := hat j hj
        rw [add_add] at this
        rw [this, hy, hv]
      · cases hy
    · intro y hy
      obtain ⟨i, rfl⟩ := List.mem_ofFn.1 hy
      exact (hf i).2
end

section
variable {H : Type} {enc : TypeId × Value → H} {w : World} {base : Nat} {spare : Nat → Bool} {held : Bool} {fuel : Nat} {cs : List Value} {x : DataW H × List MemPlace}

theorem cellsT_byte : Tryz.prog.cellsOf 5 = 1 := by kernel_rfl

theorem open_bytes (h : DataW.trod enc Tryz.prog w base spare held fuel 33 cs = some x) : ∃ l : Loc UInt8, cs = [l.val] ∧ l.At w := by
  refine open_loc Tryz.underlying33 cellsT_byte (fun n cs x h => ?_) h
  obtain ⟨n, rfl, _, hn⟩ := DataW.trod_int Tryz.underlying5 h
  have hr := bounds_u8 hn
  refine ⟨UInt8.ofNat n.toNat, ?_, trivial⟩
  have : ((UInt8.ofNat n.toNat).toNat : Int) = n := by
    rw [UInt8.toNat_ofNat']; omega
  simp only [Dat.enc, this]

theorem lit_range {n : Int} (h : (Lit.int .i64 n).wf = true) : -9223372036854775808 ≤ n ∧ n ≤ 9223372036854775807 := by
  have := range_i64 (zs := [n]) (by simpa using h) 0
  simpa using this

end
end Go.Proofs.YtdidkfadiaafiaaGreatDoor
