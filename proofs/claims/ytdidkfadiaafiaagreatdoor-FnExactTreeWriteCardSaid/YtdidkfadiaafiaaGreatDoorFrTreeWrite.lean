/- Proved: FnExactTreeWrite: for every argument that is handed in, in whatever memory, the law answers true and what came in reads as it did. Its only condition is the row's own: utf8's two tables hold what the program's text lays into them. -/
import Derived.Test.YtdidkfadiaafiaaGreatDoorRows
import Derived.Test.YtdidkfadiaafiaaGreatDoorTie
import Derived.Test.YtdidkfadiaafiaaGreatDoorCards
import Derived.Test.YtdidkfadiaafiaaGreatDoorWrLaw
import Derived.Test.YtdidkfadiaafiaaGreatDoorOpenF
import Derived.WalkKit
import Derived.ProofKit
import Derived.OpenShut
import Derived.ChangeOld
import Derived.Below
import Derived.LaidMore
import Derived.Lay
import Derived.SevenTiedAt
import Derived.Stop.Joined
namespace Go.Proofs.YtdidkfadiaafiaaGreatDoor
open Go Go.ChangeShapes Go.WideShapes Go.ChangeAt Go.RowKit

namespace fnExactTreeWrite
theorem own : ownKnob Tryz.prog.godebug = none := by kernel_rfl
theorem laidOut : laidOutB Tryz.prog = true := by kernel_rfl

set_option maxRecDepth 100000 in
theorem lifted (os : Os) (started : os.Started) (H : Type) (enc : TypeId × Value → H) :
    ReturnsInHanded {} Tryz.checked os 3 .any (fun w args => (Rows.fnExactTreeWriteSpec.pre enc Tryz.prog Tryz.f3 [] false w args ∧ laidMetH Tryz.prog Rows.fnExactTreeWriteRow.laid w) ∧ sizedMet enc Tryz.prog Tryz.f3 (OpenSpec.ofChange Rows.fnExactTreeWriteSpec) false w args)
      (Rows.fnExactTreeWriteSpec.post enc Tryz.prog Tryz.f3 false true false false) := by
  refine returnsInHanded_of_change_and (C := Tryz.checked) (X := fun w _ => laidMetH Tryz.prog Rows.fnExactTreeWriteRow.laid w) (fun _ _ _ hh h => h.of_heap hh) own started (by kernel_rfl) Tryz.func3
    (ChangeSpec.witness_shaped (enc := enc) (C := Tryz.checked) (os := os) (X := fun w _ => laidMetH Tryz.prog Rows.fnExactTreeWriteRow.laid w) false (World.laidAll Tryz.prog os Rows.fnExactTreeWriteRow.laid) #[.slice none 0 0, .int .i64 0, .string ⟨#[]⟩, .bool false, .string ⟨#[]⟩] 8 (World.laidAll_os _ _ _)
      (World.shaped_of_ZipB (by kernel_rfl) (by kernel_rfl)) (by kernel_rfl) (by kernel_rfl) (by kernel_rfl)
      (by rw [MakeChecks.laidMetH_plain _ _ _ (by kernel_rfl)]; exact laidMet_laidAll _ (by kernel_rfl) (by kernel_rfl))) ?_
  intro W base args ds gs before hval0 hW _ _ hL _
  have hval : ∀ (j : Nat) t v, Tryz.f3.params[j]? = some t → args[j]? = some v → Value.okWide Tryz.prog W .any base t v := hval0
  have hW' := hW
  obtain ⟨p, q, hA0, hV, rfl, hfz, hnd⟩ := hW
  have hA : DataW.TrodAll enc Tryz.prog W 0 (fun _ => true) true Tryz.f3.params.toList args.toList ds p := hA0
  rw [Tryz.params3] at hA hval
  obtain ⟨v0, vs0, d0, ds0, p0, q0, hargs0, rfl, rfl, h0, r0⟩ := trodAll_cons hA
  obtain ⟨v1, vs1, d1, ds1, p1, q1, hargs1, rfl, rfl, h1, r1⟩ := trodAll_cons r0
  obtain ⟨v2, vs2, d2, ds2, p2, q2, hargs2, rfl, rfl, h2, r2⟩ := trodAll_cons r1
  obtain ⟨v3, vs3, d3, ds3, p3, q3, hargs3, rfl, rfl, h3, r3⟩ := trodAll_cons r2
  obtain ⟨v4, vs4, d4, ds4, p4, q4, hargs4, rfl, rfl, h4, r4⟩ := trodAll_cons r3
  obtain ⟨rfl, rfl, rfl⟩ := trodAll_nil r4
  obtain rfl : args = #[v0, v1, v2, v3, v4] := by cases args; simp_all
  obtain ⟨rfl, rfl⟩ := trodVars_none hV
  have k0 := h0
  have lt0 : ∀ x ∈ p0, x.block < W.heap.size := by obtain ⟨m, hm⟩ := k0; exact DataW.trod_lt m _ _ _ hm
  have k1 := h1
  have lt1 : ∀ x ∈ p1, x.block < W.heap.size := by obtain ⟨m, hm⟩ := k1; exact DataW.trod_lt m _ _ _ hm
  have k2 := h2
  have lt2 : ∀ x ∈ p2, x.block < W.heap.size := by obtain ⟨m, hm⟩ := k2; exact DataW.trod_lt m _ _ _ hm
  have k3 := h3
  have lt3 : ∀ x ∈ p3, x.block < W.heap.size := by obtain ⟨m, hm⟩ := k3; exact DataW.trod_lt m _ _ _ hm
  have k4 := h4
  have lt4 : ∀ x ∈ p4, x.block < W.heap.size := by obtain ⟨m, hm⟩ := k4; exact DataW.trod_lt m _ _ _ hm
  obtain ⟨x0, rfl, a0⟩ : ∃ l : Loc LFile, v0 = l.val ∧ l.At W := by
    obtain ⟨av, lv, cv, rfl⟩ := okWide_slice Tryz.underlying22 (hval 0 22 v0 rfl rfl)
    obtain ⟨fuel, hf⟩ := h0
    obtain ⟨l, e, hl⟩ := open_files hf
    exact ⟨l, by simpa [Value.cells] using e, hl⟩
  obtain ⟨x1, rfl, a1⟩ : ∃ l : Int, v1 = .int .i64 l ∧ (-9223372036854775808 ≤ l ∧ l ≤ 9223372036854775807) := by
    obtain ⟨n, rfl⟩ := okWide_int Tryz.underlying3 (hval 1 3 v1 rfl rfl)
    obtain ⟨fuel, hf⟩ := h1
    obtain ⟨n', e, _, hs⟩ := DataW.trod_int Tryz.underlying3 hf
    simp [Value.cells] at e
    subst e
    exact ⟨n, rfl, lit_range hs⟩
  obtain ⟨x2, rfl, a2⟩ : ∃ l : ByteArray, v2 = .string l ∧ l.size ≤ 9223372036854775807 := by
    obtain ⟨s, rfl⟩ := okWide_string Tryz.underlying9 (hval 2 9 v2 rfl rfl)
    obtain ⟨fuel, hf⟩ := h2
    obtain ⟨s', e, _, hs⟩ := DataW.trod_string Tryz.underlying9 hf
    simp [Value.cells] at e
    subst e
    exact ⟨s, rfl, hs⟩
  obtain ⟨x3, rfl, a3⟩ : ∃ l : Bool, v3 = .bool l ∧ True := by
    obtain ⟨n, rfl⟩ := okWide_bool Tryz.underlying4 (hval 3 4 v3 rfl rfl)
    exact ⟨n, rfl, trivial⟩
  obtain ⟨x4, rfl, a4⟩ : ∃ l : ByteArray, v4 = .string l ∧ l.size ≤ 9223372036854775807 := by
    obtain ⟨s, rfl⟩ := okWide_string Tryz.underlying9 (hval 4 9 v4 rfl rfl)
    obtain ⟨fuel, hf⟩ := h4
    obtain ⟨s', e, _, hs⟩ := DataW.trod_string Tryz.underlying9 hf
    simp [Value.cells] at e
    subst e
    exact ⟨s, rfl, hs⟩
  clear hA0 hval0
  refine (exactTreeWrite_walk x0 x1 x2 x3 x4 W a0 a1 a2 a4).mono fun e W' ⟨he, bel⟩ => ?_
  subst he
  exact ⟨_, rfl, _, _, _, [], _, [], hW', trodAll_mk1 (shut_bool Tryz.underlying4 _), (trodAll_cons_mk (Below.trod laidOut (by kernel_rfl) (of_decide_eq_true (by kernel_rfl)) k0 bel lt0) (trodAll_cons_mk (Below.trod laidOut (by kernel_rfl) (of_decide_eq_true (by kernel_rfl)) k1 bel lt1) (trodAll_cons_mk (Below.trod laidOut (by kernel_rfl) (of_decide_eq_true (by kernel_rfl)) k2 bel lt2) (trodAll_cons_mk (Below.trod laidOut (by kernel_rfl) (of_decide_eq_true (by kernel_rfl)) k3 bel lt3) (trodAll_cons_mk (Below.trod laidOut (by kernel_rfl) (of_decide_eq_true (by kernel_rfl)) k4 bel lt4) trodAll_mk0))))), rfl, bel.frame _, fun h => by cases h⟩

theorem over : Rows.fnExactTreeWriteRow.holds Tryz.pinned (OpenSpec.ofChange Rows.fnExactTreeWriteSpec) :=
  OpenClaim.holds_of_wide 3 Tryz.f3 rfl rfl rfl rfl rfl rfl rfl ⟨rfl, rfl, rfl, rfl, rfl⟩ rfl rfl rfl rfl rfl (by kernel_rfl) Tryz.func3 (by kernel_rfl)
    (of_decide_eq_true (by kernel_rfl)) (by unfold Func.isWrapper; first | (rw [if_pos (by decide +kernel)]; kernel_rfl) | (rw [if_neg (by decide +kernel)]; exact ⟨rfl, rfl⟩))
    (fun os started H enc _ => lifted os started H enc)

theorem said : Rows.FnExactTreeWriteSaid := over

theorem card : Rows.FnExactTreeWriteCardSaid :=
  Claim7.holds_tied_plain_at .later [] [.data, .pinned] true _ false said (fun _ h => by cases h) (by kernel_rfl) (fun _ h => by cases h) fnExactTreeWrite_row_tie rfl ⟨rfl, rfl⟩ (by kernel_rfl) rfl
    (fun f fn hf hfn => by
      obtain rfl : f = 3 := Option.some.inj ((show Tryz.prog.funcNamed "loop.example/swathe/laws.FnExactTreeWrite" = some 3 by kernel_rfl).symm.trans hf) |>.symm
      obtain rfl : fn = Tryz.f3 := (Option.some.inj (Tryz.func3.symm.trans hfn)).symm
      exact ⟨by kernel_rfl, fun j t ht => by
        rw [Tryz.params3] at ht
        have hm : t ∈ [22, 3, 9, 4, 9] := by simpa using Array.mem_of_getElem? ht
        have hall : ([22, 3, 9, 4, 9].all fun u => !Tryz.prog.wantsStandIn u) = true := by kernel_rfl
        exact (show Tryz.prog.wantsStandIn t = false by simpa using List.all_eq_true.1 hall t hm)⟩)
    (by kernel_rfl)
#print axioms card
end fnExactTreeWrite
end Go.Proofs.YtdidkfadiaafiaaGreatDoor
