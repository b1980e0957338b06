/- slices.IndexFunc, slices.ContainsFunc at []impl.Sib, whatever the predicate. -/
import Derived.Test.YtdidkfadiaafiaaGreatDoorVal
namespace Go.Proofs.YtdidkfadiaafiaaGreatDoor
open Go Go.RowKit

/-- What is asked of the predicate: at each element, in each later world. -/
def PredOn (g : Nat) (cap : Array Value) (xs : List LSib) (p : LSib → Bool) (w : World) : Prop :=
  ∀ W x, x ∈ xs → Below w.heap.size w W → Calls Tryz.prog g (#[x.val] ++ cap) W fun e W' => e = .returned (.bool (p x)) ∧ Below W.heap.size W W'

set_option maxRecDepth 100000 in
set_option maxHeartbeats 400000 in
theorem index_sib (g : Nat) (cap : Array Value) (eg : ∀ args w, (callFunc g args).run Tryz.prog w = .ok (.enter g args) w) (x : Loc LSib) (p : LSib → Bool) (w : World) (hx : x.At w) (hp : PredOn g cap x.xs p w) :
    Calls Tryz.prog 114 #[x.val, .func (.func g) #[] cap] w fun e w' => (∃ r : Int, e = .returned (.int .i64 r) ∧ decide (0 ≤ r) = x.xs.any p) ∧ Below w.heap.size w w' := by
  obtain ⟨xa, xc, xs⟩ := x
  simp only [Loc.val]
  have h1 := hx.lenMax
  simp only at h1 hp
  have HP := Lib.hid hp
  clear hp
  go_enter Tryz.func114, Tryz.ntmps114
  go_wp2_with fail
  go_loopw [5, 8] (fun j i wr => ∃ k : Nat, k ≤ xs.length ∧ i = .int .i64 k ∧ xs.any p = (xs.drop k).any p ∧ Below w.heap.size w wr) (fun _ i _ => xs.length - (intOf i).toNat)
  case atStart => exact ⟨0, Nat.zero_le _, rfl, rfl, Below.refl _ _⟩
  case round =>
    obtain ⟨k, hk, rfl, hrel, hb⟩ := hrel
    have HR := Lib.hid hrel
    clear hrel
    by_cases hlt : k < xs.length
    · obtain ⟨a, ao, ha⟩ := hx.place hlt
      simp only at ha
      subst ha
      obtain ⟨c0, c1, c2⟩ := (hx.belowAll hb).sib rfl hlt
      simp only at c0 c1 c2
      have hcall := Lib.hid (HP.out wr xs[k] (List.getElem_mem hlt) hb)
      have HC : Hid ((xs.drop k).any p = (p xs[k] || (xs.drop (k + 1)).any p)) := by
        show _ = _
        rw [List.drop_eq_getElem_cons hlt]; rfl
      cases hpk : p xs[k] with
      | true =>
        rw [hpk] at hcall
        have HK := Lib.hid hpk
        clear hpk
        go_wp2_with fail
        refine hcall.out.mono ?_
        rintro e w' ⟨rfl, hb2⟩
        go_wp2_with fail
        go_ret
        exact ⟨⟨k, rfl, by rw [HR.out, HC.out, HK.out]; simp⟩, hb.trans (hb2.mono hb.size)⟩
      | false =>
        rw [hpk] at hcall
        have HK := Lib.hid hpk
        clear hpk
        go_wp2_with fail
        refine hcall.out.mono ?_
        rintro e w' ⟨rfl, hb2⟩
        go_wp2_with fail
        go_roundw
        case rel => exact ⟨k + 1, by omega, by go_num, by rw [HR.out, HC.out, HK.out]; rfl, hb.trans (hb2.mono hb.size)⟩
        case measure => simp [intOf]; omega
    · have HK := Lib.hid (show k = xs.length by omega)
      go_wp2_with fail
      go_ret
      exact ⟨⟨-1, rfl, by rw [HR.out, List.drop_of_length_le (by rw [HK.out]; exact Nat.le_refl _)]; rfl⟩, hb⟩

set_option maxHeartbeats 400000 in
theorem contains_sib (g : Nat) (cap : Array Value) (eg : ∀ args w, (callFunc g args).run Tryz.prog w = .ok (.enter g args) w) (x : Loc LSib) (p : LSib → Bool) (w : World) (hx : x.At w) (hp : PredOn g cap x.xs p w) :
    Calls Tryz.prog 81 #[x.val, .func (.func g) #[] cap] w fun e w' => e = .returned (.bool (x.xs.any p)) ∧ Below w.heap.size w w' := by
  have h := Lib.hid (index_sib g cap eg x p w hx hp)
  clear hp
  go_enter Tryz.func81, Tryz.ntmps81
  go_wp2_with (go_at_call 114; refine h.out.mono ?_; rintro e w' ⟨⟨r, rfl, hr⟩, hb⟩; have HR := Lib.hid hr; clear hr)
  go_ret
  exact ⟨ret_bool HR.out, hb⟩
end Go.Proofs.YtdidkfadiaafiaaGreatDoor
