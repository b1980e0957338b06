/- Plain laws of logs: what was cut, freed, added, left. Tools for the walks of the laws over drawn logs. -/
import Derived.Test.YtdbejmnfnbkndaaGreatDoorLogAdd
import Derived.Test.YtdbejmnfnbkndaaGreatDoorLogFree
import Derived.Test.YtdbejmnfnbkndaaGreatDoorLogOk
import Derived.Test.YtdbejmnfnbkndaaGreatDoorDrawL
import Derived.Test.YtdbejmnfnbkndaaGreatDoorLv
import Derived.Test.YtdbejmnfnbkndaaGreatDoorRel
namespace Go.Proofs.YtdbejmnfnbkndaaGreatDoor
open Go Go.RowKit

theorem logB_sub {l : Log} (h : logB l = true) {f : Int} {rs : List Rec} (h0 : 0 ≤ f) (h1 : f ≤ 5000) (h2 : f % 5 = 0) (hl : rs.length ≤ 40) (hs : ∀ r ∈ rs, r ∈ l.recs) : logB ⟨f, rs⟩ = true := by
  have h5 := ((logB_iff l).1 h).2.2.2.2
  refine (logB_iff _).2 ⟨h0, h1, h2, hl, ?_⟩
  unfold recsB at h5 ⊢
  rw [List.all_eq_true] at h5 ⊢
  exact fun r hr => h5 r (hs r hr)
theorem logB_take {l : Log} (h : logB l = true) (n : Nat) : logB ⟨l.from_, l.recs.take n⟩ = true := by
  obtain ⟨a, b, c, d, e⟩ := (logB_iff l).1 h
  exact logB_sub h a b c (by simp only [List.length_take]; omega) fun r hr => List.mem_of_mem_take hr
theorem logB_drop {l : Log} (h : logB l = true) (hf : l.from_ ≤ 4000) (m n : Nat) (hm : m ≤ 40) : logB ⟨l.from_ + 5 * (m : Nat), l.recs.drop n⟩ = true := by
  obtain ⟨a, b, c, d, e⟩ := (logB_iff l).1 h
  exact logB_sub h (by omega) (by omega) (by omega) (by simp only [List.length_drop]; omega) fun r hr => List.mem_of_mem_drop hr
theorem endZ_ok {l : Log} (h : logB l = true) : endZ l = l.from_ + (l.recs.length : Nat) := by
  obtain ⟨a, b, c, d, e⟩ := (logB_iff l).1 h
  rw [endZ, if_pos h]
  exact IntWalk.wrap64_in _ (by omega)
theorem endZ_rng {l : Log} : -1 ≤ endZ l ∧ endZ l ≤ 5040 := by
  by_cases h : logB l = true
  · obtain ⟨a, b, c, d, e⟩ := (logB_iff l).1 h
    rw [endZ_ok h]; omega
  · rw [endZ, if_neg h]; omega

section
variable {l : Log} {n : Int}
theorem cutZ_ok (h : logB l = true) (hn : 0 ≤ n) : cutZ n l = ⟨l.from_, l.recs.take (placeN l.from_ n l.recs.length)⟩ := by rw [cutZ, if_pos ⟨h, hn⟩]
theorem restZ_ok (h : logB l = true) (hn : 0 ≤ n) : restZ n l = l.recs.drop (placeN l.from_ n l.recs.length) := by rw [restZ, if_pos ⟨h, hn⟩]
theorem freeZ_ok (h : logB l = true) (hn : 0 ≤ n) : freeZ n l = ⟨l.from_ + 5 * (freeN l.from_ n l.recs.length : Nat), l.recs.drop (5 * freeN l.from_ n l.recs.length)⟩ := by rw [freeZ, if_pos ⟨h, hn⟩]

/-- What is cut. -/
theorem cut_law (h : logB l = true) (hn : 0 ≤ n) : (cutZ n l).from_ = l.from_ ∧ (cutZ n l).recs.length ≤ l.recs.length ∧ (cutZ n l).recs = l.recs.take (cutZ n l).recs.length ∧ endZ (cutZ n l) = max l.from_ (min n (endZ l)) ∧ logB (cutZ n l) = true := by
  have hk : logB (cutZ n l) = true := by rw [cutZ_ok h hn]; exact logB_take h _
  obtain ⟨a, b, c, d, e⟩ := (logB_iff l).1 h
  have hp := placeN_le l.from_ n l.recs.length
  rw [endZ_ok hk, endZ_ok h]
  rw [cutZ_ok h hn] at hk ⊢
  simp only [List.length_take]
  refine ⟨trivial, by omega, by rw [Nat.min_eq_left hp], ?_, hk⟩
  rw [Nat.min_eq_left hp]
  unfold placeN
  omega

/-- What is freed. -/
theorem free_law (h : logB l = true) (hf : l.from_ ≤ 4000) (hn : 0 ≤ n) : ∃ k : Nat, (freeZ n l).from_ - l.from_ = 5 * (k : Int) ∧ 5 * k ≤ l.recs.length ∧ (freeZ n l).recs = l.recs.drop (5 * k) ∧ endZ (freeZ n l) = endZ l ∧ (k = 0 ∨ (freeZ n l).from_ ≤ n) ∧
    ((freeZ n l).recs.length < 5 ∨ (freeZ n l).from_ + 5 > n) ∧ logB (freeZ n l) = true := by
  obtain ⟨a, b, c, d, e⟩ := (logB_iff l).1 h
  have hp : freeN l.from_ n l.recs.length ≤ l.recs.length / 5 ∧ freeN l.from_ n l.recs.length ≤ (n - l.from_).toNat / 5 ∧ (freeN l.from_ n l.recs.length = l.recs.length / 5 ∨ freeN l.from_ n l.recs.length = (n - l.from_).toNat / 5) := by unfold freeN; omega
  have hk : logB (freeZ n l) = true := by rw [freeZ_ok h hn]; exact logB_drop h hf _ _ (by omega)
  refine ⟨freeN l.from_ n l.recs.length, ?_⟩
  rw [endZ_ok hk, endZ_ok h]
  rw [freeZ_ok h hn] at hk ⊢
  simp only [List.length_drop]
  exact ⟨by omega, by omega, trivial, by omega, by omega, by omega, hk⟩

/-- What is left behind. -/
theorem rest_law (h : logB l = true) (hn : 0 ≤ n) : (cutZ n l).recs ++ restZ n l = l.recs ∧ (n > l.from_ ∨ restZ n l = l.recs) := by
  rw [cutZ_ok h hn, restZ_ok h hn]
  refine ⟨List.take_append_drop _ _, ?_⟩
  by_cases hg : n > l.from_
  · exact .inl hg
  · right
    have : placeN l.from_ n l.recs.length = 0 := by unfold placeN; omega
    rw [this, List.drop_zero]

/-- What is freed is not missed. -/
theorem freeRest_law (h : logB l = true) (hf : l.from_ ≤ 4000) (hn : 0 ≤ n) : restZ n (freeZ n l) = restZ n l ∧ freeZ n (freeZ n l) = freeZ n l := by
  obtain ⟨k, h1, h2, h3, h4, h5, h6, h7⟩ := free_law h hf hn
  rw [restZ_ok h7 hn, restZ_ok h hn, freeZ_ok h7 hn]
  have hl : (freeZ n l).recs.length = l.recs.length - 5 * k := by rw [h3, List.length_drop]
  have hz : freeN (freeZ n l).from_ n (freeZ n l).recs.length = 0 := by
    unfold freeN
    rcases h6 with h6 | h6 <;> omega
  refine ⟨?_, ?_⟩
  · rw [h3, List.drop_drop]
    congr 1
    unfold placeN
    rw [List.length_drop]
    rcases h5 with rfl | h5 <;> omega
  · rw [hz]
    simp
theorem add_law {ms : List Rec} (h : logB l = true) (hm : recsB ms = true ∧ ms.length ≤ 40) (hr : roomZ l ms) : (addZ l ms).1 = ⟨l.from_, l.recs ++ ms⟩ ∧ (addZ l ms).2 = true ∧ logB ⟨l.from_, l.recs ++ ms⟩ = true := by
  obtain ⟨a, b, c, d, e⟩ := (logB_iff l).1 h
  rw [addZ, if_pos ⟨h, hm.1, hm.2⟩, if_pos hr]
  refine ⟨rfl, rfl, (logB_iff _).2 ⟨a, b, c, by have := hr.1; simp only [List.length_append]; omega, ?_⟩⟩
  unfold recsB at e ⊢
  have := hm.1
  unfold recsB at this
  rw [List.all_append, e, this]; rfl
theorem add_no {ms : List Rec} (h : logB l = true) (hm : recsB ms = true ∧ ms.length ≤ 40) (hr : ¬ roomZ l ms) : addZ l ms = (l, false) := by
  rw [addZ, if_pos ⟨h, hm.1, hm.2⟩, if_neg hr]
theorem add_fst {ms : List Rec} (h : (addZ l ms).2 = true) : logB l = true ∧ recsB ms = true ∧ ms.length ≤ 40 ∧ roomZ l ms := by
  unfold addZ at h
  split at h
  · rename_i h1
    split at h
    · rename_i h2; exact ⟨h1.1, h1.2.1, h1.2.2, h2⟩
    · cases h
  · cases h
theorem addCut_law {ms : List Rec} (h : (addZ l ms).2 = true) (hf : l.from_ ≤ 4000) : cutZ (endZ l) (addZ l ms).1 = l ∧ restZ (endZ l) (addZ l ms).1 = ms := by
  obtain ⟨h1, h2, h3, h4⟩ := add_fst h
  obtain ⟨a1, a2, a3⟩ := add_law h1 ⟨h2, h3⟩ h4
  obtain ⟨a, b, c, d, e⟩ := (logB_iff l).1 h1
  have he : endZ l = l.from_ + (l.recs.length : Nat) := endZ_ok h1
  rw [a1, cutZ_ok a3 (by omega), restZ_ok a3 (by omega)]
  have hp : placeN l.from_ (endZ l) (l.recs ++ ms).length = l.recs.length := by
    unfold placeN
    rw [List.length_append]
    omega
  simp only [hp]
  exact ⟨by cases l; simp, by simp⟩
theorem endCut_law (h : logB l = true) : cutZ (endZ l) l = l := by
  obtain ⟨a, b, c, d, e⟩ := (logB_iff l).1 h
  have he : endZ l = l.from_ + (l.recs.length : Nat) := endZ_ok h
  rw [cutZ_ok h (by omega)]
  have hp : placeN l.from_ (endZ l) l.recs.length = l.recs.length := by unfold placeN; omega
  rw [hp, List.take_length]
end
end Go.Proofs.YtdbejmnfnbkndaaGreatDoor

namespace Go.Proofs.YtdbejmnfnbkndaaGreatDoor
open Go Go.RowKit

theorem lvLog_yes (x y : LLog) (w : World) (hx : x.At w) (hy : y.At w) (h : x.er = y.er) :
    Calls Tryz.prog 7 #[x.val, y.val] w fun e w' => e = .returned (.bool true) ∧ Below w.heap.size w w' :=
  (lvLog_any x y w hx hy).mono fun e w' ⟨⟨v, he, hv⟩, hb⟩ => ⟨by rw [he, hv.2 h], hb⟩
theorem lvRecs_yes (x y : Loc LRec) (w : World) (hx : x.At w) (hy : y.At w) (h : x.xs.map LRec.er = y.xs.map LRec.er) :
    Calls Tryz.prog 10 #[x.val, y.val] w fun e w' => e = .returned (.bool true) ∧ Below w.heap.size w w' :=
  (lvRecs_any x y w hx hy).mono fun e w' ⟨⟨v, he, hv⟩, hb⟩ => ⟨by rw [he, hv.2 h], hb⟩
theorem lvRecs_at (x y : Loc LRec) (n m : Nat) (w : World) (hn : x.xs.length = n) (hm : y.xs.length = m) (hx : x.At w) (hy : y.At w) (h : x.xs.map LRec.er = y.xs.map LRec.er) :
    Calls Tryz.prog 10 #[.slice x.a n x.cap, .slice y.a m y.cap] w fun e w' => e = .returned (.bool true) ∧ Below w.heap.size w w' := by
  subst hn hm
  exact lvRecs_yes x y w hx hy h
theorem retEq {P : Program} {f : Nat} {args : Array Value} {w : World} {v v' : Value} (h : Calls P f args w fun e w' => e = .returned v ∧ Below w.heap.size w w') (hv : v = v') :
    Calls P f args w fun e w' => e = .returned v' ∧ Below w.heap.size w w' := by rw [← hv]; exact h

/-- A log that reads so. -/
def LogR (Z : Log) (v : Value) (w : World) : Prop := ∃ y : LLog, v = y.val ∧ y.er = Z ∧ y.At w
theorem LogR.stable (Z : Log) : StableR (LogR Z) := fun _ _ _ hb ⟨y, h1, h2, h3⟩ => ⟨y, h1, h2, LLog.belowAll h3 hb⟩
/-- Records that read so. -/
def RecsR (Z : List Rec) (v : Value) (w : World) : Prop := ∃ y : Loc LRec, v = y.val ∧ y.xs.map LRec.er = Z ∧ y.At w
theorem RecsR.stable (Z : List Rec) : StableR (RecsR Z) := fun _ _ _ hb ⟨y, h1, h2, h3⟩ => ⟨y, h1, h2, h3.belowAll hb⟩


end Go.Proofs.YtdbejmnfnbkndaaGreatDoor
