/- A file of a tree by its name: the program's treeAt, the reference's l3At. -/
import Derived.Test.YtdidkfadiaafiaaGreatDoorOwn
import Derived.Test.YtdidkfadiaafiaaGreatDoorTo
namespace Go.Proofs.YtdidkfadiaafiaaGreatDoor
open Go Go.RowKit

def atLoc (n : ByteArray) : List LFile → Loc LSib
  | [] => ⟨none, 0, []⟩
  | f :: r => if f.name = n then f.sibs else atLoc n r
def atL (n : ByteArray) : List File → List Sib
  | [] => []
  | f :: r => if f.name = n then f.sibs else atL n r

theorem atLoc_er (n : ByteArray) : ∀ xs : List LFile, (atLoc n xs).xs.map LSib.er = atL n (xs.map LFile.er)
  | [] => rfl
  | f :: r => by
    unfold atLoc
    simp only [List.map_cons, atL]
    by_cases h : f.name = n
    · rw [if_pos h, if_pos (show f.er.name = n from h)]; rfl
    · rw [if_neg h, if_neg (show ¬ f.er.name = n from h)]; exact atLoc_er n r
theorem atLoc_At {w : World} (n : ByteArray) : ∀ xs : List LFile, (∀ f ∈ xs, Dat.At w f) → (atLoc n xs).At w
  | [], _ => ⟨Nat.le_refl _, Nat.zero_le _, by simp [atLoc], by simp [atLoc], by simp [atLoc]⟩
  | f :: r, h => by
    unfold atLoc
    by_cases hn : f.name = n
    · rw [if_pos hn]; exact (h f List.mem_cons_self).1
    · rw [if_neg hn]; exact atLoc_At n r fun g hg => h g (List.mem_cons_of_mem _ hg)
theorem atLoc_fp (n : ByteArray) : ∀ xs : List LFile, ∀ b ∈ (atLoc n xs).fp, b ∈ xs.flatMap Dat.fp
  | [], b, hb => by simp [atLoc, Loc.fp, Loc.blk] at hb
  | f :: r, b, hb => by
    unfold atLoc at hb
    rw [List.flatMap_cons]
    by_cases hn : f.name = n
    · rw [if_pos hn] at hb; exact List.mem_append_left _ hb
    · rw [if_neg hn] at hb; exact List.mem_append_right _ (atLoc_fp n r b hb)

set_option maxRecDepth 100000 in
set_option maxHeartbeats 400000 in
theorem treeAt_any (x : Loc LFile) (n : ByteArray) (w : World) (hx : x.At w) :
    Calls Tryz.prog 35 #[x.val, .string n] w fun e w' => e = .returned (atLoc n x.xs).val ∧ Below w.heap.size w w' := by
  obtain ⟨xa, xc, xs⟩ := x
  simp only [Loc.val]
  have h1 := hx.lenMax
  simp only at h1
  have HX := Lib.hid hx
  clear hx
  go_enter Tryz.func35, Tryz.ntmps35
  go_wp2_with fail
  go_loopw [9] (fun i wr => ∃ k : Nat, k ≤ xs.length ∧ i = .int .i64 k ∧ atLoc n xs = atLoc n (xs.drop k) ∧ Below w.heap.size w wr) (fun i _ => xs.length - (intOf i).toNat)
  case atStart => exact ⟨0, Nat.zero_le _, rfl, rfl, Below.refl _ _⟩
  case round =>
    obtain ⟨k, hk, rfl, hrel, hb⟩ := hrel
    have HR := Lib.hid hrel
    have HBW := Lib.hid hb
    clear hrel hb
    by_cases hlt : k < xs.length
    · obtain ⟨a, ao, ha⟩ := HX.out.place hlt
      simp only at ha
      subst ha
      have hc1 := (HX.out.belowAll HBW.out).file rfl hlt
      simp only at hc1
      obtain ⟨c0, c1⟩ := hc1
      have hd := List.drop_eq_getElem_cons hlt
      have HD := Lib.hid hd
      have HB2 := Lib.hid (HBW.out.trans (((Below.refl wr.heap.size wr).alloc (Nat.le_refl _) (Obj.cells #[.string xs[k].name, xs[k].sibs.val] 58)).mono HBW.out.size))
      clear hd
      by_cases hn : xs[k].name = n
      · have he : (xs[k].name.toList == n.toList) = true := by simp [hn]
        have he2 : (n.toList == n.toList) = true := by simp
        have HN := Lib.hid hn
        clear hn
        simp only [Loc.val] at c1
        go_wp2_with fail
        go_ret
        refine ⟨?_, HB2.out⟩
        rw [HR.out, HD.out, atLoc, if_pos HN.out]; rfl
      · have he : (xs[k].name.toList == n.toList) = false := by rw [beq_eq_false_iff_ne]; exact fun h => hn (toList_inj.1 h)
        have HN := Lib.hid hn
        clear hn
        go_wp2_with fail
        go_roundw
        case rel => exact ⟨k + 1, by omega, by go_num, by rw [HR.out, HD.out, atLoc, if_neg HN.out], HB2.out⟩
        case measure => simp [intOf]; omega
    · have hkk : k = xs.length := by omega
      subst hkk
      go_wp2_with fail
      go_ret
      refine ⟨?_, HBW.out⟩
      rw [HR.out, List.drop_length]; rfl

set_option maxRecDepth 100000 in
set_option maxHeartbeats 400000 in
theorem sl3At_any (x : Loc LFile) (n : ByteArray) (w : World) (hx : x.At w) :
    Calls Tryz.prog 59 #[x.val, .string n] w fun e w' => ∃ y : Loc LSib, e = .returned y.val ∧ y.xs = (atLoc n x.xs).xs ∧ y.At w' ∧ Below w.heap.size w w' := by
  obtain ⟨xa, xc, xs⟩ := x
  simp only [Loc.val]
  have h1 := hx.lenMax
  simp only at h1
  have HX := Lib.hid hx
  clear hx
  go_enter Tryz.func59, Tryz.ntmps59
  go_wp2_with fail
  go_loop [5] (fun i => ∃ k : Nat, k ≤ xs.length ∧ i = .int .i64 k ∧ atLoc n xs = atLoc n (xs.drop k)) (fun i => xs.length - (intOf i).toNat)
  case atStart => exact ⟨0, Nat.zero_le _, rfl, rfl⟩
  case round =>
    obtain ⟨k, hk, rfl, hrel⟩ := hrel
    have HR := Lib.hid hrel
    clear hrel
    by_cases hlt : k < xs.length
    · obtain ⟨a, ao, ha⟩ := HX.out.place hlt
      simp only at ha
      subst ha
      have hc1 := HX.out.file rfl hlt
      simp only at hc1
      obtain ⟨c0, c1⟩ := hc1
      have hd := List.drop_eq_getElem_cons hlt
      have HD := Lib.hid hd
      clear hd
      by_cases hn : xs[k].name = n
      · have he : (xs[k].name.toList == n.toList) = true := by simp [hn]
        have HN := Lib.hid hn
        clear hn
        go_wp2_with fail
        go_ret
        refine ⟨xs[k].sibs, rfl, ?_, (HX.out.elem (List.getElem_mem hlt)).1, Below.refl _ _⟩
        rw [HR.out, HD.out, atLoc, if_pos HN.out]
      · have he : (xs[k].name.toList == n.toList) = false := by rw [beq_eq_false_iff_ne]; exact fun h => hn (toList_inj.1 h)
        have HN := Lib.hid hn
        clear hn
        go_wp2_with fail
        go_round
        case rel => exact ⟨k + 1, by omega, by go_num, by rw [HR.out, HD.out, atLoc, if_neg HN.out]⟩
        case measure => simp [intOf]; omega
    · have hkk : k = xs.length := by omega
      subst hkk
      go_wp2_with fail
      go_ret
      have hG := Grows.start (α := LSib) w 42
      refine ⟨⟨some ⟨w.heap.size, 0, none⟩, 0, []⟩, rfl, ?_, hG.done.1, hG.bel⟩
      rw [HR.out, List.drop_length]; rfl
end Go.Proofs.YtdidkfadiaafiaaGreatDoor
