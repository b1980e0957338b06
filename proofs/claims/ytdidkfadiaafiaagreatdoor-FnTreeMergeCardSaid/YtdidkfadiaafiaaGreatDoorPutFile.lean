/- Copying elements of several cells; what one's own slice becomes when one element is put into it. Where a file stands among others: slices.BinarySearchFunc at files. slices.Insert at files: one file put into one's own slice. A file put in its place: the program's putFile. -/
import Derived.Test.YtdidkfadiaafiaaGreatDoorInfo
import Derived.Laws.CopyRow
import Derived.Lib.AppendZerosOnto
import Derived.Lib.Overlaps
import Derived.Test.YtdidkfadiaafiaaGreatDoorPureT
import Derived.Test.YtdidkfadiaafiaaGreatDoorShelf2
import Derived.Deep.Cut
import Derived.Test.YtdidkfadiaafiaaGreatDoorTreePut
import Derived.Shelf.Spec.SlicesInsert
namespace Go.Proofs.YtdidkfadiaafiaaGreatDoor
open Go Go.RowKit

theorem run_copy_k {P : Program} (w : World) (dT sT ty elem : TypeId) (k g o dLen dCap : Nat) (a : Addr) (sLen sCap : Nat) (cur : Array Value) (t : TypeId) (cs : List Value)
    (hu : P.underlying dT = some (.slice elem)) (hs : (P.info? elem).map (·.size) = some k)
    (hg : w.heap[g]? = some (.cells cur t (0, 0))) (hn : cs.length = Nat.min sLen dLen * k)
    (hsrc : ∀ j v, cs[j]? = some v → w.cell? (a.add j) = some v) (hfit : o + cs.length ≤ cur.size) (h1 : ∀ v ∈ cs, v.oneCell' = true) :
    (Builtin.copy_ #[dT, sT] ty #[.slice (some ⟨g, o, none⟩) dLen dCap, .slice (some a) sLen sCap]).run P w =
      .ok (goInt (Nat.min sLen dLen)) (w.setRow g (cur.toList.take o ++ cs ++ cur.toList.drop (o + cs.length)).toArray) := by
  have hl := run_loadCells_list (P := P) w a cs hsrc
  have hst := run_storeCells_at P g o t cs 0 cur w hg (by simpa using hfit) h1
  rw [hn] at hl
  cases hq : P.info? elem with
  | none => simp [hq] at hs
  | some i =>
    have hi : i.size = k := by simpa [hq] using hs
    simp [Builtin.copy_, run_underlying hu, Builtin.lenOf, Builtin.firstCells, sizeOf, typeInfo, hq, hi, hl, hst]

variable {α : Type} [Dat α]
theorem flat_take : ∀ (xs : List α) (i : Nat), (xs.take i).flatMap Dat.enc = (xs.flatMap Dat.enc).take (i * Dat.k α)
  | [], i => by simp
  | x :: r, 0 => by simp
  | x :: r, i + 1 => by
    rw [List.take_succ_cons, List.flatMap_cons, List.flatMap_cons, flat_take r i, Nat.succ_mul, List.take_append, Dat.len]
    rw [List.take_of_length_le (l := Dat.enc x) (by rw [Dat.len]; omega), show i * Dat.k α + Dat.k α - Dat.k α = i * Dat.k α by omega]
theorem flat_drop : ∀ (xs : List α) (i : Nat), (xs.drop i).flatMap Dat.enc = (xs.flatMap Dat.enc).drop (i * Dat.k α)
  | [], i => by simp
  | x :: r, 0 => by simp
  | x :: r, i + 1 => by
    rw [List.drop_succ_cons, List.flatMap_cons, flat_drop r i, Nat.succ_mul, List.drop_append, Dat.len]
    rw [List.drop_of_length_le (l := Dat.enc x) (by rw [Dat.len]; omega), show i * Dat.k α + Dat.k α - Dat.k α = i * Dat.k α by omega, List.nil_append]

/-- The row behind both copies of an insertion in place. -/
theorem row_shift {β : Type} {L F E : List β} {p m k : Nat} (hk : E.length = k) (hF : L.take m = F) (hm : F.length = m) (hp : p ≤ m) :
    ((L.take (p + k) ++ F.drop p ++ L.drop (m + k)).take p ++ E ++ (L.take (p + k) ++ F.drop p ++ L.drop (m + k)).drop (p + k)) = F.take p ++ E ++ F.drop p ++ L.drop (m + k) ∨ L.length < p + k := by
  by_cases hl : p + k ≤ L.length
  · left
    have h1 : (L.take (p + k)).length = p + k := by rw [List.length_take]; omega
    have h2 : (L.take (p + k) ++ F.drop p ++ L.drop (m + k)).take p = F.take p := by
      rw [List.append_assoc, List.take_append_of_le_length (by omega), List.take_take, Nat.min_eq_left (by omega), ← hF, List.take_take, Nat.min_eq_left hp]
    have h3 : (L.take (p + k) ++ F.drop p ++ L.drop (m + k)).drop (p + k) = F.drop p ++ L.drop (m + k) := by
      rw [List.append_assoc, List.drop_left' h1]
    rw [h2, h3]; simp
  · right; omega
theorem row_new {β : Type} {L F E : List β} {p m k : Nat} (hk : E.length = k) (hF : L.take p = F.take p) (hm : F.length = m) (hp : p ≤ m) :
    ((L.take p ++ E ++ L.drop (p + k)).take (p + k) ++ F.drop p ++ (L.take p ++ E ++ L.drop (p + k)).drop (p + k + (m - p))).take (m + k) = F.take p ++ E ++ F.drop p := by
  have h1 : (F.take p).length = p := by rw [List.length_take]; omega
  have h2 : (L.take p ++ E ++ L.drop (p + k)).take (p + k) = F.take p ++ E := by
    rw [hF]
    exact List.take_left' (by rw [List.length_append, h1, hk])
  rw [h2]
  refine List.take_left' ?_
  rw [List.length_append, List.length_append, h1, hk, List.length_drop, hm]; omega

/-- One's own slice has become another. -/
structure Became (base : Nat) (e : TypeId) (w : World) (l : Loc α) (zs : List α) (l' : Loc α) (w' : World) : Prop where
  xs : l'.xs = zs
  own : Own base e w' l'
  grown : w.grownBy w' l.val.ownBlock
  ob : ∀ b, l'.val.ownBlock = some b → l.val.ownBlock = some b ∨ w.heap.size ≤ b
theorem Appended.became {base : Nat} {e : TypeId} {w w' : World} {l l' : Loc α} {ys : List α} (h : Appended base e w l ys l' w') : Became base e w l (l.xs ++ ys) l' w' := ⟨h.xs, h.own, h.grown, h.ob⟩

theorem became_row {base g cap : Nat} {e : TypeId} {w w' : World} {l : Loc α} {zs : List α} {cur : Array Value} (hb : base ≤ g) (hrow : w'.heap[g]? = some (.cells cur e (0, 0))) (hc : zs.length ≤ cap) (hm : cap ≤ maxLen) (hs : cur.size = cap * Dat.k α)
    (ht : cur.toList.take (zs.length * Dat.k α) = zs.flatMap Dat.enc) (hgr : w.grownBy w' l.val.ownBlock) (hz : ∀ z ∈ zs, Dat.At w z ∧ ∀ b ∈ Dat.fp z, some b ≠ l.val.ownBlock) (hg : l.val.ownBlock = some g ∨ w.heap.size ≤ g) :
    Became base e w l zs ⟨some ⟨g, 0, none⟩, cap, zs⟩ w' := by
  refine ⟨rfl, ⟨⟨by rw [flatMap_len], .inr ⟨g, cap, cur, rfl, hb, hrow, hc, hm, hs, ht⟩⟩, fun z hz' => ?_, fun z hz' b hb' hbb => ?_⟩, hgr, fun b hbb => ?_⟩
  · exact Dat.keep (hz z hz').1 fun b hb' => hgr.block b (Dat.lt (hz z hz').1 b hb') ((hz z hz').2 b hb')
  · have hgb : g = b := by simpa [Loc.val, Value.ownBlock] using hbb.symm
    subst hgb
    rcases hg with h | h
    · exact (hz z hz').2 g hb' h.symm
    · have := Dat.lt (hz z hz').1 g hb'; omega
  · have hgb : g = b := by simpa [Loc.val, Value.ownBlock] using hbb
    subst hgb; exact hg
end Go.Proofs.YtdidkfadiaafiaaGreatDoor

namespace Go.Proofs.YtdidkfadiaafiaaGreatDoor
open Go Go.RowKit

theorem compareBytes_less : ∀ a b : List UInt8, Lib.compareBytes a b = if Op.bytesLess a b then -1 else if !Op.bytesLess a b && !(a == b) then 1 else 0
  | [], [] => rfl
  | [], _ :: _ => rfl
  | _ :: _, [] => rfl
  | x :: p, y :: q => by
    have ih := compareBytes_less p q
    unfold Lib.compareBytes
    simp only [Op.bytesLess]
    by_cases h1 : x < y
    · simp [h1]
    · by_cases h2 : y < x
      · have hne : ¬ x = y := by rintro rfl; exact UInt8.lt_irrefl _ h2
        simp [h1, h2, hne]
      · have he : x = y := by
          rw [← UInt8.toNat_inj]
          rw [UInt8.lt_iff_toNat_lt] at h1 h2
          omega
        subst he
        rw [if_neg h1, if_neg h2, ih]
        simp
theorem strCompare_any (a b : ByteArray) (w : World) : Calls Tryz.prog 72 #[.string a, .string b] w fun e w' => e = .returned (.int .i64 (cmpStr a b)) ∧ w' = w := by
  have h := Any.strings_Compare Tryz.lays106 a b w
  rw [compareBytes_less] at h
  rw [← ByteArray.toList_eq, ← ByteArray.toList_eq] at h
  exact h

set_option maxRecDepth 100000 in
theorem cmpFile_any (x y : LFile) (w : World) : Calls Tryz.prog 71 #[x.val, y.val] w fun e w' => e = .returned (.int .i64 (cmpStr x.name y.name)) ∧ Below w.heap.size w w' := by
  obtain ⟨xn, xs⟩ := x
  obtain ⟨yn, ys⟩ := y
  simp only [LFile.val]
  have hB := ((Below.refl w.heap.size w).alloc (Nat.le_refl _) (Obj.cells #[.string xn, xs.val] 58)).alloc (by simp) (Obj.cells #[.string yn, ys.val] 58)
  have HB := Lib.hid hB
  clear hB
  go_enter Tryz.func71, Tryz.ntmps71
  go_wp2_with fail
  refine (strCompare_any xn yn _).mono ?_
  rintro e w1 ⟨rfl, rfl⟩
  go_wp2_with fail
  go_ret
  exact ⟨rfl, HB.out⟩

set_option maxRecDepth 100000 in
set_option maxHeartbeats 2000000 in
theorem search_any (x : Loc LFile) (f : LFile) (w : World) (hx : x.At w) (hn : x.xs.length ≤ 10000) (hasc : NAsc (x.xs.map LFile.er)) :
    Calls Tryz.prog 70 #[x.val, f.val, .func (.func 71) #[] #[]] w fun e w' =>
      ∃ (i : Nat) (b : Bool), e = .returned (.tuple #[.int .i64 i, .bool b]) ∧ i ≤ x.xs.length ∧ (∀ j (h : j < x.xs.length), j < i → strLt x.xs[j].name f.name = true) ∧ (∀ (h : i < x.xs.length), strLt x.xs[i].name f.name = false ∧ (b = true ↔ x.xs[i].name = f.name)) ∧ (b = true → i < x.xs.length) ∧ Below w.heap.size w w' := by
  have eg : ∀ args w, (callFunc 71 args).run Tryz.prog w = .ok (.enter 71 args) w := enters_of Tryz.func71 (by kernel_rfl) rfl
  obtain ⟨xa, xc, xs⟩ := x
  obtain ⟨fn, fs⟩ := f
  show Calls Tryz.prog 70 #[.slice xa xs.length xc, .agg #[.string fn, fs.val], .func (.func 71) #[] #[]] w _
  simp only at hn hasc
  have h1 : xs.length ≤ 9223372036854775807 := by omega
  have hW0 : Below w.heap.size w (w.alloc (Obj.cells #[.string fn, fs.val] 58)) := (Below.refl _ _).alloc (Nat.le_refl _) _
  have HW0 := Lib.hid hW0
  have HX := Lib.hid (hx.belowAll hW0)
  have HLX := Lib.hid (Loc.lt_of_At hx)
  have HN := Lib.hid hn
  have HBX := Lib.hid (fun j => cell_of_row (w.alloc (Obj.cells #[.string fn, fs.val] 58)) w.heap.size j _ _ (0, 0) (heap_alloc_new w _))
  have HZ0 : Hid ((w.alloc (Obj.cells #[.string fn, fs.val] 58)).heap.size = w.heap.size + 1) := Lib.hid (by simp)
  have HASC : Hid (∀ i j (h1 : i < j) (h2 : j < xs.length), strLt xs[i].name xs[j].name = true) := Lib.hid (fun i j h1 h2 => by
    have := List.pairwise_iff_getElem.1 hasc i j (by simp; omega) (by simpa using h2) h1
    simp only [List.getElem_map] at this
    exact this)
  clear hx hn hasc hW0
  go_enter Tryz.func70, Tryz.ntmps70
  go_wp2_with fail
  generalize w.alloc (Obj.cells #[.string fn, fs.val] 58) = W0 at *
  go_loopw [9, 10, 11] (fun i j h wr => ∃ (lo hi : Nat), i = .int .i64 lo ∧ j = .int .i64 hi ∧ lo ≤ hi ∧ hi ≤ xs.length ∧ (∀ m (h : m < xs.length), m < lo → strLt xs[m].name fn = true) ∧ (∀ m (h : m < xs.length), hi ≤ m → strLt xs[m].name fn = false) ∧ Below (w.heap.size + 1) W0 wr) (fun i j _ _ => (intOf j).toNat - (intOf i).toNat)
  case atStart => exact ⟨0, xs.length, rfl, rfl, Nat.zero_le _, Nat.le_refl _, fun m _ h => absurd h (by omega), fun m h1 h2 => absurd h1 (by omega), Below.refl _ _⟩
  case round =>
    obtain ⟨lo, hi, rfl, rfl, hlh, hin, hr1, hr2, hb⟩ := hrel
    have HR1 := Lib.hid hr1
    have HR2 := Lib.hid hr2
    clear hr1 hr2
    by_cases hlt : lo < hi
    · obtain ⟨h, hh⟩ : ∃ h, h = (lo + hi) / 2 := ⟨_, rfl⟩
      have hmid : ((lo : Int) + (hi : Int)) / 2 = (h : Int) := by omega
      have hm1 : lo ≤ h := by omega
      have hm2 : h < hi := by omega
      have hm3 : h < xs.length := by omega
      have hn := HN.out
      obtain ⟨a, ao, ha⟩ := HX.out.place hm3
      simp only at ha
      subst ha
      clear hh
      go_upto_region 5 with fail
      have HF : Hid (∀ w', Below wr.heap.size wr w' → (w'.cell? ⟨a, ao + h * 2, none⟩ = some (.string xs[h].name) ∧ w'.cell? ⟨a, ao + h * 2 + 1, none⟩ = some xs[h].sibs.val) ∧ (w'.cell? ⟨w.heap.size, 0, none⟩ = some (.string fn) ∧ w'.cell? ⟨w.heap.size, 1, none⟩ = some fs.val)) := Lib.hid (fun w' h => by
        have hh := hb.trans (h.mono (by have := hb.size; have := HZ0.out; omega))
        exact ⟨(HX.out.below hh (fun b hb => by have := HLX.out b hb; omega)).file rfl hm3, (hh.cell (by simp)).trans (HBX.out 0), (hh.cell (by simp)).trans (HBX.out 1)⟩)
      have HBW := Lib.hid hb
      clear hb
      cases hlt2 : strLt xs[h].name fn with
      | true =>
        have HLT := Lib.hid hlt2
        have hcs : cmpStr xs[h].name fn = -1 := cmpStr_lt hlt2
        clear hlt2
        refine wp_region_rel 8 (by kernel_rfl) (by kernel_rfl) (by rfl) ?_
        simp only [List.take_succ_cons, List.take_zero, List.drop_succ_cons, List.drop_zero]
        first
          | (refine wpRel_pass (by rfl) (fun U => by rfl) ?_; simp only [Act.put, List.setIfInBounds_toArray, List.set_cons_zero, List.set_cons_succ])
          | (refine' wpRel_fix (by rfl) (fun U => by rfl) (fun m U w' hI hG => ?_) ?_
             rotate_left
             focus (have hf := HF.out w' hI; unfold relAt; go_simp; first | exact ⟨rfl, Below.refl _ _⟩ | exact Below.refl _ _ | exact ⟨trivial, Below.refl _ _⟩)
             simp only [Act.put, List.setIfInBounds_toArray, List.set_cons_zero, List.set_cons_succ])
        first
          | (refine wpRel_pass (by rfl) (fun U => by rfl) ?_; simp only [Act.put, List.setIfInBounds_toArray, List.set_cons_zero, List.set_cons_succ])
          | (refine' wpRel_fix (by rfl) (fun U => by rfl) (fun m U w' hI hG => ?_) ?_
             rotate_left
             focus (have hf := HF.out w' hI; unfold relAt; go_simp; first | exact ⟨rfl, Below.refl _ _⟩ | exact Below.refl _ _ | exact ⟨trivial, Below.refl _ _⟩)
             simp only [Act.put, List.setIfInBounds_toArray, List.set_cons_zero, List.set_cons_succ])
        first
          | (refine wpRel_pass (by rfl) (fun U => by rfl) ?_; simp only [Act.put, List.setIfInBounds_toArray, List.set_cons_zero, List.set_cons_succ])
          | (refine' wpRel_fix (by rfl) (fun U => by rfl) (fun m U w' hI hG => ?_) ?_
             rotate_left
             focus (have hf := HF.out w' hI; unfold relAt; go_simp; first | exact ⟨rfl, Below.refl _ _⟩ | exact Below.refl _ _ | exact ⟨trivial, Below.refl _ _⟩)
             simp only [Act.put, List.setIfInBounds_toArray, List.set_cons_zero, List.set_cons_succ])
        first
          | (refine wpRel_pass (by rfl) (fun U => by rfl) ?_; simp only [Act.put, List.setIfInBounds_toArray, List.set_cons_zero, List.set_cons_succ])
          | (refine' wpRel_fix (by rfl) (fun U => by rfl) (fun m U w' hI hG => ?_) ?_
             rotate_left
             focus (have hf := HF.out w' hI; unfold relAt; go_simp; first | exact ⟨rfl, Below.refl _ _⟩ | exact Below.refl _ _ | exact ⟨trivial, Below.refl _ _⟩)
             simp only [Act.put, List.setIfInBounds_toArray, List.set_cons_zero, List.set_cons_succ])
        first
          | (refine wpRel_pass (by rfl) (fun U => by rfl) ?_; simp only [Act.put, List.setIfInBounds_toArray, List.set_cons_zero, List.set_cons_succ])
          | (refine' wpRel_fix (by rfl) (fun U => by rfl) (fun m U w' hI hG => ?_) ?_
             rotate_left
             focus (have hf := HF.out w' hI; unfold relAt; go_simp; first | exact ⟨rfl, Below.refl _ _⟩ | exact Below.refl _ _ | exact ⟨trivial, Below.refl _ _⟩)
             simp only [Act.put, List.setIfInBounds_toArray, List.set_cons_zero, List.set_cons_succ])
        first
          | (refine wpRel_pass (by rfl) (fun U => by rfl) ?_; simp only [Act.put, List.setIfInBounds_toArray, List.set_cons_zero, List.set_cons_succ])
          | (refine' wpRel_fix (by rfl) (fun U => by rfl) (fun m U w' hI hG => ?_) ?_
             rotate_left
             focus (have hf := HF.out w' hI; unfold relAt; go_simp; first | exact ⟨rfl, Below.refl _ _⟩ | exact Below.refl _ _ | exact ⟨trivial, Below.refl _ _⟩)
             simp only [Act.put, List.setIfInBounds_toArray, List.set_cons_zero, List.set_cons_succ])
        refine' wpRel_fix (by rfl) (fun U => by rfl) (fun m U w' hI hG => ?_) ?_
        rotate_left
        · have hf := HF.out w' hI
          unfold relAt
          go_simp
          clear hf
          exact Calls.mono (cmpFile_any xs[h] ⟨fn, fs⟩ w') fun e w'' h => ⟨h.1, h.2⟩
        simp only [Act.put, List.setIfInBounds_toArray, List.set_cons_zero, List.set_cons_succ]
        first
          | (refine wpRel_pass (by rfl) (fun U => by rfl) ?_; simp only [Act.put, List.setIfInBounds_toArray, List.set_cons_zero, List.set_cons_succ])
          | (refine' wpRel_fix (by rfl) (fun U => by rfl) (fun m U w' hI hG => ?_) ?_
             rotate_left
             focus (have hf := HF.out w' hI; unfold relAt; go_simp; first | exact ⟨rfl, Below.refl _ _⟩ | exact Below.refl _ _ | exact ⟨trivial, Below.refl _ _⟩)
             simp only [Act.put, List.setIfInBounds_toArray, List.set_cons_zero, List.set_cons_succ])
        intro U w5 hI hG
        have B5 := Lib.hid (HBW.out.trans ((show Below wr.heap.size wr w5 from hI).mono (by have := HBW.out.size; have := HZ0.out; omega)))
        clear hI hG HF
        go_wp2_with fail
        go_roundw
        case rel =>
          refine ⟨h + 1, hi, by go_num, rfl, by omega, hin, fun m hm hmh => ?_, HR2.out, B5.out⟩
          rcases Nat.lt_or_eq_of_le (Nat.le_of_lt_succ hmh) with hlt3 | rfl
          · exact strLt_trans (HASC.out m h hlt3 hm3) HLT.out
          · exact HLT.out
        case measure => simp [intOf]; omega
      | false =>
        have HLT := Lib.hid hlt2
        have hcs : 0 ≤ cmpStr xs[h].name fn := by
          rcases cmpStr_cases xs[h].name fn with ⟨k1, k2⟩ | ⟨k1, k2⟩ | ⟨k1, k2⟩
          · rw [hlt2] at k1; cases k1
          · omega
          · omega
        have hcs2 : ¬ cmpStr xs[h].name fn < 0 := by omega
        have hcs3 : decide (cmpStr xs[h].name fn < 0) = false := decide_eq_false hcs2
        clear hlt2
        refine wp_region_rel 8 (by kernel_rfl) (by kernel_rfl) (by rfl) ?_
        simp only [List.take_succ_cons, List.take_zero, List.drop_succ_cons, List.drop_zero]
        first
          | (refine wpRel_pass (by rfl) (fun U => by rfl) ?_; simp only [Act.put, List.setIfInBounds_toArray, List.set_cons_zero, List.set_cons_succ])
          | (refine' wpRel_fix (by rfl) (fun U => by rfl) (fun m U w' hI hG => ?_) ?_
             rotate_left
             focus (have hf := HF.out w' hI; unfold relAt; go_simp; first | exact ⟨rfl, Below.refl _ _⟩ | exact Below.refl _ _ | exact ⟨trivial, Below.refl _ _⟩)
             simp only [Act.put, List.setIfInBounds_toArray, List.set_cons_zero, List.set_cons_succ])
        first
          | (refine wpRel_pass (by rfl) (fun U => by rfl) ?_; simp only [Act.put, List.setIfInBounds_toArray, List.set_cons_zero, List.set_cons_succ])
          | (refine' wpRel_fix (by rfl) (fun U => by rfl) (fun m U w' hI hG => ?_) ?_
             rotate_left
             focus (have hf := HF.out w' hI; unfold relAt; go_simp; first | exact ⟨rfl, Below.refl _ _⟩ | exact Below.refl _ _ | exact ⟨trivial, Below.refl _ _⟩)
             simp only [Act.put, List.setIfInBounds_toArray, List.set_cons_zero, List.set_cons_succ])
        first
          | (refine wpRel_pass (by rfl) (fun U => by rfl) ?_; simp only [Act.put, List.setIfInBounds_toArray, List.set_cons_zero, List.set_cons_succ])
          | (refine' wpRel_fix (by rfl) (fun U => by rfl) (fun m U w' hI hG => ?_) ?_
             rotate_left
             focus (have hf := HF.out w' hI; unfold relAt; go_simp; first | exact ⟨rfl, Below.refl _ _⟩ | exact Below.refl _ _ | exact ⟨trivial, Below.refl _ _⟩)
             simp only [Act.put, List.setIfInBounds_toArray, List.set_cons_zero, List.set_cons_succ])
        first
          | (refine wpRel_pass (by rfl) (fun U => by rfl) ?_; simp only [Act.put, List.setIfInBounds_toArray, List.set_cons_zero, List.set_cons_succ])
          | (refine' wpRel_fix (by rfl) (fun U => by rfl) (fun m U w' hI hG => ?_) ?_
             rotate_left
             focus (have hf := HF.out w' hI; unfold relAt; go_simp; first | exact ⟨rfl, Below.refl _ _⟩ | exact Below.refl _ _ | exact ⟨trivial, Below.refl _ _⟩)
             simp only [Act.put, List.setIfInBounds_toArray, List.set_cons_zero, List.set_cons_succ])
        first
          | (refine wpRel_pass (by rfl) (fun U => by rfl) ?_; simp only [Act.put, List.setIfInBounds_toArray, List.set_cons_zero, List.set_cons_succ])
          | (refine' wpRel_fix (by rfl) (fun U => by rfl) (fun m U w' hI hG => ?_) ?_
             rotate_left
             focus (have hf := HF.out w' hI; unfold relAt; go_simp; first | exact ⟨rfl, Below.refl _ _⟩ | exact Below.refl _ _ | exact ⟨trivial, Below.refl _ _⟩)
             simp only [Act.put, List.setIfInBounds_toArray, List.set_cons_zero, List.set_cons_succ])
        first
          | (refine wpRel_pass (by rfl) (fun U => by rfl) ?_; simp only [Act.put, List.setIfInBounds_toArray, List.set_cons_zero, List.set_cons_succ])
          | (refine' wpRel_fix (by rfl) (fun U => by rfl) (fun m U w' hI hG => ?_) ?_
             rotate_left
             focus (have hf := HF.out w' hI; unfold relAt; go_simp; first | exact ⟨rfl, Below.refl _ _⟩ | exact Below.refl _ _ | exact ⟨trivial, Below.refl _ _⟩)
             simp only [Act.put, List.setIfInBounds_toArray, List.set_cons_zero, List.set_cons_succ])
        refine' wpRel_fix (by rfl) (fun U => by rfl) (fun m U w' hI hG => ?_) ?_
        rotate_left
        · have hf := HF.out w' hI
          unfold relAt
          go_simp
          clear hf
          exact Calls.mono (cmpFile_any xs[h] ⟨fn, fs⟩ w') fun e w'' h => ⟨h.1, h.2⟩
        simp only [Act.put, List.setIfInBounds_toArray, List.set_cons_zero, List.set_cons_succ]
        first
          | (refine wpRel_pass (by rfl) (fun U => by rfl) ?_; simp only [Act.put, List.setIfInBounds_toArray, List.set_cons_zero, List.set_cons_succ])
          | (refine' wpRel_fix (by rfl) (fun U => by rfl) (fun m U w' hI hG => ?_) ?_
             rotate_left
             focus (have hf := HF.out w' hI; unfold relAt; go_simp; first | exact ⟨rfl, Below.refl _ _⟩ | exact Below.refl _ _ | exact ⟨trivial, Below.refl _ _⟩)
             simp only [Act.put, List.setIfInBounds_toArray, List.set_cons_zero, List.set_cons_succ])
        intro U w5 hI hG
        have B5 := Lib.hid (HBW.out.trans ((show Below wr.heap.size wr w5 from hI).mono (by have := HBW.out.size; have := HZ0.out; omega)))
        clear hI hG HF
        go_wp2_with fail
        go_roundw
        case rel =>
          refine ⟨lo, h, rfl, rfl, by omega, by omega, HR1.out, fun m hm hmh => ?_, B5.out⟩
          rcases Nat.lt_or_eq_of_le hmh with hlt3 | rfl
          · rw [← Bool.not_eq_true]; intro k
            have := strLt_trans (HASC.out h m hlt3 hm) k
            rw [HLT.out] at this; cases this
          · exact HLT.out
        case measure => simp [intOf]; omega
    · have hhi : hi = lo := by omega
      subst hhi
      by_cases hln : hi < xs.length
      · obtain ⟨a, ao, ha⟩ := HX.out.place hln
        simp only at ha
        subst ha
        have HF : Hid (∀ w', Below wr.heap.size wr w' → (w'.cell? ⟨a, ao + hi * 2, none⟩ = some (.string xs[hi].name) ∧ w'.cell? ⟨a, ao + hi * 2 + 1, none⟩ = some xs[hi].sibs.val) ∧ (w'.cell? ⟨w.heap.size, 0, none⟩ = some (.string fn) ∧ w'.cell? ⟨w.heap.size, 1, none⟩ = some fs.val)) := Lib.hid (fun w' h => by
          have hh := hb.trans (h.mono (by have := hb.size; have := HZ0.out; omega))
          exact ⟨(HX.out.below hh (fun b hb => by have := HLX.out b hb; omega)).file rfl hln, (hh.cell (by simp)).trans (HBX.out 0), (hh.cell (by simp)).trans (HBX.out 1)⟩)
        have HBW := Lib.hid hb
        clear hb
        cases hq : (cmpStr xs[hi].name fn == 0) with
        | true =>
          have HQ := Lib.hid hq
          go_wp2_with fail
          refine wp_region_rel 16 (by kernel_rfl) (by kernel_rfl) (by rfl) ?_
          simp only [List.take_succ_cons, List.take_zero, List.drop_succ_cons, List.drop_zero]
          first
            | (refine wpRel_pass (by rfl) (fun U => by rfl) ?_; simp only [Act.put, List.setIfInBounds_toArray, List.set_cons_zero, List.set_cons_succ])
            | (refine' wpRel_fix (by rfl) (fun U => by rfl) (fun m U w' hI hG => ?_) ?_
               rotate_left
               focus (have hf := HF.out w' hI; unfold relAt; go_simp; first | exact ⟨rfl, Below.refl _ _⟩ | exact Below.refl _ _ | exact ⟨trivial, Below.refl _ _⟩)
               simp only [Act.put, List.setIfInBounds_toArray, List.set_cons_zero, List.set_cons_succ])
          first
            | (refine wpRel_pass (by rfl) (fun U => by rfl) ?_; simp only [Act.put, List.setIfInBounds_toArray, List.set_cons_zero, List.set_cons_succ])
            | (refine' wpRel_fix (by rfl) (fun U => by rfl) (fun m U w' hI hG => ?_) ?_
               rotate_left
               focus (have hf := HF.out w' hI; unfold relAt; go_simp; first | exact ⟨rfl, Below.refl _ _⟩ | exact Below.refl _ _ | exact ⟨trivial, Below.refl _ _⟩)
               simp only [Act.put, List.setIfInBounds_toArray, List.set_cons_zero, List.set_cons_succ])
          first
            | (refine wpRel_pass (by rfl) (fun U => by rfl) ?_; simp only [Act.put, List.setIfInBounds_toArray, List.set_cons_zero, List.set_cons_succ])
            | (refine' wpRel_fix (by rfl) (fun U => by rfl) (fun m U w' hI hG => ?_) ?_
               rotate_left
               focus (have hf := HF.out w' hI; unfold relAt; go_simp; first | exact ⟨rfl, Below.refl _ _⟩ | exact Below.refl _ _ | exact ⟨trivial, Below.refl _ _⟩)
               simp only [Act.put, List.setIfInBounds_toArray, List.set_cons_zero, List.set_cons_succ])
          first
            | (refine wpRel_pass (by rfl) (fun U => by rfl) ?_; simp only [Act.put, List.setIfInBounds_toArray, List.set_cons_zero, List.set_cons_succ])
            | (refine' wpRel_fix (by rfl) (fun U => by rfl) (fun m U w' hI hG => ?_) ?_
               rotate_left
               focus (have hf := HF.out w' hI; unfold relAt; go_simp; first | exact ⟨rfl, Below.refl _ _⟩ | exact Below.refl _ _ | exact ⟨trivial, Below.refl _ _⟩)
               simp only [Act.put, List.setIfInBounds_toArray, List.set_cons_zero, List.set_cons_succ])
          first
            | (refine wpRel_pass (by rfl) (fun U => by rfl) ?_; simp only [Act.put, List.setIfInBounds_toArray, List.set_cons_zero, List.set_cons_succ])
            | (refine' wpRel_fix (by rfl) (fun U => by rfl) (fun m U w' hI hG => ?_) ?_
               rotate_left
               focus (have hf := HF.out w' hI; unfold relAt; go_simp; first | exact ⟨rfl, Below.refl _ _⟩ | exact Below.refl _ _ | exact ⟨trivial, Below.refl _ _⟩)
               simp only [Act.put, List.setIfInBounds_toArray, List.set_cons_zero, List.set_cons_succ])
          first
            | (refine wpRel_pass (by rfl) (fun U => by rfl) ?_; simp only [Act.put, List.setIfInBounds_toArray, List.set_cons_zero, List.set_cons_succ])
            | (refine' wpRel_fix (by rfl) (fun U => by rfl) (fun m U w' hI hG => ?_) ?_
               rotate_left
               focus (have hf := HF.out w' hI; unfold relAt; go_simp; first | exact ⟨rfl, Below.refl _ _⟩ | exact Below.refl _ _ | exact ⟨trivial, Below.refl _ _⟩)
               simp only [Act.put, List.setIfInBounds_toArray, List.set_cons_zero, List.set_cons_succ])
          first
            | (refine wpRel_pass (by rfl) (fun U => by rfl) ?_; simp only [Act.put, List.setIfInBounds_toArray, List.set_cons_zero, List.set_cons_succ])
            | (refine' wpRel_fix (by rfl) (fun U => by rfl) (fun m U w' hI hG => ?_) ?_
               rotate_left
               focus (have hf := HF.out w' hI; unfold relAt; go_simp; first | exact ⟨rfl, Below.refl _ _⟩ | exact Below.refl _ _ | exact ⟨trivial, Below.refl _ _⟩)
               simp only [Act.put, List.setIfInBounds_toArray, List.set_cons_zero, List.set_cons_succ])
          first
            | (refine wpRel_pass (by rfl) (fun U => by rfl) ?_; simp only [Act.put, List.setIfInBounds_toArray, List.set_cons_zero, List.set_cons_succ])
            | (refine' wpRel_fix (by rfl) (fun U => by rfl) (fun m U w' hI hG => ?_) ?_
               rotate_left
               focus (have hf := HF.out w' hI; unfold relAt; go_simp; first | exact ⟨rfl, Below.refl _ _⟩ | exact Below.refl _ _ | exact ⟨trivial, Below.refl _ _⟩)
               simp only [Act.put, List.setIfInBounds_toArray, List.set_cons_zero, List.set_cons_succ])
          first
            | (refine wpRel_pass (by rfl) (fun U => by rfl) ?_; simp only [Act.put, List.setIfInBounds_toArray, List.set_cons_zero, List.set_cons_succ])
            | (refine' wpRel_fix (by rfl) (fun U => by rfl) (fun m U w' hI hG => ?_) ?_
               rotate_left
               focus (have hf := HF.out w' hI; unfold relAt; go_simp; first | exact ⟨rfl, Below.refl _ _⟩ | exact Below.refl _ _ | exact ⟨trivial, Below.refl _ _⟩)
               simp only [Act.put, List.setIfInBounds_toArray, List.set_cons_zero, List.set_cons_succ])
          first
            | (refine wpRel_pass (by rfl) (fun U => by rfl) ?_; simp only [Act.put, List.setIfInBounds_toArray, List.set_cons_zero, List.set_cons_succ])
            | (refine' wpRel_fix (by rfl) (fun U => by rfl) (fun m U w' hI hG => ?_) ?_
               rotate_left
               focus (have hf := HF.out w' hI; unfold relAt; go_simp; first | exact ⟨rfl, Below.refl _ _⟩ | exact Below.refl _ _ | exact ⟨trivial, Below.refl _ _⟩)
               simp only [Act.put, List.setIfInBounds_toArray, List.set_cons_zero, List.set_cons_succ])
          first
            | (refine wpRel_pass (by rfl) (fun U => by rfl) ?_; simp only [Act.put, List.setIfInBounds_toArray, List.set_cons_zero, List.set_cons_succ])
            | (refine' wpRel_fix (by rfl) (fun U => by rfl) (fun m U w' hI hG => ?_) ?_
               rotate_left
               focus (have hf := HF.out w' hI; unfold relAt; go_simp; first | exact ⟨rfl, Below.refl _ _⟩ | exact Below.refl _ _ | exact ⟨trivial, Below.refl _ _⟩)
               simp only [Act.put, List.setIfInBounds_toArray, List.set_cons_zero, List.set_cons_succ])
          refine' wpRel_fix (by rfl) (fun U => by rfl) (fun m U w' hI hG => ?_) ?_
          rotate_left
          · have hf := HF.out w' hI
            unfold relAt
            go_simp
            clear hf
            exact Calls.mono (cmpFile_any xs[hi] ⟨fn, fs⟩ w') fun e w'' h => ⟨h.1, h.2⟩
          simp only [Act.put, List.setIfInBounds_toArray, List.set_cons_zero, List.set_cons_succ]
          first
            | (refine wpRel_pass (by rfl) (fun U => by rfl) ?_; simp only [Act.put, List.setIfInBounds_toArray, List.set_cons_zero, List.set_cons_succ])
            | (refine' wpRel_fix (by rfl) (fun U => by rfl) (fun m U w' hI hG => ?_) ?_
               rotate_left
               focus (have hf := HF.out w' hI; unfold relAt; go_simp; first | exact ⟨rfl, Below.refl _ _⟩ | exact Below.refl _ _ | exact ⟨trivial, Below.refl _ _⟩)
               simp only [Act.put, List.setIfInBounds_toArray, List.set_cons_zero, List.set_cons_succ])
          first
            | (refine wpRel_pass (by rfl) (fun U => by rfl) ?_; simp only [Act.put, List.setIfInBounds_toArray, List.set_cons_zero, List.set_cons_succ])
            | (refine' wpRel_fix (by rfl) (fun U => by rfl) (fun m U w' hI hG => ?_) ?_
               rotate_left
               focus (have hf := HF.out w' hI; unfold relAt; go_simp; first | exact ⟨rfl, Below.refl _ _⟩ | exact Below.refl _ _ | exact ⟨trivial, Below.refl _ _⟩)
               simp only [Act.put, List.setIfInBounds_toArray, List.set_cons_zero, List.set_cons_succ])
          first
            | (refine wpRel_pass (by rfl) (fun U => by rfl) ?_; simp only [Act.put, List.setIfInBounds_toArray, List.set_cons_zero, List.set_cons_succ])
            | (refine' wpRel_fix (by rfl) (fun U => by rfl) (fun m U w' hI hG => ?_) ?_
               rotate_left
               focus (have hf := HF.out w' hI; unfold relAt; go_simp; first | exact ⟨rfl, Below.refl _ _⟩ | exact Below.refl _ _ | exact ⟨trivial, Below.refl _ _⟩)
               simp only [Act.put, List.setIfInBounds_toArray, List.set_cons_zero, List.set_cons_succ])
          first
            | (refine wpRel_pass (by rfl) (fun U => by rfl) ?_; simp only [Act.put, List.setIfInBounds_toArray, List.set_cons_zero, List.set_cons_succ])
            | (refine' wpRel_fix (by rfl) (fun U => by rfl) (fun m U w' hI hG => ?_) ?_
               rotate_left
               focus (have hf := HF.out w' hI; unfold relAt; go_simp; first | exact ⟨rfl, Below.refl _ _⟩ | exact Below.refl _ _ | exact ⟨trivial, Below.refl _ _⟩)
               simp only [Act.put, List.setIfInBounds_toArray, List.set_cons_zero, List.set_cons_succ])
          intro U w8 hI hG
          have B8 := Lib.hid (HBW.out.trans ((show Below wr.heap.size wr w8 from hI).mono (by have := HBW.out.size; have := HZ0.out; omega)))
          clear hI hG HF hq
          go_wp2_with fail
          go_ret2
          exact ⟨hi, true, rfl, hin, HR1.out, fun h => ⟨HR2.out hi h (Nat.le_refl _), ⟨fun _ => (cmpStr_TO.zero _ _).1 (by simpa using HQ.out), fun _ => rfl⟩⟩, fun _ => hln, HW0.out.trans (B8.out.mono (by omega))⟩
        | false =>
          have HQ := Lib.hid hq
          go_wp2_with fail
          refine wp_region_rel 16 (by kernel_rfl) (by kernel_rfl) (by rfl) ?_
          simp only [List.take_succ_cons, List.take_zero, List.drop_succ_cons, List.drop_zero]
          first
            | (refine wpRel_pass (by rfl) (fun U => by rfl) ?_; simp only [Act.put, List.setIfInBounds_toArray, List.set_cons_zero, List.set_cons_succ])
            | (refine' wpRel_fix (by rfl) (fun U => by rfl) (fun m U w' hI hG => ?_) ?_
               rotate_left
               focus (have hf := HF.out w' hI; unfold relAt; go_simp; first | exact ⟨rfl, Below.refl _ _⟩ | exact Below.refl _ _ | exact ⟨trivial, Below.refl _ _⟩)
               simp only [Act.put, List.setIfInBounds_toArray, List.set_cons_zero, List.set_cons_succ])
          first
            | (refine wpRel_pass (by rfl) (fun U => by rfl) ?_; simp only [Act.put, List.setIfInBounds_toArray, List.set_cons_zero, List.set_cons_succ])
            | (refine' wpRel_fix (by rfl) (fun U => by rfl) (fun m U w' hI hG => ?_) ?_
               rotate_left
               focus (have hf := HF.out w' hI; unfold relAt; go_simp; first | exact ⟨rfl, Below.refl _ _⟩ | exact Below.refl _ _ | exact ⟨trivial, Below.refl _ _⟩)
               simp only [Act.put, List.setIfInBounds_toArray, List.set_cons_zero, List.set_cons_succ])
          first
            | (refine wpRel_pass (by rfl) (fun U => by rfl) ?_; simp only [Act.put, List.setIfInBounds_toArray, List.set_cons_zero, List.set_cons_succ])
            | (refine' wpRel_fix (by rfl) (fun U => by rfl) (fun m U w' hI hG => ?_) ?_
               rotate_left
               focus (have hf := HF.out w' hI; unfold relAt; go_simp; first | exact ⟨rfl, Below.refl _ _⟩ | exact Below.refl _ _ | exact ⟨trivial, Below.refl _ _⟩)
               simp only [Act.put, List.setIfInBounds_toArray, List.set_cons_zero, List.set_cons_succ])
          first
            | (refine wpRel_pass (by rfl) (fun U => by rfl) ?_; simp only [Act.put, List.setIfInBounds_toArray, List.set_cons_zero, List.set_cons_succ])
            | (refine' wpRel_fix (by rfl) (fun U => by rfl) (fun m U w' hI hG => ?_) ?_
               rotate_left
               focus (have hf := HF.out w' hI; unfold relAt; go_simp; first | exact ⟨rfl, Below.refl _ _⟩ | exact Below.refl _ _ | exact ⟨trivial, Below.refl _ _⟩)
               simp only [Act.put, List.setIfInBounds_toArray, List.set_cons_zero, List.set_cons_succ])
          first
            | (refine wpRel_pass (by rfl) (fun U => by rfl) ?_; simp only [Act.put, List.setIfInBounds_toArray, List.set_cons_zero, List.set_cons_succ])
            | (refine' wpRel_fix (by rfl) (fun U => by rfl) (fun m U w' hI hG => ?_) ?_
               rotate_left
               focus (have hf := HF.out w' hI; unfold relAt; go_simp; first | exact ⟨rfl, Below.refl _ _⟩ | exact Below.refl _ _ | exact ⟨trivial, Below.refl _ _⟩)
               simp only [Act.put, List.setIfInBounds_toArray, List.set_cons_zero, List.set_cons_succ])
          first
            | (refine wpRel_pass (by rfl) (fun U => by rfl) ?_; simp only [Act.put, List.setIfInBounds_toArray, List.set_cons_zero, List.set_cons_succ])
            | (refine' wpRel_fix (by rfl) (fun U => by rfl) (fun m U w' hI hG => ?_) ?_
               rotate_left
               focus (have hf := HF.out w' hI; unfold relAt; go_simp; first | exact ⟨rfl, Below.refl _ _⟩ | exact Below.refl _ _ | exact ⟨trivial, Below.refl _ _⟩)
               simp only [Act.put, List.setIfInBounds_toArray, List.set_cons_zero, List.set_cons_succ])
          first
            | (refine wpRel_pass (by rfl) (fun U => by rfl) ?_; simp only [Act.put, List.setIfInBounds_toArray, List.set_cons_zero, List.set_cons_succ])
            | (refine' wpRel_fix (by rfl) (fun U => by rfl) (fun m U w' hI hG => ?_) ?_
               rotate_left
               focus (have hf := HF.out w' hI; unfold relAt; go_simp; first | exact ⟨rfl, Below.refl _ _⟩ | exact Below.refl _ _ | exact ⟨trivial, Below.refl _ _⟩)
               simp only [Act.put, List.setIfInBounds_toArray, List.set_cons_zero, List.set_cons_succ])
          first
            | (refine wpRel_pass (by rfl) (fun U => by rfl) ?_; simp only [Act.put, List.setIfInBounds_toArray, List.set_cons_zero, List.set_cons_succ])
            | (refine' wpRel_fix (by rfl) (fun U => by rfl) (fun m U w' hI hG => ?_) ?_
               rotate_left
               focus (have hf := HF.out w' hI; unfold relAt; go_simp; first | exact ⟨rfl, Below.refl _ _⟩ | exact Below.refl _ _ | exact ⟨trivial, Below.refl _ _⟩)
               simp only [Act.put, List.setIfInBounds_toArray, List.set_cons_zero, List.set_cons_succ])
          first
            | (refine wpRel_pass (by rfl) (fun U => by rfl) ?_; simp only [Act.put, List.setIfInBounds_toArray, List.set_cons_zero, List.set_cons_succ])
            | (refine' wpRel_fix (by rfl) (fun U => by rfl) (fun m U w' hI hG => ?_) ?_
               rotate_left
               focus (have hf := HF.out w' hI; unfold relAt; go_simp; first | exact ⟨rfl, Below.refl _ _⟩ | exact Below.refl _ _ | exact ⟨trivial, Below.refl _ _⟩)
               simp only [Act.put, List.setIfInBounds_toArray, List.set_cons_zero, List.set_cons_succ])
          first
            | (refine wpRel_pass (by rfl) (fun U => by rfl) ?_; simp only [Act.put, List.setIfInBounds_toArray, List.set_cons_zero, List.set_cons_succ])
            | (refine' wpRel_fix (by rfl) (fun U => by rfl) (fun m U w' hI hG => ?_) ?_
               rotate_left
               focus (have hf := HF.out w' hI; unfold relAt; go_simp; first | exact ⟨rfl, Below.refl _ _⟩ | exact Below.refl _ _ | exact ⟨trivial, Below.refl _ _⟩)
               simp only [Act.put, List.setIfInBounds_toArray, List.set_cons_zero, List.set_cons_succ])
          first
            | (refine wpRel_pass (by rfl) (fun U => by rfl) ?_; simp only [Act.put, List.setIfInBounds_toArray, List.set_cons_zero, List.set_cons_succ])
            | (refine' wpRel_fix (by rfl) (fun U => by rfl) (fun m U w' hI hG => ?_) ?_
               rotate_left
               focus (have hf := HF.out w' hI; unfold relAt; go_simp; first | exact ⟨rfl, Below.refl _ _⟩ | exact Below.refl _ _ | exact ⟨trivial, Below.refl _ _⟩)
               simp only [Act.put, List.setIfInBounds_toArray, List.set_cons_zero, List.set_cons_succ])
          refine' wpRel_fix (by rfl) (fun U => by rfl) (fun m U w' hI hG => ?_) ?_
          rotate_left
          · have hf := HF.out w' hI
            unfold relAt
            go_simp
            clear hf
            exact Calls.mono (cmpFile_any xs[hi] ⟨fn, fs⟩ w') fun e w'' h => ⟨h.1, h.2⟩
          simp only [Act.put, List.setIfInBounds_toArray, List.set_cons_zero, List.set_cons_succ]
          first
            | (refine wpRel_pass (by rfl) (fun U => by rfl) ?_; simp only [Act.put, List.setIfInBounds_toArray, List.set_cons_zero, List.set_cons_succ])
            | (refine' wpRel_fix (by rfl) (fun U => by rfl) (fun m U w' hI hG => ?_) ?_
               rotate_left
               focus (have hf := HF.out w' hI; unfold relAt; go_simp; first | exact ⟨rfl, Below.refl _ _⟩ | exact Below.refl _ _ | exact ⟨trivial, Below.refl _ _⟩)
               simp only [Act.put, List.setIfInBounds_toArray, List.set_cons_zero, List.set_cons_succ])
          first
            | (refine wpRel_pass (by rfl) (fun U => by rfl) ?_; simp only [Act.put, List.setIfInBounds_toArray, List.set_cons_zero, List.set_cons_succ])
            | (refine' wpRel_fix (by rfl) (fun U => by rfl) (fun m U w' hI hG => ?_) ?_
               rotate_left
               focus (have hf := HF.out w' hI; unfold relAt; go_simp; first | exact ⟨rfl, Below.refl _ _⟩ | exact Below.refl _ _ | exact ⟨trivial, Below.refl _ _⟩)
               simp only [Act.put, List.setIfInBounds_toArray, List.set_cons_zero, List.set_cons_succ])
          first
            | (refine wpRel_pass (by rfl) (fun U => by rfl) ?_; simp only [Act.put, List.setIfInBounds_toArray, List.set_cons_zero, List.set_cons_succ])
            | (refine' wpRel_fix (by rfl) (fun U => by rfl) (fun m U w' hI hG => ?_) ?_
               rotate_left
               focus (have hf := HF.out w' hI; unfold relAt; go_simp; first | exact ⟨rfl, Below.refl _ _⟩ | exact Below.refl _ _ | exact ⟨trivial, Below.refl _ _⟩)
               simp only [Act.put, List.setIfInBounds_toArray, List.set_cons_zero, List.set_cons_succ])
          first
            | (refine wpRel_pass (by rfl) (fun U => by rfl) ?_; simp only [Act.put, List.setIfInBounds_toArray, List.set_cons_zero, List.set_cons_succ])
            | (refine' wpRel_fix (by rfl) (fun U => by rfl) (fun m U w' hI hG => ?_) ?_
               rotate_left
               focus (have hf := HF.out w' hI; unfold relAt; go_simp; first | exact ⟨rfl, Below.refl _ _⟩ | exact Below.refl _ _ | exact ⟨trivial, Below.refl _ _⟩)
               simp only [Act.put, List.setIfInBounds_toArray, List.set_cons_zero, List.set_cons_succ])
          intro U w8 hI hG
          have B8 := Lib.hid (HBW.out.trans ((show Below wr.heap.size wr w8 from hI).mono (by have := HBW.out.size; have := HZ0.out; omega)))
          clear hI hG HF hq
          go_wp2_with fail
          go_ret2
          exact ⟨hi, false, rfl, hin, HR1.out, fun h => ⟨HR2.out hi h (Nat.le_refl _), ⟨fun h => (by cases h), fun h => (by have := (cmpStr_TO.zero _ _).2 h; have h2 := HQ.out; simp [this] at h2)⟩⟩, fun h => (by cases h), HW0.out.trans (B8.out.mono (by omega))⟩
      · have hln2 : hi = xs.length := by omega
        subst hln2
        have HF : Hid (∀ w', Below wr.heap.size wr w' → True) := Lib.hid (fun _ _ => trivial)
        have HBW := Lib.hid hb
        clear hb
        go_wp2_with fail
        refine wp_region_rel 16 (by kernel_rfl) (by kernel_rfl) (by rfl) ?_
        simp only [List.take_succ_cons, List.take_zero, List.drop_succ_cons, List.drop_zero]
        first
          | (refine wpRel_pass (by rfl) (fun U => by rfl) ?_; simp only [Act.put, List.setIfInBounds_toArray, List.set_cons_zero, List.set_cons_succ])
          | (refine' wpRel_fix (by rfl) (fun U => by rfl) (fun m U w' hI hG => ?_) ?_
             rotate_left
             focus (have hf := HF.out w' hI; unfold relAt; go_simp; first | exact ⟨rfl, Below.refl _ _⟩ | exact Below.refl _ _ | exact ⟨trivial, Below.refl _ _⟩)
             simp only [Act.put, List.setIfInBounds_toArray, List.set_cons_zero, List.set_cons_succ])
        first
          | (refine wpRel_pass (by rfl) (fun U => by rfl) ?_; simp only [Act.put, List.setIfInBounds_toArray, List.set_cons_zero, List.set_cons_succ])
          | (refine' wpRel_fix (by rfl) (fun U => by rfl) (fun m U w' hI hG => ?_) ?_
             rotate_left
             focus (have hf := HF.out w' hI; unfold relAt; go_simp; first | exact ⟨rfl, Below.refl _ _⟩ | exact Below.refl _ _ | exact ⟨trivial, Below.refl _ _⟩)
             simp only [Act.put, List.setIfInBounds_toArray, List.set_cons_zero, List.set_cons_succ])
        first
          | (refine wpRel_pass (by rfl) (fun U => by rfl) ?_; simp only [Act.put, List.setIfInBounds_toArray, List.set_cons_zero, List.set_cons_succ])
          | (refine' wpRel_fix (by rfl) (fun U => by rfl) (fun m U w' hI hG => ?_) ?_
             rotate_left
             focus (have hf := HF.out w' hI; unfold relAt; go_simp; first | exact ⟨rfl, Below.refl _ _⟩ | exact Below.refl _ _ | exact ⟨trivial, Below.refl _ _⟩)
             simp only [Act.put, List.setIfInBounds_toArray, List.set_cons_zero, List.set_cons_succ])
        first
          | (refine wpRel_pass (by rfl) (fun U => by rfl) ?_; simp only [Act.put, List.setIfInBounds_toArray, List.set_cons_zero, List.set_cons_succ])
          | (refine' wpRel_fix (by rfl) (fun U => by rfl) (fun m U w' hI hG => ?_) ?_
             rotate_left
             focus (have hf := HF.out w' hI; unfold relAt; go_simp; first | exact ⟨rfl, Below.refl _ _⟩ | exact Below.refl _ _ | exact ⟨trivial, Below.refl _ _⟩)
             simp only [Act.put, List.setIfInBounds_toArray, List.set_cons_zero, List.set_cons_succ])
        first
          | (refine wpRel_pass (by rfl) (fun U => by rfl) ?_; simp only [Act.put, List.setIfInBounds_toArray, List.set_cons_zero, List.set_cons_succ])
          | (refine' wpRel_fix (by rfl) (fun U => by rfl) (fun m U w' hI hG => ?_) ?_
             rotate_left
             focus (have hf := HF.out w' hI; unfold relAt; go_simp; first | exact ⟨rfl, Below.refl _ _⟩ | exact Below.refl _ _ | exact ⟨trivial, Below.refl _ _⟩)
             simp only [Act.put, List.setIfInBounds_toArray, List.set_cons_zero, List.set_cons_succ])
        first
          | (refine wpRel_pass (by rfl) (fun U => by rfl) ?_; simp only [Act.put, List.setIfInBounds_toArray, List.set_cons_zero, List.set_cons_succ])
          | (refine' wpRel_fix (by rfl) (fun U => by rfl) (fun m U w' hI hG => ?_) ?_
             rotate_left
             focus (have hf := HF.out w' hI; unfold relAt; go_simp; first | exact ⟨rfl, Below.refl _ _⟩ | exact Below.refl _ _ | exact ⟨trivial, Below.refl _ _⟩)
             simp only [Act.put, List.setIfInBounds_toArray, List.set_cons_zero, List.set_cons_succ])
        first
          | (refine wpRel_pass (by rfl) (fun U => by rfl) ?_; simp only [Act.put, List.setIfInBounds_toArray, List.set_cons_zero, List.set_cons_succ])
          | (refine' wpRel_fix (by rfl) (fun U => by rfl) (fun m U w' hI hG => ?_) ?_
             rotate_left
             focus (have hf := HF.out w' hI; unfold relAt; go_simp; first | exact ⟨rfl, Below.refl _ _⟩ | exact Below.refl _ _ | exact ⟨trivial, Below.refl _ _⟩)
             simp only [Act.put, List.setIfInBounds_toArray, List.set_cons_zero, List.set_cons_succ])
        first
          | (refine wpRel_pass (by rfl) (fun U => by rfl) ?_; simp only [Act.put, List.setIfInBounds_toArray, List.set_cons_zero, List.set_cons_succ])
          | (refine' wpRel_fix (by rfl) (fun U => by rfl) (fun m U w' hI hG => ?_) ?_
             rotate_left
             focus (have hf := HF.out w' hI; unfold relAt; go_simp; first | exact ⟨rfl, Below.refl _ _⟩ | exact Below.refl _ _ | exact ⟨trivial, Below.refl _ _⟩)
             simp only [Act.put, List.setIfInBounds_toArray, List.set_cons_zero, List.set_cons_succ])
        first
          | (refine wpRel_pass (by rfl) (fun U => by rfl) ?_; simp only [Act.put, List.setIfInBounds_toArray, List.set_cons_zero, List.set_cons_succ])
          | (refine' wpRel_fix (by rfl) (fun U => by rfl) (fun m U w' hI hG => ?_) ?_
             rotate_left
             focus (have hf := HF.out w' hI; unfold relAt; go_simp; first | exact ⟨rfl, Below.refl _ _⟩ | exact Below.refl _ _ | exact ⟨trivial, Below.refl _ _⟩)
             simp only [Act.put, List.setIfInBounds_toArray, List.set_cons_zero, List.set_cons_succ])
        first
          | (refine wpRel_pass (by rfl) (fun U => by rfl) ?_; simp only [Act.put, List.setIfInBounds_toArray, List.set_cons_zero, List.set_cons_succ])
          | (refine' wpRel_fix (by rfl) (fun U => by rfl) (fun m U w' hI hG => ?_) ?_
             rotate_left
             focus (have hf := HF.out w' hI; unfold relAt; go_simp; first | exact ⟨rfl, Below.refl _ _⟩ | exact Below.refl _ _ | exact ⟨trivial, Below.refl _ _⟩)
             simp only [Act.put, List.setIfInBounds_toArray, List.set_cons_zero, List.set_cons_succ])
        first
          | (refine wpRel_pass (by rfl) (fun U => by rfl) ?_; simp only [Act.put, List.setIfInBounds_toArray, List.set_cons_zero, List.set_cons_succ])
          | (refine' wpRel_fix (by rfl) (fun U => by rfl) (fun m U w' hI hG => ?_) ?_
             rotate_left
             focus (have hf := HF.out w' hI; unfold relAt; go_simp; first | exact ⟨rfl, Below.refl _ _⟩ | exact Below.refl _ _ | exact ⟨trivial, Below.refl _ _⟩)
             simp only [Act.put, List.setIfInBounds_toArray, List.set_cons_zero, List.set_cons_succ])
        first
          | (refine wpRel_pass (by rfl) (fun U => by rfl) ?_; simp only [Act.put, List.setIfInBounds_toArray, List.set_cons_zero, List.set_cons_succ])
          | (refine' wpRel_fix (by rfl) (fun U => by rfl) (fun m U w' hI hG => ?_) ?_
             rotate_left
             focus (have hf := HF.out w' hI; unfold relAt; go_simp; first | exact ⟨rfl, Below.refl _ _⟩ | exact Below.refl _ _ | exact ⟨trivial, Below.refl _ _⟩)
             simp only [Act.put, List.setIfInBounds_toArray, List.set_cons_zero, List.set_cons_succ])
        first
          | (refine wpRel_pass (by rfl) (fun U => by rfl) ?_; simp only [Act.put, List.setIfInBounds_toArray, List.set_cons_zero, List.set_cons_succ])
          | (refine' wpRel_fix (by rfl) (fun U => by rfl) (fun m U w' hI hG => ?_) ?_
             rotate_left
             focus (have hf := HF.out w' hI; unfold relAt; go_simp; first | exact ⟨rfl, Below.refl _ _⟩ | exact Below.refl _ _ | exact ⟨trivial, Below.refl _ _⟩)
             simp only [Act.put, List.setIfInBounds_toArray, List.set_cons_zero, List.set_cons_succ])
        first
          | (refine wpRel_pass (by rfl) (fun U => by rfl) ?_; simp only [Act.put, List.setIfInBounds_toArray, List.set_cons_zero, List.set_cons_succ])
          | (refine' wpRel_fix (by rfl) (fun U => by rfl) (fun m U w' hI hG => ?_) ?_
             rotate_left
             focus (have hf := HF.out w' hI; unfold relAt; go_simp; first | exact ⟨rfl, Below.refl _ _⟩ | exact Below.refl _ _ | exact ⟨trivial, Below.refl _ _⟩)
             simp only [Act.put, List.setIfInBounds_toArray, List.set_cons_zero, List.set_cons_succ])
        first
          | (refine wpRel_pass (by rfl) (fun U => by rfl) ?_; simp only [Act.put, List.setIfInBounds_toArray, List.set_cons_zero, List.set_cons_succ])
          | (refine' wpRel_fix (by rfl) (fun U => by rfl) (fun m U w' hI hG => ?_) ?_
             rotate_left
             focus (have hf := HF.out w' hI; unfold relAt; go_simp; first | exact ⟨rfl, Below.refl _ _⟩ | exact Below.refl _ _ | exact ⟨trivial, Below.refl _ _⟩)
             simp only [Act.put, List.setIfInBounds_toArray, List.set_cons_zero, List.set_cons_succ])
        first
          | (refine wpRel_pass (by rfl) (fun U => by rfl) ?_; simp only [Act.put, List.setIfInBounds_toArray, List.set_cons_zero, List.set_cons_succ])
          | (refine' wpRel_fix (by rfl) (fun U => by rfl) (fun m U w' hI hG => ?_) ?_
             rotate_left
             focus (have hf := HF.out w' hI; unfold relAt; go_simp; first | exact ⟨rfl, Below.refl _ _⟩ | exact Below.refl _ _ | exact ⟨trivial, Below.refl _ _⟩)
             simp only [Act.put, List.setIfInBounds_toArray, List.set_cons_zero, List.set_cons_succ])
        intro U w8 hI hG
        have B8 := Lib.hid (HBW.out.trans ((show Below wr.heap.size wr w8 from hI).mono (by have := HBW.out.size; have := HZ0.out; omega)))
        clear hI hG HF
        go_wp2_with fail
        refine bodyPost_ret (v := .tuple #[.int .i64 xs.length, .bool false]) ?_ rfl ?_
        · simp only [results, Tryz.results70]
          go_simp
        exact ⟨xs.length, false, rfl, Nat.le_refl _, HR1.out, fun h => absurd h (by omega), fun h => (by cases h), HW0.out.trans (B8.out.mono (by omega))⟩
end Go.Proofs.YtdidkfadiaafiaaGreatDoor

namespace Go.Proofs.YtdidkfadiaafiaaGreatDoor
open Go Go.RowKit

/-- What one insertion asks. -/
structure InsAt (base : Nat) (w : World) (l : Loc LFile) (i vb : Nat) (f : LFile) : Prop where
  own : Own base 58 w l
  lo : base ≤ w.heap.size
  hi : i ≤ l.xs.length
  few : l.xs.length ≤ 1000
  row : ∃ t, w.heap[vb]? = some (.cells #[.string f.name, f.sibs.val] t (0, 0))
  at_ : Dat.At w f
  off : ∀ b ∈ Dat.fp f, some b ≠ l.val.ownBlock
  voff : some vb ≠ l.val.ownBlock

set_option maxRecDepth 100000 in
set_option maxHeartbeats 4000000 in
theorem insert_shift (base g c i vb : Nat) (xs : List LFile) (f : LFile) (w : World) (H : InsAt base w ⟨some ⟨g, 0, none⟩, c, xs⟩ i vb f) (hi : i < xs.length) (hroom : xs.length + 1 ≤ c) :
    Calls Tryz.prog 73 #[.slice (some ⟨g, 0, none⟩) xs.length c, .int .i64 i, .slice (some ⟨vb, 0, none⟩) 1 1] w fun e w' =>
      ∃ l', e = .returned (l'.val) ∧ Became base 58 w ⟨some ⟨g, 0, none⟩, c, xs⟩ (xs.take i ++ f :: xs.drop i) l' w' := by
  obtain ⟨t, hrow⟩ := H.row
  have hcm : c ≤ 9223372036854775807 := by have := H.own.at_.capMax; simpa [maxLen] using this
  rcases H.own.cases with h0 | ⟨g', c', xs', cur, he, hbg, hg, hcl, hcm2, hcs, htk⟩
  · cases h0
  obtain ⟨rfl, rfl, rfl⟩ : g = g' ∧ c = c' ∧ xs = xs' := by cases he; exact ⟨rfl, rfl, rfl⟩
  have hne : vb ≠ g := fun h => H.voff (by rw [h]; rfl)
  have hov : ∀ lb cb o, (callFunc 104 #[.slice (some ⟨vb, 0, none⟩) 1 1, .slice (some ⟨g, o, none⟩) lb cb]).run Tryz.prog w = .ok (.value (.bool false)) w := fun lb cb o => by
    rw [run_callFunc_extern Tryz.func104 (by kernel_rfl) (by kernel_rfl) (by kernel_rfl) (e := Extern.SlicesOverlaps.overlaps #[24, 24] #[4]) (by kernel_rfl),
      Lib.run_overlaps_apart w 24 4 58 Tryz.underlying24 2 Tryz.sizeOf58 ⟨vb, 0, none⟩ ⟨g, o, none⟩ 1 1 lb cb hne t 58 2 cur.size (by simp [World.shape?, hrow]) (by simp [World.shape?, hg]) (by rw [hcs]; simp only [Dat.k]; omega) (frozen_of_row _ _ _ _ _ hrow) (frozen_of_row _ _ _ _ _ hrow)]
    rfl
  have hw1 : IntKind.i64.wrap ((i : Int) + 1) = (i : Int) + 1 := IntWalk.i64_in _ (by omega)
  have hw2 : IntKind.i64.wrap ((xs.length : Int) + 1) = (xs.length : Int) + 1 := IntWalk.i64_in _ (by omega)
  have hz2 : ((i : Int) == (xs.length : Int)) = false := by rw [beq_eq_false_iff_ne]; omega
  have hz2' : ¬ ((i : Int) = (xs.length : Int)) := by omega
  have hz3 : ¬ (c : Int) < (xs.length : Int) + 1 := by omega
  have hin : i ≤ xs.length := by omega
  have hb2 : ¬ (c = i + 1) := by omega
  have hb3 : (i : Int) ≤ (xs.length : Int) + 1 := by omega
  have hb4 : ¬ (c = i) := by omega
  have hb1 : (0 : Int) ≤ (i : Int) + 1 := by omega
  have mixed : Tryz.prog.follows .mixedOrders = true := by kernel_rfl
  have htn : ((i : Int) + 1).toNat = i + 1 := by omega
  have htn2 : ((xs.length : Int) + 1).toNat = xs.length + 1 := by omega
  have hHa := H.at_
  have hHo := H.off
  have hat := H.own.at_
  have hels := H.own.els
  have heoff := H.own.off
  clear H
  obtain ⟨F, hF⟩ : ∃ F, F = xs.flatMap Dat.enc := ⟨_, rfl⟩
  have hFl : F.length = xs.length * 2 := by rw [hF, flatMap_len]; rfl
  have hFc : ∀ j u, F[j]? = some u → w.cell? ⟨g, j, none⟩ = some u := fun j u h => by
    have h2 := flat_cells (α := LFile) hat (a := ⟨g, 0, none⟩) rfl j u (by rw [← hF]; exact h)
    rw [add_lit', Nat.zero_add] at h2; exact h2
  have hF1 : ∀ v ∈ F, v.oneCell' = true := by rw [hF]; exact enc_one xs
  have hLs : cur.size = c * 2 := hcs
  have hcl0 : cur.toList.length = c * 2 := by rw [← hLs]; rfl
  have hsz : (Tryz.prog.info? 58).map (·.size) = some 2 := by
    obtain ⟨i0, h1, h2, h3, h4⟩ := info_parts file_info
    rw [h1]; simp [h3]
  have hdl : (F.drop (i * 2)).length = (xs.length - i) * 2 := by rw [List.length_drop, hFl]; omega
  obtain ⟨L1, hL1⟩ : ∃ L1, L1 = cur.toList.take ((i + 1) * 2) ++ F.drop (i * 2) ++ cur.toList.drop ((i + 1) * 2 + (F.drop (i * 2)).length) := ⟨_, rfl⟩
  have hL1s : L1.length = c * 2 := by
    rw [hL1]
    simp only [List.length_append, List.length_take, List.length_drop, hcl0, hFl]
    omega
  have hcp1 : ∀ ty dc sc, (Builtin.copy_ #[24, 24] ty #[.slice (some ⟨g, (i + 1) * 2, none⟩) (xs.length - i) dc, .slice (some ⟨g, i * 2, none⟩) (xs.length + 1 - i) sc]).run Tryz.prog w.drew = .ok (goInt (Nat.min (xs.length + 1 - i) (xs.length - i))) (w.drew.setRow g L1.toArray) := fun ty dc sc => by
    rw [hL1]
    exact run_copy_k w.drew _ _ ty 58 2 g ((i + 1) * 2) (xs.length - i) dc ⟨g, i * 2, none⟩ (xs.length + 1 - i) sc cur 58 (F.drop (i * 2)) Tryz.underlying24 hsz hg
      (by rw [hdl]; congr 1; simp only [Nat.min_def]; split <;> omega)
      (fun j v hj => by rw [add_lit']; exact hFc _ v (by rwa [List.getElem?_drop] at hj))
      (by rw [hdl, hLs]; omega) (fun v hv => hF1 v (List.mem_of_mem_drop hv))
  obtain ⟨W1, hW1⟩ : ∃ W1, W1 = w.drew.setRow g L1.toArray := ⟨_, rfl⟩
  have hg1 : W1.heap[g]? = some (.cells L1.toArray 58 (0, 0)) := by rw [hW1]; exact setRow_heap w.drew g cur _ _ _ hg
  have hv1 : W1.heap[vb]? = some (.cells #[.string f.name, f.sibs.val] t (0, 0)) := by rw [hW1, setRow_other _ _ _ _ hne]; exact hrow
  obtain ⟨L2, hL2⟩ : ∃ L2, L2 = L1.take (i * 2) ++ Dat.enc f ++ L1.drop (i * 2 + (Dat.enc f).length) := ⟨_, rfl⟩
  have hcp2 : ∀ (W : World), W.heap = W1.heap → ∀ ty dc, (Builtin.copy_ #[24, 24] ty #[.slice (some ⟨g, i * 2, none⟩) (xs.length + 1 - i) dc, .slice (some ⟨vb, 0, none⟩) 1 1]).run Tryz.prog W = .ok (goInt (Nat.min 1 (xs.length + 1 - i))) (W.setRow g L2.toArray) := fun W hW ty dc => by
    rw [hL2]
    have h := run_copy_k (P := Tryz.prog) W 24 24 ty 58 2 g (i * 2) (xs.length + 1 - i) dc ⟨vb, 0, none⟩ 1 1 L1.toArray 58 (Dat.enc f) Tryz.underlying24 hsz (by rw [hW]; exact hg1)
      (by rw [Dat.len]; simp only [Nat.min_def]; split <;> first | rfl | omega)
      (fun j v hj => by
        rw [add_lit', Nat.zero_add, World.cell?_of_block (w := W1) (show W.heap[vb]? = W1.heap[vb]? by rw [hW]), cell_of_row _ _ _ _ _ _ hv1, ← Array.getElem?_toList]
        exact hj)
      (by rw [Dat.len]; simp only [List.size_toArray, hL1s]; simp only [Dat.k]; omega) (Dat.one f)
    simpa using h
  have hfin : L2.take ((xs.length + 1) * 2) = (xs.take i ++ f :: xs.drop i).flatMap Dat.enc ∧ L2.length = c * 2 := by
    have e1 : (i + 1) * 2 = i * 2 + 2 := by omega
    have e2 : i * 2 + 2 + (F.drop (i * 2)).length = xs.length * 2 + 2 := by rw [hdl]; omega
    have htk2 : cur.toList.take (xs.length * 2) = F := by rw [hF]; exact htk
    rw [e1, e2] at hL1
    rcases row_shift (L := cur.toList) (F := F) (E := Dat.enc f) (p := i * 2) (m := xs.length * 2) (k := 2) (Dat.len f) htk2 hFl (by omega) with h | h
    · rw [← hL1] at h
      have h2 : L2 = F.take (i * 2) ++ Dat.enc f ++ F.drop (i * 2) ++ cur.toList.drop (xs.length * 2 + 2) := by rw [hL2, Dat.len]; exact h
      have h3 : (F.take (i * 2) ++ Dat.enc f ++ F.drop (i * 2)).length = (xs.length + 1) * 2 := by
        simp only [List.length_append, List.length_take, List.length_drop, hFl, Dat.len]
        simp only [Dat.k]; omega
      refine ⟨?_, ?_⟩
      · rw [h2, List.take_left' h3, List.flatMap_append, List.flatMap_cons, flat_take, flat_drop, ← hF, List.append_assoc]; rfl
      · rw [h2, List.length_append, h3, List.length_drop, hcl0]; omega
    · exfalso
      rw [hcl0] at h; omega
  rw [← hW1] at hcp1
  have HFIN := Lib.hid hfin
  have HG1 := Lib.hid hg1
  have HBG := Lib.hid hbg
  have HELS := Lib.hid hels
  have HEO := Lib.hid heoff
  have HFA := Lib.hid hHa
  have HFO := Lib.hid hHo
  have HCM := Lib.hid hcm2
  have HW1E := Lib.hid hW1
  clear hfin hg1 hbg hels heoff hHa hHo hcm2 hW1 hL1 hL2 hF hFl hFc hF1 hdl hL1s hsz hcs hLs htk hat hv1 hrow hg
  go_enter Tryz.func73, Tryz.ntmps73
  go_upto_region 15 with (simp only [hov])
  go_region_law_o (refine step_copy_runI rfl _ _ 24 24 rfl _ _ (by simp [Act.eval, Act.put]) (by simp [Act.eval, Act.put]) (hcp1 _ _ _) ?_)
  go_wp2_with (at_builtin; refine wpList_copy_runI _ rfl _ _ 24 24 rfl _ _ rfl rfl (hcp2 _ rfl _ _) ?_)
  go_ret
  have hlen : (xs.take i ++ f :: xs.drop i).length = xs.length + 1 := by simp; omega
  refine ⟨⟨some ⟨g, 0, none⟩, c, xs.take i ++ f :: xs.drop i⟩, ?_, became_row (cur := L2.toArray) HBG.out (setRow_heap W1 g _ _ _ _ HG1.out) (by rw [hlen]; exact hroom) HCM.out (by simp only [List.size_toArray, HFIN.out.2]; rfl) ?_ ?_ (fun z hz => ?_) (.inl rfl)⟩
  · show Ending.returned (Value.slice (some ⟨g, 0, none⟩) (xs.length + 1) c) = Ending.returned (Value.slice (some ⟨g, 0, none⟩) (xs.take i ++ f :: xs.drop i).length c)
    rw [hlen]
  · rw [hlen, List.toList_toArray]; exact HFIN.out.1
  · rw [HW1E.out]
    exact ⟨rfl, rfl, rfl, by simp, fun k _ hk => by
      have hkg : k ≠ g := fun h => hk (by rw [h]; rfl)
      rw [setRow_other _ _ _ _ hkg, setRow_other _ _ _ _ hkg]; rfl⟩
  · rcases List.mem_append.1 hz with h | h
    · exact ⟨HELS.out z (List.mem_of_mem_take h), HEO.out z (List.mem_of_mem_take h)⟩
    · rcases List.mem_cons.1 h with rfl | h
      · exact ⟨HFA.out, HFO.out⟩
      · exact ⟨HELS.out z (List.mem_of_mem_drop h), HEO.out z (List.mem_of_mem_drop h)⟩

set_option maxRecDepth 100000 in
set_option maxHeartbeats 4000000 in
theorem insert_grow (base g c i vb : Nat) (xs : List LFile) (f : LFile) (w : World) (H : InsAt base w ⟨some ⟨g, 0, none⟩, c, xs⟩ i vb f) (hi : i < xs.length) (hroom : ¬ xs.length + 1 ≤ c) :
    Calls Tryz.prog 73 #[.slice (some ⟨g, 0, none⟩) xs.length c, .int .i64 i, .slice (some ⟨vb, 0, none⟩) 1 1] w fun e w' =>
      ∃ l', e = .returned (l'.val) ∧ Became base 58 w ⟨some ⟨g, 0, none⟩, c, xs⟩ (xs.take i ++ f :: xs.drop i) l' w' := by
  obtain ⟨t, hrow⟩ := H.row
  have hcm : c ≤ 9223372036854775807 := by have := H.own.at_.capMax; simpa [maxLen] using this
  have hfew : xs.length ≤ 1000 := H.few
  rcases H.own.cases with h0 | ⟨g', c', xs', cur, he, hbg, hg, hcl, hcm2, hcs, htk⟩
  · cases h0
  obtain ⟨rfl, rfl, rfl⟩ : g = g' ∧ c = c' ∧ xs = xs' := by cases he; exact ⟨rfl, rfl, rfl⟩
  have hgw : g < w.heap.size := (Array.getElem?_eq_some_iff.1 hg).1
  have hvw : vb < w.heap.size := (Array.getElem?_eq_some_iff.1 hrow).1
  have hgN : g ≠ w.heap.size := by omega
  have hvN : vb ≠ w.heap.size := by omega
  have mixed : Tryz.prog.follows .mixedOrders = true := by kernel_rfl
  have hw1 : IntKind.i64.wrap ((i : Int) + 1) = (i : Int) + 1 := IntWalk.i64_in _ (by omega)
  have hw2 : IntKind.i64.wrap ((xs.length : Int) + 1) = (xs.length : Int) + 1 := IntWalk.i64_in _ (by omega)
  have hw3 : IntKind.i64.wrap ((xs.length : Int) + 1 - (i : Int)) = (xs.length : Int) + 1 - (i : Int) := IntWalk.i64_in _ (by omega)
  have hz2 : ((i : Int) == (xs.length : Int)) = false := by rw [beq_eq_false_iff_ne]; omega
  have hz2' : ¬ ((i : Int) = (xs.length : Int)) := by omega
  have hz3 : (c : Int) < (xs.length : Int) + 1 := by omega
  have hin : i ≤ xs.length := by omega
  have hb1 : (0 : Int) ≤ (i : Int) + 1 := by omega
  have hb3 : (i : Int) ≤ (xs.length : Int) + 1 := by omega
  have hci : ¬ (c = i) := by omega
  have hic : i ≤ c := by omega
  have htn : ((i : Int) + 1).toNat = i + 1 := by omega
  have hHa := H.at_
  have hHo := H.off
  have hat := H.own.at_
  have hels := H.own.els
  have heoff := H.own.off
  have hlo := H.lo
  clear H
  obtain ⟨F, hF⟩ : ∃ F, F = xs.flatMap Dat.enc := ⟨_, rfl⟩
  have hFl : F.length = xs.length * 2 := by rw [hF, flatMap_len]; rfl
  have hFc : ∀ j u, F[j]? = some u → w.cell? ⟨g, j, none⟩ = some u := fun j u h => by
    have h2 := flat_cells (α := LFile) hat (a := ⟨g, 0, none⟩) rfl j u (by rw [← hF]; exact h)
    rw [add_lit', Nat.zero_add] at h2; exact h2
  have hF1 : ∀ v ∈ F, v.oneCell' = true := by rw [hF]; exact enc_one xs
  obtain ⟨i0, hi0, hz0, hzs, hzb⟩ := info_parts file_info
  have hsz : (Tryz.prog.info? 58).map (·.size) = some 2 := by rw [hi0]; simp [hzs]
  have hdl : (F.drop (i * 2)).length = (xs.length - i) * 2 := by rw [List.length_drop, hFl]; omega
  have htl : (F.take (i * 2)).length = i * 2 := by rw [List.length_take, hFl]; omega
  have hkk : (xs.length : Int) + 1 - (i : Int) = ((xs.length + 1 - i : Nat) : Int) := by omega
  have hik : i + (xs.length + 1 - i) = xs.length + 1 := by omega
  have hold : (Builtin.firstCells i0.size i (.slice (some ⟨g, 0, none⟩) i c)).run Tryz.prog w.drew = .ok (F.take (i * 2)).toArray w.drew := by
    rw [hzs]
    exact run_firstCells_some w.drew 2 i ⟨g, 0, none⟩ i c (F.take (i * 2)) (by rw [htl]) (fun j v hj => by
      rw [add_lit', Nat.zero_add]
      rw [List.getElem?_take] at hj
      split at hj
      · exact hFc j v hj
      · cases hj)
  obtain ⟨G, hG⟩ : ∃ G, G = grownCap w (xs.length + 1) c 58 := ⟨_, rfl⟩
  obtain ⟨ROW, hROW⟩ : ∃ ROW : Array Value, ROW = (F.take (i * 2)).toArray ++ Builtin.zeroCells (Value.agg #[.string ⟨#[]⟩, .slice none 0 0]).cells (xs.length + 1 - i) ++ Builtin.zeroCells (Value.agg #[.string ⟨#[]⟩, .slice none 0 0]).cells (G - (xs.length + 1)) := ⟨_, rfl⟩
  have hGn : xs.length + 1 ≤ G := by rw [hG]; exact grownCap_ge w _ _ _
  have hGm : G ≤ maxLen := by rw [hG]; exact grownCap_le_maxLen w _ _ _ (by simp only [maxLen]; omega)
  have hG63 : G ≤ 9223372036854775807 := by simpa [maxLen] using hGm
  have hrz : ∀ ty, (Builtin.append_ #[24, 3] ty #[.slice (some ⟨g, 0, none⟩) i c, .int .i64 ((xs.length : Int) + 1 - (i : Int))]).run Tryz.prog w =
      .ok (.slice (some ⟨w.heap.size, 0, none⟩) (xs.length + 1) G) (w.drew.alloc (.cells ROW 58)) := fun ty => by
    have h := Lib.run_append_grow_zeros w 24 3 ty 58 i0 _ .i64 .i64 Tryz.underlying24 Tryz.underlying3 hi0 hz0 (some ⟨g, 0, none⟩) i c (F.take (i * 2)) hold (xs.length + 1 - i) (by omega) (by omega) (by omega) (by omega) (by rw [hzb]; omega) (by rw [hzb, hik]; exact growslice_fits (by omega) (by omega))
    rw [hik, ← hG] at h
    rw [hkk, hROW]
    exact h
  have hRs : ROW.size = G * 2 := by
    rw [hROW]
    simp only [Array.size_append, List.size_toArray, size_zeroCells, htl]
    have : (Value.agg #[.string ⟨#[]⟩, .slice none 0 0]).cells.size = 2 := rfl
    rw [this]; omega
  have hRl : ROW.toList.length = G * 2 := by rw [← hRs]; rfl
  have hRt : ROW.toList.take (i * 2) = F.take (i * 2) := by
    rw [hROW]
    simp only [Array.toList_append, List.append_assoc]
    exact List.take_left' htl
  obtain ⟨W1, hW1⟩ : ∃ W1, W1 = w.drew.alloc (.cells ROW 58) := ⟨_, rfl⟩
  have hg1 : W1.heap[w.heap.size]? = some (.cells ROW 58 (0, 0)) := by rw [hW1]; exact heap_alloc_new w.drew _
  have hko : ∀ k, k < w.heap.size → W1.heap[k]? = w.heap[k]? := fun k hk => by rw [hW1]; exact Below.heap_alloc w.drew _ k hk
  obtain ⟨R1, hR1⟩ : ∃ R1, R1 = ROW.toList.take (i * 2) ++ Dat.enc f ++ ROW.toList.drop (i * 2 + (Dat.enc f).length) := ⟨_, rfl⟩
  have hR1s : R1.length = G * 2 := by
    rw [hR1]
    simp only [List.length_append, List.length_take, List.length_drop, hRl, Dat.len]
    simp only [Dat.k]; omega
  have hcpA : ∀ (W : World), W.heap = W1.heap → ∀ ty dc, (Builtin.copy_ #[24, 24] ty #[.slice (some ⟨w.heap.size, i * 2, none⟩) (xs.length + 1 - i) dc, .slice (some ⟨vb, 0, none⟩) 1 1]).run Tryz.prog W = .ok (goInt (Nat.min 1 (xs.length + 1 - i))) (W.setRow w.heap.size R1.toArray) := fun W hW ty dc => by
    rw [hR1]
    exact run_copy_k (P := Tryz.prog) W 24 24 ty 58 2 w.heap.size (i * 2) (xs.length + 1 - i) dc ⟨vb, 0, none⟩ 1 1 ROW 58 (Dat.enc f) Tryz.underlying24 hsz (by rw [hW]; exact hg1)
      (by rw [Dat.len]; simp only [Nat.min_def]; split <;> first | rfl | omega)
      (fun j v hj => by
        rw [add_lit', Nat.zero_add, World.cell?_of_block (w := w) (show W.heap[vb]? = w.heap[vb]? by rw [hW]; exact hko vb hvw), cell_of_row _ _ _ _ _ _ hrow, ← Array.getElem?_toList]
        exact hj)
      (by rw [Dat.len, hRs]; simp only [Dat.k]; omega) (Dat.one f)
  obtain ⟨R2, hR2⟩ : ∃ R2, R2 = R1.take ((i + 1) * 2) ++ F.drop (i * 2) ++ R1.drop ((i + 1) * 2 + (F.drop (i * 2)).length) := ⟨_, rfl⟩
  have hcpB : ∀ (W : World), W.heap = (W1.setRow w.heap.size R1.toArray).heap → ∀ ty dc sc, (Builtin.copy_ #[24, 24] ty #[.slice (some ⟨w.heap.size, (i + 1) * 2, none⟩) (xs.length - i) dc, .slice (some ⟨g, i * 2, none⟩) (xs.length - i) sc]).run Tryz.prog W = .ok (goInt (Nat.min (xs.length - i) (xs.length - i))) (W.setRow w.heap.size R2.toArray) := fun W hW ty dc sc => by
    rw [hR2]
    have h := run_copy_k (P := Tryz.prog) W 24 24 ty 58 2 w.heap.size ((i + 1) * 2) (xs.length - i) dc ⟨g, i * 2, none⟩ (xs.length - i) sc R1.toArray 58 (F.drop (i * 2)) Tryz.underlying24 hsz (by rw [hW]; exact setRow_heap W1 w.heap.size _ _ _ _ hg1)
      (by rw [hdl]; congr 1; simp only [Nat.min_def]; split <;> omega)
      (fun j v hj => by
        rw [add_lit', World.cell?_of_block (w := w) (show W.heap[g]? = w.heap[g]? by rw [hW, setRow_other _ _ _ _ hgN]; exact hko g hgw)]
        exact hFc _ v (by rwa [List.getElem?_drop] at hj))
      (by rw [hdl]; simp only [List.size_toArray, hR1s]; omega) (fun v hv => hF1 v (List.mem_of_mem_drop hv))
    simpa using h
  have hfin : R2.take ((xs.length + 1) * 2) = (xs.take i ++ f :: xs.drop i).flatMap Dat.enc ∧ R2.length = G * 2 := by
    have e1 : (i + 1) * 2 = i * 2 + 2 := by omega
    have h := row_new (L := ROW.toList) (F := F) (E := Dat.enc f) (p := i * 2) (m := xs.length * 2) (k := 2) (Dat.len f) hRt hFl (by omega)
    have h2 : R1 = ROW.toList.take (i * 2) ++ Dat.enc f ++ ROW.toList.drop (i * 2 + 2) := by rw [hR1, Dat.len]; rfl
    rw [← h2] at h
    have h3 : i * 2 + 2 + (F.drop (i * 2)).length = i * 2 + 2 + (xs.length * 2 - i * 2) := by rw [List.length_drop, hFl]
    rw [e1, h3] at hR2
    rw [← hR2] at h
    refine ⟨?_, ?_⟩
    · rw [show (xs.length + 1) * 2 = xs.length * 2 + 2 by omega, h, List.flatMap_append, List.flatMap_cons, flat_take, flat_drop, ← hF, List.append_assoc]; rfl
    · rw [hR2]
      simp only [List.length_append, List.length_take, List.length_drop, hR1s, hFl]
      omega
  have hlen : (xs.take i ++ f :: xs.drop i).length = xs.length + 1 := by simp; omega
  have HB : Hid (∀ W : World, W.heap = (W1.setRow w.heap.size R1.toArray).heap → W.os = w.os → W.tape = w.tape → W.output = w.output → Became base 58 w ⟨some ⟨g, 0, none⟩, c, xs⟩ (xs.take i ++ f :: xs.drop i) ⟨some ⟨w.heap.size, 0, none⟩, G, xs.take i ++ f :: xs.drop i⟩ (W.setRow w.heap.size R2.toArray)) := Lib.hid (by
    intro W hW ho ht hou
    refine became_row (cur := R2.toArray) hlo (setRow_heap W w.heap.size R1.toArray _ 58 (0, 0) (by rw [hW]; exact setRow_heap W1 w.heap.size _ _ _ _ hg1)) (by rw [hlen]; exact hGn) hGm (by simp only [List.size_toArray, hfin.2]; rfl) (by rw [hlen, List.toList_toArray]; exact hfin.1) ?_ (fun z hz => ?_) (.inr (Nat.le_refl _))
    · refine ⟨ho, ht, hou, ?_, fun k hk _ => ?_⟩
      · rw [setRow_size, hW, setRow_size, hW1]; simp
      · have hkn : k ≠ w.heap.size := by omega
        rw [setRow_other _ _ _ _ hkn, hW, setRow_other _ _ _ _ hkn, hko k hk]
    · rcases List.mem_append.1 hz with h | h
      · exact ⟨hels z (List.mem_of_mem_take h), heoff z (List.mem_of_mem_take h)⟩
      · rcases List.mem_cons.1 h with rfl | h
        · exact ⟨hHa, hHo⟩
        · exact ⟨hels z (List.mem_of_mem_drop h), heoff z (List.mem_of_mem_drop h)⟩)
  have HL := Lib.hid hlen
  have hGi : ¬ (G = i) := by omega
  have hGi1 : ¬ (G = i + 1) := by omega
  subst hW1
  have hE1 : ((w.alloc (.cells ROW 58)).drew).heap = (w.drew.alloc (.cells ROW 58)).heap := rfl
  have hE2 : (((w.alloc (.cells ROW 58)).drew.setRow w.heap.size R1.toArray).drew).heap = ((w.drew.alloc (.cells ROW 58)).setRow w.heap.size R1.toArray).heap := rfl
  clear hfin hlen hbg hels heoff hHa hHo hcm2 hR1 hR2 hF hFl hFc hF1 hdl htl hR1s hsz hcs htk hat hrow hg hkk hik hold hROW hG hRs hRl hRt hg1 hko hlo hi0 hz0 hzs hzb
  go_enter Tryz.func73, Tryz.ntmps73
  go_wp2_with (first
    | (at_builtin; refine Lib.wpList_append_run _ rfl _ _ _ _ rfl _ _ rfl rfl _ _ (hrz _) ?_)
    | (at_builtin; refine wpList_copy_runI _ rfl _ _ 24 24 rfl _ _ rfl rfl (hcpA _ hE1 _ _) ?_))
  go_region_law_o (refine step_copy_runI rfl _ _ 24 24 rfl _ _ (by simp [Act.eval, Act.put]) (by simp [Act.eval, Act.put]) (hcpB _ hE2 3 (G - (i + 1)) (c - i)) ?_)
  go_wp2_with fail
  go_ret
  refine ⟨⟨some ⟨w.heap.size, 0, none⟩, G, xs.take i ++ f :: xs.drop i⟩, ?_, HB.out _ rfl rfl rfl rfl⟩
  show Ending.returned (Value.slice (some ⟨w.heap.size, 0, none⟩) (xs.length + 1) G) = Ending.returned (Value.slice (some ⟨w.heap.size, 0, none⟩) (xs.take i ++ f :: xs.drop i).length G)
  rw [HL.out]

theorem InsAt.one {base i vb : Nat} {w : World} {l : Loc LFile} {f : LFile} (H : InsAt base w l i vb f) : OneMore base 58 w l vb f := by
  obtain ⟨t, hrow⟩ := H.row
  exact one_row l f hrow H.own H.at_ H.off (by have := H.few; omega) H.lo

set_option maxRecDepth 100000 in
set_option maxHeartbeats 1000000 in
theorem insert_any (base i vb : Nat) (x : Loc LFile) (f : LFile) (w : World) (H : InsAt base w x i vb f) :
    Calls Tryz.prog 73 #[x.val, .int .i64 i, .slice (some ⟨vb, 0, none⟩) 1 1] w fun e w' =>
      ∃ l' : Loc LFile, e = .returned (l'.val) ∧ Became base 58 w x (x.xs.take i ++ f :: x.xs.drop i) l' w' := by
  by_cases hi : i < x.xs.length
  · rcases H.own.cases with rfl | ⟨g, c, xs, cur, rfl, -⟩
    · simp at hi
    · by_cases hr : xs.length + 1 ≤ c
      · exact insert_shift base g c i vb xs f w H hi hr
      · exact insert_grow base g c i vb xs f w H hi hr
  · have hie : i = x.xs.length := by have := H.hi; omega
    subst hie
    have HM := Lib.hid H.one
    have hlc := H.own.at_.lenCap
    have hcm := H.own.at_.capMax
    have hfw := H.few
    simp only [maxLen] at hcm
    rw [List.take_length, List.drop_length]
    rcases H.own.cases with rfl | ⟨g, c, xs, cur, rfl, -⟩
    · clear H hi
      simp only [Loc.val, List.length_nil]
      go_enter Tryz.func73, Tryz.ntmps73
      go_wp2_with (at_builtin; refine wpList_append_one rfl _ _ 24 rfl base 58 elem_file (⟨none, 0, []⟩ : Loc LFile) rfl vb f rfl HM.out ?_)
      intro l' w5 hap
      have HAP := Lib.hid hap
      clear hap
      go_wp2_with fail
      go_ret
      exact ⟨l', rfl, HAP.out.became⟩
    · clear H hi
      simp only [Loc.val] at hlc hcm hfw ⊢
      by_cases hcq : c = xs.length
      · subst hcq
        go_enter Tryz.func73, Tryz.ntmps73
        go_wp2_with (at_builtin; refine wpList_append_one rfl _ _ 24 rfl base 58 elem_file (⟨some ⟨g, 0, none⟩, xs.length, xs⟩ : Loc LFile) rfl vb f rfl HM.out ?_)
        intro l' w5 hap
        have HAP := Lib.hid hap
        clear hap
        go_wp2_with fail
        go_ret
        exact ⟨l', rfl, HAP.out.became⟩
      · have hcq2 := hcq
        go_enter Tryz.func73, Tryz.ntmps73
        go_wp2_with (at_builtin; refine wpList_append_one rfl _ _ 24 rfl base 58 elem_file (⟨some ⟨g, 0, none⟩, c, xs⟩ : Loc LFile) rfl vb f rfl HM.out ?_)
        intro l' w5 hap
        have HAP := Lib.hid hap
        clear hap
        go_wp2_with fail
        go_ret
        exact ⟨l', rfl, HAP.out.became⟩
end Go.Proofs.YtdidkfadiaafiaaGreatDoor

namespace Go.Proofs.YtdidkfadiaafiaaGreatDoor
open Go Go.RowKit

theorem flat_set : ∀ (xs : List LFile) (i : Nat) (f : LFile), i < xs.length → ((xs.flatMap Dat.enc).set (i * 2) (.string f.name)).set (i * 2 + 1) f.sibs.val = (xs.set i f).flatMap Dat.enc
  | [], i, f, h => by simp at h
  | x :: r, 0, f, _ => rfl
  | x :: r, i + 1, f, h => by
    have ih := flat_set r i f (by simpa using h)
    rw [List.set_cons_succ, List.flatMap_cons, List.flatMap_cons, ← ih]
    rw [show (i + 1) * 2 = i * 2 + 2 by omega]
    rfl

/-- What the program's putFile leaves. -/
def PutP (base : Nat) (w : World) (x : Loc LFile) (f : LFile) (e : Ending) (w' : World) : Prop :=
  ∃ (l : Loc LFile) (zs : List LFile) (i j : Nat) (w1 : World), e = .returned l.val ∧ i ≤ j ∧ zs = x.xs.take i ++ f :: x.xs.drop j ∧ zs.map LFile.er = tput f.er (x.xs.map LFile.er) ∧ Below w.heap.size w w1 ∧ Became base 58 w1 x zs l w'

set_option maxRecDepth 100000 in
set_option maxHeartbeats 2000000 in
theorem putFile_any (base : Nat) (x : Loc LFile) (f : LFile) (w : World) (hown : Own base 58 w x) (hlo : base ≤ w.heap.size) (hn : x.xs.length ≤ 1000) (hasc : NAsc (x.xs.map LFile.er)) (hf : Dat.At w f) (hoff : ∀ b ∈ Dat.fp f, some b ≠ x.val.ownBlock) :
    Calls Tryz.prog 40 #[x.val, f.val] w (PutP base w x f) := by
  have hW0 : Below w.heap.size w (w.alloc (Obj.cells #[.string f.name, f.sibs.val] 58)) := (Below.refl _ _).alloc (Nat.le_refl _) _
  have B := Lib.hid hW0
  have BX := Lib.hid (Boxed.new w #[.string f.name, f.sibs.val] 58)
  have HO := Lib.hid (hown.belowAll hW0)
  have HFA := Lib.hid (Dat.belowAll hf hW0)
  have HLO := Lib.hid (Nat.le_trans hlo hW0.size)
  have HN := Lib.hid hn
  have HASC := Lib.hid hasc
  have HOFF := Lib.hid hoff
  have HOB := Lib.hid (fun b h => (hown.lt b h).2)
  have hc := Lib.hid (search_any x f _ (hown.belowAll hW0).at_ (by omega) hasc)
  have hlen := hown.at_.lenMax
  clear hown hlo hn hasc hf hoff hW0
  obtain ⟨fn, ⟨fa, fc, fss⟩⟩ := f
  simp only [Loc.val] at BX hc
  show Calls Tryz.prog 40 #[x.val, .agg #[.string fn, .slice fa fss.length fc]] w _
  go_enter Tryz.func40, Tryz.ntmps40
  go_wp2_with fail
  simp only [Loc.val] at B HO HFA HLO
  generalize w.alloc (Obj.cells #[.string fn, .slice fa fss.length fc] 58) = w0 at *
  refine hc.out.mono ?_
  rintro e w1 ⟨i, b, rfl, hi, hr1, hr2, hr3, hb⟩
  have HR1 := Lib.hid hr1
  have HR2 := Lib.hid hr2
  have B1 := Lib.hid hb
  first
    | replace B := Lib.hid (Loc.At.belowAll B.out (hb))
    | replace B := Lib.hid (nextB B.out (hb))
    | replace B := Lib.hid (Boxed.keep B.out (hb))
    | replace B := Lib.hid (Dat.belowAll B.out (hb))
    | replace B := Lib.hid (Fr.belowAll B.out (hb))
    | replace B := Lib.hid (Own.belowAll B.out (hb))
    | replace B := Lib.hid (Grows.next B.out (hb))
  first
    | replace BX := Lib.hid (Loc.At.belowAll BX.out (hb))
    | replace BX := Lib.hid (nextB BX.out (hb))
    | replace BX := Lib.hid (Boxed.keep BX.out (hb))
    | replace BX := Lib.hid (Dat.belowAll BX.out (hb))
    | replace BX := Lib.hid (Fr.belowAll BX.out (hb))
    | replace BX := Lib.hid (Own.belowAll BX.out (hb))
    | replace BX := Lib.hid (Grows.next BX.out (hb))
  first
    | replace HO := Lib.hid (Loc.At.belowAll HO.out (hb))
    | replace HO := Lib.hid (nextB HO.out (hb))
    | replace HO := Lib.hid (Boxed.keep HO.out (hb))
    | replace HO := Lib.hid (Dat.belowAll HO.out (hb))
    | replace HO := Lib.hid (Fr.belowAll HO.out (hb))
    | replace HO := Lib.hid (Own.belowAll HO.out (hb))
    | replace HO := Lib.hid (Grows.next HO.out (hb))
  first
    | replace HFA := Lib.hid (Loc.At.belowAll HFA.out (hb))
    | replace HFA := Lib.hid (nextB HFA.out (hb))
    | replace HFA := Lib.hid (Boxed.keep HFA.out (hb))
    | replace HFA := Lib.hid (Dat.belowAll HFA.out (hb))
    | replace HFA := Lib.hid (Fr.belowAll HFA.out (hb))
    | replace HFA := Lib.hid (Own.belowAll HFA.out (hb))
    | replace HFA := Lib.hid (Grows.next HFA.out (hb))
  clear hc hr1 hr2 hb
  cases b with
  | true =>
    have hil := hr3 rfl
    have HNE := Lib.hid ((HR2.out hil).2.1 rfl)
    clear hr3 HR2
    rcases HO.out.cases with rfl | ⟨g, cap, xs, cur, rfl, hbg, hg, hcl, hcm, hcs, htk⟩
    · simp at hil
    · simp only [Loc.val] at hlen ⊢
      simp only at hil hi hlen
      have hLs : cur.size = cap * 2 := hcs
      have hcc := HO.out.at_.file (b := g) (o := 0) rfl hil
      simp only [Nat.zero_add] at hcc
      obtain ⟨c0, c1⟩ := hcc
      have z0 := frozen_of_row _ g (i * 2) _ _ hg
      have z1 := frozen_of_row _ g (i * 2 + 1) _ _ hg
      have p0 := BX.out.2 0 _ rfl
      have p1 := BX.out.2 1 _ rfl
      have hr1 := heap_setCell_same w1 g (i * 2) _ _ (.string fn) hg
      have hr2 := heap_setCell_same (w1.setCell ⟨g, i * 2, none⟩ (.string fn)) g (i * 2 + 1) _ _ (.slice fa fss.length fc) hr1
      have HR := Lib.hid hr2
      have htl : ((cur.setIfInBounds (i * 2) (.string fn)).setIfInBounds (i * 2 + 1) (.slice fa fss.length fc)).toList.take (xs.length * 2) = (xs.set i ⟨fn, ⟨fa, fc, fss⟩⟩).flatMap Dat.enc := by
        rw [Array.toList_setIfInBounds, Array.toList_setIfInBounds, List.take_set, List.take_set]
        have h9 := flat_set xs i ⟨fn, ⟨fa, fc, fss⟩⟩ hil
        rw [← h9]
        have h8 : cur.toList.take (xs.length * 2) = xs.flatMap Dat.enc := htk
        rw [h8]; rfl
      have HTL := Lib.hid htl
      have HBG := Lib.hid hbg
      have HCL := Lib.hid hcl
      have HCM := Lib.hid hcm
      have HLS := Lib.hid hLs
      have HI := Lib.hid hil
      have HELS := Lib.hid HO.out.els
      have HEO := Lib.hid HO.out.off
      clear hbg hg hcl hcm hcs htk hr1 hr2 htl hLs
      go_wp2_with fail
      go_ret
      have hset : xs.set i (⟨fn, ⟨fa, fc, fss⟩⟩ : LFile) = xs.take i ++ (⟨fn, ⟨fa, fc, fss⟩⟩ : LFile) :: xs.drop (i + 1) := List.set_eq_take_append_cons_drop.trans (by rw [if_pos HI.out])
      refine ⟨⟨some ⟨g, 0, none⟩, cap, xs.set i ⟨fn, ⟨fa, fc, fss⟩⟩⟩, xs.set i ⟨fn, ⟨fa, fc, fss⟩⟩, i, i + 1, w1, ?_, Nat.le_succ _, hset, ?_, B.out, became_row (cur := (cur.setIfInBounds (i * 2) (.string fn)).setIfInBounds (i * 2 + 1) (.slice fa fss.length fc)) HBG.out HR.out (by rw [List.length_set]; exact HCL.out) HCM.out (by simp only [Array.size_setIfInBounds]; exact HLS.out) (by rw [List.length_set]; exact HTL.out) ?_ (fun z hz => ?_) (.inl rfl)⟩
      · simp only [Loc.val, List.length_set]; rfl
      · have hil' := HI.out
        rw [List.map_set]
        refine (tput_found _ (t := xs.map LFile.er) (i := i) (by simpa using hil') (fun j h hj => ?_) ?_).symm
        · rw [List.getElem_map]
          exact HR1.out j (by simpa using h) hj
        · rw [List.getElem_map]
          exact HNE.out
      · exact ⟨rfl, rfl, rfl, by simp, fun k _ hk => by
          have hkg : k ≠ g := fun h => hk (by rw [h]; rfl)
          rw [Below.heap_setCell _ _ _ _ hkg, Below.heap_setCell _ _ _ _ hkg]⟩
      · rw [hset] at hz
        rcases List.mem_append.1 hz with h | h
        · exact ⟨HELS.out z (List.mem_of_mem_take h), HEO.out z (List.mem_of_mem_take h)⟩
        · rcases List.mem_cons.1 h with rfl | h
          · exact ⟨HFA.out, HOFF.out⟩
          · exact ⟨HELS.out z (List.mem_of_mem_drop h), HEO.out z (List.mem_of_mem_drop h)⟩
  | false =>
    have HI := Lib.hid hi
    have p0 := BX.out.2 0 _ rfl
    have p1 := BX.out.2 1 _ rfl
    have b2 : Below w1.heap.size w1 (w1.alloc (Obj.cells #[.string fn, .slice fa fss.length fc] 58)) := (Below.refl _ _).alloc (Nat.le_refl _) _
    have HIN := Lib.hid (insert_any base i w1.heap.size x ⟨fn, ⟨fa, fc, fss⟩⟩ (w1.alloc (Obj.cells #[.string fn, .slice fa fss.length fc] 58))
      ⟨HO.out.belowAll b2, Nat.le_trans HLO.out (Nat.le_trans B1.out.size b2.size), hi, HN.out, ⟨_, heap_alloc_new w1 _⟩, Dat.belowAll HFA.out b2, HOFF.out, fun h => by have := (HO.out.lt _ h.symm).2; omega⟩)
    first
      | replace B := Lib.hid (Loc.At.belowAll B.out (b2))
      | replace B := Lib.hid (nextB B.out (b2))
      | replace B := Lib.hid (Boxed.keep B.out (b2))
      | replace B := Lib.hid (Dat.belowAll B.out (b2))
      | replace B := Lib.hid (Fr.belowAll B.out (b2))
      | replace B := Lib.hid (Own.belowAll B.out (b2))
      | replace B := Lib.hid (Grows.next B.out (b2))
    clear b2 hi hr3
    go_wp2_with fail
    refine HIN.out.mono ?_
    rintro e w3 ⟨l', rfl, hbc⟩
    have HBC := Lib.hid hbc
    clear hbc HIN
    go_wp2_with fail
    go_ret
    refine ⟨l', _, i, i, _, rfl, Nat.le_refl _, rfl, ?_, B.out, HBC.out⟩
    rw [List.map_append, List.map_cons, List.map_take, List.map_drop]
    refine (tput_new _ (t := x.xs.map LFile.er) (i := i) (by simpa using HI.out) (fun j h hj => ?_) (fun h => ?_)).symm
    · rw [List.getElem_map]
      exact HR1.out j (by simpa using h) hj
    · rw [List.getElem_map]
      have h5 := HR2.out (by simpa using h)
      exact ⟨h5.1, fun h6 => by have := h5.2.2 h6; cases this⟩
end Go.Proofs.YtdidkfadiaafiaaGreatDoor
