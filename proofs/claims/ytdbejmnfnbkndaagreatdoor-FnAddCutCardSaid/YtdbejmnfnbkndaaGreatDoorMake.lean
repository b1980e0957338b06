/- The reference's texts and sums of records: l11Text, l11Sum. The reference's GroupMake: the records of files that go together are records. -/
import Derived.Test.YtdbejmnfnbkndaaGreatDoorDec
import Derived.Test.YtdbejmnfnbkndaaGreatDoorSpec5
import Derived.Test.YtdbejmnfnbkndaaGreatDoorPick
import Derived.Test.YtdbejmnfnbkndaaGreatDoorAnew
namespace Go.Proofs.YtdbejmnfnbkndaaGreatDoor
open Go Go.RowKit

/-- A file's record, as a group has it. -/
structure FileRec (r : LRec) : Prop where
  kind : r.kind = 1
  name : r.name.size ≤ 1
  few : r.sibs.xs.length ≤ 12
  sibs : ∀ s ∈ r.sibs.xs, sibB s.er = true

set_option maxRecDepth 100000 in
set_option maxHeartbeats 1000000 in
theorem l11Text_any (x : LRec) (w : World) (hx : Dat.At w x) (hs : FileRec x) :
    Calls Tryz.prog 56 #[x.val] w (TextPost w 200) := by
  obtain ⟨xk, xn, ⟨xa, xc, xs⟩, xm, xq⟩ := x
  obtain ⟨hk, hn, hf, hss⟩ := hs
  simp only [LRec.val, Loc.val]
  simp only at hk hn hf hss
  subst hk
  have h1 : xs.length ≤ 9223372036854775807 := by omega
  have hB := (Below.refl w.heap.size w).alloc (Nat.le_refl _) (Obj.cells #[.int .i64 1, .string xn, .slice xa xs.length xc, .int .i64 xm, .int .i64 xq] 53)
  have HX := Lib.hid (Loc.At.belowAll hx.1 hB)
  have BX := Lib.hid (Boxed.new w #[.int .i64 1, .string xn, .slice xa xs.length xc, .int .i64 xm, .int .i64 xq] 53)
  have HB := Lib.hid hB
  have HS := Lib.hid hss
  have h5 : (ByteArray.mk #[102, 105, 108, 101, 32]).size = 5 := rfl
  have h7 : (ByteArray.mk #[32]).size = 1 := rfl
  clear hB hx hss
  go_enter Tryz.func56, Tryz.ntmps56
  go_wp2_with fail
  generalize w.alloc (Obj.cells #[.int .i64 1, .string xn, .slice xa xs.length xc, .int .i64 xm, .int .i64 xq] 53) = w0 at *
  go_loopw [3, 4] (fun o i wr => ∃ (k : Nat) (s : ByteArray), k ≤ xs.length ∧ i = .int .i64 k ∧ o = .string s ∧ s.size ≤ 6 + 15 * k ∧ Below w0.heap.size w0 wr) (fun _ i _ => xs.length - (intOf i).toNat)
  case atStart => exact ⟨0, _, Nat.zero_le _, rfl, rfl, by rw [ByteArray.size_append, h5]; omega, Below.refl _ _⟩
  case round =>
    obtain ⟨k, s, hk, rfl, rfl, hs, hb⟩ := hrel
    have HBW := Lib.hid hb
    have d2 := (BX.out.keep hb).2 2 _ rfl
    clear hb
    by_cases hlt : k < xs.length
    · obtain ⟨a, ao, ha⟩ := HX.out.place hlt
      simp only at ha
      subst ha
      have hc1 := (HX.out.belowAll HBW.out).sib rfl hlt
      simp only at hc1
      obtain ⟨c0, c1, c2⟩ := hc1
      have HC := Lib.hid (l11Sib_any xs[k] wr ((HX.out.belowAll HBW.out).elem (List.getElem_mem hlt)) (HS.out _ (List.getElem_mem hlt)))
      have h8 : (s ++ ⟨#[32]⟩).size = s.size + 1 := by rw [ByteArray.size_append, h7]
      go_wp2_with fail
      refine HC.out.mono ?_
      rintro e w1 ⟨⟨t, rfl, ht⟩, hb1⟩
      have HB1 := Lib.hid (HBW.out.trans (hb1.mono HBW.out.size))
      clear hb1 c0 c1 c2
      go_wp2_with fail
      go_roundw
      case rel => exact ⟨k + 1, _, by omega, by go_num, rfl, by rw [ByteArray.size_append, h8]; omega, HB1.out⟩
      case measure => simp [intOf]; omega
    · go_wp2_with fail
      go_ret
      exact ⟨⟨s, rfl, by omega⟩, HB.out.trans (HBW.out.mono HB.out.size)⟩

set_option maxRecDepth 100000 in
set_option maxHeartbeats 1000000 in
theorem l11Sum_any (x : Loc LRec) (w : World) (hx : x.At w) (hn : x.xs.length ≤ 100) (hf : ∀ r ∈ x.xs, FileRec r) :
    Calls Tryz.prog 46 #[x.val] w fun e w' => (∃ v : Int, e = .returned (.int .i64 v) ∧ 0 ≤ v ∧ v ≤ 96) ∧ Below w.heap.size w w' := by
  obtain ⟨xa, xc, xs⟩ := x
  simp only [Loc.val]
  simp only at hn hf
  have h1 : xs.length ≤ 9223372036854775807 := by omega
  have HX := Lib.hid hx
  have HF := Lib.hid hf
  clear hx hf
  go_enter Tryz.func46, Tryz.ntmps46
  go_wp2_with fail
  go_loopw [3, 4] (fun n i wr => ∃ (k : Nat) (v : Int), k ≤ xs.length ∧ i = .int .i64 k ∧ n = .int .i64 v ∧ 0 ≤ v ∧ v ≤ 96 ∧ Below w.heap.size w wr) (fun _ i _ => xs.length - (intOf i).toNat)
  case atStart => exact ⟨0, 0, Nat.zero_le _, rfl, rfl, by omega, by omega, Below.refl _ _⟩
  case round =>
    obtain ⟨k, v, hk, rfl, rfl, hv0, hv1, hb⟩ := hrel
    have HBW := Lib.hid hb
    clear hb
    by_cases hlt : k < xs.length
    · obtain ⟨a, ao, ha⟩ := HX.out.place hlt
      simp only at ha
      subst ha
      have hc1 := (HX.out.belowAll HBW.out).rec_ rfl hlt
      simp only at hc1
      obtain ⟨c0, c1, c2, c3, c4⟩ := hc1
      have HC := Lib.hid (l11Text_any xs[k] wr ((HX.out.belowAll HBW.out).elem (List.getElem_mem hlt)) (HF.out _ (List.getElem_mem hlt)))
      go_wp2_with fail
      refine HC.out.mono ?_
      rintro e w1 ⟨⟨t, rfl, ht⟩, hb1⟩
      have HB1 := Lib.hid (HBW.out.trans (hb1.mono HBW.out.size))
      clear hb1 c0 c1 c2 c3 c4
      go_wp2_with fail
      go_loop [3, 6] (fun n i => ∃ (q : Nat) (u : Int), q ≤ t.size ∧ i = .int .i64 q ∧ n = .int .i64 u ∧ 0 ≤ u ∧ u ≤ 96) (fun _ i => t.size - (intOf i).toNat)
      case atStart => exact ⟨0, v, Nat.zero_le _, rfl, rfl, hv0, hv1⟩
      case round =>
        obtain ⟨q, u, hq, rfl, rfl, hu0, hu1⟩ := hrel
        by_cases hql : q < t.size
        · have hcb := t[q].toNat_lt
          have e0 : IntKind.i64.wrap (t[q].toNat : Int) = (t[q].toNat : Int) := IntWalk.i64_in _ (by omega)
          have e1 : IntKind.i64.wrap (u * 3) = u * 3 := IntWalk.i64_in _ (by omega)
          have e1' : IntKind.i64.wrap (3 * u) = 3 * u := IntWalk.i64_in _ (by omega)
          have e2 : IntKind.i64.wrap (u * 3 + (t[q].toNat : Int)) = u * 3 + (t[q].toNat : Int) := IntWalk.i64_in _ (by omega)
          have hm := rem_range (a := u * 3 + (t[q].toNat : Int)) (n := 97) (by omega) (by omega)
          obtain ⟨⟨m1, m2⟩, m3, m4⟩ := hm
          go_wp2_with fail
          go_round
          case rel => exact ⟨q + 1, _, by omega, by go_num, rfl, by first | exact m1 | exact m3, by first | omega | (have := m2; omega) | (have := m4; omega)⟩
          case measure => simp [intOf]; omega
        · go_wp2_with fail
          go_roundw
          case rel => exact ⟨k + 1, u, by omega, by go_num, rfl, hu0, hu1, HB1.out⟩
          case measure => simp [intOf]; omega
    · go_wp2_with fail
      go_ret
      exact ⟨⟨v, rfl, hv0, hv1⟩, HBW.out⟩
end Go.Proofs.YtdbejmnfnbkndaaGreatDoor

namespace Go.Proofs.YtdbejmnfnbkndaaGreatDoor
open Go Go.RowKit

theorem name_one {n : ByteArray} (h : nameB n = true) : n.size = 1 := by
  obtain ⟨⟨l⟩⟩ := n
  match l, h with
  | [c], _ => rfl

/-- A file's record. -/
def fileRec (f : File) : Rec := ⟨1, f.name, f.sibs, 0, 0⟩
theorem fileRec_ok {f : File} (h1 : nameB f.name = true) (h2 : SibsOK f.sibs) : recB (fileRec f) = true := by
  unfold recB fileRec
  rw [if_pos rfl, h1, sibsB_true h2]
  rfl
theorem FileRec.of {r : LRec} {f : File} (h : r.er = fileRec f) (h1 : nameB f.name = true) (h2 : SibsOK f.sibs) : FileRec r := by
  have e1 : r.kind = 1 := congrArg Rec.kind h
  have e2 : r.name = f.name := congrArg Rec.name h
  have e3 : r.sibs.xs.map LSib.er = f.sibs := congrArg Rec.sibs h
  refine ⟨e1, by rw [e2, name_one h1]; exact Nat.le_refl _, ?_, fun s hs => ?_⟩
  · have := h2.few
    rw [← e3] at this
    simpa using this
  · have hm : s.er ∈ f.sibs := by rw [← e3]; exact List.mem_map.2 ⟨s, hs, rfl⟩
    obtain ⟨i, hi, he⟩ := List.getElem_of_mem hm
    rw [← he]
    exact h2.each i hi

/-- A value that has a list of versions of one's own. -/
def HasSibs (lo : Nat) (E : List Sib) (f : Loc LSib → Value) (v : Value) (W : World) : Prop := ∃ y : Loc LSib, v = f y ∧ y.xs.map LSib.er = E ∧ y.At W ∧ Fr lo W y.fp
theorem HasSibs.stable (lo : Nat) (E : List Sib) (f : Loc LSib → Value) : StableR (HasSibs lo E f) := fun _ _ _ hb ⟨y, h1, h2, h3, h4⟩ => ⟨y, h1, h2, h3.belowAll hb, h4.belowAll hb⟩
/-- A record's own block. -/
def RowRec (lo : Nat) (k : Int) (nm : ByteArray) (E : List Sib) (v : Value) (W : World) : Prop :=
  ∃ (y : Loc LSib) (g : Nat), v = .slice (some ⟨g, 0, none⟩) 1 1 ∧ y.xs.map LSib.er = E ∧ y.At W ∧ Fr lo W y.fp ∧ W.heap[g]? = some (.cells #[.int .i64 k, .string nm, y.val, .int .i64 0, .int .i64 0] 53 (0, 0))
theorem RowRec.stable (lo : Nat) (k : Int) (nm : ByteArray) (E : List Sib) : StableR (RowRec lo k nm E) := fun _ _ _ hb ⟨y, g, h1, h2, h3, h4, h5⟩ =>
  ⟨y, g, h1, h2, h3.belowAll hb, h4.belowAll hb, (hb.block g (Array.getElem?_eq_some_iff.1 h5).1).trans h5⟩

/-- One more element, whose block lies there. -/
theorem one_there {α : Type} [Dat α] {base g : Nat} {e e' : TypeId} {W : World} {cs : Array Value} (l : Loc α) (y : α) (hg : W.heap[g]? = some (.cells cs e' (0, 0))) (hcs : cs.toList = Dat.enc y) (hown : Own base e W l) (hy : Dat.At W y) (hoff : ∀ b ∈ Dat.fp y, some b ≠ l.val.ownBlock)
    (hlen : l.xs.length + 1 ≤ 1099511627776) (hlo : base ≤ W.heap.size) : OneMore base e W l g y :=
  ⟨hown, fun j u hu => by
    rw [add_lit', Nat.zero_add, cell_of_row _ _ _ _ _ _ hg, ← Array.getElem?_toList, hcs]
    simpa using hu, hy, hoff, hlen, hlo⟩

set_option maxRecDepth 100000 in
set_option maxHeartbeats 2000000 in
theorem l11Make_any (x : Loc LFile) (w : World) (hx : x.At w) (ht : TreeOK (x.xs.map LFile.er)) (h0 : 0 < x.xs.length) :
    Calls Tryz.prog 31 #[x.val] w (NewPost w (fun ys : List LRec => ys.length ≤ 7 ∧ ∀ r ∈ ys, recB r.er = true)) := by
  obtain ⟨xa, xc, xs⟩ := x
  simp only [Loc.val]
  simp only at ht h0
  have hl6 : xs.length ≤ 6 := by have := ht.few; simpa using this
  have h1 : xs.length ≤ 9223372036854775807 := by omega
  have HX := Lib.hid hx
  have HT := Lib.hid ht
  have HG0 := Lib.hid (Grows.start (α := LRec) w 53)
  clear hx ht
  go_enter Tryz.func31, Tryz.ntmps31
  go_wp2_with fail
  go_loopw [3, 4] (fun o i wr => ∃ (k : Nat) (l : Loc LRec), k ≤ xs.length ∧ i = .int .i64 k ∧ o = l.val ∧ l.xs.map LRec.er = ((xs.take k).map LFile.er).map fileRec ∧ Grows w.heap.size 53 w l wr) (fun _ i _ => xs.length - (intOf i).toNat)
  case atStart => exact ⟨0, _, Nat.zero_le _, rfl, rfl, rfl, HG0.out⟩
  case round =>
    obtain ⟨k, l, hk, rfl, rfl, hl, hG⟩ := hrel
    have HL := Lib.hid hl
    have HGR := Lib.hid hG
    have hll : l.xs.length ≤ 6 := by
      have h := congrArg List.length hl
      simp only [List.length_map, List.length_take] at h
      omega
    clear hl hG
    by_cases hlt : k < xs.length
    · obtain ⟨a, ao, ha⟩ := HX.out.place hlt
      simp only at ha
      subst ha
      obtain ⟨w0, hw0⟩ : ∃ w0 : World, w0 = wr := ⟨_, rfl⟩
      subst hw0
      have HA0 := Lib.hid (HX.out.belowAll HGR.out.bel)
      have HF : Hid (∀ w', Below w0.heap.size w0 w' → w'.cell? ⟨a, ao + k * 2, none⟩ = some (.string xs[k].name) ∧ w'.cell? ⟨a, ao + k * 2 + 1, none⟩ = some xs[k].sibs.val) := Lib.hid (fun w' h => (HA0.out.belowAll h).file rfl hlt)
      have HSO := Lib.hid (show SibsOK (xs[k].sibs.xs.map LSib.er) by have := HT.out.sibs k (by simpa using hlt); rwa [List.getElem_map] at this)
      have hnm := Lib.hid (show xs[k].name.size ≤ maxLen from (HA0.out.elem (List.getElem_mem hlt)).2)
      go_wp2_with fail
      refine wp_region_rel 15 (by kernel_rfl) (by kernel_rfl) (by rfl) ?_
      simp only [List.take_succ_cons, List.take_zero, List.drop_succ_cons, List.drop_zero]
      refine' wpRel_fix (by rfl) (fun U => by rfl) (fun m U w' hI hG => ?_) ?_
      rotate_left
      · have hf := HF.out w' hI
        unfold relAt
        go_simp
        first | exact ⟨rfl, Below.refl _ _⟩ | exact Below.refl _ _ | exact ⟨trivial, Below.refl _ _⟩
      simp only [Act.put, List.setIfInBounds_toArray, List.set_cons_zero, List.set_cons_succ]
      refine' wpRel_fix (by rfl) (fun U => by rfl) (fun m U w' hI hG => ?_) ?_
      rotate_left
      · have hf := HF.out w' hI
        unfold relAt
        go_simp
        first | exact ⟨rfl, Below.refl _ _⟩ | exact Below.refl _ _ | exact ⟨trivial, Below.refl _ _⟩
      simp only [Act.put, List.setIfInBounds_toArray, List.set_cons_zero, List.set_cons_succ]
      refine' wpRel_fix (by rfl) (fun U => by rfl) (fun m U w' hI hG => ?_) ?_
      rotate_left
      · have hf := HF.out w' hI
        unfold relAt
        go_simp
        first | exact ⟨rfl, Below.refl _ _⟩ | exact Below.refl _ _ | exact ⟨trivial, Below.refl _ _⟩
      simp only [Act.put, List.setIfInBounds_toArray, List.set_cons_zero, List.set_cons_succ]
      refine' wpRel_fix (by rfl) (fun U => by rfl) (fun m U w' hI hG => ?_) ?_
      rotate_left
      · have hf := HF.out w' hI
        unfold relAt
        go_simp
        first | exact ⟨rfl, Below.refl _ _⟩ | exact Below.refl _ _ | exact ⟨trivial, Below.refl _ _⟩
      simp only [Act.put, List.setIfInBounds_toArray, List.set_cons_zero, List.set_cons_succ]
      refine' wpRel_fix (by rfl) (fun U => by rfl) (fun m U w' hI hG => ?_) ?_
      rotate_left
      · have hf := HF.out w' hI
        unfold relAt
        go_simp
        first | exact ⟨rfl, Below.refl _ _⟩ | exact Below.refl _ _ | exact ⟨trivial, Below.refl _ _⟩
      simp only [Act.put, List.setIfInBounds_toArray, List.set_cons_zero, List.set_cons_succ]
      refine' wpRel_fix (by rfl) (fun U => by rfl) (fun m U w' hI hG => ?_) ?_
      rotate_left
      · have hf := HF.out w' hI
        unfold relAt
        go_simp
        first | exact ⟨rfl, Below.refl _ _⟩ | exact Below.refl _ _ | exact ⟨trivial, Below.refl _ _⟩
      simp only [Act.put, List.setIfInBounds_toArray, List.set_cons_zero, List.set_cons_succ]
      refine' wpRel_fix (by rfl) (fun U => by rfl) (fun m U w' hI hG => ?_) ?_
      rotate_left
      · have hf := HF.out w' hI
        unfold relAt
        go_simp
        first | exact ⟨rfl, Below.refl _ _⟩ | exact Below.refl _ _ | exact ⟨trivial, Below.refl _ _⟩
      simp only [Act.put, List.setIfInBounds_toArray, List.set_cons_zero, List.set_cons_succ]
      refine' wpRel_fix (by rfl) (fun U => by rfl) (fun m U w' hI hG => ?_) ?_
      rotate_left
      · have hf := HF.out w' hI
        unfold relAt
        go_simp
        first | exact ⟨rfl, Below.refl _ _⟩ | exact Below.refl _ _ | exact ⟨trivial, Below.refl _ _⟩
      simp only [Act.put, List.setIfInBounds_toArray, List.set_cons_zero, List.set_cons_succ]
      refine' wpRel_fix (by rfl) (fun U => by rfl) (fun m U w' hI hG => ?_) ?_
      rotate_left
      · have hf := HF.out w' hI
        unfold relAt
        go_simp
        first | exact ⟨rfl, Below.refl _ _⟩ | exact Below.refl _ _ | exact ⟨trivial, Below.refl _ _⟩
      simp only [Act.put, List.setIfInBounds_toArray, List.set_cons_zero, List.set_cons_succ]
      refine' wpRel_fix (by rfl) (fun U => by rfl) (fun m U w' hI hG => ?_) ?_
      rotate_left
      · have hf := HF.out w' hI
        unfold relAt
        go_simp
        first | exact ⟨rfl, Below.refl _ _⟩ | exact Below.refl _ _ | exact ⟨trivial, Below.refl _ _⟩
      simp only [Act.put, List.setIfInBounds_toArray, List.set_cons_zero, List.set_cons_succ]
      refine' wpRel_fix (by rfl) (fun U => by rfl) (fun m U w' hI hG => ?_) ?_
      rotate_left
      · have hf := HF.out w' hI
        unfold relAt
        go_simp
        first | exact ⟨rfl, Below.refl _ _⟩ | exact Below.refl _ _ | exact ⟨trivial, Below.refl _ _⟩
      simp only [Act.put, List.setIfInBounds_toArray, List.set_cons_zero, List.set_cons_succ]
      refine wpRel_rel (HasSibs w0.heap.size (xs[k].sibs.xs.map LSib.er) Loc.val) rfl (HasSibs.stable _ _ _) (by rfl) (fun U => by rfl) (fun m U w' hI hG => ?_) ?_
      · have hf := HF.out w' hI
        unfold relAt
        go_simp
        refine (l3Sibs_any xs[k].sibs w' ((HA0.out.belowAll hI).elem (List.getElem_mem hlt)).1 (.inr HSO.out)).mono fun e w'' ⟨y, h1, h2, h3, h4, h5⟩ => ⟨⟨_, h1, y, rfl, h2, h3, h4.mono hI.size⟩, h5⟩
      simp only [Act.put, List.setIfInBounds_toArray, List.set_cons_zero, List.set_cons_succ]
      refine wpRel_rel (HasSibs w0.heap.size (xs[k].sibs.xs.map LSib.er) (fun y => .agg #[.string xs[k].name, y.val])) rfl (HasSibs.stable _ _ _) (by rfl) (fun U => by rfl) (fun m U w' hI hG => ?_) ?_
      · obtain ⟨y, hy, h2, h3, h4⟩ := hG _ (List.Mem.head _) (by rfl)
        simp only at hy
        unfold relAt
        simp only [hy, Loc.val]
        go_simp
        exact ⟨⟨y, rfl, h2, h3, h4⟩, Below.refl _ _⟩
      simp only [Act.put, List.setIfInBounds_toArray, List.set_cons_zero, List.set_cons_succ]
      refine wpRel_rel (HasSibs w0.heap.size (xs[k].sibs.xs.map LSib.er) (fun y => .agg #[.int .i64 1, .string xs[k].name, y.val, .int .i64 0, .int .i64 0])) rfl (HasSibs.stable _ _ _) (by rfl) (fun U => by rfl) (fun m U w' hI hG => ?_) ?_
      · obtain ⟨y, hy, h2, h3, h4⟩ := hG _ (List.Mem.head _) (by rfl)
        simp only at hy
        unfold relAt
        simp only [hy, Loc.val]
        go_simp
        exact ⟨⟨y, rfl, h2, h3, h4⟩, Below.refl _ _⟩
      simp only [Act.put, List.setIfInBounds_toArray, List.set_cons_zero, List.set_cons_succ]
      refine wpRel_rel (RowRec w0.heap.size 1 xs[k].name (xs[k].sibs.xs.map LSib.er)) rfl (RowRec.stable _ _ _ _) (by rfl) (fun U => by rfl) (fun m U w' hI hG => ?_) ?_
      · obtain ⟨y, hy, h2, h3, h4⟩ := hG _ (List.Mem.head _) (by rfl)
        simp only at hy
        unfold relAt
        simp only [hy, Loc.val]
        go_simp
        have hb := (Below.refl w'.heap.size w').alloc (Nat.le_refl _) (Obj.cells #[.int .i64 1, .string xs[k].name, .slice y.a y.xs.length y.cap, .int .i64 0, .int .i64 0] 53)
        exact ⟨⟨y, w'.heap.size, rfl, h2, h3.belowAll hb, h4.belowAll hb, heap_alloc_new w' _⟩, hb⟩
      simp only [Act.put, List.setIfInBounds_toArray, List.set_cons_zero, List.set_cons_succ]
      intro U w1 hI hG
      obtain ⟨y, g, hv, h2, h3, h4, h5⟩ := hG _ (List.Mem.head _)
      simp only at hv
      simp only [hv]
      have HB1 := Lib.hid hI
      have HG1 := Lib.hid (HGR.out.later (Nat.le_refl _) hI)
      have HE := Lib.hid h2
      have HYF := Lib.hid h4
      have hoff : ∀ b ∈ Dat.fp (⟨1, xs[k].name, y, 0, 0⟩ : LRec), b ∉ l.xs.flatMap Dat.fp ∧ some b ≠ l.val.ownBlock := by
        intro b hb
        have h6 := h4.ge b hb
        refine ⟨fun h => ?_, fun h => ?_⟩
        · have := HGR.out.fr.lt b h; omega
        · have := (HGR.out.own.lt b h.symm).2; omega
      have HOFF := Lib.hid hoff
      have HM := Lib.hid (one_there (W := w1) (e' := 53) l (⟨1, xs[k].name, y, 0, 0⟩ : LRec) h5 rfl HG1.out.own ⟨h3, hnm.out⟩ (fun b hb => (hoff b hb).2) (by omega) HG1.out.bel.size)
      clear hI hG hv h2 h3 h4 h5 hoff
      go_wp2_with (at_builtin; refine wpList_append_one rfl _ _ 23 rfl _ 53 elem_rec l rfl g (⟨1, xs[k].name, y, 0, 0⟩ : LRec) rfl HM.out ?_)
      intro l' w5 hap
      have HAP := Lib.hid hap
      clear hap
      go_wp2_with fail
      go_roundw
      case rel =>
        refine ⟨k + 1, l', by omega, by go_num, rfl, ?_, HG1.out.step (Nat.le_refl _) HAP.out ?_ ?_ ?_⟩
        · rw [HAP.out.xs, List.map_append, HL.out, List.take_succ_eq_append_getElem hlt, List.map_append, List.map_append, List.map_singleton, List.map_singleton, List.map_singleton]
          simp only [LRec.er, HE.out, fileRec, LFile.er]
        · simp only [List.flatMap_cons, List.flatMap_nil, List.append_nil]; exact HYF.out.mono HGR.out.bel.size
        · intro a ha b hb
          simp only [List.flatMap_cons, List.flatMap_nil, List.append_nil] at hb
          rintro rfl
          exact (HOFF.out a hb).1 ha
        · intro y hy b hb; rw [List.mem_singleton.1 hy] at hb; exact (HOFF.out b hb).2
      case measure => simp [intOf]; omega
    · have hkk : k = xs.length := by omega
      subst hkk
      have hfr : ∀ r ∈ l.xs, ∃ f ∈ xs.map LFile.er, r.er = fileRec f := by
        intro r hr
        have h : r.er ∈ l.xs.map LRec.er := List.mem_map.2 ⟨r, hr, rfl⟩
        rw [HL.out, List.take_length] at h
        obtain ⟨f, hf, he⟩ := List.mem_map.1 h
        exact ⟨f, hf, he.symm⟩
      have hok : ∀ f ∈ xs.map LFile.er, nameB f.name = true ∧ SibsOK f.sibs := by
        intro f hf
        obtain ⟨i, hi, rfl⟩ := List.getElem_of_mem hf
        exact ⟨HT.out.name i hi, HT.out.sibs i hi⟩
      have HC := Lib.hid (l11Sum_any l wr HGR.out.own.at_ (by omega) (fun r hr => by
        obtain ⟨f, hf, he⟩ := hfr r hr
        exact FileRec.of he (hok f hf).1 (hok f hf).2))
      have HFR := Lib.hid hfr
      have HOK := Lib.hid hok
      clear hfr hok
      go_wp2_with fail
      refine HC.out.mono ?_
      rintro e w1 ⟨⟨v, rfl, hv0, hv1⟩, hb1⟩
      have HG1 := Lib.hid (HGR.out.later (Nat.le_refl _) hb1)
      clear hb1
      have HM := Lib.hid (one_more (W := w1) (e' := 53) (cs := #[.int .i64 2, .string ⟨#[]⟩, .slice none 0 0, .int .i64 (xs.length : Nat), .int .i64 v]) (g := w1.heap.size) l (⟨2, ⟨#[]⟩, ⟨none, 0, []⟩, (xs.length : Nat), v⟩ : LRec) rfl rfl HG1.out.own
        ⟨⟨Nat.le_refl _, Nat.zero_le _, by simp, by simp, by simp⟩, Nat.zero_le _⟩ (fun b hb => by simp [Dat.fp, Loc.fp, Loc.blk] at hb) (by omega) HG1.out.bel.size)
      have HB2 := Lib.hid ((Below.refl w1.heap.size w1).alloc (Nat.le_refl _) (Obj.cells #[.int .i64 2, .string ⟨#[]⟩, .slice none 0 0, .int .i64 (xs.length : Nat), .int .i64 v] 53))
      go_wp2_with (at_builtin; refine wpList_append_one rfl _ _ 23 rfl _ 53 elem_rec l rfl w1.heap.size (⟨2, ⟨#[]⟩, ⟨none, 0, []⟩, (xs.length : Nat), v⟩ : LRec) rfl HM.out ?_)
      intro l' w5 hap
      have HAP := Lib.hid hap
      have HG2 := Lib.hid ((HG1.out.later (Nat.le_refl _) HB2.out).step (Nat.le_refl _) hap (by simpa [Dat.fp, Loc.fp, Loc.blk] using Fr.nil _ _) (fun a ha b hb => by simp [Dat.fp, Loc.fp, Loc.blk] at hb) (fun y hy b hb => by rw [List.mem_singleton.1 hy] at hb; simp [Dat.fp, Loc.fp, Loc.blk] at hb))
      clear hap
      go_wp2_with fail
      go_ret
      obtain ⟨d1, d2⟩ := HG2.out.done
      refine ⟨l', rfl, ⟨?_, fun r hr => ?_⟩, d1, d2, HG2.out.bel⟩
      · rw [HAP.out.xs, List.length_append]; simp only [List.length_singleton]; omega
      · rw [HAP.out.xs] at hr
        rcases List.mem_append.1 hr with h | h
        · obtain ⟨f, hf, he⟩ := HFR.out r h
          rw [he]
          exact fileRec_ok (HOK.out f hf).1 (HOK.out f hf).2
        · rw [List.mem_singleton.1 h]
          show recB ⟨2, ⟨#[]⟩, [], ((xs.length : Nat) : Int), v⟩ = true
          rw [recB_done]
          have e1 : decide ((⟨#[]⟩ : ByteArray) = ByteArray.empty) = true := by decide
          have e2 : decide (1 ≤ ((xs.length : Nat) : Int) ∧ ((xs.length : Nat) : Int) ≤ 6) = true := decide_eq_true (by omega)
          have e3 : decide (0 ≤ v ∧ v ≤ 96) = true := decide_eq_true ⟨hv0, hv1⟩
          rw [e1, e2, e3]; rfl

set_option maxRecDepth 100000 in
set_option maxHeartbeats 1000000 in
theorem groupMake_any (x : Loc LFile) (w : World) (hx : x.At w) :
    Calls Tryz.prog 14 #[x.val] w (NewPost w (fun ys : List LRec => ys.length ≤ 7 ∧ ∀ r ∈ ys, recB r.er = true)) := by
  have hc := Lib.hid (sTreeOk_any x w hx)
  generalize hb : treeB (x.xs.map LFile.er) = b at hc
  have HB := Lib.hid hb
  have HX := Lib.hid hx
  have HM := Lib.hid (fun W (hW : x.At W) (ht : TreeOK (x.xs.map LFile.er)) (h0 : 0 < x.xs.length) => l11Make_any x W hW ht h0)
  have hlx := hx.lenMax
  clear hb hx
  obtain ⟨xa, xc, xs⟩ := x
  simp only [Loc.val] at hc HM hlx ⊢
  go_enter Tryz.func14, Tryz.ntmps14
  go_wp2_with fail
  refine hc.out.mono ?_
  rintro e w1 ⟨rfl, hb1⟩
  have HB1 := Lib.hid hb1
  have HX1 := Lib.hid (HX.out.belowAll hb1)
  clear hb1
  have HGS := Lib.hid (Grows.start (α := LRec) w1 53)
  cases b with
  | false =>
    go_wp2_with fail
    go_ret
    exact ⟨⟨some ⟨w1.heap.size, 0, none⟩, 0, []⟩, rfl, ⟨Nat.zero_le _, by simp⟩, HGS.out.done.1, HGS.out.done.2.mono HB1.out.size, nextB HB1.out HGS.out.bel⟩
  | true =>
    by_cases h0 : xs.length = 0
    · have h0' : (((xs.length : Nat) : Int) == 0) = true := by simp [h0]
      have H0 := Lib.hid h0
      clear h0
      go_wp2_with fail
      go_ret
      exact ⟨⟨some ⟨w1.heap.size, 0, none⟩, 0, []⟩, rfl, ⟨Nat.zero_le _, by simp⟩, HGS.out.done.1, HGS.out.done.2.mono HB1.out.size, nextB HB1.out HGS.out.bel⟩
    · have h0' : (((xs.length : Nat) : Int) == 0) = false := by rw [beq_eq_false_iff_ne]; omega
      have H0 := Lib.hid h0
      clear h0
      go_wp2_with fail
      refine (HM.out w1 HX1.out (TreeOK.of HB.out) (by have := H0.out; omega)).mono ?_
      rintro e w2 ⟨y, rfl, hy, hyA, hyF, hb2⟩
      have HY := Lib.hid hy
      have HYA := Lib.hid hyA
      have HYF := Lib.hid hyF
      have HB2 := Lib.hid hb2
      clear hy hyA hyF hb2
      go_wp2_with fail
      go_ret
      exact ⟨y, rfl, HY.out, HYA.out, HYF.out.mono HB1.out.size, nextB HB1.out HB2.out⟩
end Go.Proofs.YtdbejmnfnbkndaaGreatDoor
