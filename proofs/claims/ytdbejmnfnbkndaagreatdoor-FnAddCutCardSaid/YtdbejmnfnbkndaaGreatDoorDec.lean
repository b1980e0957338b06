/- The reference's texts of numbers: l6Dec, l1Text. -/
import Derived.Test.YtdbejmnfnbkndaaGreatDoorInfo
import Derived.Test.YtdbejmnfnbkndaaGreatDoorRel
import Derived.Test.YtdbejmnfnbkndaaGreatDoorSpec1
import Derived.Test.YtdbejmnfnbkndaaGreatDoorBox
namespace Go.Proofs.YtdbejmnfnbkndaaGreatDoor
open Go Go.RowKit

/-- A text of at most so many bytes; memory as it was. -/
def TextPost (w : World) (m : Nat) (e : Ending) (w' : World) : Prop := (∃ s : ByteArray, e = .returned (.string s) ∧ s.size ≤ m) ∧ Below w.heap.size w w'

set_option maxRecDepth 100000 in
set_option maxHeartbeats 400000 in
theorem l6Dec_small (n : Nat) (w : World) (hn : n < 10) : Calls Tryz.prog 69 #[.int .i64 n] w (TextPost w 1) := by
  have hn1 : (n : Int) < 10 := by omega
  have hn2 : ¬ (n : Int) < 0 := by omega
  have hcv := run_conv_one (P := Tryz.prog) w 22 5 9 Tryz.underlying22 Tryz.underlying5 Tryz.underlying9 (48 + (n : Int)) 5
  go_enter Tryz.func69, Tryz.ntmps69
  go_wp2_with fail
  go_ret
  exact ⟨⟨_, rfl, Nat.le_refl _⟩, (Below.refl _ _).alloc (Nat.le_refl _) _⟩

theorem run_conv_at {P : Program} (w : World) (src e dst : TypeId) (hs : P.underlying src = some (.slice e)) (he : P.underlying e = some (.int .u8)) (hd : P.underlying dst = some .string) (b : Nat) (n : Int) (hc : w.cell? ⟨b, 0, none⟩ = some (.int .u8 n)) :
    (convert src dst (.slice (some ⟨b, 0, none⟩) 1 1)).run P w = .ok (.string ⟨#[UInt8.ofNat n.toNat]⟩) w :=
  run_convert_bytes_arg (P := P) w src e hs he b 0 1 1 [n] rfl (fun i hi => by
    obtain rfl : i = 0 := by omega
    exact hc) dst hd

/-- A text of at most so many bytes. -/
def TextR (m : Nat) (v : Value) (_ : World) : Prop := ∃ s : ByteArray, v = .string s ∧ s.size ≤ m
theorem TextR.stable (m : Nat) : StableR (TextR m) := fun _ _ _ _ h => h
/-- A byte's own block. -/
def ByteR (n : Int) (v : Value) (w : World) : Prop := ∃ b : Nat, v = .slice (some ⟨b, 0, none⟩) 1 1 ∧ w.cell? ⟨b, 0, none⟩ = some (.int .u8 n)
theorem ByteR.stable (n : Int) : StableR (ByteR n) := fun _ w _ hb ⟨b, h1, h2⟩ => ⟨b, h1, (hb.cell (World.block_lt_of_cell? w _ h2)).trans h2⟩

set_option maxRecDepth 100000 in
set_option maxHeartbeats 1000000 in
theorem l6Dec_any (n : Nat) (w : World) (hn : n < 100) : Calls Tryz.prog 69 #[.int .i64 n] w (TextPost w 2) := by
  by_cases h10 : n < 10
  · exact (l6Dec_small n w h10).mono fun e w' ⟨⟨s, h1, h2⟩, h3⟩ => ⟨⟨s, h1, by omega⟩, h3⟩
  · have hn1 : ¬ (n : Int) < 10 := by omega
    have hn2 : ¬ (n : Int) < 0 := by omega
    obtain ⟨q, hq⟩ : ∃ q : Nat, q = n / 10 := ⟨_, rfl⟩
    obtain ⟨r, hr⟩ : ∃ r : Nat, r = n % 10 := ⟨_, rfl⟩
    have e1 : (n : Int).tdiv 10 = (q : Int) := by rw [hq]; rfl
    have e2 : (n : Int).tmod 10 = (r : Int) := by rw [hr]; rfl
    have e3 : (n : Int) / 10 = (q : Int) := by omega
    have e4 : (n : Int) % 10 = (r : Int) := by omega
    have hq1 : q < 10 := by omega
    have hr1 : (r : Int) < 10 := by omega
    have e5 : IntKind.i64.wrap (q : Int) = (q : Int) := IntWalk.i64_in _ (by omega)
    have e6 : IntKind.i64.wrap (r : Int) = (r : Int) := IntWalk.i64_in _ (by omega)
    have e7 : IntKind.u8.wrap (48 + (r : Int)) = 48 + (r : Int) := IntWalk.u8_in _ (by omega)
    have e8 : IntKind.i64.wrap (48 + (r : Int)) = 48 + (r : Int) := IntWalk.i64_in _ (by omega)
    have HD := Lib.hid (fun W => l6Dec_small q W hq1)
    clear hq hr
    go_enter Tryz.func69, Tryz.ntmps69
    go_wp2_with fail
    have HF : Hid (∀ w', Below w.heap.size w w' → True) := Lib.hid (fun _ _ => trivial)
    refine wp_region_rel 11 (by kernel_rfl) (by kernel_rfl) (by rfl) ?_
    simp only [List.take_succ_cons, List.take_zero, List.drop_succ_cons, List.drop_zero]
    refine' wpRel_fix (by rfl) (fun U => by rfl) (fun m U w' hI hG => ?_) ?_
    rotate_left
    · have hf := HF.out w' hI
      unfold relAt
      go_simp
      first | exact ⟨rfl, Below.refl _ _⟩ | exact Below.refl _ _ | exact ⟨trivial, Below.refl _ _⟩
    simp only [Act.put, List.setIfInBounds_toArray, List.set_cons_zero, List.set_cons_succ]
    refine' wpRel_fix (by rfl) (fun U => by rfl) (fun m U w' hI hG => ?_) ?_
    rotate_left
    · have hf := HF.out w' hI
      unfold relAt
      go_simp
      first | exact ⟨rfl, Below.refl _ _⟩ | exact Below.refl _ _ | exact ⟨trivial, Below.refl _ _⟩
    simp only [Act.put, List.setIfInBounds_toArray, List.set_cons_zero, List.set_cons_succ]
    refine wpRel_rel (TextR 1) rfl (TextR.stable 1) (by rfl) (fun U => by rfl) (fun m U w' hI hG => ?_) ?_
    · unfold relAt
      go_simp
      exact (HD.out w').mono fun e w'' ⟨⟨s, h1, h2⟩, h3⟩ => ⟨⟨_, h1, s, rfl, h2⟩, h3⟩
    simp only [Act.put, List.setIfInBounds_toArray, List.set_cons_zero, List.set_cons_succ]
    refine' wpRel_fix (by rfl) (fun U => by rfl) (fun m U w' hI hG => ?_) ?_
    rotate_left
    · have hf := HF.out w' hI
      unfold relAt
      go_simp
      first | exact ⟨rfl, Below.refl _ _⟩ | exact Below.refl _ _ | exact ⟨trivial, Below.refl _ _⟩
    simp only [Act.put, List.setIfInBounds_toArray, List.set_cons_zero, List.set_cons_succ]
    refine' wpRel_fix (by rfl) (fun U => by rfl) (fun m U w' hI hG => ?_) ?_
    rotate_left
    · have hf := HF.out w' hI
      unfold relAt
      go_simp
      first | exact ⟨rfl, Below.refl _ _⟩ | exact Below.refl _ _ | exact ⟨trivial, Below.refl _ _⟩
    simp only [Act.put, List.setIfInBounds_toArray, List.set_cons_zero, List.set_cons_succ]
    refine' wpRel_fix (by rfl) (fun U => by rfl) (fun m U w' hI hG => ?_) ?_
    rotate_left
    · have hf := HF.out w' hI
      unfold relAt
      go_simp
      first | exact ⟨rfl, Below.refl _ _⟩ | exact Below.refl _ _ | exact ⟨trivial, Below.refl _ _⟩
    simp only [Act.put, List.setIfInBounds_toArray, List.set_cons_zero, List.set_cons_succ]
    refine' wpRel_fix (by rfl) (fun U => by rfl) (fun m U w' hI hG => ?_) ?_
    rotate_left
    · have hf := HF.out w' hI
      unfold relAt
      go_simp
      first | exact ⟨rfl, Below.refl _ _⟩ | exact Below.refl _ _ | exact ⟨trivial, Below.refl _ _⟩
    simp only [Act.put, List.setIfInBounds_toArray, List.set_cons_zero, List.set_cons_succ]
    refine wpRel_rel (ByteR (48 + (r : Int))) rfl (ByteR.stable _) (by rfl) (fun U => by rfl) (fun m U w' hI hG => ?_) ?_
    · unfold relAt
      go_simp
      exact ⟨⟨w'.heap.size, rfl, by rw [cell_of_row _ _ _ _ _ (0, 0) (heap_alloc_new w' _)]; rfl⟩, (Below.refl _ _).alloc (Nat.le_refl _) _⟩
    simp only [Act.put, List.setIfInBounds_toArray, List.set_cons_zero, List.set_cons_succ]
    refine wpRel_rel (TextR 1) rfl (TextR.stable 1) (by rfl) (fun U => by rfl) (fun m U w' hI hG => ?_) ?_
    · obtain ⟨b, hb, hc⟩ := hG _ (List.Mem.head _) (by rfl)
      have hcv := run_conv_at (P := Tryz.prog) w' 22 5 9 Tryz.underlying22 Tryz.underlying5 Tryz.underlying9 b _ hc
      simp only at hb
      unfold relAt
      simp only [hb]
      go_simp
      exact ⟨⟨_, rfl, Nat.le_refl _⟩, Below.refl _ _⟩
    simp only [Act.put, List.setIfInBounds_toArray, List.set_cons_zero, List.set_cons_succ]
    refine wpRel_rel (TextR 2) rfl (TextR.stable 2) (by rfl) (fun U => by rfl) (fun m U w' hI hG => ?_) ?_
    · obtain ⟨s, hs, hs1⟩ := hG _ (List.Mem.head _) (by rfl)
      obtain ⟨t, ht, ht1⟩ := hG _ (List.Mem.tail _ (List.Mem.tail _ (List.Mem.head _))) (by rfl)
      simp only at hs ht
      have hst : ¬ 9223372036854775807 < t.size + s.size := by omega
      unfold relAt
      simp only [hs, ht]
      go_simp
      exact ⟨⟨_, rfl, by rw [ByteArray.size_append]; omega⟩, Below.refl _ _⟩
    simp only [Act.put, List.setIfInBounds_toArray, List.set_cons_zero, List.set_cons_succ]
    refine wpRel_rel (TextR 2) rfl (TextR.stable 2) (by rfl) (fun U => by rfl) (fun m U w' hI hG => ?_) ?_
    · obtain ⟨s, hs, hs1⟩ := hG _ (List.Mem.head _) (by rfl)
      simp only at hs
      unfold relAt
      simp only [hs]
      go_simp
      exact ⟨⟨_, rfl, hs1⟩, Below.refl _ _⟩
    simp only [Act.put, List.setIfInBounds_toArray, List.set_cons_zero, List.set_cons_succ]
    intro U w1 hI hG
    obtain ⟨s, hs, hs1⟩ := hG _ (List.Mem.head _)
    simp only at hs
    simp only [hs]
    go_wp2_with fail
    go_ret
    exact ⟨⟨s, rfl, hs1⟩, hI⟩

set_option maxRecDepth 100000 in
set_option maxHeartbeats 1000000 in
theorem l1Text_any (x : Loc Int) (w : World) (hx : x.At w) (hl : x.xs.length ≤ 3) (hr : ∀ n ∈ x.xs, 0 ≤ n ∧ n ≤ 30) :
    Calls Tryz.prog 81 #[x.val] w (TextPost w 9) := by
  obtain ⟨xa, xc, xs⟩ := x
  simp only [Loc.val]
  simp only at hl hr
  have h1 : xs.length ≤ 9223372036854775807 := by omega
  have HX := Lib.hid hx
  have HR := Lib.hid hr
  clear hx hr
  go_enter Tryz.func81, Tryz.ntmps81
  go_wp2_with fail
  go_loopw [3, 4] (fun o i wr => ∃ (k : Nat) (s : ByteArray), k ≤ xs.length ∧ i = .int .i64 k ∧ o = .string s ∧ s.size ≤ 3 * k ∧ Below w.heap.size w wr) (fun _ i _ => xs.length - (intOf i).toNat)
  case atStart => exact ⟨0, _, Nat.zero_le _, rfl, rfl, Nat.zero_le _, Below.refl _ _⟩
  case round =>
    obtain ⟨k, s, hk, rfl, rfl, hs, hb⟩ := hrel
    have HB := Lib.hid hb
    clear hb
    by_cases hlt : k < xs.length
    · obtain ⟨a, ao, ha⟩ := HX.out.place hlt
      simp only at ha
      subst ha
      have c0 := (HX.out.belowAll HB.out).int rfl hlt
      simp only at c0
      have hr2 := HR.out _ (List.getElem_mem hlt)
      obtain ⟨n, hn⟩ : ∃ n : Nat, xs[k] = (n : Int) := ⟨xs[k].toNat, by omega⟩
      rw [hn] at c0 hr2
      have HC := Lib.hid (l6Dec_any n wr (by omega))
      clear hn hr2
      by_cases hk0 : 0 < k
      · have hk1 : (0 : Int) < (k : Int) := by omega
        go_wp2_with fail
        refine HC.out.mono ?_
        rintro e w1 ⟨⟨t, rfl, ht⟩, hb1⟩
        have HB1 := Lib.hid (HB.out.trans (hb1.mono HB.out.size))
        have h7 : (ByteArray.mk #[46]).size = 1 := rfl
        have h8 : (s ++ ⟨#[46]⟩).size = s.size + 1 := by rw [ByteArray.size_append, h7]
        clear hb1 c0
        go_wp2_with fail
        go_roundw
        case rel => exact ⟨k + 1, _, by omega, by go_num, rfl, by rw [ByteArray.size_append, h8]; omega, HB1.out⟩
        case measure => simp [intOf]; omega
      · have hk1 : ¬ (0 : Int) < (k : Int) := by omega
        go_wp2_with fail
        refine HC.out.mono ?_
        rintro e w1 ⟨⟨t, rfl, ht⟩, hb1⟩
        have HB1 := Lib.hid (HB.out.trans (hb1.mono HB.out.size))
        clear hb1 c0
        go_wp2_with fail
        go_roundw
        case rel => exact ⟨k + 1, _, by omega, by go_num, rfl, by rw [ByteArray.size_append]; omega, HB1.out⟩
        case measure => simp [intOf]; omega
    · go_wp2_with fail
      go_ret
      exact ⟨⟨s, rfl, by omega⟩, HB.out⟩

theorem sibB_parts {s : Sib} (h : sibB s = true) : (∀ n ∈ s.vv, 0 ≤ n ∧ n ≤ 30) ∧ s.vv.length ≤ 3 ∧ s.text.size ≤ 4 := by
  unfold sibB vvB textB at h
  rw [Bool.and_eq_true, Bool.and_eq_true, Bool.and_eq_true, Bool.and_eq_true] at h
  obtain ⟨⟨⟨h1, h2⟩, h3, _⟩, _⟩ := h
  exact ⟨fun n hn => of_decide_eq_true (List.all_eq_true.1 h1 n hn), Nat.le_of_eq (of_decide_eq_true h2), of_decide_eq_true h3⟩

set_option maxRecDepth 100000 in
set_option maxHeartbeats 1000000 in
theorem l11Sib_any (x : LSib) (w : World) (hx : Dat.At w x) (hs : sibB x.er = true) :
    Calls Tryz.prog 70 #[x.val] w (TextPost w 14) := by
  obtain ⟨⟨xa, xc, xs⟩, xg, xt⟩ := x
  simp only [LSib.val, Loc.val]
  have hB := (Below.refl w.heap.size w).alloc (Nat.le_refl _) (Obj.cells #[.slice xa xs.length xc, .bool xg, .string xt] 75)
  obtain ⟨hv1, hv2, ht4⟩ := sibB_parts hs
  have HC := Lib.hid (fun W (hW : Loc.At W (⟨xa, xc, xs⟩ : Loc Int)) => l1Text_any ⟨xa, xc, xs⟩ W hW hv2 hv1)
  have HX := Lib.hid (Loc.At.belowAll hx.1 hB)
  have BX := Lib.hid (Boxed.new w #[.slice xa xs.length xc, .bool xg, .string xt] 75)
  have HB := Lib.hid hB
  have ht5 : xt.size ≤ 4 := ht4
  clear hB hx hs hv1 hv2 ht4
  simp only [Loc.val] at HC
  cases xg with
  | true =>
    go_enter Tryz.func70, Tryz.ntmps70
    go_wp2_with fail
    refine (HC.out _ HX.out).mono ?_
    rintro e w1 ⟨⟨t, rfl, ht⟩, hb1⟩
    have HB1 := Lib.hid (nextB HB.out hb1)
    clear hb1
    go_wp2_with fail
    go_ret
    exact ⟨⟨_, rfl, by rw [ByteArray.size_append]; have : (ByteArray.mk #[45]).size = 1 := rfl; omega⟩, HB1.out⟩
  | false =>
    go_enter Tryz.func70, Tryz.ntmps70
    go_wp2_with fail
    generalize w.alloc (Obj.cells #[.slice xa xs.length xc, .bool false, .string xt] 75) = w0 at *
    have HF : Hid (∀ w', Below w0.heap.size w0 w' → w'.cell? ⟨w.heap.size, 0, none⟩ = some (.slice xa xs.length xc) ∧ w'.cell? ⟨w.heap.size, 2, none⟩ = some (.string xt)) := Lib.hid (fun w' h => ⟨(BX.out.keep h).2 0 _ rfl, (BX.out.keep h).2 2 _ rfl⟩)
    refine wp_region_rel 8 (by kernel_rfl) (by kernel_rfl) (by rfl) ?_
    simp only [List.take_succ_cons, List.take_zero, List.drop_succ_cons, List.drop_zero]
    refine' wpRel_fix (by rfl) (fun U => by rfl) (fun m U w' hI hG => ?_) ?_
    rotate_left
    · have hf := HF.out w' hI
      unfold relAt
      go_simp
      first | exact ⟨rfl, Below.refl _ _⟩ | exact Below.refl _ _ | exact ⟨trivial, Below.refl _ _⟩
    simp only [Act.put, List.setIfInBounds_toArray, List.set_cons_zero, List.set_cons_succ]
    refine' wpRel_fix (by rfl) (fun U => by rfl) (fun m U w' hI hG => ?_) ?_
    rotate_left
    · have hf := HF.out w' hI
      unfold relAt
      go_simp
      first | exact ⟨rfl, Below.refl _ _⟩ | exact Below.refl _ _ | exact ⟨trivial, Below.refl _ _⟩
    simp only [Act.put, List.setIfInBounds_toArray, List.set_cons_zero, List.set_cons_succ]
    refine wpRel_rel (TextR 9) rfl (TextR.stable 9) (by rfl) (fun U => by rfl) (fun m U w' hI hG => ?_) ?_
    · unfold relAt
      go_simp
      exact (HC.out w' (HX.out.belowAll hI)).mono fun e w'' ⟨⟨s, h1, h2⟩, h3⟩ => ⟨⟨_, h1, s, rfl, h2⟩, h3⟩
    simp only [Act.put, List.setIfInBounds_toArray, List.set_cons_zero, List.set_cons_succ]
    refine wpRel_rel (TextR 10) rfl (TextR.stable 10) (by rfl) (fun U => by rfl) (fun m U w' hI hG => ?_) ?_
    · obtain ⟨s, hs, hs1⟩ := hG _ (List.Mem.head _) (by rfl)
      simp only at hs
      have hst : ¬ 9223372036854775807 < s.size + 1 := by omega
      unfold relAt
      simp only [hs]
      go_simp
      exact ⟨⟨_, rfl, by rw [ByteArray.size_append]; have : (ByteArray.mk #[43]).size = 1 := rfl; omega⟩, Below.refl _ _⟩
    simp only [Act.put, List.setIfInBounds_toArray, List.set_cons_zero, List.set_cons_succ]
    refine' wpRel_fix (by rfl) (fun U => by rfl) (fun m U w' hI hG => ?_) ?_
    rotate_left
    · have hf := HF.out w' hI
      unfold relAt
      go_simp
      first | exact ⟨rfl, Below.refl _ _⟩ | exact Below.refl _ _ | exact ⟨trivial, Below.refl _ _⟩
    simp only [Act.put, List.setIfInBounds_toArray, List.set_cons_zero, List.set_cons_succ]
    refine' wpRel_fix (by rfl) (fun U => by rfl) (fun m U w' hI hG => ?_) ?_
    rotate_left
    · have hf := HF.out w' hI
      unfold relAt
      go_simp
      first | exact ⟨rfl, Below.refl _ _⟩ | exact Below.refl _ _ | exact ⟨trivial, Below.refl _ _⟩
    simp only [Act.put, List.setIfInBounds_toArray, List.set_cons_zero, List.set_cons_succ]
    refine wpRel_rel (TextR 14) rfl (TextR.stable 14) (by rfl) (fun U => by rfl) (fun m U w' hI hG => ?_) ?_
    · obtain ⟨s, hs, hs1⟩ := hG _ (List.Mem.head _) (by rfl)
      simp only at hs
      have hst : ¬ 9223372036854775807 < s.size + xt.size := by omega
      unfold relAt
      simp only [hs]
      go_simp
      exact ⟨⟨_, rfl, by rw [ByteArray.size_append]; omega⟩, Below.refl _ _⟩
    simp only [Act.put, List.setIfInBounds_toArray, List.set_cons_zero, List.set_cons_succ]
    refine wpRel_rel (TextR 14) rfl (TextR.stable 14) (by rfl) (fun U => by rfl) (fun m U w' hI hG => ?_) ?_
    · obtain ⟨s, hs, hs1⟩ := hG _ (List.Mem.head _) (by rfl)
      simp only at hs
      unfold relAt
      simp only [hs]
      go_simp
      exact ⟨⟨_, rfl, hs1⟩, Below.refl _ _⟩
    simp only [Act.put, List.setIfInBounds_toArray, List.set_cons_zero, List.set_cons_succ]
    intro U w1 hI hG
    obtain ⟨s, hs, hs1⟩ := hG _ (List.Mem.head _)
    simp only at hs
    simp only [hs]
    go_wp2_with fail
    go_ret
    exact ⟨⟨s, rfl, hs1⟩, HB.out.trans (hI.mono HB.out.size)⟩
end Go.Proofs.YtdbejmnfnbkndaaGreatDoor
