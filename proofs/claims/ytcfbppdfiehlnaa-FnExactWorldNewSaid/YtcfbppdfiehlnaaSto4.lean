/- A new store: the program's, the reference's; the walk of FnExactStoreNew. -/
import Derived.Test.YtcfbppdfiehlnaaSto3
namespace Go.Proofs.Ytcfbppdfiehlnaa
open Go Go.RowKit

def newStore : Store := ⟨0, 0, [⟨1, 0, true⟩, ⟨0, 0, false⟩]⟩
def StoreP (w : World) (e : Ending) (w' : World) : Prop :=
  ∃ x : LStore, e = .returned x.val ∧ x.er = newStore ∧ Dat.At w' x ∧ Fr w.heap.size w' x.checks.fp ∧ Below w.heap.size w w'

theorem checks_new (w : World) (cs : List LCheck) (vs : Array Value) (e : TypeId) (hv : vs.toList = cs.flatMap Dat.enc) (hl : cs.length ≤ 10) :
    Loc.At (w.alloc (.cells vs e)) (⟨some ⟨w.heap.size, 0, none⟩, cs.length, cs⟩ : Loc LCheck) ∧ Fr w.heap.size (w.alloc (.cells vs e)) (⟨some ⟨w.heap.size, 0, none⟩, cs.length, cs⟩ : Loc LCheck).fp := by
  refine ⟨new_At w cs vs e hv (by simp only [maxLen]; omega) (fun _ _ => trivial), ?_⟩
  have h0 : cs.flatMap (Dat.fp (α := LCheck)) = [] := by rw [List.flatMap_eq_nil_iff]; intro _ _; rfl
  unfold Loc.fp
  rw [h0, List.append_nil]
  unfold Loc.blk
  split
  · exact Fr.nil _ _
  · exact ⟨fun b hb => by rw [List.mem_singleton.1 hb]; exact Nat.le_refl _, by simp, fun b hb => by rw [List.mem_singleton.1 hb]; exact ⟨_, _, heap_alloc_new w _⟩⟩

theorem store_of {w W0 : World} {ta ra : Option Addr} {tc rc : Nat} {t1 t2 : Option Addr} {c1 c2 : Nat} {e : TypeId} (vs : Array Value) (hv : vs = #[.int .i64 1, .int .i64 0, .slice t1 0 c1, .bool true, .int .i64 0, .int .i64 0, .slice t2 0 c2, .bool false])
    (hb : Below w.heap.size w W0) {v : Value} {N : Nat} (hN : N = W0.heap.size) (hr : v = .agg #[.slice ta 0 tc, .int .i64 0, .slice ra 0 rc, .int .i64 0, .slice (some ⟨N, 0, none⟩) 2 2]) :
    StoreP w (.returned v) (W0.alloc (.cells vs e)) := by
  obtain ⟨h1, h2⟩ := checks_new W0 [⟨1, 0, t1, c1, true⟩, ⟨0, 0, t2, c2, false⟩] vs e (by rw [hv]; rfl) (by simp)
  subst hN
  exact ⟨⟨ta, tc, 0, ra, rc, 0, ⟨some ⟨W0.heap.size, 0, none⟩, 2, [⟨1, 0, t1, c1, true⟩, ⟨0, 0, t2, c2, false⟩]⟩⟩, by rw [hr]; rfl, rfl, h1, h2.mono hb.size, hb.alloc hb.size _⟩

theorem StoreP.set {w W1 W2 : World} {v : Value} {g : Nat} (h : StoreP w (.returned v) W1) (hg : w.heap.size ≤ g) (hv : ∀ x : LStore, v = x.val → ∀ b ∈ x.checks.fp, b ≠ g) (hk : ∀ b, b ≠ g → W2.heap[b]? = W1.heap[b]?) (ho : W2.os = W1.os ∧ W2.tape = W1.tape ∧ W2.output = W1.output ∧ W2.heap.size = W1.heap.size) : StoreP w (.returned v) W2 := by
  obtain ⟨x, h1, h2, h3, h4, h5⟩ := h
  have hne := hv x (by injection h1)
  exact ⟨x, h1, h2, Loc.keep_At h3 (fun b hb => hk b (hne b hb)), h4.keep (fun b hb => hk b (hne b hb)), ⟨ho.1.trans h5.os, ho.2.1.trans h5.tape, ho.2.2.1.trans h5.output, by rw [ho.2.2.2]; exact h5.size, fun b hb => (hk b (by omega)).trans (h5.block b hb)⟩⟩

set_option maxRecDepth 100000 in
theorem iStoreNew_any (w : World) : Calls Try.prog 6 #[] w (StoreP w) := by
  go_enter Try.func6, Try.ntmps6
  go_wp2_with fail
  refine bodyPost_ret (v := .agg #[.slice none 0 0, .int .i64 0, .slice none 0 0, .int .i64 0, .slice (some ⟨w.heap.size + 1, 0, none⟩) 2 2]) ?_ rfl (store_of _ rfl ((Below.refl _ _).alloc (Nat.le_refl _) _) (by simp) rfl)
  simp only [results, Try.results6]
  go_simp

theorem l12New_any (w : World) : Calls Try.prog 15 #[] w fun e w' => (∃ a, e = .returned (.agg #[.int .i64 0, .slice a 0 0])) ∧ Below w.heap.size w w' := by
  go_enter Try.func15, Try.ntmps15
  go_wp2_with fail
  refine bodyPost_ret (v := .agg #[.int .i64 0, .slice (some ⟨w.heap.size + 1, 0, none⟩) 0 0]) ?_ rfl ⟨⟨_, rfl⟩, ((Below.refl _ _).alloc (Nat.le_refl _) _).alloc (by simp) _⟩
  simp only [results, Try.results15]
  go_simp

set_option maxRecDepth 100000 in
theorem sStoreNew_any (w : World) : Calls Try.prog 5 #[] w (StoreP w) := by
  go_enter Try.func5, Try.ntmps5
  go_wp2_with fail
  have hb1 : Below (w.alloc (Obj.cells #[.slice none 0 0, .int .i64 0, .slice none 0 0, .int .i64 0, .slice none 0 0] 28)).heap.size (w.alloc (Obj.cells #[.slice none 0 0, .int .i64 0, .slice none 0 0, .int .i64 0, .slice none 0 0] 28)) ((w.alloc (Obj.cells #[.slice none 0 0, .int .i64 0, .slice none 0 0, .int .i64 0, .slice none 0 0] 28)).alloc (Obj.cells #[] 53)) := (Below.refl _ _).alloc (Nat.le_refl _) _
  have hrow := heap_alloc_new w (Obj.cells #[.slice none 0 0, .int .i64 0, .slice none 0 0, .int .i64 0, .slice none 0 0] 28)
  have HB1 := Lib.hid hb1
  have HROW := Lib.hid hrow
  clear hb1 hrow
  refine (l12New_any _).mono ?_
  rintro e w3 ⟨⟨a, rfl⟩, b3⟩
  have B := Lib.hid (nextB (((Below.refl w.heap.size w).alloc (Nat.le_refl _) _).alloc (by simp) _) b3)
  have hS := b3.size
  have HR3 : Hid (w3.heap[w.heap.size]? = some (Obj.cells #[.slice none 0 0, .int .i64 0, .slice none 0 0, .int .i64 0, .slice none 0 0] 28 (0, 0))) := Lib.hid (by
    rw [(nextB HB1.out b3).block _ (by simp)]; exact HROW.out)
  have hl3 : w.heap.size < w3.heap.size := by simp at hS; omega
  have HR5 : Hid ((((w3.alloc (Obj.cells #[] 53)).alloc (Obj.cells #[] 53)).alloc (Obj.cells #[.int .i64 1, .int .i64 0, .slice (some ⟨w3.heap.size, 0, none⟩) 0 0, .bool true, .int .i64 0, .int .i64 0, .slice (some ⟨w3.heap.size + 1, 0, none⟩) 0 0, .bool false] 41)).heap[w.heap.size]? = some (Obj.cells #[.slice none 0 0, .int .i64 0, .slice none 0 0, .int .i64 0, .slice none 0 0] 28 (0, 0))) := Lib.hid (by
    rw [((((Below.refl w3.heap.size w3).alloc (Nat.le_refl _) (Obj.cells #[] 53)).alloc (by simp) (Obj.cells #[] 53)).alloc (by simp; omega) (Obj.cells #[.int .i64 1, .int .i64 0, .slice (some ⟨w3.heap.size, 0, none⟩) 0 0, .bool true, .int .i64 0, .int .i64 0, .slice (some ⟨w3.heap.size + 1, 0, none⟩) 0 0, .bool false] 41)).block _ hl3]
    exact HR3.out)
  have c0 := cell_of_row (((w3.alloc (Obj.cells #[] 53)).alloc (Obj.cells #[] 53)).alloc (Obj.cells #[.int .i64 1, .int .i64 0, .slice (some ⟨w3.heap.size, 0, none⟩) 0 0, .bool true, .int .i64 0, .int .i64 0, .slice (some ⟨w3.heap.size + 1, 0, none⟩) 0 0, .bool false] 41)) w.heap.size 0 _ _ _ HR5.out
  have c1 := cell_of_row (((w3.alloc (Obj.cells #[] 53)).alloc (Obj.cells #[] 53)).alloc (Obj.cells #[.int .i64 1, .int .i64 0, .slice (some ⟨w3.heap.size, 0, none⟩) 0 0, .bool true, .int .i64 0, .int .i64 0, .slice (some ⟨w3.heap.size + 1, 0, none⟩) 0 0, .bool false] 41)) w.heap.size 1 _ _ _ HR5.out
  have c2 := cell_of_row (((w3.alloc (Obj.cells #[] 53)).alloc (Obj.cells #[] 53)).alloc (Obj.cells #[.int .i64 1, .int .i64 0, .slice (some ⟨w3.heap.size, 0, none⟩) 0 0, .bool true, .int .i64 0, .int .i64 0, .slice (some ⟨w3.heap.size + 1, 0, none⟩) 0 0, .bool false] 41)) w.heap.size 2 _ _ _ HR5.out
  have c3 := cell_of_row (((w3.alloc (Obj.cells #[] 53)).alloc (Obj.cells #[] 53)).alloc (Obj.cells #[.int .i64 1, .int .i64 0, .slice (some ⟨w3.heap.size, 0, none⟩) 0 0, .bool true, .int .i64 0, .int .i64 0, .slice (some ⟨w3.heap.size + 1, 0, none⟩) 0 0, .bool false] 41)) w.heap.size 3 _ _ _ HR5.out
  have c4 := cell_of_row (((w3.alloc (Obj.cells #[] 53)).alloc (Obj.cells #[] 53)).alloc (Obj.cells #[.int .i64 1, .int .i64 0, .slice (some ⟨w3.heap.size, 0, none⟩) 0 0, .bool true, .int .i64 0, .int .i64 0, .slice (some ⟨w3.heap.size + 1, 0, none⟩) 0 0, .bool false] 41)) w.heap.size 4 _ _ _ HR5.out
  have z0 := frozen_of_row (((w3.alloc (Obj.cells #[] 53)).alloc (Obj.cells #[] 53)).alloc (Obj.cells #[.int .i64 1, .int .i64 0, .slice (some ⟨w3.heap.size, 0, none⟩) 0 0, .bool true, .int .i64 0, .int .i64 0, .slice (some ⟨w3.heap.size + 1, 0, none⟩) 0 0, .bool false] 41)) w.heap.size 0 _ _ HR5.out
  have z1 := frozen_of_row (((w3.alloc (Obj.cells #[] 53)).alloc (Obj.cells #[] 53)).alloc (Obj.cells #[.int .i64 1, .int .i64 0, .slice (some ⟨w3.heap.size, 0, none⟩) 0 0, .bool true, .int .i64 0, .int .i64 0, .slice (some ⟨w3.heap.size + 1, 0, none⟩) 0 0, .bool false] 41)) w.heap.size 1 _ _ HR5.out
  have z2 := frozen_of_row (((w3.alloc (Obj.cells #[] 53)).alloc (Obj.cells #[] 53)).alloc (Obj.cells #[.int .i64 1, .int .i64 0, .slice (some ⟨w3.heap.size, 0, none⟩) 0 0, .bool true, .int .i64 0, .int .i64 0, .slice (some ⟨w3.heap.size + 1, 0, none⟩) 0 0, .bool false] 41)) w.heap.size 2 _ _ HR5.out
  have z3 := frozen_of_row (((w3.alloc (Obj.cells #[] 53)).alloc (Obj.cells #[] 53)).alloc (Obj.cells #[.int .i64 1, .int .i64 0, .slice (some ⟨w3.heap.size, 0, none⟩) 0 0, .bool true, .int .i64 0, .int .i64 0, .slice (some ⟨w3.heap.size + 1, 0, none⟩) 0 0, .bool false] 41)) w.heap.size 3 _ _ HR5.out
  have z4 := frozen_of_row (((w3.alloc (Obj.cells #[] 53)).alloc (Obj.cells #[] 53)).alloc (Obj.cells #[.int .i64 1, .int .i64 0, .slice (some ⟨w3.heap.size, 0, none⟩) 0 0, .bool true, .int .i64 0, .int .i64 0, .slice (some ⟨w3.heap.size + 1, 0, none⟩) 0 0, .bool false] 41)) w.heap.size 4 _ _ HR5.out
  simp only [List.getElem?_toArray, List.getElem?_cons_zero, List.getElem?_cons_succ] at c0 c1 c2 c3 c4
  simp at hS
  have hn0 : ¬ w.heap.size = w3.heap.size := by omega
  have hn1 : ¬ w.heap.size = w3.heap.size + 1 := by omega
  have hn2 : ¬ w.heap.size = w3.heap.size + 1 + 1 := by omega
  have hl : w.heap.size < w3.heap.size := by omega
  clear b3
  have HB0 : Hid (Below w.heap.size w ((w3.alloc (Obj.cells #[] 53)).alloc (Obj.cells #[] 53))) := Lib.hid ((B.out.alloc B.out.size _).alloc (by have := B.out.size; simp; omega) _)
  have HST := Lib.hid (store_of (w := w) (ta := some ⟨w.heap.size + 1, 0, none⟩) (tc := 0) (ra := a) (rc := 0) (t1 := some ⟨w3.heap.size, 0, none⟩) (c1 := 0) (t2 := some ⟨w3.heap.size + 1, 0, none⟩) (c2 := 0) (e := 41) #[.int .i64 1, .int .i64 0, .slice (some ⟨w3.heap.size, 0, none⟩) 0 0, .bool true, .int .i64 0, .int .i64 0, .slice (some ⟨w3.heap.size + 1, 0, none⟩) 0 0, .bool false] rfl HB0.out (v := .agg #[.slice (some ⟨w.heap.size + 1, 0, none⟩) 0 0, .int .i64 0, .slice a 0 0, .int .i64 0, .slice (some ⟨w3.heap.size + 1 + 1, 0, none⟩) 2 2]) (N := w3.heap.size + 1 + 1) (by simp) rfl)
  go_wp2_with fail
  refine bodyPost_ret (v := .agg #[.slice (some ⟨w.heap.size + 1, 0, none⟩) 0 0, .int .i64 0, .slice a 0 0, .int .i64 0, .slice (some ⟨w3.heap.size + 1 + 1, 0, none⟩) 2 2]) ?_ rfl (HST.out.set (g := w.heap.size) (Nat.le_refl _) (fun x hx b hb => ?_) (fun b hb => ?_) ⟨rfl, rfl, rfl, by simp [World.setCell]⟩)
  · simp only [results, Try.results5]
    go_simp
  · have h1 : x.checks.a = some ⟨w3.heap.size + 1 + 1, 0, none⟩ := by
      simp only [LStore.val, Loc.val, Value.agg.injEq] at hx
      have := congrArg (fun z => z[4]?) hx
      simp at this
      exact this.1.symm
    unfold Loc.fp at hb
    rcases List.mem_append.1 hb with hb | hb
    · obtain ⟨a', _, _, h2, _, rfl⟩ := Loc.mem_blk hb
      rw [h1] at h2
      simp only [Option.some.injEq] at h2
      rw [← h2]; simp only; omega
    · obtain ⟨_, _, h3⟩ := List.mem_flatMap.1 hb
      cases h3
  · rw [Below.heap_setCell _ _ _ _ hb, Below.heap_setCell _ _ _ _ hb, Below.heap_setCell _ _ _ _ hb, Below.heap_setCell _ _ _ _ hb, Below.heap_setCell _ _ _ _ hb]

theorem Boxed.touch {w w' : World} {p : Nat} {vs : List Value} {fp : List Nat} (h : Boxed w p vs) (ht : Touch fp w w') (hn : p ∉ fp) : Boxed w' p vs :=
  ⟨Nat.lt_of_lt_of_le h.1 ht.size, fun j v hv => by
    have := h.2 j v hv
    unfold World.cell? at this ⊢
    simp only at this ⊢
    rw [ht.block p h.1 hn]
    exact this⟩
set_option maxRecDepth 100000 in
set_option maxHeartbeats 2000000 in
theorem exactStoreNew_walk (w : World) :
    Calls Try.prog 3 #[] w fun e w' => e = .returned (.bool true) ∧ Below w.heap.size w w' := by
  go_enter Try.func3, Try.ntmps3
  go_wp2_with fail
  refine (sStoreNew_any _).mono ?_
  rintro e w1 ⟨⟨vta, vtc, vf, vra, vrc, vs, ⟨vca, vcc, vcs⟩⟩, rfl, hv, hvA, -, b1⟩
  have HV := Lib.hid hv
  have AV := Lib.hid hvA
  have B := Lib.hid b1
  clear hv hvA b1
  simp only [LStore.val, Loc.val]
  go_wp2_with fail
  have b2 : Below w1.heap.size w1 (w1.alloc (Obj.cells #[.slice vta 0 vtc, .int .i64 vf, .slice vra 0 vrc, .int .i64 vs, .slice vca vcs.length vcc] 28)) := (Below.refl _ _).alloc (Nat.le_refl _) _
  have BV := Lib.hid (Boxed.new w1 #[.slice vta 0 vtc, .int .i64 vf, .slice vra 0 vrc, .int .i64 vs, .slice vca vcs.length vcc] 28)
  have LV := Lib.hid (Loc.lt_of_At AV.out)
  first
    | replace B := Lib.hid (Loc.At.belowAll B.out (b2))
    | replace B := Lib.hid (nextB B.out (b2))
    | replace B := Lib.hid (Boxed.keep B.out (b2))
    | replace B := Lib.hid (Dat.belowAll B.out (b2))
    | replace B := Lib.hid (Fr.belowAll B.out (b2))
    | replace B := Lib.hid (Own.belowAll B.out (b2))
    | replace B := Lib.hid (Grows.next B.out (b2))
  first
    | replace AV := Lib.hid (Loc.At.belowAll AV.out (b2))
    | replace AV := Lib.hid (nextB AV.out (b2))
    | replace AV := Lib.hid (Boxed.keep AV.out (b2))
    | replace AV := Lib.hid (Dat.belowAll AV.out (b2))
    | replace AV := Lib.hid (Fr.belowAll AV.out (b2))
    | replace AV := Lib.hid (Own.belowAll AV.out (b2))
    | replace AV := Lib.hid (Grows.next AV.out (b2))
  have S2 := Lib.hid b2.size
  have LB : Hid (w1.heap.size < (w1.alloc (Obj.cells #[.slice vta 0 vtc, .int .i64 vf, .slice vra 0 vrc, .int .i64 vs, .slice vca vcs.length vcc] 28)).heap.size) := Lib.hid (by simp)
  clear b2
  generalize w1.alloc (Obj.cells #[.slice vta 0 vtc, .int .i64 vf, .slice vra 0 vrc, .int .i64 vs, .slice vca vcs.length vcc] 28) = w2 at *
  generalize w1.heap.size = pv at *
  have SW := Lib.hid B.out.size
  refine (iStoreNew_any _).mono ?_
  rintro e w3 ⟨⟨gta, gtc, gf, gra, grc, gs, ⟨gca, gcc, gcs⟩⟩, rfl, hg, hgA, hgF, b3⟩
  have HG := Lib.hid hg
  have AG := Lib.hid hgA
  have FG := Lib.hid hgF
  first
    | replace B := Lib.hid (Loc.At.belowAll B.out (b3))
    | replace B := Lib.hid (nextB B.out (b3))
    | replace B := Lib.hid (Boxed.keep B.out (b3))
    | replace B := Lib.hid (Dat.belowAll B.out (b3))
    | replace B := Lib.hid (Fr.belowAll B.out (b3))
    | replace B := Lib.hid (Own.belowAll B.out (b3))
    | replace B := Lib.hid (Grows.next B.out (b3))
  first
    | replace AV := Lib.hid (Loc.At.belowAll AV.out (b3))
    | replace AV := Lib.hid (nextB AV.out (b3))
    | replace AV := Lib.hid (Boxed.keep AV.out (b3))
    | replace AV := Lib.hid (Dat.belowAll AV.out (b3))
    | replace AV := Lib.hid (Fr.belowAll AV.out (b3))
    | replace AV := Lib.hid (Own.belowAll AV.out (b3))
    | replace AV := Lib.hid (Grows.next AV.out (b3))
  first
    | replace BV := Lib.hid (Loc.At.belowAll BV.out (b3))
    | replace BV := Lib.hid (nextB BV.out (b3))
    | replace BV := Lib.hid (Boxed.keep BV.out (b3))
    | replace BV := Lib.hid (Dat.belowAll BV.out (b3))
    | replace BV := Lib.hid (Fr.belowAll BV.out (b3))
    | replace BV := Lib.hid (Own.belowAll BV.out (b3))
    | replace BV := Lib.hid (Grows.next BV.out (b3))
  have S3 := Lib.hid b3.size
  clear hg hgA hgF b3
  have b4 : Below w3.heap.size w3 (w3.alloc (Obj.cells #[.slice gta 0 gtc, .int .i64 gf, .slice gra 0 grc, .int .i64 gs, .slice gca gcs.length gcc] 28)) := (Below.refl _ _).alloc (Nat.le_refl _) _
  have BG := Lib.hid (Boxed.new w3 #[.slice gta 0 gtc, .int .i64 gf, .slice gra 0 grc, .int .i64 gs, .slice gca gcs.length gcc] 28)
  have LG := Lib.hid FG.out.lt
  first
    | replace B := Lib.hid (Loc.At.belowAll B.out (b4))
    | replace B := Lib.hid (nextB B.out (b4))
    | replace B := Lib.hid (Boxed.keep B.out (b4))
    | replace B := Lib.hid (Dat.belowAll B.out (b4))
    | replace B := Lib.hid (Fr.belowAll B.out (b4))
    | replace B := Lib.hid (Own.belowAll B.out (b4))
    | replace B := Lib.hid (Grows.next B.out (b4))
  first
    | replace AV := Lib.hid (Loc.At.belowAll AV.out (b4))
    | replace AV := Lib.hid (nextB AV.out (b4))
    | replace AV := Lib.hid (Boxed.keep AV.out (b4))
    | replace AV := Lib.hid (Dat.belowAll AV.out (b4))
    | replace AV := Lib.hid (Fr.belowAll AV.out (b4))
    | replace AV := Lib.hid (Own.belowAll AV.out (b4))
    | replace AV := Lib.hid (Grows.next AV.out (b4))
  first
    | replace BV := Lib.hid (Loc.At.belowAll BV.out (b4))
    | replace BV := Lib.hid (nextB BV.out (b4))
    | replace BV := Lib.hid (Boxed.keep BV.out (b4))
    | replace BV := Lib.hid (Dat.belowAll BV.out (b4))
    | replace BV := Lib.hid (Fr.belowAll BV.out (b4))
    | replace BV := Lib.hid (Own.belowAll BV.out (b4))
    | replace BV := Lib.hid (Grows.next BV.out (b4))
  first
    | replace AG := Lib.hid (Loc.At.belowAll AG.out (b4))
    | replace AG := Lib.hid (nextB AG.out (b4))
    | replace AG := Lib.hid (Boxed.keep AG.out (b4))
    | replace AG := Lib.hid (Dat.belowAll AG.out (b4))
    | replace AG := Lib.hid (Fr.belowAll AG.out (b4))
    | replace AG := Lib.hid (Own.belowAll AG.out (b4))
    | replace AG := Lib.hid (Grows.next AG.out (b4))
  first
    | replace FG := Lib.hid (Loc.At.belowAll FG.out (b4))
    | replace FG := Lib.hid (nextB FG.out (b4))
    | replace FG := Lib.hid (Boxed.keep FG.out (b4))
    | replace FG := Lib.hid (Dat.belowAll FG.out (b4))
    | replace FG := Lib.hid (Fr.belowAll FG.out (b4))
    | replace FG := Lib.hid (Own.belowAll FG.out (b4))
    | replace FG := Lib.hid (Grows.next FG.out (b4))
  clear b4
  have v0 := BV.out.2 0 _ rfl
  have v1 := BV.out.2 1 _ rfl
  have v2 := BV.out.2 2 _ rfl
  have v3 := BV.out.2 3 _ rfl
  have v4 := BV.out.2 4 _ rfl
  simp only [LStore.val, Loc.val]
  go_wp2_with fail
  refine (eqStore_any ⟨gta, gtc, gf, gra, grc, gs, ⟨gca, gcc, gcs⟩⟩ ⟨vta, vtc, vf, vra, vrc, vs, ⟨vca, vcc, vcs⟩⟩ _ AG.out AV.out).mono ?_
  rintro e w4 ⟨⟨q, rfl, hq⟩, b4⟩
  obtain rfl : q = true := hq.2 (HG.out.trans HV.out.symm)
  first
    | replace B := Lib.hid (Loc.At.belowAll B.out (b4))
    | replace B := Lib.hid (nextB B.out (b4))
    | replace B := Lib.hid (Boxed.keep B.out (b4))
    | replace B := Lib.hid (Dat.belowAll B.out (b4))
    | replace B := Lib.hid (Fr.belowAll B.out (b4))
    | replace B := Lib.hid (Own.belowAll B.out (b4))
    | replace B := Lib.hid (Grows.next B.out (b4))
  first
    | replace AV := Lib.hid (Loc.At.belowAll AV.out (b4))
    | replace AV := Lib.hid (nextB AV.out (b4))
    | replace AV := Lib.hid (Boxed.keep AV.out (b4))
    | replace AV := Lib.hid (Dat.belowAll AV.out (b4))
    | replace AV := Lib.hid (Fr.belowAll AV.out (b4))
    | replace AV := Lib.hid (Own.belowAll AV.out (b4))
    | replace AV := Lib.hid (Grows.next AV.out (b4))
  first
    | replace BV := Lib.hid (Loc.At.belowAll BV.out (b4))
    | replace BV := Lib.hid (nextB BV.out (b4))
    | replace BV := Lib.hid (Boxed.keep BV.out (b4))
    | replace BV := Lib.hid (Dat.belowAll BV.out (b4))
    | replace BV := Lib.hid (Fr.belowAll BV.out (b4))
    | replace BV := Lib.hid (Own.belowAll BV.out (b4))
    | replace BV := Lib.hid (Grows.next BV.out (b4))
  first
    | replace BG := Lib.hid (Loc.At.belowAll BG.out (b4))
    | replace BG := Lib.hid (nextB BG.out (b4))
    | replace BG := Lib.hid (Boxed.keep BG.out (b4))
    | replace BG := Lib.hid (Dat.belowAll BG.out (b4))
    | replace BG := Lib.hid (Fr.belowAll BG.out (b4))
    | replace BG := Lib.hid (Own.belowAll BG.out (b4))
    | replace BG := Lib.hid (Grows.next BG.out (b4))
  first
    | replace AG := Lib.hid (Loc.At.belowAll AG.out (b4))
    | replace AG := Lib.hid (nextB AG.out (b4))
    | replace AG := Lib.hid (Boxed.keep AG.out (b4))
    | replace AG := Lib.hid (Dat.belowAll AG.out (b4))
    | replace AG := Lib.hid (Fr.belowAll AG.out (b4))
    | replace AG := Lib.hid (Own.belowAll AG.out (b4))
    | replace AG := Lib.hid (Grows.next AG.out (b4))
  first
    | replace FG := Lib.hid (Loc.At.belowAll FG.out (b4))
    | replace FG := Lib.hid (nextB FG.out (b4))
    | replace FG := Lib.hid (Boxed.keep FG.out (b4))
    | replace FG := Lib.hid (Dat.belowAll FG.out (b4))
    | replace FG := Lib.hid (Fr.belowAll FG.out (b4))
    | replace FG := Lib.hid (Own.belowAll FG.out (b4))
    | replace FG := Lib.hid (Grows.next FG.out (b4))
  clear hq b4 v0 v1 v2 v3 v4
  have HGL : Hid (gcs.length = 2) := Lib.hid (by have h := congrArg (fun s => s.checks.length) HG.out; simpa [LStore.er, newStore] using h)
  have g0 := BG.out.2 0 _ rfl
  have g1 := BG.out.2 1 _ rfl
  have g2 := BG.out.2 2 _ rfl
  have g3 := BG.out.2 3 _ rfl
  have g4 := BG.out.2 4 _ rfl
  have hm := markStore_any ⟨gta, gtc, gf, gra, grc, gs, ⟨gca, gcc, gcs⟩⟩ 1 w2.heap.size w4 AG.out FG.out (by simp only [HGL.out]; omega)
  simp only [HGL.out] at hm
  have HM := Lib.hid hm
  clear hm
  go_wp2_with fail
  refine HM.out.mono ?_
  rintro e w5 ⟨ys, rfl, hys, hyf, hyA, hyF, hT⟩
  have HYL : Hid (ys.length = gcs.length) := Lib.hid (by have h := congrArg List.length hyf; simpa using h)
  replace B := Lib.hid (B.out.trans (hT.below B.out.size (fun b hb => by have := FG.out.ge b hb; have := SW.out; omega)))
  replace AV := Lib.hid (hT.keepLoc AV.out (fun b hb hb2 => by have := LV.out b hb; have := FG.out.ge b hb2; have := LB.out; omega))
  replace BV := Lib.hid (BV.out.touch hT (fun hb2 => by have := FG.out.ge _ hb2; have := LB.out; omega))
  replace BG := Lib.hid (BG.out.touch hT (fun hb2 => by have := LG.out _ hb2; omega))
  have AY := Lib.hid hyA
  have HH : Hid (∀ W, (⟨gca, gcc, ys⟩ : Loc LCheck).At W → Calls Try.prog 9 #[.agg #[.slice gta 0 gtc, .int .i64 gf, .slice gra 0 grc, .int .i64 gs, .slice gca gcs.length gcc], .int .i64 1] W fun e w' => e = .returned (.int .i64 7) ∧ Below W.heap.size W w') := Lib.hid (fun W hW => by
    have h := heldStore_any ⟨gta, gtc, gf, gra, grc, gs, ⟨gca, gcc, ys⟩⟩ 1 (gcs.map LCheck.er) W hW hys (by rw [List.length_map, HGL.out]; omega)
    rw [List.length_map, HGL.out] at h
    simp only [LStore.val, Loc.val, HYL.out] at h
    exact h)
  clear hys hyf hyA hyF hT HM g0 g1 g2 g3 g4 AG FG HYL
  have g0 := BG.out.2 0 _ rfl
  have g1 := BG.out.2 1 _ rfl
  have g2 := BG.out.2 2 _ rfl
  have g3 := BG.out.2 3 _ rfl
  have g4 := BG.out.2 4 _ rfl
  go_wp2_with fail
  refine (HH.out _ AY.out).mono ?_
  rintro e w6 ⟨rfl, b6⟩
  first
    | replace B := Lib.hid (Loc.At.belowAll B.out (b6))
    | replace B := Lib.hid (nextB B.out (b6))
    | replace B := Lib.hid (Boxed.keep B.out (b6))
    | replace B := Lib.hid (Dat.belowAll B.out (b6))
    | replace B := Lib.hid (Fr.belowAll B.out (b6))
    | replace B := Lib.hid (Own.belowAll B.out (b6))
    | replace B := Lib.hid (Grows.next B.out (b6))
  first
    | replace AV := Lib.hid (Loc.At.belowAll AV.out (b6))
    | replace AV := Lib.hid (nextB AV.out (b6))
    | replace AV := Lib.hid (Boxed.keep AV.out (b6))
    | replace AV := Lib.hid (Dat.belowAll AV.out (b6))
    | replace AV := Lib.hid (Fr.belowAll AV.out (b6))
    | replace AV := Lib.hid (Own.belowAll AV.out (b6))
    | replace AV := Lib.hid (Grows.next AV.out (b6))
  first
    | replace BV := Lib.hid (Loc.At.belowAll BV.out (b6))
    | replace BV := Lib.hid (nextB BV.out (b6))
    | replace BV := Lib.hid (Boxed.keep BV.out (b6))
    | replace BV := Lib.hid (Dat.belowAll BV.out (b6))
    | replace BV := Lib.hid (Fr.belowAll BV.out (b6))
    | replace BV := Lib.hid (Own.belowAll BV.out (b6))
    | replace BV := Lib.hid (Grows.next BV.out (b6))
  first
    | replace BG := Lib.hid (Loc.At.belowAll BG.out (b6))
    | replace BG := Lib.hid (nextB BG.out (b6))
    | replace BG := Lib.hid (Boxed.keep BG.out (b6))
    | replace BG := Lib.hid (Dat.belowAll BG.out (b6))
    | replace BG := Lib.hid (Fr.belowAll BG.out (b6))
    | replace BG := Lib.hid (Own.belowAll BG.out (b6))
    | replace BG := Lib.hid (Grows.next BG.out (b6))
  first
    | replace AY := Lib.hid (Loc.At.belowAll AY.out (b6))
    | replace AY := Lib.hid (nextB AY.out (b6))
    | replace AY := Lib.hid (Boxed.keep AY.out (b6))
    | replace AY := Lib.hid (Dat.belowAll AY.out (b6))
    | replace AY := Lib.hid (Fr.belowAll AY.out (b6))
    | replace AY := Lib.hid (Own.belowAll AY.out (b6))
    | replace AY := Lib.hid (Grows.next AY.out (b6))
  clear b6 g0 g1 g2 g3 g4
  go_wp2_with fail
  refine (iStoreNew_any _).mono ?_
  rintro e w7 ⟨⟨hta, htc, hf, hra, hrc, hs, ⟨hca, hcc, hcs⟩⟩, rfl, hh, hhA, -, b7⟩
  have HHE := Lib.hid hh
  have AH := Lib.hid hhA
  first
    | replace B := Lib.hid (Loc.At.belowAll B.out (b7))
    | replace B := Lib.hid (nextB B.out (b7))
    | replace B := Lib.hid (Boxed.keep B.out (b7))
    | replace B := Lib.hid (Dat.belowAll B.out (b7))
    | replace B := Lib.hid (Fr.belowAll B.out (b7))
    | replace B := Lib.hid (Own.belowAll B.out (b7))
    | replace B := Lib.hid (Grows.next B.out (b7))
  first
    | replace AV := Lib.hid (Loc.At.belowAll AV.out (b7))
    | replace AV := Lib.hid (nextB AV.out (b7))
    | replace AV := Lib.hid (Boxed.keep AV.out (b7))
    | replace AV := Lib.hid (Dat.belowAll AV.out (b7))
    | replace AV := Lib.hid (Fr.belowAll AV.out (b7))
    | replace AV := Lib.hid (Own.belowAll AV.out (b7))
    | replace AV := Lib.hid (Grows.next AV.out (b7))
  first
    | replace BV := Lib.hid (Loc.At.belowAll BV.out (b7))
    | replace BV := Lib.hid (nextB BV.out (b7))
    | replace BV := Lib.hid (Boxed.keep BV.out (b7))
    | replace BV := Lib.hid (Dat.belowAll BV.out (b7))
    | replace BV := Lib.hid (Fr.belowAll BV.out (b7))
    | replace BV := Lib.hid (Own.belowAll BV.out (b7))
    | replace BV := Lib.hid (Grows.next BV.out (b7))
  first
    | replace BG := Lib.hid (Loc.At.belowAll BG.out (b7))
    | replace BG := Lib.hid (nextB BG.out (b7))
    | replace BG := Lib.hid (Boxed.keep BG.out (b7))
    | replace BG := Lib.hid (Dat.belowAll BG.out (b7))
    | replace BG := Lib.hid (Fr.belowAll BG.out (b7))
    | replace BG := Lib.hid (Own.belowAll BG.out (b7))
    | replace BG := Lib.hid (Grows.next BG.out (b7))
  first
    | replace AY := Lib.hid (Loc.At.belowAll AY.out (b7))
    | replace AY := Lib.hid (nextB AY.out (b7))
    | replace AY := Lib.hid (Boxed.keep AY.out (b7))
    | replace AY := Lib.hid (Dat.belowAll AY.out (b7))
    | replace AY := Lib.hid (Fr.belowAll AY.out (b7))
    | replace AY := Lib.hid (Own.belowAll AY.out (b7))
    | replace AY := Lib.hid (Grows.next AY.out (b7))
  clear hh hhA b7
  have b8 : Below w7.heap.size w7 (w7.alloc (Obj.cells #[.slice hta 0 htc, .int .i64 hf, .slice hra 0 hrc, .int .i64 hs, .slice hca hcs.length hcc] 28)) := (Below.refl _ _).alloc (Nat.le_refl _) _
  first
    | replace B := Lib.hid (Loc.At.belowAll B.out (b8))
    | replace B := Lib.hid (nextB B.out (b8))
    | replace B := Lib.hid (Boxed.keep B.out (b8))
    | replace B := Lib.hid (Dat.belowAll B.out (b8))
    | replace B := Lib.hid (Fr.belowAll B.out (b8))
    | replace B := Lib.hid (Own.belowAll B.out (b8))
    | replace B := Lib.hid (Grows.next B.out (b8))
  first
    | replace AV := Lib.hid (Loc.At.belowAll AV.out (b8))
    | replace AV := Lib.hid (nextB AV.out (b8))
    | replace AV := Lib.hid (Boxed.keep AV.out (b8))
    | replace AV := Lib.hid (Dat.belowAll AV.out (b8))
    | replace AV := Lib.hid (Fr.belowAll AV.out (b8))
    | replace AV := Lib.hid (Own.belowAll AV.out (b8))
    | replace AV := Lib.hid (Grows.next AV.out (b8))
  first
    | replace BV := Lib.hid (Loc.At.belowAll BV.out (b8))
    | replace BV := Lib.hid (nextB BV.out (b8))
    | replace BV := Lib.hid (Boxed.keep BV.out (b8))
    | replace BV := Lib.hid (Dat.belowAll BV.out (b8))
    | replace BV := Lib.hid (Fr.belowAll BV.out (b8))
    | replace BV := Lib.hid (Own.belowAll BV.out (b8))
    | replace BV := Lib.hid (Grows.next BV.out (b8))
  first
    | replace BG := Lib.hid (Loc.At.belowAll BG.out (b8))
    | replace BG := Lib.hid (nextB BG.out (b8))
    | replace BG := Lib.hid (Boxed.keep BG.out (b8))
    | replace BG := Lib.hid (Dat.belowAll BG.out (b8))
    | replace BG := Lib.hid (Fr.belowAll BG.out (b8))
    | replace BG := Lib.hid (Own.belowAll BG.out (b8))
    | replace BG := Lib.hid (Grows.next BG.out (b8))
  first
    | replace AY := Lib.hid (Loc.At.belowAll AY.out (b8))
    | replace AY := Lib.hid (nextB AY.out (b8))
    | replace AY := Lib.hid (Boxed.keep AY.out (b8))
    | replace AY := Lib.hid (Dat.belowAll AY.out (b8))
    | replace AY := Lib.hid (Fr.belowAll AY.out (b8))
    | replace AY := Lib.hid (Own.belowAll AY.out (b8))
    | replace AY := Lib.hid (Grows.next AY.out (b8))
  first
    | replace AH := Lib.hid (Loc.At.belowAll AH.out (b8))
    | replace AH := Lib.hid (nextB AH.out (b8))
    | replace AH := Lib.hid (Boxed.keep AH.out (b8))
    | replace AH := Lib.hid (Dat.belowAll AH.out (b8))
    | replace AH := Lib.hid (Fr.belowAll AH.out (b8))
    | replace AH := Lib.hid (Own.belowAll AH.out (b8))
    | replace AH := Lib.hid (Grows.next AH.out (b8))
  clear b8
  have v0 := BV.out.2 0 _ rfl
  have v1 := BV.out.2 1 _ rfl
  have v2 := BV.out.2 2 _ rfl
  have v3 := BV.out.2 3 _ rfl
  have v4 := BV.out.2 4 _ rfl
  simp only [LStore.val, Loc.val]
  go_wp2_with fail
  refine (eqStore_any ⟨hta, htc, hf, hra, hrc, hs, ⟨hca, hcc, hcs⟩⟩ ⟨vta, vtc, vf, vra, vrc, vs, ⟨vca, vcc, vcs⟩⟩ _ AH.out AV.out).mono ?_
  rintro e w9 ⟨⟨q, rfl, hq⟩, b9⟩
  obtain rfl : q = true := hq.2 (HHE.out.trans HV.out.symm)
  first
    | replace B := Lib.hid (Loc.At.belowAll B.out (b9))
    | replace B := Lib.hid (nextB B.out (b9))
    | replace B := Lib.hid (Boxed.keep B.out (b9))
    | replace B := Lib.hid (Dat.belowAll B.out (b9))
    | replace B := Lib.hid (Fr.belowAll B.out (b9))
    | replace B := Lib.hid (Own.belowAll B.out (b9))
    | replace B := Lib.hid (Grows.next B.out (b9))
  first
    | replace BG := Lib.hid (Loc.At.belowAll BG.out (b9))
    | replace BG := Lib.hid (nextB BG.out (b9))
    | replace BG := Lib.hid (Boxed.keep BG.out (b9))
    | replace BG := Lib.hid (Dat.belowAll BG.out (b9))
    | replace BG := Lib.hid (Fr.belowAll BG.out (b9))
    | replace BG := Lib.hid (Own.belowAll BG.out (b9))
    | replace BG := Lib.hid (Grows.next BG.out (b9))
  first
    | replace AY := Lib.hid (Loc.At.belowAll AY.out (b9))
    | replace AY := Lib.hid (nextB AY.out (b9))
    | replace AY := Lib.hid (Boxed.keep AY.out (b9))
    | replace AY := Lib.hid (Dat.belowAll AY.out (b9))
    | replace AY := Lib.hid (Fr.belowAll AY.out (b9))
    | replace AY := Lib.hid (Own.belowAll AY.out (b9))
    | replace AY := Lib.hid (Grows.next AY.out (b9))
  clear hq b9 v0 v1 v2 v3 v4
  have g0 := BG.out.2 0 _ rfl
  have g1 := BG.out.2 1 _ rfl
  have g2 := BG.out.2 2 _ rfl
  have g3 := BG.out.2 3 _ rfl
  have g4 := BG.out.2 4 _ rfl
  go_wp2_with fail
  refine (HH.out _ AY.out).mono ?_
  rintro e w10 ⟨rfl, b10⟩
  first
    | replace B := Lib.hid (Loc.At.belowAll B.out (b10))
    | replace B := Lib.hid (nextB B.out (b10))
    | replace B := Lib.hid (Boxed.keep B.out (b10))
    | replace B := Lib.hid (Dat.belowAll B.out (b10))
    | replace B := Lib.hid (Fr.belowAll B.out (b10))
    | replace B := Lib.hid (Own.belowAll B.out (b10))
    | replace B := Lib.hid (Grows.next B.out (b10))
  clear b10
  go_wp2_with fail
  go_ret
  exact ⟨rfl, B.out⟩
end Go.Proofs.Ytcfbppdfiehlnaa
