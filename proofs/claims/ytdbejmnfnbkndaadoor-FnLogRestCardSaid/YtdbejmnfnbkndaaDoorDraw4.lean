/- The reference's draws: l71Sibs. -/
import Derived.Test.YtdbejmnfnbkndaaDoorDraw3
import Derived.Test.YtdbejmnfnbkndaaDoorMerge
namespace Go.Proofs.YtdbejmnfnbkndaaDoor
open Go Go.RowKit

theorem Drew.keepOwn {α : Type} [Dat α] {R : Nat} {code : Loc UInt8} {N lo : Nat} {e : TypeId} {w w' : World} {l : Loc α} (h : Drew R code N w w') (ho : Own lo e w l) (hR : R < lo) (hd : ∀ x ∈ l.xs, ∀ b ∈ Dat.fp x, b ≠ R) : Own lo e w' l :=
  ho.keep (fun b hb => h.touch.block b (ho.lt b hb).2 (by have := (ho.lt b hb).1; simp; omega)) fun x hx b hb => h.touch.block b (Dat.lt (ho.els x hx) b hb) (by simpa using hd x hx b hb)

theorem Drew.appended {α : Type} [Dat α] {R : Nat} {code : Loc UInt8} {N lo : Nat} {e : TypeId} {w W W' : World} {l l' : Loc α} {ys : List α} (h : Drew R code N w W) (hcl : ∀ b ∈ code.fp, b < w.heap.size) (hR : R < w.heap.size) (ho : Own lo e W l) (hlo : w.heap.size ≤ lo)
    (ha : Appended lo e W l ys l' W') : Drew R code N w W' := by
  have hg := ha.grown
  have hkeep : ∀ b, b < w.heap.size → W'.heap[b]? = W.heap[b]? := fun b hb => hg.block b (by have := h.touch.size; omega) (fun e => by have := (ho.lt b e.symm).1; omega)
  obtain ⟨⟨p, hp, hb⟩, hA, hoff⟩ := h.rd
  exact ⟨⟨⟨p, hp, by rw [hkeep R hR]; exact hb⟩, Loc.keep_At hA fun b hb => hkeep b (hcl b hb), hoff⟩, ⟨hg.os.trans h.touch.os, hg.tape.trans h.touch.tape, hg.output.trans h.touch.output, Nat.le_trans h.touch.size hg.size, fun b hb hn => (hkeep b hb).trans (h.touch.block b hb hn)⟩⟩

set_option maxRecDepth 100000 in
set_option maxHeartbeats 2000000 in
theorem l71Sibs_any (R : Nat) (code : Loc UInt8) (N : Nat) (w : World) (h : Rd R code N w) (hN : N ≤ 700000000) :
    Calls Tryd.prog 54 #[.pointer (some ⟨R, 0, none⟩)] w (DrawPost (α := LSib) R code (N + 200) w (fun l => l.length ≤ 5 ∧ ∀ s ∈ l, s.vv.xs.length ≤ 3)) := by
  have hB0 : Below w.heap.size w (w.alloc (Obj.cells #[] 76)) := (Below.refl _ _).alloc (Nat.le_refl _) _
  have H0 := Lib.hid (h.refl.later hB0)
  have HO0 := Lib.hid (Own.made (α := LSib) w 76)
  have HS := Lib.hid h.lt
  have HCL := Lib.hid (Loc.lt_of_At h.at_)
  clear h hB0
  go_enter Tryd.func54, Tryd.ntmps54
  go_wp2_with fail
  generalize w.alloc (Obj.cells #[] 76) = w0 at *
  refine (pick_any R code (N) 4 w0 H0.out.rd (by omega) (by decide) (by decide)).mono ?_
  rintro e w1 ⟨⟨n, rfl, nl, nh⟩, hd⟩
  have H1 := Lib.hid (H0.out.trans hd)
  have TH1 := Lib.hid hd.touch
  clear hd
  obtain ⟨n, rfl⟩ : ∃ j : Nat, n = (j : Int) := ⟨n.toNat, by omega⟩
  have HO1 := Lib.hid ((show Drew R code (N + 1) w0 w1 from ⟨H1.out.rd, TH1.out⟩).keepOwn HO0.out HS.out (fun x hx => by cases hx))
  have hn4 : n ≤ 3 := by omega
  clear TH1
  go_wp2_with fail
  go_loopw [3, 4] (fun o i wr => ∃ (k : Nat) (l : Loc LSib), k ≤ n + 1 ∧ i = .int .i64 k ∧ o = l.val ∧ l.xs.length ≤ n + 1 - k ∧ (∀ s ∈ l.xs, s.vv.xs.length = 3) ∧ (∀ x ∈ l.xs, ∀ b ∈ Dat.fp x, w.heap.size ≤ b) ∧ Own w.heap.size 76 wr l ∧ Drew R code (N + 1 + 30 * (n + 1 - k)) w wr) (fun _ i _ => (intOf i).toNat)
  case atStart => exact ⟨n + 1, _, Nat.le_refl _, by go_num, rfl, Nat.zero_le _, by simp, by simp, HO1.out, by simpa using H1.out⟩
  case round =>
    obtain ⟨k, l, hk, rfl, rfl, hll, hlv, hlf, hO, hD⟩ := hrel
    have HLL := Lib.hid hll
    have HLV := Lib.hid hlv
    have HLF := Lib.hid hlf
    have HO := Lib.hid hO
    have HD := Lib.hid hD
    clear hlv hlf hO hD hll
    by_cases hk0 : 0 < k
    · have hk1 : (0 : Int) < (k : Int) := by omega
      go_wp2_with fail
      refine (l71Sib_any R code (N + 1 + 30 * (n + 1 - k)) wr HD.out.rd (by omega)).mono ?_
      rintro e w2 ⟨y, rfl, hyA, hyf, hyl, hd⟩
      have H2 := Lib.hid (HD.out.trans hd)
      have HO2 := Lib.hid (hd.keepOwn HO.out HS.out (fun x hx b hb => by have := HLF.out x hx b hb; have := HS.out; omega))
      have HSZ := Lib.hid hd.touch.size
      have HYA := Lib.hid hyA
      have HYF := Lib.hid hyf
      clear hd hyA hyf hyl
      obtain ⟨yv, yg, yt⟩ := y
      simp only [LSib.val]
      have hB3 : Below w2.heap.size w2 (w2.alloc (Obj.cells #[yv.val, .bool yg, .string yt] 76)) := (Below.refl _ _).alloc (Nat.le_refl _) _
      have HB3 := Lib.hid hB3
      have HR3 := Lib.hid (heap_alloc_new w2 (Obj.cells #[yv.val, .bool yg, .string yt] 76))
      have hcs := Lib.hid (sSibOk_any (⟨yv, yg, yt⟩ : LSib) _ (Dat.belowAll HYA.out hB3))
      clear hB3
      obtain ⟨va, vc, vs⟩ := yv
      simp only [Loc.val, LSib.val] at hcs HR3 HB3 ⊢
      go_wp2_with fail
      refine hcs.out.mono ?_
      rintro e w4 ⟨rfl, hb4⟩
      generalize hsb : sibB (LSib.er ⟨⟨va, vc, vs⟩, yg, yt⟩) = sb
      have HSB := Lib.hid hsb
      have hrow : w4.heap[w2.heap.size]? = some (.cells #[.slice va vs.length vc, .bool yg, .string yt] 76 (0, 0)) := by rw [hb4.block _ (by simp)]; exact HR3.out
      have s0 : w4.cell? ⟨w2.heap.size, 0, none⟩ = some (.slice va vs.length vc) := by rw [cell_of_row _ _ _ _ _ _ hrow]; rfl
      have s1 : w4.cell? ⟨w2.heap.size, 1, none⟩ = some (.bool yg) := by rw [cell_of_row _ _ _ _ _ _ hrow]; rfl
      have s2 : w4.cell? ⟨w2.heap.size, 2, none⟩ = some (.string yt) := by rw [cell_of_row _ _ _ _ _ _ hrow]; rfl
      have HB4 := Lib.hid (HB3.out.trans (hb4.mono (by simp)))
      clear hb4 hsb hrow hcs
      cases sb with
      | false =>
        go_wp2_with fail
        go_roundw
        case rel =>
          refine ⟨k - 1, l, by omega, by go_num, rfl, by have := HLL.out; omega, HLV.out, HLF.out, HO2.out.belowAll HB4.out, (H2.out.later HB4.out).mono (by omega)⟩
        case measure => simp [intOf]; omega
      | true =>
        have hB5 : Below w4.heap.size w4 (w4.alloc (Obj.cells #[.slice va vs.length vc, .bool yg, .string yt] 76)) := (Below.refl _ _).alloc (Nat.le_refl _) _
        have HB5 := Lib.hid (HB4.out.trans (hB5.mono HB4.out.size))
        have hv3 : vs.length = 3 := sibB_len HSB.out
        have HV3 := Lib.hid hv3
        have hat : Loc.At (w4.alloc (Obj.cells #[.slice va vs.length vc, .bool yg, .string yt] 76)) (⟨some ⟨w4.heap.size, 0, none⟩, 1, [⟨⟨va, vc, vs⟩, yg, yt⟩]⟩ : Loc LSib) :=
          blk_At (heap_alloc_new w4 (Obj.cells #[.slice va vs.length vc, .bool yg, .string yt] 76)) [(⟨⟨va, vc, vs⟩, yg, yt⟩ : LSib)] 1 rfl (Nat.le_refl _) (by decide) (fun x hx => by rw [List.mem_singleton.1 hx]; exact Dat.belowAll HYA.out HB5.out)
        have hc := Lib.hid (l2Merge_own l ⟨some ⟨w4.heap.size, 0, none⟩, 1, [⟨⟨va, vc, vs⟩, yg, yt⟩]⟩ _ (HO2.out.belowAll HB5.out).at_ hat (by have := HLL.out; omega) (by simp) HLV.out (fun s hs => by rw [List.mem_singleton.1 hs]; exact HV3.out))
        clear hB5 hat hv3
        go_wp2_with fail
        refine hc.out.mono ?_
        rintro e w6 ⟨g, rfl, hg, hgO, hgF, hb6⟩
        have HG := Lib.hid hg
        have HGO := Lib.hid hgO
        have HGF := Lib.hid hgF
        have HB6 := Lib.hid (HB5.out.trans (hb6.mono HB5.out.size))
        have HS5 := Lib.hid HB5.out.size
        clear hg hgO hgF hb6 s0 s1 s2 hc
        go_wp2_with fail
        go_roundw
        case rel =>
          have hge : w.heap.size ≤ (w4.alloc (Obj.cells #[.slice va vs.length vc, .bool yg, .string yt] 76)).heap.size := by have := H2.out.touch.size; have := HS5.out; omega
          have hge' : g.xs.map LSib.er = mergeL (l.xs.map LSib.er) [LSib.er ⟨⟨va, vc, vs⟩, yg, yt⟩] := HG.out
          refine ⟨k - 1, g, by omega, by go_num, rfl, ?_, ?_, ?_, HGO.out.mono hge, (H2.out.later HB6.out).mono (by omega)⟩
          · have h1 := congrArg List.length hge'
            have h2 := mergeL_len (l.xs.map LSib.er) [LSib.er ⟨⟨va, vc, vs⟩, yg, yt⟩]
            simp only [List.length_map, List.length_singleton] at h1 h2
            have := HLL.out
            omega
          · intro s hs
            have h1 : s.er ∈ g.xs.map LSib.er := List.mem_map.2 ⟨s, hs, rfl⟩
            rw [hge'] at h1
            rcases mergeL_mem _ _ _ h1 with h | h
            · obtain ⟨s', hs', he⟩ := List.mem_map.1 h
              have := HLV.out s' hs'
              rw [← this]
              exact (congrArg (fun q : Sib => q.vv.length) he).symm
            · rw [List.mem_singleton] at h
              rw [← HV3.out]
              exact congrArg (fun q : Sib => q.vv.length) h
          · intro x hx b hb
            have := HGF.out.ge b (List.mem_flatMap.2 ⟨x, hx, hb⟩)
            omega
        case measure => simp [intOf]; omega
    · have hk2 : k = 0 := by omega
      subst hk2
      go_wp2_with fail
      refine (pick_any R code (N + 1 + 30 * (n + 1 - 0)) 24 wr HD.out.rd (by omega) (by decide) (by decide)).mono ?_
      rintro e w3 ⟨⟨q, rfl, ql, qh⟩, hd⟩
      have H3 := Lib.hid (HD.out.trans hd)
      have TH3 := Lib.hid hd.touch
      clear hd
      have hO3 := (show Drew R code _ wr w3 from ⟨H3.out.rd, TH3.out⟩).keepOwn HO.out HS.out (fun x hx b hb => by have := HLF.out x hx b hb; have := HS.out; omega)
      have HO3 := Lib.hid hO3
      clear hO3
      have hfp : ∀ b ∈ l.fp, w.heap.size ≤ b := by
        intro b hb
        rcases List.mem_append.1 hb with hb | hb
        · exact (HO.out.lt b (Loc.blk_own hb)).1
        · obtain ⟨x, hx, hb⟩ := List.mem_flatMap.1 hb
          exact HLF.out x hx b hb
      have HFP := Lib.hid hfp
      clear hfp
      by_cases hq : q = 0
      · subst hq
        go_wp2_with fail
        refine (l71Sib_any R code (N + 1 + 30 * (n + 1 - 0) + 1) w3 H3.out.rd (by omega)).mono ?_
        rintro e w4 ⟨y, rfl, hyA, hyf, hyl, hd⟩
        have HO4 := Lib.hid (hd.keepOwn HO3.out HS.out (fun x hx b hb => by have := HLF.out x hx b hb; have := HS.out; omega))
        have H4 := Lib.hid (H3.out.trans hd)
        have HYL := Lib.hid hyl
        have HYF := Lib.hid hyf
        obtain ⟨⟨va, vc, vs⟩, yg, yt⟩ := y
        have HM := Lib.hid (one_more (W := w4) (e' := 76) (cs := #[.slice va vs.length vc, .bool yg, .string yt]) (g := w4.heap.size) l (⟨⟨va, vc, vs⟩, yg, yt⟩ : LSib) rfl rfl HO4.out hyA (fun b hb h => by have := hyf b hb; have := (HO3.out.lt b h.symm).2; omega) (by have := HLL.out; omega) H4.out.touch.size)
        have HB5 := Lib.hid ((Below.refl w4.heap.size w4).alloc (Nat.le_refl _) (Obj.cells #[.slice va vs.length vc, .bool yg, .string yt] 76))
        clear hd hyA hyf hyl
        simp only [LSib.val, Loc.val]
        go_wp2_with (at_builtin; refine wpList_append_one rfl _ _ 45 rfl _ 76 elem_sib l rfl (w4.heap.size) (⟨⟨va, vc, vs⟩, yg, yt⟩ : LSib) rfl HM.out ?_)
        intro l' w6 hap
        have HAP := Lib.hid hap
        clear hap
        go_wp2_with fail
        go_ret
        have hxs := HAP.out.xs
        refine ⟨l', rfl, ⟨?_, ?_⟩, HAP.out.own.at_, ?_, ?_⟩
        · rw [hxs, List.length_append]; have := HLL.out; simp only [List.length_singleton]; omega
        · intro s hs
          rw [hxs] at hs
          rcases List.mem_append.1 hs with h | h
          · have := HLV.out s h; omega
          · rw [List.mem_singleton.1 h]; exact HYL.out
        · intro b hb
          rcases List.mem_append.1 hb with hb | hb
          · exact (HAP.out.own.lt b (Loc.blk_own hb)).1
          · obtain ⟨x, hx, hb⟩ := List.mem_flatMap.1 hb
            rw [hxs] at hx
            rcases List.mem_append.1 hx with h | h
            · exact HLF.out x h b hb
            · rw [List.mem_singleton.1 h] at hb
              have := HYF.out b hb
              have := H3.out.touch.size
              omega
        · exact ((H4.out.later HB5.out).appended HCL.out HS.out HM.out.own (Nat.le_refl _) HAP.out).mono (by omega)
      · have hq' : (q == 0) = false := by rw [beq_eq_false_iff_ne]; exact hq
        go_wp2_with fail
        go_ret
        exact ⟨l, rfl, ⟨by have := HLL.out; omega, fun s hs => by have := HLV.out s hs; omega⟩, HO3.out.at_, HFP.out, H3.out.mono (by omega)⟩
end Go.Proofs.YtdbejmnfnbkndaaDoor
