/- The reference's draws: l71Sibs. The reference's draws: l71Tree. What a draw leaves behind. The reference's draws: DrawTreeShow, DrawTreeAt. -/
import Derived.Test.YtdidkfadiaafiaaGreatDoorDraw3
import Derived.Test.YtdidkfadiaafiaaGreatDoorMerge
import Derived.Test.YtdidkfadiaafiaaGreatDoorSpec4
import Derived.Deep.RegionWith
namespace Go.Proofs.YtdidkfadiaafiaaGreatDoor
open Go Go.RowKit

theorem Drew.keepOwn {α : Type} [Dat α] {R : Nat} {code : Loc UInt8} {N lo : Nat} {e : TypeId} {w w' : World} {l : Loc α} (h : Drew R code N w w') (ho : Own lo e w l) (hR : R < lo) (hd : ∀ x ∈ l.xs, ∀ b ∈ Dat.fp x, b ≠ R) : Own lo e w' l :=
  ho.keep (fun b hb => h.touch.block b (ho.lt b hb).2 (by have := (ho.lt b hb).1; simp; omega)) fun x hx b hb => h.touch.block b (Dat.lt (ho.els x hx) b hb) (by simpa using hd x hx b hb)

theorem Drew.appended {α : Type} [Dat α] {R : Nat} {code : Loc UInt8} {N lo : Nat} {e : TypeId} {w W W' : World} {l l' : Loc α} {ys : List α} (h : Drew R code N w W) (hcl : ∀ b ∈ code.fp, b < w.heap.size) (hR : R < w.heap.size) (ho : Own lo e W l) (hlo : w.heap.size ≤ lo)
    (ha : Appended lo e W l ys l' W') : Drew R code N w W' := by
  have hg := ha.grown
  have hkeep : ∀ b, b < w.heap.size → W'.heap[b]? = W.heap[b]? := fun b hb => hg.block b (by have := h.touch.size; omega) (fun e => by have := (ho.lt b e.symm).1; omega)
  obtain ⟨⟨p, hp, hb⟩, hA, hoff⟩ := h.rd
  exact ⟨⟨⟨p, hp, by rw [hkeep R hR]; exact hb⟩, Loc.keep_At hA fun b hb => hkeep b (hcl b hb), hoff⟩, ⟨hg.os.trans h.touch.os, hg.tape.trans h.touch.tape, hg.output.trans h.touch.output, Nat.le_trans h.touch.size hg.size, fun b hb hn => (hkeep b hb).trans (h.touch.block b hb hn)⟩⟩

set_option maxRecDepth 100000 in
set_option maxHeartbeats 2000000 in
theorem l71Sibs_any (R : Nat) (code : Loc UInt8) (N : Nat) (w : World) (h : Rd R code N w) (hN : N ≤ 700000000) :
    Calls Tryz.prog 78 #[.pointer (some ⟨R, 0, none⟩)] w (DrawPost (α := LSib) R code (N + 200) w (fun l => l.length ≤ 5 ∧ ∀ s ∈ l, s.vv.xs.length ≤ 3)) := by
  have hB0 : Below w.heap.size w (w.alloc (Obj.cells #[] 42)) := (Below.refl _ _).alloc (Nat.le_refl _) _
  have H0 := Lib.hid (h.refl.later hB0)
  have HO0 := Lib.hid (Own.made (α := LSib) w 42)
  have HS := Lib.hid h.lt
  have HCL := Lib.hid (Loc.lt_of_At h.at_)
  clear h hB0
  go_enter Tryz.func78, Tryz.ntmps78
  go_wp2_with fail
  generalize w.alloc (Obj.cells #[] 42) = w0 at *
  refine (pick_any R code (N) 4 w0 H0.out.rd (by omega) (by decide) (by decide)).mono ?_
  rintro e w1 ⟨⟨n, rfl, nl, nh⟩, hd⟩
  have H1 := Lib.hid (H0.out.trans hd)
  have TH1 := Lib.hid hd.touch
  clear hd
  obtain ⟨n, rfl⟩ : ∃ j : Nat, n = (j : Int) := ⟨n.toNat, by omega⟩
  have HO1 := Lib.hid ((show Drew R code (N + 1) w0 w1 from ⟨H1.out.rd, TH1.out⟩).keepOwn HO0.out HS.out (fun x hx => by cases hx))
  have hn4 : n ≤ 3 := by omega
  clear TH1
  go_wp2_with fail
  go_loopw [3, 4] (fun o i wr => ∃ (k : Nat) (l : Loc LSib), k ≤ n + 1 ∧ i = .int .i64 k ∧ o = l.val ∧ l.xs.length ≤ n + 1 - k ∧ (∀ s ∈ l.xs, s.vv.xs.length = 3) ∧ (∀ x ∈ l.xs, ∀ b ∈ Dat.fp x, w.heap.size ≤ b) ∧ Own w.heap.size 42 wr l ∧ Drew R code (N + 1 + 30 * (n + 1 - k)) w wr) (fun _ i _ => (intOf i).toNat)
  case atStart => exact ⟨n + 1, _, Nat.le_refl _, by go_num, rfl, Nat.zero_le _, by simp, by simp, HO1.out, by simpa using H1.out⟩
  case round =>
    obtain ⟨k, l, hk, rfl, rfl, hll, hlv, hlf, hO, hD⟩ := hrel
    have HLL := Lib.hid hll
    have HLV := Lib.hid hlv
    have HLF := Lib.hid hlf
    have HO := Lib.hid hO
    have HD := Lib.hid hD
    clear hlv hlf hO hD hll
    by_cases hk0 : 0 < k
    · have hk1 : (0 : Int) < (k : Int) := by omega
      go_wp2_with fail
      refine (l71Sib_any R code (N + 1 + 30 * (n + 1 - k)) wr HD.out.rd (by omega)).mono ?_
      rintro e w2 ⟨y, rfl, hyA, hyf, hyl, hd⟩
      have H2 := Lib.hid (HD.out.trans hd)
      have HO2 := Lib.hid (hd.keepOwn HO.out HS.out (fun x hx b hb => by have := HLF.out x hx b hb; have := HS.out; omega))
      have HSZ := Lib.hid hd.touch.size
      have HYA := Lib.hid hyA
      have HYF := Lib.hid hyf
      clear hd hyA hyf hyl
      obtain ⟨yv, yg, yt⟩ := y
      simp only [LSib.val]
      have hB3 : Below w2.heap.size w2 (w2.alloc (Obj.cells #[yv.val, .bool yg, .string yt] 42)) := (Below.refl _ _).alloc (Nat.le_refl _) _
      have HB3 := Lib.hid hB3
      have HR3 := Lib.hid (heap_alloc_new w2 (Obj.cells #[yv.val, .bool yg, .string yt] 42))
      have hcs := Lib.hid (sSibOk_any (⟨yv, yg, yt⟩ : LSib) _ (Dat.belowAll HYA.out hB3))
      clear hB3
      obtain ⟨va, vc, vs⟩ := yv
      simp only [Loc.val, LSib.val] at hcs HR3 HB3 ⊢
      go_wp2_with fail
      refine hcs.out.mono ?_
      rintro e w4 ⟨rfl, hb4⟩
      generalize hsb : sibB (LSib.er ⟨⟨va, vc, vs⟩, yg, yt⟩) = sb
      have HSB := Lib.hid hsb
      have hrow : w4.heap[w2.heap.size]? = some (.cells #[.slice va vs.length vc, .bool yg, .string yt] 42 (0, 0)) := by rw [hb4.block _ (by simp)]; exact HR3.out
      have s0 : w4.cell? ⟨w2.heap.size, 0, none⟩ = some (.slice va vs.length vc) := by rw [cell_of_row _ _ _ _ _ _ hrow]; rfl
      have s1 : w4.cell? ⟨w2.heap.size, 1, none⟩ = some (.bool yg) := by rw [cell_of_row _ _ _ _ _ _ hrow]; rfl
      have s2 : w4.cell? ⟨w2.heap.size, 2, none⟩ = some (.string yt) := by rw [cell_of_row _ _ _ _ _ _ hrow]; rfl
      have HB4 := Lib.hid (HB3.out.trans (hb4.mono (by simp)))
      clear hb4 hsb hrow hcs
      cases sb with
      | false =>
        go_wp2_with fail
        go_roundw
        case rel =>
          refine ⟨k - 1, l, by omega, by go_num, rfl, by have := HLL.out; omega, HLV.out, HLF.out, HO2.out.belowAll HB4.out, (H2.out.later HB4.out).mono (by omega)⟩
        case measure => simp [intOf]; omega
      | true =>
        have hB5 : Below w4.heap.size w4 (w4.alloc (Obj.cells #[.slice va vs.length vc, .bool yg, .string yt] 42)) := (Below.refl _ _).alloc (Nat.le_refl _) _
        have HB5 := Lib.hid (HB4.out.trans (hB5.mono HB4.out.size))
        have hv3 : vs.length = 3 := sibB_len HSB.out
        have HV3 := Lib.hid hv3
        have hat : Loc.At (w4.alloc (Obj.cells #[.slice va vs.length vc, .bool yg, .string yt] 42)) (⟨some ⟨w4.heap.size, 0, none⟩, 1, [⟨⟨va, vc, vs⟩, yg, yt⟩]⟩ : Loc LSib) :=
          blk_At (heap_alloc_new w4 (Obj.cells #[.slice va vs.length vc, .bool yg, .string yt] 42)) [(⟨⟨va, vc, vs⟩, yg, yt⟩ : LSib)] 1 rfl (Nat.le_refl _) (by decide) (fun x hx => by rw [List.mem_singleton.1 hx]; exact Dat.belowAll HYA.out HB5.out)
        have hc := Lib.hid (l2Merge_own l ⟨some ⟨w4.heap.size, 0, none⟩, 1, [⟨⟨va, vc, vs⟩, yg, yt⟩]⟩ _ (HO2.out.belowAll HB5.out).at_ hat (by have := HLL.out; omega) (by simp) HLV.out (fun s hs => by rw [List.mem_singleton.1 hs]; exact HV3.out))
        clear hB5 hat hv3
        go_wp2_with fail
        refine hc.out.mono ?_
        rintro e w6 ⟨g, rfl, hg, hgO, hgF, hb6⟩
        have HG := Lib.hid hg
        have HGO := Lib.hid hgO
        have HGF := Lib.hid hgF
        have HB6 := Lib.hid (HB5.out.trans (hb6.mono HB5.out.size))
        have HS5 := Lib.hid HB5.out.size
        clear hg hgO hgF hb6 s0 s1 s2 hc
        go_wp2_with fail
        go_roundw
        case rel =>
          have hge : w.heap.size ≤ (w4.alloc (Obj.cells #[.slice va vs.length vc, .bool yg, .string yt] 42)).heap.size := by have := H2.out.touch.size; have := HS5.out; omega
          have hge' : g.xs.map LSib.er = mergeL (l.xs.map LSib.er) [LSib.er ⟨⟨va, vc, vs⟩, yg, yt⟩] := HG.out
          refine ⟨k - 1, g, by omega, by go_num, rfl, ?_, ?_, ?_, HGO.out.mono hge, (H2.out.later HB6.out).mono (by omega)⟩
          · have h1 := congrArg List.length hge'
            have h2 := mergeL_len (l.xs.map LSib.er) [LSib.er ⟨⟨va, vc, vs⟩, yg, yt⟩]
            simp only [List.length_map, List.length_singleton] at h1 h2
            have := HLL.out
            omega
          · intro s hs
            have h1 : s.er ∈ g.xs.map LSib.er := List.mem_map.2 ⟨s, hs, rfl⟩
            rw [hge'] at h1
            rcases mergeL_mem _ _ _ h1 with h | h
            · obtain ⟨s', hs', he⟩ := List.mem_map.1 h
              have := HLV.out s' hs'
              rw [← this]
              exact (congrArg (fun q : Sib => q.vv.length) he).symm
            · rw [List.mem_singleton] at h
              rw [← HV3.out]
              exact congrArg (fun q : Sib => q.vv.length) h
          · intro x hx b hb
            have := HGF.out.ge b (List.mem_flatMap.2 ⟨x, hx, hb⟩)
            omega
        case measure => simp [intOf]; omega
    · have hk2 : k = 0 := by omega
      subst hk2
      go_wp2_with fail
      refine (pick_any R code (N + 1 + 30 * (n + 1 - 0)) 24 wr HD.out.rd (by omega) (by decide) (by decide)).mono ?_
      rintro e w3 ⟨⟨q, rfl, ql, qh⟩, hd⟩
      have H3 := Lib.hid (HD.out.trans hd)
      have TH3 := Lib.hid hd.touch
      clear hd
      have hO3 := (show Drew R code _ wr w3 from ⟨H3.out.rd, TH3.out⟩).keepOwn HO.out HS.out (fun x hx b hb => by have := HLF.out x hx b hb; have := HS.out; omega)
      have HO3 := Lib.hid hO3
      clear hO3
      have hfp : ∀ b ∈ l.fp, w.heap.size ≤ b := by
        intro b hb
        rcases List.mem_append.1 hb with hb | hb
        · exact (HO.out.lt b (Loc.blk_own hb)).1
        · obtain ⟨x, hx, hb⟩ := List.mem_flatMap.1 hb
          exact HLF.out x hx b hb
      have HFP := Lib.hid hfp
      clear hfp
      by_cases hq : q = 0
      · subst hq
        go_wp2_with fail
        refine (l71Sib_any R code (N + 1 + 30 * (n + 1 - 0) + 1) w3 H3.out.rd (by omega)).mono ?_
        rintro e w4 ⟨y, rfl, hyA, hyf, hyl, hd⟩
        have HO4 := Lib.hid (hd.keepOwn HO3.out HS.out (fun x hx b hb => by have := HLF.out x hx b hb; have := HS.out; omega))
        have H4 := Lib.hid (H3.out.trans hd)
        have HYL := Lib.hid hyl
        have HYF := Lib.hid hyf
        obtain ⟨⟨va, vc, vs⟩, yg, yt⟩ := y
        have HM := Lib.hid (one_more (W := w4) (e' := 42) (cs := #[.slice va vs.length vc, .bool yg, .string yt]) (g := w4.heap.size) l (⟨⟨va, vc, vs⟩, yg, yt⟩ : LSib) rfl rfl HO4.out hyA (fun b hb h => by have := hyf b hb; have := (HO3.out.lt b h.symm).2; omega) (by have := HLL.out; omega) H4.out.touch.size)
        have HB5 := Lib.hid ((Below.refl w4.heap.size w4).alloc (Nat.le_refl _) (Obj.cells #[.slice va vs.length vc, .bool yg, .string yt] 42))
        clear hd hyA hyf hyl
        simp only [LSib.val, Loc.val]
        go_wp2_with (at_builtin; refine wpList_append_one rfl _ _ 37 rfl _ 42 elem_sib l rfl (w4.heap.size) (⟨⟨va, vc, vs⟩, yg, yt⟩ : LSib) rfl HM.out ?_)
        intro l' w6 hap
        have HAP := Lib.hid hap
        clear hap
        go_wp2_with fail
        go_ret
        have hxs := HAP.out.xs
        refine ⟨l', rfl, ⟨?_, ?_⟩, HAP.out.own.at_, ?_, ?_⟩
        · rw [hxs, List.length_append]; have := HLL.out; simp only [List.length_singleton]; omega
        · intro s hs
          rw [hxs] at hs
          rcases List.mem_append.1 hs with h | h
          · have := HLV.out s h; omega
          · rw [List.mem_singleton.1 h]; exact HYL.out
        · intro b hb
          rcases List.mem_append.1 hb with hb | hb
          · exact (HAP.out.own.lt b (Loc.blk_own hb)).1
          · obtain ⟨x, hx, hb⟩ := List.mem_flatMap.1 hb
            rw [hxs] at hx
            rcases List.mem_append.1 hx with h | h
            · exact HLF.out x h b hb
            · rw [List.mem_singleton.1 h] at hb
              have := HYF.out b hb
              have := H3.out.touch.size
              omega
        · exact ((H4.out.later HB5.out).appended HCL.out HS.out HM.out.own (Nat.le_refl _) HAP.out).mono (by omega)
      · have hq' : (q == 0) = false := by rw [beq_eq_false_iff_ne]; exact hq
        go_wp2_with fail
        go_ret
        exact ⟨l, rfl, ⟨by have := HLL.out; omega, fun s hs => by have := HLV.out s hs; omega⟩, HO3.out.at_, HFP.out, H3.out.mono (by omega)⟩
end Go.Proofs.YtdidkfadiaafiaaGreatDoor

namespace Go.Proofs.YtdidkfadiaafiaaGreatDoor
open Go Go.RowKit

/-- Files under way. -/
structure FilesWay (R : Nat) (code : Loc UInt8) (N : Nat) (w : World) (l : Loc LFile) (W : World) : Prop where
  own : Own w.heap.size 58 W l
  fp : ∀ x ∈ l.xs, ∀ b ∈ Dat.fp x, w.heap.size ≤ b
  drew : Drew R code N w W

theorem FilesWay.draw {R : Nat} {code : Loc UInt8} {N M : Nat} {w W W' : World} {l : Loc LFile} (h : FilesWay R code N w l W) (hR : R < w.heap.size) (hd : Drew R code M W W') : FilesWay R code M w l W' :=
  ⟨hd.keepOwn h.own hR (fun x hx b hb => by have := h.fp x hx b hb; omega), h.fp, h.drew.trans hd⟩
theorem FilesWay.later {R : Nat} {code : Loc UInt8} {N : Nat} {w W W' : World} {l : Loc LFile} (h : FilesWay R code N w l W) (hb : Below W.heap.size W W') : FilesWay R code N w l W' :=
  ⟨h.own.belowAll hb, h.fp, h.drew.later hb⟩
theorem FilesWay.more {R : Nat} {code : Loc UInt8} {N : Nat} {w W W' : World} {l l' : Loc LFile} {f : LFile} (h : FilesWay R code N w l W) (hR : R < w.heap.size) (hcl : ∀ b ∈ code.fp, b < w.heap.size) (hf : ∀ b ∈ Dat.fp f, w.heap.size ≤ b) (ha : Appended w.heap.size 58 W l [f] l' W') : FilesWay R code N w l' W' :=
  ⟨ha.own, fun x hx b hb => by
    rw [ha.xs] at hx
    rcases List.mem_append.1 hx with hx | hx
    · exact h.fp x hx b hb
    · rw [List.mem_singleton.1 hx] at hb; exact hf b hb, h.drew.appended hcl hR h.own (Nat.le_refl _) ha⟩
theorem FilesWay.done {R : Nat} {code : Loc UInt8} {N : Nat} {w W : World} {l : Loc LFile} (h : FilesWay R code N w l W) : l.At W ∧ (∀ b ∈ l.fp, w.heap.size ≤ b) ∧ Drew R code N w W := by
  refine ⟨h.own.at_, fun b hb => ?_, h.drew⟩
  rcases List.mem_append.1 hb with hb | hb
  · exact (h.own.lt b (Loc.blk_own hb)).1
  · obtain ⟨x, hx, hb⟩ := List.mem_flatMap.1 hb
    exact h.fp x hx b hb
theorem FilesWay.one {R : Nat} {code : Loc UInt8} {N : Nat} {w W : World} {l : Loc LFile} {e' : TypeId} (h : FilesWay R code N w l W) (f : LFile) (hf : Dat.At W f) (hB : ∀ b ∈ Dat.fp f, ∀ c, l.val.ownBlock = some c → b ≠ c) (hl : l.xs.length ≤ 100) :
    OneMore w.heap.size 58 (W.alloc (.cells #[.string f.name, f.sibs.val] e')) l W.heap.size f :=
  one_more l f rfl rfl h.own hf (fun b hb hc => hB b hb b hc.symm rfl) (by omega) h.drew.touch.size

set_option maxRecDepth 100000 in
set_option maxHeartbeats 2000000 in
theorem l71Tree_any (R : Nat) (code : Loc UInt8) (N : Nat) (w : World) (h : Rd R code N w) (hN : N ≤ 600000000) :
    Calls Tryz.prog 48 #[.pointer (some ⟨R, 0, none⟩)] w (DrawPost (α := LFile) R code (N + 2000) w (fun l => l.length ≤ 5)) := by
  have hB0 : Below w.heap.size w (w.alloc (Obj.cells #[] 58)) := (Below.refl _ _).alloc (Nat.le_refl _) _
  have hO0 := Own.made (α := LFile) w 58
  have hB1 : Below (w.alloc (Obj.cells #[] 58)).heap.size (w.alloc (Obj.cells #[] 58)) ((w.alloc (Obj.cells #[] 58)).alloc (Obj.cells #[.string ⟨#[65]⟩, .string ⟨#[66]⟩, .string ⟨#[67]⟩, .string ⟨#[68]⟩] 9)) := (Below.refl _ _).alloc (Nat.le_refl _) _
  have hF0 : FilesWay R code N w ⟨some ⟨w.heap.size, 0, none⟩, 0, []⟩ ((w.alloc (Obj.cells #[] 58)).alloc (Obj.cells #[.string ⟨#[65]⟩, .string ⟨#[66]⟩, .string ⟨#[67]⟩, .string ⟨#[68]⟩] 9)) :=
    (⟨hO0, fun x hx => (by cases hx), h.refl.later hB0⟩ : FilesWay R code N w ⟨some ⟨w.heap.size, 0, none⟩, 0, []⟩ (w.alloc (Obj.cells #[] 58))).later hB1
  have HF0 := Lib.hid hF0
  have HL0 := Lib.hid (heap_alloc_new (w.alloc (Obj.cells #[] 58)) (Obj.cells #[.string ⟨#[65]⟩, .string ⟨#[66]⟩, .string ⟨#[67]⟩, .string ⟨#[68]⟩] 9))
  have HZ0 : Hid (((w.alloc (Obj.cells #[] 58)).alloc (Obj.cells #[.string ⟨#[65]⟩, .string ⟨#[66]⟩, .string ⟨#[67]⟩, .string ⟨#[68]⟩] 9)).heap.size = w.heap.size + 2 ∧ (w.alloc (Obj.cells #[] 58)).heap.size = w.heap.size + 1) := Lib.hid (by simp)
  have HS := Lib.hid h.lt
  have HCL := Lib.hid (Loc.lt_of_At h.at_)
  clear h hB0 hO0 hB1 hF0
  go_enter Tryz.func48, Tryz.ntmps48
  go_wp2_with fail
  generalize hW0 : (w.alloc (Obj.cells #[] 58)).alloc (Obj.cells #[.string ⟨#[65]⟩, .string ⟨#[66]⟩, .string ⟨#[67]⟩, .string ⟨#[68]⟩] 9) = w0 at *
  rw [HZ0.out.2] at HL0
  clear hW0
  go_loopw [3, 10] (fun o i wr => ∃ (k : Nat) (l : Loc LFile), k ≤ 4 ∧ i = .int .i64 k ∧ o = l.val ∧ l.xs.length ≤ k ∧ (∀ b, l.val.ownBlock = some b → b ≠ w.heap.size + 1) ∧ wr.heap[w.heap.size + 1]? = some (.cells #[.string ⟨#[65]⟩, .string ⟨#[66]⟩, .string ⟨#[67]⟩, .string ⟨#[68]⟩] 9 (0, 0)) ∧ FilesWay R code (N + 300 * k) w l wr) (fun _ i _ => 4 - (intOf i).toNat)
  case atStart => exact ⟨0, ⟨some ⟨w.heap.size, 0, none⟩, 0, []⟩, Nat.zero_le _, rfl, rfl, Nat.le_refl _, fun b hb => by simp [Loc.val, Value.ownBlock] at hb; omega, HL0.out, by simpa using HF0.out⟩
  case round =>
    obtain ⟨k, l, hk, rfl, rfl, hll, hob, hrow, hF⟩ := hrel
    have HLL := Lib.hid hll
    have HOB := Lib.hid hob
    have HROW := Lib.hid hrow
    have HF := Lib.hid hF
    have HRL : Hid (w.heap.size + 1 < wr.heap.size) := Lib.hid (Array.getElem?_eq_some_iff.1 hrow).1
    clear hll hob hrow hF
    by_cases hlt : k < 4
    · have hkk : (k : Int) < 4 := by omega
      obtain ⟨nm, hnm⟩ : ∃ nm : ByteArray, wr.cell? ⟨w.heap.size + 1, k, none⟩ = some (.string nm) ∧ nm.size ≤ 1 := by
        rw [cell_of_row _ _ _ _ _ _ HROW.out]
        match k, hlt with
        | 0, _ => exact ⟨_, rfl, by decide⟩
        | 1, _ => exact ⟨_, rfl, by decide⟩
        | 2, _ => exact ⟨_, rfl, by decide⟩
        | 3, _ => exact ⟨_, rfl, by decide⟩
        | k + 4, h => exact absurd h (by omega)
      obtain ⟨cn, hns⟩ := hnm
      go_wp2_with fail
      refine (pick_any R code (N + 300 * k) 2 wr HF.out.drew.rd (by omega) (by decide) (by decide)).mono ?_
      rintro e w1 ⟨⟨q, rfl, ql, qh⟩, hd⟩
      have F1 := Lib.hid (HF.out.draw HS.out hd)
      have R1 := Lib.hid ((hd.touch.block _ HRL.out (by have := HS.out; simp; omega)).trans HROW.out)
      have S1 := Lib.hid hd.touch.size
      clear hd
      by_cases hq : q = 0
      · subst hq
        go_wp2_with fail
        refine (l71Sibs_any R code (N + 300 * k + 1) w1 F1.out.drew.rd (by omega)).mono ?_
        rintro e w2 ⟨⟨sa, sc, ss⟩, rfl, hs5, hsA, hsf, hd⟩
        have F2 := Lib.hid (F1.out.draw HS.out hd)
        have R2 := Lib.hid ((hd.touch.block (w.heap.size + 1) (by have := HRL.out; have := S1.out; omega) (by have := HS.out; simp; omega)).trans R1.out)
        have S2 := Lib.hid hd.touch.size
        have HSA := Lib.hid hsA
        have HSF := Lib.hid hsf
        clear hd hs5 hsA hsf
        go_wp2_with fail
        refine (sSibsOk_any ⟨sa, sc, ss⟩ w2 HSA.out).mono ?_
        rintro e w3 ⟨rfl, hb3⟩
        have F3 := Lib.hid (F2.out.later hb3)
        have R3 := Lib.hid ((hb3.block (w.heap.size + 1) (by have := HRL.out; have := S1.out; have := S2.out; omega)).trans R2.out)
        have HSA3 := Lib.hid (HSA.out.belowAll hb3)
        have S3 := Lib.hid hb3.size
        clear hb3 HSA
        generalize sibsB (List.map LSib.er ss) = sb
        cases sb with
        | false =>
          go_wp2_with fail
          go_roundw
          case rel => exact ⟨k + 1, l, by omega, by go_num, rfl, by have := HLL.out; omega, HOB.out, R3.out, ⟨F3.out.own, F3.out.fp, F3.out.drew.mono (by omega)⟩⟩
          case measure => simp [intOf]; omega
        | true =>
          have hM := F3.out.one (e' := 58) (⟨nm, ⟨sa, sc, ss⟩⟩ : LFile) ⟨HSA3.out, by simp only [maxLen]; omega⟩ (fun b hb c hc => by have := HSF.out b hb; have := (F1.out.own.lt c hc).2; omega) (by have := HLL.out; omega)
          have HM := Lib.hid hM
          have HB4 := Lib.hid ((Below.refl w3.heap.size w3).alloc (Nat.le_refl _) (Obj.cells #[.string nm, (⟨sa, sc, ss⟩ : Loc LSib).val] 58))
          clear hM
          simp only [Loc.val] at HM HB4 ⊢
          go_wp2_with (at_builtin; refine wpList_append_one rfl _ _ 24 rfl _ 58 elem_file l rfl w3.heap.size (⟨nm, ⟨sa, sc, ss⟩⟩ : LFile) rfl HM.out ?_)
          intro l' w5 hap
          have HAP := Lib.hid hap
          have F5 := Lib.hid ((F3.out.later HB4.out).more HS.out HCL.out (f := (⟨nm, ⟨sa, sc, ss⟩⟩ : LFile)) (fun b hb => by have := HSF.out b hb; have := F1.out.drew.touch.size; omega) hap)
          have R5 := Lib.hid ((hap.grown.block (w.heap.size + 1) (by have := HRL.out; have := S1.out; have := S2.out; have := S3.out; have := HB4.out.size; omega) (fun h => HOB.out _ h.symm rfl)).trans ((HB4.out.block (w.heap.size + 1) (by have := HRL.out; have := S1.out; have := S2.out; have := S3.out; omega)).trans R3.out))
          clear hap
          go_wp2_with fail
          go_roundw
          case rel =>
            refine ⟨k + 1, l', by omega, by go_num, rfl, by rw [HAP.out.xs, List.length_append]; have := HLL.out; simp; omega, fun b hb => ?_, R5.out, ⟨F5.out.own, F5.out.fp, F5.out.drew.mono (by omega)⟩⟩
            rcases HAP.out.ob b hb with h | h
            · exact HOB.out b h
            · have := HRL.out; have := S1.out; have := S2.out; have := S3.out; have := HB4.out.size; omega
          case measure => simp [intOf]; omega
      · have hq' : (q == 0) = false := by rw [beq_eq_false_iff_ne]; exact hq
        go_wp2_with fail
        go_roundw
        case rel => exact ⟨k + 1, l, by omega, by go_num, rfl, by have := HLL.out; omega, HOB.out, R1.out, ⟨F1.out.own, F1.out.fp, F1.out.drew.mono (by omega)⟩⟩
        case measure => simp [intOf]; omega
    · have hk4 : k = 4 := by omega
      subst hk4
      go_wp2_with fail
      refine (pick_any R code (N + 300 * 4) 24 wr HF.out.drew.rd (by omega) (by decide) (by decide)).mono ?_
      rintro e w1 ⟨⟨q, rfl, ql, qh⟩, hd⟩
      have F1 := Lib.hid (HF.out.draw HS.out hd)
      have H1 := Lib.hid F1.out.drew
      clear hd
      by_cases hq0 : q = 0
      · subst hq0
        go_wp2_with fail
        have hBw2 : Below w1.heap.size w1 (w1.alloc (Obj.cells #[.string ⟨#[65]⟩, .string ⟨#[71]⟩, .string ⟨#[]⟩, .string ⟨#[69]⟩] 9)) := (Below.refl _ _).alloc (Nat.le_refl _) _
        have HBw2 := Lib.hid (H1.out.later hBw2)
        have hsA := strs_At (xs := [⟨#[65]⟩, ⟨#[71]⟩, ⟨#[]⟩, ⟨#[69]⟩]) (heap_alloc_new w1 (Obj.cells #[.string ⟨#[65]⟩, .string ⟨#[71]⟩, .string ⟨#[]⟩, .string ⟨#[69]⟩] 9)) rfl rfl (by decide) (by intro s hs; simp only [List.mem_cons, List.mem_nil_iff, or_false] at hs; (first | (rcases hs with rfl | rfl | rfl | rfl) | (rcases hs with rfl | rfl | rfl) | (rcases hs with rfl | rfl | rfl | rfl | rfl | rfl)) <;> decide)
        have hc := Lib.hid (of_any R code (N + 300 * 4 + 1) _ _ HBw2.out.rd (by omega) hsA (by simp) (by simp) (fun b hb => by simp [Loc.fp, Loc.blk, Dat.fp] at hb; have := HS.out; have := H1.out.touch.size; omega))
        clear hsA hBw2
        go_wp2_with fail
        refine hc.out.mono ?_
        rintro e w2 ⟨⟨nm, rfl, nmm, nmz⟩, hd⟩
        have H2 := Lib.hid (HBw2.out.trans hd)
        have TH2 := Lib.hid hd.touch
        clear hd hc
        have F2 := Lib.hid ((F1.out.later ((Below.refl w1.heap.size w1).alloc (Nat.le_refl _) (Obj.cells #[.string ⟨#[65]⟩, .string ⟨#[71]⟩, .string ⟨#[]⟩, .string ⟨#[69]⟩] 9))).draw HS.out (show Drew R code _ _ w2 from ⟨H2.out.rd, TH2.out⟩))
        clear nmm
        go_wp2_with fail
        refine (l71Sibs_any R code (N + 300 * 4 + 1 + 1) w2 F2.out.drew.rd (by omega)).mono ?_
        rintro e w3 ⟨⟨sa, sc, ss⟩, rfl, hs5, hsA, hsf, hd⟩
        have F3 := Lib.hid (F2.out.draw HS.out hd)
        have HSF := Lib.hid hsf
        have hM := F3.out.one (e' := 58) (⟨nm, ⟨sa, sc, ss⟩⟩ : LFile) ⟨hsA, nmz⟩ (fun b hb c hc => by have := hsf b hb; have := (F2.out.own.lt c hc).2; omega) (by have := HLL.out; omega)
        have HM := Lib.hid hM
        have HB4 := Lib.hid ((Below.refl w3.heap.size w3).alloc (Nat.le_refl _) (Obj.cells #[.string nm, (⟨sa, sc, ss⟩ : Loc LSib).val] 58))
        clear hM hd hs5 hsA hsf nmz
        simp only [Loc.val] at HM HB4 ⊢
        go_wp2_with (at_builtin; refine wpList_append_one rfl _ _ 24 rfl _ 58 elem_file l rfl w3.heap.size (⟨nm, ⟨sa, sc, ss⟩⟩ : LFile) rfl HM.out ?_)
        intro l' w5 hap
        have HAP := Lib.hid hap
        have F5 := Lib.hid ((F3.out.later HB4.out).more HS.out HCL.out (f := (⟨nm, ⟨sa, sc, ss⟩⟩ : LFile)) (fun b hb => by have := HSF.out b hb; have := F2.out.drew.touch.size; omega) hap)
        clear hap
        go_wp2_with fail
        go_ret
        obtain ⟨d1, d2, d3⟩ := F5.out.done
        exact ⟨l', rfl, by show l'.xs.length ≤ 5; rw [HAP.out.xs, List.length_append]; have := HLL.out; simp; omega, d1, d2, d3.mono (by omega)⟩
      · have hq0' : (q == 0) = false := by rw [beq_eq_false_iff_ne]; exact hq0
        by_cases hq1 : q = 1
        · subst hq1
          have hM := F1.out.one (e' := 58) (⟨⟨#[70]⟩, ⟨none, 0, []⟩⟩ : LFile) ⟨⟨Nat.le_refl _, Nat.zero_le _, by simp, by simp, by simp⟩, by decide⟩ (fun b hb => by simp [Dat.fp, Loc.fp, Loc.blk] at hb) (by have := HLL.out; omega)
          have HM := Lib.hid hM
          have HB4 := Lib.hid ((Below.refl w1.heap.size w1).alloc (Nat.le_refl _) (Obj.cells #[.string ⟨#[70]⟩, .slice none 0 0] 58))
          clear hM
          go_wp2_with (at_builtin; refine wpList_append_one rfl _ _ 24 rfl _ 58 elem_file l rfl w1.heap.size (⟨⟨#[70]⟩, ⟨none, 0, []⟩⟩ : LFile) rfl HM.out ?_)
          intro l' w5 hap
          have HAP := Lib.hid hap
          have F5 := Lib.hid ((F1.out.later HB4.out).more HS.out HCL.out (f := (⟨⟨#[70]⟩, ⟨none, 0, []⟩⟩ : LFile)) (fun b hb => by simp [Dat.fp, Loc.fp, Loc.blk] at hb) hap)
          clear hap
          go_wp2_with fail
          go_ret
          obtain ⟨d1, d2, d3⟩ := F5.out.done
          exact ⟨l', rfl, by show l'.xs.length ≤ 5; rw [HAP.out.xs, List.length_append]; have := HLL.out; simp; omega, d1, d2, d3.mono (by omega)⟩
        · have hq1' : (q == 1) = false := by rw [beq_eq_false_iff_ne]; exact hq1
          go_wp2_with fail
          go_ret
          obtain ⟨d1, d2, d3⟩ := F1.out.done
          exact ⟨l, rfl, by have := HLL.out; omega, d1, d2, d3.mono (by omega)⟩
end Go.Proofs.YtdidkfadiaafiaaGreatDoor

namespace Go.Proofs.YtdidkfadiaafiaaGreatDoor
open Go Go.RowKit

theorem Drew.below {R : Nat} {code : Loc UInt8} {N B : Nat} {w0 w w' : World} (h : Drew R code N w w') (hb : Below B w0 w) (hR : B ≤ R) (hw : B ≤ w.heap.size) : Below B w0 w' :=
  hb.trans (h.touch.below hw (fun b hb => by rw [List.mem_singleton.1 hb]; exact hR))

theorem Rd.same {R : Nat} {code : Loc UInt8} {N : Nat} {w w' : World} (h : Rd R code N w) (hk : ∀ b : Nat, w'.heap[b]? = w.heap[b]?) : Rd R code N w' := by
  obtain ⟨p, hp, hb⟩ := h.blk
  exact ⟨⟨p, hp, (hk R).trans hb⟩, Loc.keep_At h.at_ fun b _ => hk b, h.off⟩

/-- A reader's block is new. -/
theorem l6Open_new (x : Loc UInt8) (w : World) (hx : x.At w) :
    Calls Tryz.prog 47 #[x.val] w fun e w' => ∃ (R : Nat) (code : Loc UInt8), e = .returned (.pointer (some ⟨R, 0, none⟩)) ∧ Rd R code 0 w' ∧ Below w.heap.size w w' ∧ w.heap.size ≤ R :=
  (l6Open_any' x w hx)

/-- Drawn data. -/
def Drawn {α : Type} [Dat α] (w : World) (p : List α → Prop) (e : Ending) (w' : World) : Prop :=
  ∃ y : Loc α, e = .returned y.val ∧ p y.xs ∧ y.At w' ∧ Below w.heap.size w w'

end Go.Proofs.YtdidkfadiaafiaaGreatDoor

namespace Go.Proofs.YtdidkfadiaafiaaGreatDoor
open Go Go.RowKit

set_option maxRecDepth 100000 in
theorem drawTreeShow_any (x : Loc UInt8) (w : World) (hx : x.At w) : Calls Tryz.prog 24 #[x.val] w (Drawn (α := LFile) w (fun l => l.length ≤ 5)) := by
  have hc := Lib.hid (l6Open_new x w hx)
  clear hx
  go_enter Tryz.func24, Tryz.ntmps24
  go_wp2_with fail
  refine hc.out.mono ?_
  rintro e w1 ⟨R, code, rfl, hrd, hb, hR⟩
  have HR := Lib.hid hrd
  have HB := Lib.hid hb
  have HRW := Lib.hid hR
  clear hrd hb hR
  go_wp2_with fail
  refine (l71Tree_any R code 0 w1 HR.out (by decide)).mono ?_
  rintro e w2 ⟨y, rfl, hy5, hyA, hyf, hd⟩
  have HY := Lib.hid hy5
  have HA := Lib.hid hyA
  have HD := Lib.hid hd
  clear hy5 hyA hyf hd
  go_wp2_with fail
  go_ret
  exact ⟨y, rfl, HY.out, HA.out, HD.out.below HB.out HRW.out HB.out.size⟩

/-- A drawn tree, and a drawn name. -/
def DrawnAt (w : World) (e : Ending) (w' : World) : Prop :=
  ∃ (y : Loc LFile) (n : ByteArray), e = .returned (.tuple #[y.val, .string n]) ∧ y.xs.length ≤ 5 ∧ n.size ≤ 9223372036854775807 ∧ y.At w' ∧ Below w.heap.size w w'

end Go.Proofs.YtdidkfadiaafiaaGreatDoor
