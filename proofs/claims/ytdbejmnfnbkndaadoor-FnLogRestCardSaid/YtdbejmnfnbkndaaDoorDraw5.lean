/- The reference's draws: l71Tree. -/
import Derived.Test.YtdbejmnfnbkndaaDoorDraw4
import Derived.Test.YtdbejmnfnbkndaaDoorSpec4
namespace Go.Proofs.YtdbejmnfnbkndaaDoor
open Go Go.RowKit

/-- Files under way. -/
structure FilesWay (R : Nat) (code : Loc UInt8) (N : Nat) (w : World) (l : Loc LFile) (W : World) : Prop where
  own : Own w.heap.size 47 W l
  fp : ∀ x ∈ l.xs, ∀ b ∈ Dat.fp x, w.heap.size ≤ b
  drew : Drew R code N w W

theorem FilesWay.draw {R : Nat} {code : Loc UInt8} {N M : Nat} {w W W' : World} {l : Loc LFile} (h : FilesWay R code N w l W) (hR : R < w.heap.size) (hd : Drew R code M W W') : FilesWay R code M w l W' :=
  ⟨hd.keepOwn h.own hR (fun x hx b hb => by have := h.fp x hx b hb; omega), h.fp, h.drew.trans hd⟩
theorem FilesWay.later {R : Nat} {code : Loc UInt8} {N : Nat} {w W W' : World} {l : Loc LFile} (h : FilesWay R code N w l W) (hb : Below W.heap.size W W') : FilesWay R code N w l W' :=
  ⟨h.own.belowAll hb, h.fp, h.drew.later hb⟩
theorem FilesWay.more {R : Nat} {code : Loc UInt8} {N : Nat} {w W W' : World} {l l' : Loc LFile} {f : LFile} (h : FilesWay R code N w l W) (hR : R < w.heap.size) (hcl : ∀ b ∈ code.fp, b < w.heap.size) (hf : ∀ b ∈ Dat.fp f, w.heap.size ≤ b) (ha : Appended w.heap.size 47 W l [f] l' W') : FilesWay R code N w l' W' :=
  ⟨ha.own, fun x hx b hb => by
    rw [ha.xs] at hx
    rcases List.mem_append.1 hx with hx | hx
    · exact h.fp x hx b hb
    · rw [List.mem_singleton.1 hx] at hb; exact hf b hb, h.drew.appended hcl hR h.own (Nat.le_refl _) ha⟩
theorem FilesWay.done {R : Nat} {code : Loc UInt8} {N : Nat} {w W : World} {l : Loc LFile} (h : FilesWay R code N w l W) : l.At W ∧ (∀ b ∈ l.fp, w.heap.size ≤ b) ∧ Drew R code N w W := by
  refine ⟨h.own.at_, fun b hb => ?_, h.drew⟩
  rcases List.mem_append.1 hb with hb | hb
  · exact (h.own.lt b (Loc.blk_own hb)).1
  · obtain ⟨x, hx, hb⟩ := List.mem_flatMap.1 hb
    exact h.fp x hx b hb
theorem FilesWay.one {R : Nat} {code : Loc UInt8} {N : Nat} {w W : World} {l : Loc LFile} {e' : TypeId} (h : FilesWay R code N w l W) (f : LFile) (hf : Dat.At W f) (hB : ∀ b ∈ Dat.fp f, ∀ c, l.val.ownBlock = some c → b ≠ c) (hl : l.xs.length ≤ 100) :
    OneMore w.heap.size 47 (W.alloc (.cells #[.string f.name, f.sibs.val] e')) l W.heap.size f :=
  one_more l f rfl rfl h.own hf (fun b hb hc => hB b hb b hc.symm rfl) (by omega) h.drew.touch.size

set_option maxRecDepth 100000 in
set_option maxHeartbeats 2000000 in
theorem l71Tree_any (R : Nat) (code : Loc UInt8) (N : Nat) (w : World) (h : Rd R code N w) (hN : N ≤ 600000000) :
    Calls Tryd.prog 66 #[.pointer (some ⟨R, 0, none⟩)] w (DrawPost (α := LFile) R code (N + 2000) w (fun l => l.length ≤ 5)) := by
  have hB0 : Below w.heap.size w (w.alloc (Obj.cells #[] 47)) := (Below.refl _ _).alloc (Nat.le_refl _) _
  have hO0 := Own.made (α := LFile) w 47
  have hB1 : Below (w.alloc (Obj.cells #[] 47)).heap.size (w.alloc (Obj.cells #[] 47)) ((w.alloc (Obj.cells #[] 47)).alloc (Obj.cells #[.string ⟨#[65]⟩, .string ⟨#[66]⟩, .string ⟨#[67]⟩, .string ⟨#[68]⟩] 9)) := (Below.refl _ _).alloc (Nat.le_refl _) _
  have hF0 : FilesWay R code N w ⟨some ⟨w.heap.size, 0, none⟩, 0, []⟩ ((w.alloc (Obj.cells #[] 47)).alloc (Obj.cells #[.string ⟨#[65]⟩, .string ⟨#[66]⟩, .string ⟨#[67]⟩, .string ⟨#[68]⟩] 9)) :=
    (⟨hO0, fun x hx => (by cases hx), h.refl.later hB0⟩ : FilesWay R code N w ⟨some ⟨w.heap.size, 0, none⟩, 0, []⟩ (w.alloc (Obj.cells #[] 47))).later hB1
  have HF0 := Lib.hid hF0
  have HL0 := Lib.hid (heap_alloc_new (w.alloc (Obj.cells #[] 47)) (Obj.cells #[.string ⟨#[65]⟩, .string ⟨#[66]⟩, .string ⟨#[67]⟩, .string ⟨#[68]⟩] 9))
  have HZ0 : Hid (((w.alloc (Obj.cells #[] 47)).alloc (Obj.cells #[.string ⟨#[65]⟩, .string ⟨#[66]⟩, .string ⟨#[67]⟩, .string ⟨#[68]⟩] 9)).heap.size = w.heap.size + 2 ∧ (w.alloc (Obj.cells #[] 47)).heap.size = w.heap.size + 1) := Lib.hid (by simp)
  have HS := Lib.hid h.lt
  have HCL := Lib.hid (Loc.lt_of_At h.at_)
  clear h hB0 hO0 hB1 hF0
  go_enter Tryd.func66, Tryd.ntmps66
  go_wp2_with fail
  generalize hW0 : (w.alloc (Obj.cells #[] 47)).alloc (Obj.cells #[.string ⟨#[65]⟩, .string ⟨#[66]⟩, .string ⟨#[67]⟩, .string ⟨#[68]⟩] 9) = w0 at *
  rw [HZ0.out.2] at HL0
  clear hW0
  go_loopw [3, 10] (fun o i wr => ∃ (k : Nat) (l : Loc LFile), k ≤ 4 ∧ i = .int .i64 k ∧ o = l.val ∧ l.xs.length ≤ k ∧ (∀ b, l.val.ownBlock = some b → b ≠ w.heap.size + 1) ∧ wr.heap[w.heap.size + 1]? = some (.cells #[.string ⟨#[65]⟩, .string ⟨#[66]⟩, .string ⟨#[67]⟩, .string ⟨#[68]⟩] 9 (0, 0)) ∧ FilesWay R code (N + 300 * k) w l wr) (fun _ i _ => 4 - (intOf i).toNat)
  case atStart => exact ⟨0, ⟨some ⟨w.heap.size, 0, none⟩, 0, []⟩, Nat.zero_le _, rfl, rfl, Nat.le_refl _, fun b hb => by simp [Loc.val, Value.ownBlock] at hb; omega, HL0.out, by simpa using HF0.out⟩
  case round =>
    obtain ⟨k, l, hk, rfl, rfl, hll, hob, hrow, hF⟩ := hrel
    have HLL := Lib.hid hll
    have HOB := Lib.hid hob
    have HROW := Lib.hid hrow
    have HF := Lib.hid hF
    have HRL : Hid (w.heap.size + 1 < wr.heap.size) := Lib.hid (Array.getElem?_eq_some_iff.1 hrow).1
    clear hll hob hrow hF
    by_cases hlt : k < 4
    · have hkk : (k : Int) < 4 := by omega
      obtain ⟨nm, hnm⟩ : ∃ nm : ByteArray, wr.cell? ⟨w.heap.size + 1, k, none⟩ = some (.string nm) ∧ nm.size ≤ 1 := by
        rw [cell_of_row _ _ _ _ _ _ HROW.out]
        match k, hlt with
        | 0, _ => exact ⟨_, rfl, by decide⟩
        | 1, _ => exact ⟨_, rfl, by decide⟩
        | 2, _ => exact ⟨_, rfl, by decide⟩
        | 3, _ => exact ⟨_, rfl, by decide⟩
        | k + 4, h => exact absurd h (by omega)
      obtain ⟨cn, hns⟩ := hnm
      go_wp2_with fail
      refine (pick_any R code (N + 300 * k) 2 wr HF.out.drew.rd (by omega) (by decide) (by decide)).mono ?_
      rintro e w1 ⟨⟨q, rfl, ql, qh⟩, hd⟩
      have F1 := Lib.hid (HF.out.draw HS.out hd)
      have R1 := Lib.hid ((hd.touch.block _ HRL.out (by have := HS.out; simp; omega)).trans HROW.out)
      have S1 := Lib.hid hd.touch.size
      clear hd
      by_cases hq : q = 0
      · subst hq
        go_wp2_with fail
        refine (l71Sibs_any R code (N + 300 * k + 1) w1 F1.out.drew.rd (by omega)).mono ?_
        rintro e w2 ⟨⟨sa, sc, ss⟩, rfl, hs5, hsA, hsf, hd⟩
        have F2 := Lib.hid (F1.out.draw HS.out hd)
        have R2 := Lib.hid ((hd.touch.block (w.heap.size + 1) (by have := HRL.out; have := S1.out; omega) (by have := HS.out; simp; omega)).trans R1.out)
        have S2 := Lib.hid hd.touch.size
        have HSA := Lib.hid hsA
        have HSF := Lib.hid hsf
        clear hd hs5 hsA hsf
        go_wp2_with fail
        refine (sSibsOk_any ⟨sa, sc, ss⟩ w2 HSA.out).mono ?_
        rintro e w3 ⟨rfl, hb3⟩
        have F3 := Lib.hid (F2.out.later hb3)
        have R3 := Lib.hid ((hb3.block (w.heap.size + 1) (by have := HRL.out; have := S1.out; have := S2.out; omega)).trans R2.out)
        have HSA3 := Lib.hid (HSA.out.belowAll hb3)
        have S3 := Lib.hid hb3.size
        clear hb3 HSA
        generalize sibsB (List.map LSib.er ss) = sb
        cases sb with
        | false =>
          go_wp2_with fail
          go_roundw
          case rel => exact ⟨k + 1, l, by omega, by go_num, rfl, by have := HLL.out; omega, HOB.out, R3.out, ⟨F3.out.own, F3.out.fp, F3.out.drew.mono (by omega)⟩⟩
          case measure => simp [intOf]; omega
        | true =>
          have hM := F3.out.one (e' := 47) (⟨nm, ⟨sa, sc, ss⟩⟩ : LFile) ⟨HSA3.out, by simp only [maxLen]; omega⟩ (fun b hb c hc => by have := HSF.out b hb; have := (F1.out.own.lt c hc).2; omega) (by have := HLL.out; omega)
          have HM := Lib.hid hM
          have HB4 := Lib.hid ((Below.refl w3.heap.size w3).alloc (Nat.le_refl _) (Obj.cells #[.string nm, (⟨sa, sc, ss⟩ : Loc LSib).val] 47))
          clear hM
          simp only [Loc.val] at HM HB4 ⊢
          go_wp2_with (at_builtin; refine wpList_append_one rfl _ _ 61 rfl _ 47 elem_file l rfl w3.heap.size (⟨nm, ⟨sa, sc, ss⟩⟩ : LFile) rfl HM.out ?_)
          intro l' w5 hap
          have HAP := Lib.hid hap
          have F5 := Lib.hid ((F3.out.later HB4.out).more HS.out HCL.out (f := (⟨nm, ⟨sa, sc, ss⟩⟩ : LFile)) (fun b hb => by have := HSF.out b hb; have := F1.out.drew.touch.size; omega) hap)
          have R5 := Lib.hid ((hap.grown.block (w.heap.size + 1) (by have := HRL.out; have := S1.out; have := S2.out; have := S3.out; have := HB4.out.size; omega) (fun h => HOB.out _ h.symm rfl)).trans ((HB4.out.block (w.heap.size + 1) (by have := HRL.out; have := S1.out; have := S2.out; have := S3.out; omega)).trans R3.out))
          clear hap
          go_wp2_with fail
          go_roundw
          case rel =>
            refine ⟨k + 1, l', by omega, by go_num, rfl, by rw [HAP.out.xs, List.length_append]; have := HLL.out; simp; omega, fun b hb => ?_, R5.out, ⟨F5.out.own, F5.out.fp, F5.out.drew.mono (by omega)⟩⟩
            rcases HAP.out.ob b hb with h | h
            · exact HOB.out b h
            · have := HRL.out; have := S1.out; have := S2.out; have := S3.out; have := HB4.out.size; omega
          case measure => simp [intOf]; omega
      · have hq' : (q == 0) = false := by rw [beq_eq_false_iff_ne]; exact hq
        go_wp2_with fail
        go_roundw
        case rel => exact ⟨k + 1, l, by omega, by go_num, rfl, by have := HLL.out; omega, HOB.out, R1.out, ⟨F1.out.own, F1.out.fp, F1.out.drew.mono (by omega)⟩⟩
        case measure => simp [intOf]; omega
    · have hk4 : k = 4 := by omega
      subst hk4
      go_wp2_with fail
      refine (pick_any R code (N + 300 * 4) 24 wr HF.out.drew.rd (by omega) (by decide) (by decide)).mono ?_
      rintro e w1 ⟨⟨q, rfl, ql, qh⟩, hd⟩
      have F1 := Lib.hid (HF.out.draw HS.out hd)
      have H1 := Lib.hid F1.out.drew
      clear hd
      by_cases hq0 : q = 0
      · subst hq0
        go_wp2_with fail
        have hBw2 : Below w1.heap.size w1 (w1.alloc (Obj.cells #[.string ⟨#[65]⟩, .string ⟨#[71]⟩, .string ⟨#[]⟩, .string ⟨#[69]⟩] 9)) := (Below.refl _ _).alloc (Nat.le_refl _) _
        have HBw2 := Lib.hid (H1.out.later hBw2)
        have hsA := strs_At (xs := [⟨#[65]⟩, ⟨#[71]⟩, ⟨#[]⟩, ⟨#[69]⟩]) (heap_alloc_new w1 (Obj.cells #[.string ⟨#[65]⟩, .string ⟨#[71]⟩, .string ⟨#[]⟩, .string ⟨#[69]⟩] 9)) rfl rfl (by decide) (by intro s hs; simp only [List.mem_cons, List.mem_nil_iff, or_false] at hs; (first | (rcases hs with rfl | rfl | rfl | rfl) | (rcases hs with rfl | rfl | rfl) | (rcases hs with rfl | rfl | rfl | rfl | rfl | rfl)) <;> decide)
        have hc := Lib.hid (of_any R code (N + 300 * 4 + 1) _ _ HBw2.out.rd (by omega) hsA (by simp) (by simp) (fun b hb => by simp [Loc.fp, Loc.blk, Dat.fp] at hb; have := HS.out; have := H1.out.touch.size; omega))
        clear hsA hBw2
        go_wp2_with fail
        refine hc.out.mono ?_
        rintro e w2 ⟨⟨nm, rfl, nmm, nmz⟩, hd⟩
        have H2 := Lib.hid (HBw2.out.trans hd)
        have TH2 := Lib.hid hd.touch
        clear hd hc
        have F2 := Lib.hid ((F1.out.later ((Below.refl w1.heap.size w1).alloc (Nat.le_refl _) (Obj.cells #[.string ⟨#[65]⟩, .string ⟨#[71]⟩, .string ⟨#[]⟩, .string ⟨#[69]⟩] 9))).draw HS.out (show Drew R code _ _ w2 from ⟨H2.out.rd, TH2.out⟩))
        clear nmm
        go_wp2_with fail
        refine (l71Sibs_any R code (N + 300 * 4 + 1 + 1) w2 F2.out.drew.rd (by omega)).mono ?_
        rintro e w3 ⟨⟨sa, sc, ss⟩, rfl, hs5, hsA, hsf, hd⟩
        have F3 := Lib.hid (F2.out.draw HS.out hd)
        have HSF := Lib.hid hsf
        have hM := F3.out.one (e' := 47) (⟨nm, ⟨sa, sc, ss⟩⟩ : LFile) ⟨hsA, nmz⟩ (fun b hb c hc => by have := hsf b hb; have := (F2.out.own.lt c hc).2; omega) (by have := HLL.out; omega)
        have HM := Lib.hid hM
        have HB4 := Lib.hid ((Below.refl w3.heap.size w3).alloc (Nat.le_refl _) (Obj.cells #[.string nm, (⟨sa, sc, ss⟩ : Loc LSib).val] 47))
        clear hM hd hs5 hsA hsf nmz
        simp only [Loc.val] at HM HB4 ⊢
        go_wp2_with (at_builtin; refine wpList_append_one rfl _ _ 61 rfl _ 47 elem_file l rfl w3.heap.size (⟨nm, ⟨sa, sc, ss⟩⟩ : LFile) rfl HM.out ?_)
        intro l' w5 hap
        have HAP := Lib.hid hap
        have F5 := Lib.hid ((F3.out.later HB4.out).more HS.out HCL.out (f := (⟨nm, ⟨sa, sc, ss⟩⟩ : LFile)) (fun b hb => by have := HSF.out b hb; have := F2.out.drew.touch.size; omega) hap)
        clear hap
        go_wp2_with fail
        go_ret
        obtain ⟨d1, d2, d3⟩ := F5.out.done
        exact ⟨l', rfl, by show l'.xs.length ≤ 5; rw [HAP.out.xs, List.length_append]; have := HLL.out; simp; omega, d1, d2, d3.mono (by omega)⟩
      · have hq0' : (q == 0) = false := by rw [beq_eq_false_iff_ne]; exact hq0
        by_cases hq1 : q = 1
        · subst hq1
          have hM := F1.out.one (e' := 47) (⟨⟨#[70]⟩, ⟨none, 0, []⟩⟩ : LFile) ⟨⟨Nat.le_refl _, Nat.zero_le _, by simp, by simp, by simp⟩, by decide⟩ (fun b hb => by simp [Dat.fp, Loc.fp, Loc.blk] at hb) (by have := HLL.out; omega)
          have HM := Lib.hid hM
          have HB4 := Lib.hid ((Below.refl w1.heap.size w1).alloc (Nat.le_refl _) (Obj.cells #[.string ⟨#[70]⟩, .slice none 0 0] 47))
          clear hM
          go_wp2_with (at_builtin; refine wpList_append_one rfl _ _ 61 rfl _ 47 elem_file l rfl w1.heap.size (⟨⟨#[70]⟩, ⟨none, 0, []⟩⟩ : LFile) rfl HM.out ?_)
          intro l' w5 hap
          have HAP := Lib.hid hap
          have F5 := Lib.hid ((F1.out.later HB4.out).more HS.out HCL.out (f := (⟨⟨#[70]⟩, ⟨none, 0, []⟩⟩ : LFile)) (fun b hb => by simp [Dat.fp, Loc.fp, Loc.blk] at hb) hap)
          clear hap
          go_wp2_with fail
          go_ret
          obtain ⟨d1, d2, d3⟩ := F5.out.done
          exact ⟨l', rfl, by show l'.xs.length ≤ 5; rw [HAP.out.xs, List.length_append]; have := HLL.out; simp; omega, d1, d2, d3.mono (by omega)⟩
        · have hq1' : (q == 1) = false := by rw [beq_eq_false_iff_ne]; exact hq1
          go_wp2_with fail
          go_ret
          obtain ⟨d1, d2, d3⟩ := F1.out.done
          exact ⟨l, rfl, by have := HLL.out; omega, d1, d2, d3.mono (by omega)⟩
end Go.Proofs.YtdbejmnfnbkndaaDoor
