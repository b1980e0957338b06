/- The walk of FnExactTreeWrite over located arguments. -/
import Derived.Test.YtdidkfadiaafiaaGreatDoorAtLaw
import Derived.Test.YtdidkfadiaafiaaGreatDoorMarks
import Derived.Test.YtdidkfadiaafiaaGreatDoorWriteS
namespace Go.Proofs.YtdidkfadiaafiaaGreatDoor
open Go Go.RowKit

theorem lenF_small : ∀ (l : List File), (∀ f ∈ l, lenS f.sibs ≤ 60) → lenF l ≤ 61 * l.length
  | [], _ => Nat.le_refl _
  | f :: r, h => by
    have h1 := h f List.mem_cons_self
    have h2 := lenF_small r fun g hg => h g (List.mem_cons_of_mem _ hg)
    simp only [lenF, List.length_cons]
    omega
theorem lenF_ok {t : List File} (h : TreeOK t) : lenF t ≤ 400 := by
  have h1 := lenF_small t fun f hf => by
    obtain ⟨i, hi, rfl⟩ := List.getElem_of_mem hf
    exact lenS_ok (.inr (h.sibs i hi))
  have h2 := h.few
  omega
theorem writeZ_len (t : List File) (site : Int) (n : ByteArray) (g : Bool) (s : ByteArray) : lenF (writeZ t site n g s).1 ≤ 400 := by
  unfold writeZ
  split
  · rename_i k
    split
    · exact lenF_ok (write_tree (TreeOK.of k) ‹_›)
    · exact lenF_ok (TreeOK.of k)
  · simp [lenF]

/-- What marks on one's own files leave behind. -/
theorem markF_held {x ys : Loc LFile} {Z : List File} {w : World} (hv : ys.val = x.val) (hA : ys.At w) (hz : ys.xs.map LFile.er = markF 1 Z) (hl : 1 + lenF Z ≤ 1000) :
    Calls Tryz.prog 16 #[x.val, .int .i64 1] w fun e w' => e = .returned (.int .i64 ((1 + lenF Z : Nat) : Int)) ∧ Below w.heap.size w w' := by
  have h := heldFileS_any ys 1 Z w hA hz (Nat.le_refl _) (by omega)
  rw [hv] at h
  exact h

set_option maxRecDepth 100000 in
set_option maxHeartbeats 2000000 in
theorem exactTreeWrite_walk (x : Loc LFile) (site : Int) (n : ByteArray) (gone : Bool) (txt : ByteArray) (w : World) (hx : x.At w) (hsite : -9223372036854775808 ≤ site ∧ site ≤ 9223372036854775807) (hn0 : n.size ≤ 9223372036854775807) (ht0 : txt.size ≤ 9223372036854775807) :
    Calls Tryz.prog 3 #[x.val, .int .i64 site, .string n, .bool gone, .string txt] w fun e w' => e = .returned (.bool true) ∧ Below w.heap.size w w' := by
  obtain ⟨⟨Z, ok⟩, hb⟩ : ∃ P, writeZ (x.xs.map LFile.er) site n gone txt = P := ⟨_, rfl⟩
  have HX := Lib.hid hx
  have HZ := Lib.hid hb
  have HS := Lib.hid hsite
  have HN := Lib.hid hn0
  have HTX := Lib.hid ht0
  have LX0 := Lib.hid (Loc.lt_of_At hx)
  have HZL : Hid (lenF Z ≤ 400) := Lib.hid (by have := writeZ_len (x.xs.map LFile.er) site n gone txt; rw [hb] at this; exact this)
  clear hx hb hsite
  by_cases hbig : (1048576 : Int) < (n.size : Int)
  · go_enter Tryz.func3, Tryz.ntmps3
    go_wp2_with fail
    go_ret
    exact ⟨rfl, Below.refl _ _⟩
  by_cases hbig2 : (1048576 : Int) < (txt.size : Int)
  · go_enter Tryz.func3, Tryz.ntmps3
    go_wp2_with fail
    go_ret
    exact ⟨rfl, Below.refl _ _⟩
  go_enter Tryz.func3, Tryz.ntmps3
  go_wp2_with fail
  refine (szFileS_any x 1048576 w HX.out (by decide)).mono ?_
  rintro e w1 ⟨⟨r, rfl, hr⟩, b1⟩
  have B := Lib.hid b1
  first
    | replace HX := Lib.hid (Loc.At.belowAll HX.out (b1))
    | replace HX := Lib.hid (nextB HX.out (b1))
    | replace HX := Lib.hid (Boxed.keep HX.out (b1))
    | replace HX := Lib.hid (Dat.belowAll HX.out (b1))
    | replace HX := Lib.hid (Fr.belowAll HX.out (b1))
    | replace HX := Lib.hid (Own.belowAll HX.out (b1))
    | replace HX := Lib.hid (Grows.next HX.out (b1))
  have HR := Lib.hid hr
  clear hr b1
  by_cases hr0 : r < 0
  · go_wp2_with fail
    go_ret
    exact ⟨rfl, B.out⟩
  have HM : Hid (bulkFiles x.xs ≤ 1048576) := Lib.hid (by rcases HR.out with h | h <;> omega)
  have HLX : Hid (lenF (x.xs.map LFile.er) ≤ 2097152) := Lib.hid (by have h := lenF_le x.xs; have h2 := HM.out; omega)
  go_wp2_with fail
  refine (toFileS_any x w1 HX.out HM.out).mono ?_
  rintro e w2 ⟨y, rfl, hy, hyA, -, b2⟩
  first
    | replace B := Lib.hid (Loc.At.belowAll B.out (b2))
    | replace B := Lib.hid (nextB B.out (b2))
    | replace B := Lib.hid (Boxed.keep B.out (b2))
    | replace B := Lib.hid (Dat.belowAll B.out (b2))
    | replace B := Lib.hid (Fr.belowAll B.out (b2))
    | replace B := Lib.hid (Own.belowAll B.out (b2))
    | replace B := Lib.hid (Grows.next B.out (b2))
  first
    | replace HX := Lib.hid (Loc.At.belowAll HX.out (b2))
    | replace HX := Lib.hid (nextB HX.out (b2))
    | replace HX := Lib.hid (Boxed.keep HX.out (b2))
    | replace HX := Lib.hid (Dat.belowAll HX.out (b2))
    | replace HX := Lib.hid (Fr.belowAll HX.out (b2))
    | replace HX := Lib.hid (Own.belowAll HX.out (b2))
    | replace HX := Lib.hid (Grows.next HX.out (b2))
  have HY := Lib.hid (show y.xs.map LFile.er = x.xs.map LFile.er from hy)
  have AY := Lib.hid hyA
  clear b2 hy hyA
  go_wp2_with fail
  refine (sTreeWrite_any y site n gone txt w2 AY.out HS.out HN.out HTX.out).mono ?_
  rw [HY.out, HZ.out]
  rintro e w3 ⟨v, rfl, hv, hvA, b3⟩
  first
    | replace B := Lib.hid (Loc.At.belowAll B.out (b3))
    | replace B := Lib.hid (nextB B.out (b3))
    | replace B := Lib.hid (Boxed.keep B.out (b3))
    | replace B := Lib.hid (Dat.belowAll B.out (b3))
    | replace B := Lib.hid (Fr.belowAll B.out (b3))
    | replace B := Lib.hid (Own.belowAll B.out (b3))
    | replace B := Lib.hid (Grows.next B.out (b3))
  first
    | replace HX := Lib.hid (Loc.At.belowAll HX.out (b3))
    | replace HX := Lib.hid (nextB HX.out (b3))
    | replace HX := Lib.hid (Boxed.keep HX.out (b3))
    | replace HX := Lib.hid (Dat.belowAll HX.out (b3))
    | replace HX := Lib.hid (Fr.belowAll HX.out (b3))
    | replace HX := Lib.hid (Own.belowAll HX.out (b3))
    | replace HX := Lib.hid (Grows.next HX.out (b3))
  have HV := Lib.hid (show v.xs.map LFile.er = Z from hv)
  have AV := Lib.hid hvA
  clear b3 hv hvA AY HY
  go_wp2_with fail
  refine (toFileS_any x w3 HX.out HM.out).mono ?_
  rintro e w4 ⟨z, rfl, hz, hzA, hzF, b4⟩
  have S3 := Lib.hid B.out.size
  have LV := Lib.hid (Loc.lt_of_At AV.out)
  have S34 := Lib.hid b4.size
  first
    | replace B := Lib.hid (Loc.At.belowAll B.out (b4))
    | replace B := Lib.hid (nextB B.out (b4))
    | replace B := Lib.hid (Boxed.keep B.out (b4))
    | replace B := Lib.hid (Dat.belowAll B.out (b4))
    | replace B := Lib.hid (Fr.belowAll B.out (b4))
    | replace B := Lib.hid (Own.belowAll B.out (b4))
    | replace B := Lib.hid (Grows.next B.out (b4))
  first
    | replace HX := Lib.hid (Loc.At.belowAll HX.out (b4))
    | replace HX := Lib.hid (nextB HX.out (b4))
    | replace HX := Lib.hid (Boxed.keep HX.out (b4))
    | replace HX := Lib.hid (Dat.belowAll HX.out (b4))
    | replace HX := Lib.hid (Fr.belowAll HX.out (b4))
    | replace HX := Lib.hid (Own.belowAll HX.out (b4))
    | replace HX := Lib.hid (Grows.next HX.out (b4))
  first
    | replace AV := Lib.hid (Loc.At.belowAll AV.out (b4))
    | replace AV := Lib.hid (nextB AV.out (b4))
    | replace AV := Lib.hid (Boxed.keep AV.out (b4))
    | replace AV := Lib.hid (Dat.belowAll AV.out (b4))
    | replace AV := Lib.hid (Fr.belowAll AV.out (b4))
    | replace AV := Lib.hid (Own.belowAll AV.out (b4))
    | replace AV := Lib.hid (Grows.next AV.out (b4))
  have HZE := Lib.hid (show z.xs.map LFile.er = x.xs.map LFile.er from hz)
  have AZ := Lib.hid hzA
  have FZ := Lib.hid hzF
  clear b4 hz hzA hzF
  go_wp2_with fail
  refine (iTreeWrite_any z site n gone txt w4 AZ.out HS.out HN.out HTX.out).mono ?_
  rw [HZE.out, HZ.out]
  rintro e w5 ⟨g, rfl, hg, hgA, hgF, b5⟩
  have LZ := Lib.hid FZ.out.lt
  have S4 := Lib.hid B.out.size
  first
    | replace B := Lib.hid (Loc.At.belowAll B.out (b5))
    | replace B := Lib.hid (nextB B.out (b5))
    | replace B := Lib.hid (Boxed.keep B.out (b5))
    | replace B := Lib.hid (Dat.belowAll B.out (b5))
    | replace B := Lib.hid (Fr.belowAll B.out (b5))
    | replace B := Lib.hid (Own.belowAll B.out (b5))
    | replace B := Lib.hid (Grows.next B.out (b5))
  first
    | replace HX := Lib.hid (Loc.At.belowAll HX.out (b5))
    | replace HX := Lib.hid (nextB HX.out (b5))
    | replace HX := Lib.hid (Boxed.keep HX.out (b5))
    | replace HX := Lib.hid (Dat.belowAll HX.out (b5))
    | replace HX := Lib.hid (Fr.belowAll HX.out (b5))
    | replace HX := Lib.hid (Own.belowAll HX.out (b5))
    | replace HX := Lib.hid (Grows.next HX.out (b5))
  first
    | replace AV := Lib.hid (Loc.At.belowAll AV.out (b5))
    | replace AV := Lib.hid (nextB AV.out (b5))
    | replace AV := Lib.hid (Boxed.keep AV.out (b5))
    | replace AV := Lib.hid (Dat.belowAll AV.out (b5))
    | replace AV := Lib.hid (Fr.belowAll AV.out (b5))
    | replace AV := Lib.hid (Own.belowAll AV.out (b5))
    | replace AV := Lib.hid (Grows.next AV.out (b5))
  first
    | replace AZ := Lib.hid (Loc.At.belowAll AZ.out (b5))
    | replace AZ := Lib.hid (nextB AZ.out (b5))
    | replace AZ := Lib.hid (Boxed.keep AZ.out (b5))
    | replace AZ := Lib.hid (Dat.belowAll AZ.out (b5))
    | replace AZ := Lib.hid (Fr.belowAll AZ.out (b5))
    | replace AZ := Lib.hid (Own.belowAll AZ.out (b5))
    | replace AZ := Lib.hid (Grows.next AZ.out (b5))
  first
    | replace FZ := Lib.hid (Loc.At.belowAll FZ.out (b5))
    | replace FZ := Lib.hid (nextB FZ.out (b5))
    | replace FZ := Lib.hid (Boxed.keep FZ.out (b5))
    | replace FZ := Lib.hid (Dat.belowAll FZ.out (b5))
    | replace FZ := Lib.hid (Fr.belowAll FZ.out (b5))
    | replace FZ := Lib.hid (Own.belowAll FZ.out (b5))
    | replace FZ := Lib.hid (Grows.next FZ.out (b5))
  have HG := Lib.hid (show g.xs.map LFile.er = Z from hg)
  have AG := Lib.hid hgA
  have FG := Lib.hid hgF
  clear b5 hg hgA hgF
  have hoo : (ok != ok) = false := by simp
  go_wp2_with fail
  refine (eqFileS_any g v w5 AG.out AV.out).mono ?_
  rintro e w6 ⟨⟨q, rfl, hq⟩, b6⟩
  obtain rfl : q = true := hq.2 (HG.out.trans HV.out.symm)
  first
    | replace B := Lib.hid (Loc.At.belowAll B.out (b6))
    | replace B := Lib.hid (nextB B.out (b6))
    | replace B := Lib.hid (Boxed.keep B.out (b6))
    | replace B := Lib.hid (Dat.belowAll B.out (b6))
    | replace B := Lib.hid (Fr.belowAll B.out (b6))
    | replace B := Lib.hid (Own.belowAll B.out (b6))
    | replace B := Lib.hid (Grows.next B.out (b6))
  first
    | replace HX := Lib.hid (Loc.At.belowAll HX.out (b6))
    | replace HX := Lib.hid (nextB HX.out (b6))
    | replace HX := Lib.hid (Boxed.keep HX.out (b6))
    | replace HX := Lib.hid (Dat.belowAll HX.out (b6))
    | replace HX := Lib.hid (Fr.belowAll HX.out (b6))
    | replace HX := Lib.hid (Own.belowAll HX.out (b6))
    | replace HX := Lib.hid (Grows.next HX.out (b6))
  first
    | replace AV := Lib.hid (Loc.At.belowAll AV.out (b6))
    | replace AV := Lib.hid (nextB AV.out (b6))
    | replace AV := Lib.hid (Boxed.keep AV.out (b6))
    | replace AV := Lib.hid (Dat.belowAll AV.out (b6))
    | replace AV := Lib.hid (Fr.belowAll AV.out (b6))
    | replace AV := Lib.hid (Own.belowAll AV.out (b6))
    | replace AV := Lib.hid (Grows.next AV.out (b6))
  first
    | replace AZ := Lib.hid (Loc.At.belowAll AZ.out (b6))
    | replace AZ := Lib.hid (nextB AZ.out (b6))
    | replace AZ := Lib.hid (Boxed.keep AZ.out (b6))
    | replace AZ := Lib.hid (Dat.belowAll AZ.out (b6))
    | replace AZ := Lib.hid (Fr.belowAll AZ.out (b6))
    | replace AZ := Lib.hid (Own.belowAll AZ.out (b6))
    | replace AZ := Lib.hid (Grows.next AZ.out (b6))
  first
    | replace FZ := Lib.hid (Loc.At.belowAll FZ.out (b6))
    | replace FZ := Lib.hid (nextB FZ.out (b6))
    | replace FZ := Lib.hid (Boxed.keep FZ.out (b6))
    | replace FZ := Lib.hid (Dat.belowAll FZ.out (b6))
    | replace FZ := Lib.hid (Fr.belowAll FZ.out (b6))
    | replace FZ := Lib.hid (Own.belowAll FZ.out (b6))
    | replace FZ := Lib.hid (Grows.next FZ.out (b6))
  first
    | replace AG := Lib.hid (Loc.At.belowAll AG.out (b6))
    | replace AG := Lib.hid (nextB AG.out (b6))
    | replace AG := Lib.hid (Boxed.keep AG.out (b6))
    | replace AG := Lib.hid (Dat.belowAll AG.out (b6))
    | replace AG := Lib.hid (Fr.belowAll AG.out (b6))
    | replace AG := Lib.hid (Own.belowAll AG.out (b6))
    | replace AG := Lib.hid (Grows.next AG.out (b6))
  first
    | replace FG := Lib.hid (Loc.At.belowAll FG.out (b6))
    | replace FG := Lib.hid (nextB FG.out (b6))
    | replace FG := Lib.hid (Boxed.keep FG.out (b6))
    | replace FG := Lib.hid (Dat.belowAll FG.out (b6))
    | replace FG := Lib.hid (Fr.belowAll FG.out (b6))
    | replace FG := Lib.hid (Own.belowAll FG.out (b6))
    | replace FG := Lib.hid (Grows.next FG.out (b6))
  clear b6 hq
  go_wp2_with fail
  refine (toFileS_any x w6 HX.out HM.out).mono ?_
  rintro e w7 ⟨t, rfl, ht, htA, -, b7⟩
  first
    | replace B := Lib.hid (Loc.At.belowAll B.out (b7))
    | replace B := Lib.hid (nextB B.out (b7))
    | replace B := Lib.hid (Boxed.keep B.out (b7))
    | replace B := Lib.hid (Dat.belowAll B.out (b7))
    | replace B := Lib.hid (Fr.belowAll B.out (b7))
    | replace B := Lib.hid (Own.belowAll B.out (b7))
    | replace B := Lib.hid (Grows.next B.out (b7))
  first
    | replace HX := Lib.hid (Loc.At.belowAll HX.out (b7))
    | replace HX := Lib.hid (nextB HX.out (b7))
    | replace HX := Lib.hid (Boxed.keep HX.out (b7))
    | replace HX := Lib.hid (Dat.belowAll HX.out (b7))
    | replace HX := Lib.hid (Fr.belowAll HX.out (b7))
    | replace HX := Lib.hid (Own.belowAll HX.out (b7))
    | replace HX := Lib.hid (Grows.next HX.out (b7))
  first
    | replace AV := Lib.hid (Loc.At.belowAll AV.out (b7))
    | replace AV := Lib.hid (nextB AV.out (b7))
    | replace AV := Lib.hid (Boxed.keep AV.out (b7))
    | replace AV := Lib.hid (Dat.belowAll AV.out (b7))
    | replace AV := Lib.hid (Fr.belowAll AV.out (b7))
    | replace AV := Lib.hid (Own.belowAll AV.out (b7))
    | replace AV := Lib.hid (Grows.next AV.out (b7))
  first
    | replace AZ := Lib.hid (Loc.At.belowAll AZ.out (b7))
    | replace AZ := Lib.hid (nextB AZ.out (b7))
    | replace AZ := Lib.hid (Boxed.keep AZ.out (b7))
    | replace AZ := Lib.hid (Dat.belowAll AZ.out (b7))
    | replace AZ := Lib.hid (Fr.belowAll AZ.out (b7))
    | replace AZ := Lib.hid (Own.belowAll AZ.out (b7))
    | replace AZ := Lib.hid (Grows.next AZ.out (b7))
  first
    | replace FZ := Lib.hid (Loc.At.belowAll FZ.out (b7))
    | replace FZ := Lib.hid (nextB FZ.out (b7))
    | replace FZ := Lib.hid (Boxed.keep FZ.out (b7))
    | replace FZ := Lib.hid (Dat.belowAll FZ.out (b7))
    | replace FZ := Lib.hid (Fr.belowAll FZ.out (b7))
    | replace FZ := Lib.hid (Own.belowAll FZ.out (b7))
    | replace FZ := Lib.hid (Grows.next FZ.out (b7))
  first
    | replace AG := Lib.hid (Loc.At.belowAll AG.out (b7))
    | replace AG := Lib.hid (nextB AG.out (b7))
    | replace AG := Lib.hid (Boxed.keep AG.out (b7))
    | replace AG := Lib.hid (Dat.belowAll AG.out (b7))
    | replace AG := Lib.hid (Fr.belowAll AG.out (b7))
    | replace AG := Lib.hid (Own.belowAll AG.out (b7))
    | replace AG := Lib.hid (Grows.next AG.out (b7))
  first
    | replace FG := Lib.hid (Loc.At.belowAll FG.out (b7))
    | replace FG := Lib.hid (nextB FG.out (b7))
    | replace FG := Lib.hid (Boxed.keep FG.out (b7))
    | replace FG := Lib.hid (Dat.belowAll FG.out (b7))
    | replace FG := Lib.hid (Fr.belowAll FG.out (b7))
    | replace FG := Lib.hid (Own.belowAll FG.out (b7))
    | replace FG := Lib.hid (Grows.next FG.out (b7))
  have HT := Lib.hid (show t.xs.map LFile.er = x.xs.map LFile.er from ht)
  have AT := Lib.hid htA
  clear b7 ht htA
  go_wp2_with fail
  refine (eqFileS_any z t w7 AZ.out AT.out).mono ?_
  rintro e w8 ⟨⟨q, rfl, hq⟩, b8⟩
  obtain rfl : q = true := hq.2 (HZE.out.trans HT.out.symm)
  first
    | replace B := Lib.hid (Loc.At.belowAll B.out (b8))
    | replace B := Lib.hid (nextB B.out (b8))
    | replace B := Lib.hid (Boxed.keep B.out (b8))
    | replace B := Lib.hid (Dat.belowAll B.out (b8))
    | replace B := Lib.hid (Fr.belowAll B.out (b8))
    | replace B := Lib.hid (Own.belowAll B.out (b8))
    | replace B := Lib.hid (Grows.next B.out (b8))
  first
    | replace HX := Lib.hid (Loc.At.belowAll HX.out (b8))
    | replace HX := Lib.hid (nextB HX.out (b8))
    | replace HX := Lib.hid (Boxed.keep HX.out (b8))
    | replace HX := Lib.hid (Dat.belowAll HX.out (b8))
    | replace HX := Lib.hid (Fr.belowAll HX.out (b8))
    | replace HX := Lib.hid (Own.belowAll HX.out (b8))
    | replace HX := Lib.hid (Grows.next HX.out (b8))
  first
    | replace AV := Lib.hid (Loc.At.belowAll AV.out (b8))
    | replace AV := Lib.hid (nextB AV.out (b8))
    | replace AV := Lib.hid (Boxed.keep AV.out (b8))
    | replace AV := Lib.hid (Dat.belowAll AV.out (b8))
    | replace AV := Lib.hid (Fr.belowAll AV.out (b8))
    | replace AV := Lib.hid (Own.belowAll AV.out (b8))
    | replace AV := Lib.hid (Grows.next AV.out (b8))
  first
    | replace AZ := Lib.hid (Loc.At.belowAll AZ.out (b8))
    | replace AZ := Lib.hid (nextB AZ.out (b8))
    | replace AZ := Lib.hid (Boxed.keep AZ.out (b8))
    | replace AZ := Lib.hid (Dat.belowAll AZ.out (b8))
    | replace AZ := Lib.hid (Fr.belowAll AZ.out (b8))
    | replace AZ := Lib.hid (Own.belowAll AZ.out (b8))
    | replace AZ := Lib.hid (Grows.next AZ.out (b8))
  first
    | replace FZ := Lib.hid (Loc.At.belowAll FZ.out (b8))
    | replace FZ := Lib.hid (nextB FZ.out (b8))
    | replace FZ := Lib.hid (Boxed.keep FZ.out (b8))
    | replace FZ := Lib.hid (Dat.belowAll FZ.out (b8))
    | replace FZ := Lib.hid (Fr.belowAll FZ.out (b8))
    | replace FZ := Lib.hid (Own.belowAll FZ.out (b8))
    | replace FZ := Lib.hid (Grows.next FZ.out (b8))
  first
    | replace AG := Lib.hid (Loc.At.belowAll AG.out (b8))
    | replace AG := Lib.hid (nextB AG.out (b8))
    | replace AG := Lib.hid (Boxed.keep AG.out (b8))
    | replace AG := Lib.hid (Dat.belowAll AG.out (b8))
    | replace AG := Lib.hid (Fr.belowAll AG.out (b8))
    | replace AG := Lib.hid (Own.belowAll AG.out (b8))
    | replace AG := Lib.hid (Grows.next AG.out (b8))
  first
    | replace FG := Lib.hid (Loc.At.belowAll FG.out (b8))
    | replace FG := Lib.hid (nextB FG.out (b8))
    | replace FG := Lib.hid (Boxed.keep FG.out (b8))
    | replace FG := Lib.hid (Dat.belowAll FG.out (b8))
    | replace FG := Lib.hid (Fr.belowAll FG.out (b8))
    | replace FG := Lib.hid (Own.belowAll FG.out (b8))
    | replace FG := Lib.hid (Grows.next FG.out (b8))
  clear b8 hq HT AT
  have hm0 := markFileS_any z 1 w.heap.size w8 AZ.out (FZ.out.mono S3.out) (Nat.le_refl _) (by rw [HZE.out]; have := HLX.out; omega)
  rw [HZE.out] at hm0
  have HM0 := Lib.hid hm0
  have hmb : 1 + lenF (x.xs.map LFile.er) ≤ 1099511627776 := by have := HLX.out; omega
  generalize hke : 1 + lenF (x.xs.map LFile.er) = kk at *
  clear hm0 hke
  go_wp2_with fail
  refine HM0.out.mono ?_
  rintro e w9 ⟨zs, rfl, -, -, -, -, hT⟩
  replace B := Lib.hid (B.out.trans (hT.below B.out.size (fun b hb => by have := FZ.out.ge b hb; have := S3.out; omega)))
  replace HX := Lib.hid (hT.keepLoc HX.out (fun b hb hb2 => by have := LX0.out b hb; have := FZ.out.ge b hb2; have := S3.out; omega))
  replace AV := Lib.hid (hT.keepLoc AV.out (fun b hb hb2 => by have := LV.out b hb; have := FZ.out.ge b hb2; omega))
  replace AG := Lib.hid (hT.keepLoc AG.out (fun b hb hb2 => by have := FG.out.ge b hb; have := LZ.out b hb2; omega))
  replace FG := Lib.hid (hT.keepFr FG.out (fun b hb hb2 => by have := FG.out.ge b hb; have := LZ.out b hb2; omega))
  clear hT AZ FZ HM0
  have hkn : ¬ ((kk : Nat) : Int) < 0 := by omega
  have hkd : decide (((kk : Nat) : Int) < 0) = false := decide_eq_false hkn
  go_wp2_with fail
  refine (eqFileS_any g v w9 AG.out AV.out).mono ?_
  rintro e w10 ⟨⟨q, rfl, hq⟩, b10⟩
  obtain rfl : q = true := hq.2 (HG.out.trans HV.out.symm)
  first
    | replace B := Lib.hid (Loc.At.belowAll B.out (b10))
    | replace B := Lib.hid (nextB B.out (b10))
    | replace B := Lib.hid (Boxed.keep B.out (b10))
    | replace B := Lib.hid (Dat.belowAll B.out (b10))
    | replace B := Lib.hid (Fr.belowAll B.out (b10))
    | replace B := Lib.hid (Own.belowAll B.out (b10))
    | replace B := Lib.hid (Grows.next B.out (b10))
  first
    | replace HX := Lib.hid (Loc.At.belowAll HX.out (b10))
    | replace HX := Lib.hid (nextB HX.out (b10))
    | replace HX := Lib.hid (Boxed.keep HX.out (b10))
    | replace HX := Lib.hid (Dat.belowAll HX.out (b10))
    | replace HX := Lib.hid (Fr.belowAll HX.out (b10))
    | replace HX := Lib.hid (Own.belowAll HX.out (b10))
    | replace HX := Lib.hid (Grows.next HX.out (b10))
  first
    | replace AV := Lib.hid (Loc.At.belowAll AV.out (b10))
    | replace AV := Lib.hid (nextB AV.out (b10))
    | replace AV := Lib.hid (Boxed.keep AV.out (b10))
    | replace AV := Lib.hid (Dat.belowAll AV.out (b10))
    | replace AV := Lib.hid (Fr.belowAll AV.out (b10))
    | replace AV := Lib.hid (Own.belowAll AV.out (b10))
    | replace AV := Lib.hid (Grows.next AV.out (b10))
  first
    | replace AG := Lib.hid (Loc.At.belowAll AG.out (b10))
    | replace AG := Lib.hid (nextB AG.out (b10))
    | replace AG := Lib.hid (Boxed.keep AG.out (b10))
    | replace AG := Lib.hid (Dat.belowAll AG.out (b10))
    | replace AG := Lib.hid (Fr.belowAll AG.out (b10))
    | replace AG := Lib.hid (Own.belowAll AG.out (b10))
    | replace AG := Lib.hid (Grows.next AG.out (b10))
  first
    | replace FG := Lib.hid (Loc.At.belowAll FG.out (b10))
    | replace FG := Lib.hid (nextB FG.out (b10))
    | replace FG := Lib.hid (Boxed.keep FG.out (b10))
    | replace FG := Lib.hid (Dat.belowAll FG.out (b10))
    | replace FG := Lib.hid (Fr.belowAll FG.out (b10))
    | replace FG := Lib.hid (Own.belowAll FG.out (b10))
    | replace FG := Lib.hid (Grows.next FG.out (b10))
  clear b10 hq hkn hkd hmb
  have hmg := markFileS_any g 1 w.heap.size w10 AG.out (FG.out.mono S4.out) (Nat.le_refl _) (by rw [HG.out]; have := HZL.out; omega)
  rw [HG.out] at hmg
  have HMG := Lib.hid hmg
  generalize hme : 1 + lenF Z = mm at *
  have hmm : mm ≤ 500 := by have := HZL.out; omega
  have HME := Lib.hid hme
  clear hmg hme
  go_wp2_with fail
  refine HMG.out.mono ?_
  rintro e w11 ⟨gs, rfl, hgs, hgf, hgA, -, hT⟩
  replace B := Lib.hid (B.out.trans (hT.below B.out.size (fun b hb => by have := FG.out.ge b hb; have := S4.out; omega)))
  replace HX := Lib.hid (hT.keepLoc HX.out (fun b hb hb2 => by have := LX0.out b hb; have := FG.out.ge b hb2; have := S4.out; omega))
  replace AV := Lib.hid (hT.keepLoc AV.out (fun b hb hb2 => by have := LV.out b hb; have := FG.out.ge b hb2; have := S34.out; omega))
  have HGA := Lib.hid hgA
  have HVAL : Hid ((g.re gs).val = g.val) := Lib.hid (by
    have := congrArg List.length hgf
    simp only [List.length_map] at this
    simp only [Loc.val, Loc.re, this])
  have HH : Hid (∀ W, (g.re gs).At W → Calls Tryz.prog 16 #[g.val, .int .i64 1] W fun e w' => e = .returned (.int .i64 (mm : Int)) ∧ Below W.heap.size W w') := Lib.hid (fun W hW => by
    have h := markF_held (x := g) (Z := Z) HVAL.out hW hgs (by have := HZL.out; omega)
    rw [HME.out] at h
    exact h)
  clear hT hgs hgf hgA AG FG HMG
  have hmn : ¬ ((mm : Nat) : Int) < 0 := by omega
  have hmne : (((mm : Nat) : Int) != ((mm : Nat) : Int)) = false := by simp
  go_wp2_with fail
  refine (HH.out w11 HGA.out).mono ?_
  rintro e w12 ⟨rfl, b12⟩
  first
    | replace B := Lib.hid (Loc.At.belowAll B.out (b12))
    | replace B := Lib.hid (nextB B.out (b12))
    | replace B := Lib.hid (Boxed.keep B.out (b12))
    | replace B := Lib.hid (Dat.belowAll B.out (b12))
    | replace B := Lib.hid (Fr.belowAll B.out (b12))
    | replace B := Lib.hid (Own.belowAll B.out (b12))
    | replace B := Lib.hid (Grows.next B.out (b12))
  first
    | replace HX := Lib.hid (Loc.At.belowAll HX.out (b12))
    | replace HX := Lib.hid (nextB HX.out (b12))
    | replace HX := Lib.hid (Boxed.keep HX.out (b12))
    | replace HX := Lib.hid (Dat.belowAll HX.out (b12))
    | replace HX := Lib.hid (Fr.belowAll HX.out (b12))
    | replace HX := Lib.hid (Own.belowAll HX.out (b12))
    | replace HX := Lib.hid (Grows.next HX.out (b12))
  first
    | replace AV := Lib.hid (Loc.At.belowAll AV.out (b12))
    | replace AV := Lib.hid (nextB AV.out (b12))
    | replace AV := Lib.hid (Boxed.keep AV.out (b12))
    | replace AV := Lib.hid (Dat.belowAll AV.out (b12))
    | replace AV := Lib.hid (Fr.belowAll AV.out (b12))
    | replace AV := Lib.hid (Own.belowAll AV.out (b12))
    | replace AV := Lib.hid (Grows.next AV.out (b12))
  first
    | replace HGA := Lib.hid (Loc.At.belowAll HGA.out (b12))
    | replace HGA := Lib.hid (nextB HGA.out (b12))
    | replace HGA := Lib.hid (Boxed.keep HGA.out (b12))
    | replace HGA := Lib.hid (Dat.belowAll HGA.out (b12))
    | replace HGA := Lib.hid (Fr.belowAll HGA.out (b12))
    | replace HGA := Lib.hid (Own.belowAll HGA.out (b12))
    | replace HGA := Lib.hid (Grows.next HGA.out (b12))
  clear b12
  go_wp2_with fail
  refine (toFileS_any x w12 HX.out HM.out).mono ?_
  rintro e w13 ⟨u, rfl, hu, huA, -, b13⟩
  first
    | replace B := Lib.hid (Loc.At.belowAll B.out (b13))
    | replace B := Lib.hid (nextB B.out (b13))
    | replace B := Lib.hid (Boxed.keep B.out (b13))
    | replace B := Lib.hid (Dat.belowAll B.out (b13))
    | replace B := Lib.hid (Fr.belowAll B.out (b13))
    | replace B := Lib.hid (Own.belowAll B.out (b13))
    | replace B := Lib.hid (Grows.next B.out (b13))
  first
    | replace AV := Lib.hid (Loc.At.belowAll AV.out (b13))
    | replace AV := Lib.hid (nextB AV.out (b13))
    | replace AV := Lib.hid (Boxed.keep AV.out (b13))
    | replace AV := Lib.hid (Dat.belowAll AV.out (b13))
    | replace AV := Lib.hid (Fr.belowAll AV.out (b13))
    | replace AV := Lib.hid (Own.belowAll AV.out (b13))
    | replace AV := Lib.hid (Grows.next AV.out (b13))
  first
    | replace HGA := Lib.hid (Loc.At.belowAll HGA.out (b13))
    | replace HGA := Lib.hid (nextB HGA.out (b13))
    | replace HGA := Lib.hid (Boxed.keep HGA.out (b13))
    | replace HGA := Lib.hid (Dat.belowAll HGA.out (b13))
    | replace HGA := Lib.hid (Fr.belowAll HGA.out (b13))
    | replace HGA := Lib.hid (Own.belowAll HGA.out (b13))
    | replace HGA := Lib.hid (Grows.next HGA.out (b13))
  have HU := Lib.hid (show u.xs.map LFile.er = x.xs.map LFile.er from hu)
  have AU := Lib.hid huA
  clear b13 hu huA HX
  go_wp2_with fail
  refine (iTreeWrite_any u site n gone txt w13 AU.out HS.out HN.out HTX.out).mono ?_
  rw [HU.out, HZ.out]
  rintro e w14 ⟨h, rfl, hh, hhA, -, b14⟩
  first
    | replace B := Lib.hid (Loc.At.belowAll B.out (b14))
    | replace B := Lib.hid (nextB B.out (b14))
    | replace B := Lib.hid (Boxed.keep B.out (b14))
    | replace B := Lib.hid (Dat.belowAll B.out (b14))
    | replace B := Lib.hid (Fr.belowAll B.out (b14))
    | replace B := Lib.hid (Own.belowAll B.out (b14))
    | replace B := Lib.hid (Grows.next B.out (b14))
  first
    | replace AV := Lib.hid (Loc.At.belowAll AV.out (b14))
    | replace AV := Lib.hid (nextB AV.out (b14))
    | replace AV := Lib.hid (Boxed.keep AV.out (b14))
    | replace AV := Lib.hid (Dat.belowAll AV.out (b14))
    | replace AV := Lib.hid (Fr.belowAll AV.out (b14))
    | replace AV := Lib.hid (Own.belowAll AV.out (b14))
    | replace AV := Lib.hid (Grows.next AV.out (b14))
  first
    | replace HGA := Lib.hid (Loc.At.belowAll HGA.out (b14))
    | replace HGA := Lib.hid (nextB HGA.out (b14))
    | replace HGA := Lib.hid (Boxed.keep HGA.out (b14))
    | replace HGA := Lib.hid (Dat.belowAll HGA.out (b14))
    | replace HGA := Lib.hid (Fr.belowAll HGA.out (b14))
    | replace HGA := Lib.hid (Own.belowAll HGA.out (b14))
    | replace HGA := Lib.hid (Grows.next HGA.out (b14))
  have HHE := Lib.hid (show h.xs.map LFile.er = Z from hh)
  have HHA := Lib.hid hhA
  clear b14 hh hhA AU
  go_wp2_with fail
  refine (eqFileS_any h v w14 HHA.out AV.out).mono ?_
  rintro e w15 ⟨⟨q, rfl, hq⟩, b15⟩
  obtain rfl : q = true := hq.2 (HHE.out.trans HV.out.symm)
  first
    | replace B := Lib.hid (Loc.At.belowAll B.out (b15))
    | replace B := Lib.hid (nextB B.out (b15))
    | replace B := Lib.hid (Boxed.keep B.out (b15))
    | replace B := Lib.hid (Dat.belowAll B.out (b15))
    | replace B := Lib.hid (Fr.belowAll B.out (b15))
    | replace B := Lib.hid (Own.belowAll B.out (b15))
    | replace B := Lib.hid (Grows.next B.out (b15))
  first
    | replace HGA := Lib.hid (Loc.At.belowAll HGA.out (b15))
    | replace HGA := Lib.hid (nextB HGA.out (b15))
    | replace HGA := Lib.hid (Boxed.keep HGA.out (b15))
    | replace HGA := Lib.hid (Dat.belowAll HGA.out (b15))
    | replace HGA := Lib.hid (Fr.belowAll HGA.out (b15))
    | replace HGA := Lib.hid (Own.belowAll HGA.out (b15))
    | replace HGA := Lib.hid (Grows.next HGA.out (b15))
  clear b15 hq AV
  go_wp2_with fail
  refine (HH.out w15 HGA.out).mono ?_
  rintro e w16 ⟨rfl, b16⟩
  first
    | replace B := Lib.hid (Loc.At.belowAll B.out (b16))
    | replace B := Lib.hid (nextB B.out (b16))
    | replace B := Lib.hid (Boxed.keep B.out (b16))
    | replace B := Lib.hid (Dat.belowAll B.out (b16))
    | replace B := Lib.hid (Fr.belowAll B.out (b16))
    | replace B := Lib.hid (Own.belowAll B.out (b16))
    | replace B := Lib.hid (Grows.next B.out (b16))
  clear b16 HGA
  go_wp2_with fail
  go_ret
  exact ⟨rfl, B.out⟩
end Go.Proofs.YtdidkfadiaafiaaGreatDoor
