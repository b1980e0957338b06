/- Writing to a tree: the reference's l3Write, TreeWrite. Writing to a tree: the program's TreeWrite. -/
import Derived.Test.YtdidkfadiaafiaaGreatDoorTreePut
import Derived.Test.YtdidkfadiaafiaaGreatDoorVvOps
import Derived.Test.YtdidkfadiaafiaaGreatDoorSpec4
import Derived.Test.YtdidkfadiaafiaaGreatDoorPutFile
namespace Go.Proofs.YtdidkfadiaafiaaGreatDoor
open Go Go.RowKit

def TreeP (w : World) (Z : List File × Bool) (e : Ending) (w' : World) : Prop :=
  ∃ y : Loc LFile, e = .returned (.tuple #[y.val, .bool Z.2]) ∧ y.xs.map LFile.er = Z.1 ∧ y.At w' ∧ Below w.heap.size w w'
def TreePF (w : World) (Z : List File × Bool) (e : Ending) (w' : World) : Prop :=
  ∃ y : Loc LFile, e = .returned (.tuple #[y.val, .bool Z.2]) ∧ y.xs.map LFile.er = Z.1 ∧ y.At w' ∧ Fr w.heap.size w' y.fp ∧ Below w.heap.size w w'
theorem TreePF.post {w : World} {Z : List File × Bool} {e : Ending} {w' : World} : TreePF w Z e w' → TreeP w Z e w' := fun ⟨y, h1, h2, h3, _, h5⟩ => ⟨y, h1, h2, h3, h5⟩
noncomputable def writeL (t : List File) (site : Int) (n : ByteArray) (g : Bool) (s : ByteArray) : List File × Bool := if writeOK t site n g s then (writeT t site n g s, true) else (t, false)
theorem writeL_no {t : List File} {site : Int} {n : ByteArray} {g : Bool} {s : ByteArray} (h : writeOK t site n g s = false) : writeL t site n g s = (t, false) := by unfold writeL; rw [h]; rfl
theorem writeL_yes {t : List File} {site : Int} {n : ByteArray} {g : Bool} {s : ByteArray} (h : writeOK t site n g s = true) : writeL t site n g s = (writeT t site n g s, true) := by unfold writeL; rw [h]; rfl
theorem tpLoc_er {x : List LFile} {f : LFile} (h : NAsc (x.map LFile.er)) : (tpL LFile.name f x).map LFile.er = tput f.er (x.map LFile.er) := by
  rw [← tpL_tput h]
  exact tpL_map LFile.er File.name f x

set_option maxRecDepth 100000 in
set_option maxHeartbeats 2000000 in
theorem l3Write_any (x : Loc LFile) (site : Int) (n : ByteArray) (g : Bool) (s : ByteArray) (w : World) (hx : x.At w) (ht : TreeOK (x.xs.map LFile.er)) (hsite : -9223372036854775808 ≤ site ∧ site ≤ 9223372036854775807) (hn : n.size ≤ maxLen) (hs : s.size ≤ maxLen) :
    Calls Tryz.prog 30 #[x.val, .int .i64 site, .string n, .bool g, .string s] w (TreeP w (writeL (x.xs.map LFile.er) site n g s)) := by
  have HS := Lib.hid hsite
  have HN := Lib.hid hn
  have HST := Lib.hid hs
  have HT := Lib.hid ht
  have AX := Lib.hid hx
  have hc0 := Lib.hid (sl3At_any x n w hx)
  have HAE := Lib.hid (atLoc_er n x.xs)
  have HAO := Lib.hid (atL_ok ht n)
  obtain ⟨xa, xc, xs⟩ := x
  clear hx ht hsite hn hs
  simp only [Loc.val] at hc0 ⊢
  simp only at HT HAE HAO
  obtain ⟨T, hT⟩ : ∃ T, xs.map LFile.er = T := ⟨_, rfl⟩
  have HTE := Lib.hid hT
  rw [hT] at HT HAE HAO ⊢
  clear hT
  go_enter Tryz.func30, Tryz.ntmps30
  go_wp2_with fail
  refine hc0.out.mono ?_
  rintro e w1 ⟨y, rfl, hyx, hyA, b1⟩
  have B := Lib.hid b1
  have HYE := Lib.hid (show y.xs.map LSib.er = atL n T by rw [hyx]; exact HAE.out)
  have AY := Lib.hid hyA
  first
    | replace AX := Lib.hid (Loc.At.belowAll AX.out (b1))
    | replace AX := Lib.hid (nextB AX.out (b1))
    | replace AX := Lib.hid (Boxed.keep AX.out (b1))
    | replace AX := Lib.hid (Dat.belowAll AX.out (b1))
    | replace AX := Lib.hid (Fr.belowAll AX.out (b1))
    | replace AX := Lib.hid (Own.belowAll AX.out (b1))
    | replace AX := Lib.hid (Grows.next AX.out (b1))
  clear b1 hyx hyA hc0
  go_wp2_with fail
  refine (sl2Vv_any y w1 AY.out (by rw [HYE.out]; exact HAO.out)).mono ?_
  rintro e w2 ⟨v, rfl, hv, hvA, -, b2⟩
  have HVE := Lib.hid (show v.xs = vvOf (atL n T) by rw [hv, HYE.out])
  have AV := Lib.hid hvA
  first
    | replace B := Lib.hid (Loc.At.belowAll B.out (b2))
    | replace B := Lib.hid (nextB B.out (b2))
    | replace B := Lib.hid (Boxed.keep B.out (b2))
    | replace B := Lib.hid (Dat.belowAll B.out (b2))
    | replace B := Lib.hid (Fr.belowAll B.out (b2))
    | replace B := Lib.hid (Own.belowAll B.out (b2))
    | replace B := Lib.hid (Grows.next B.out (b2))
  first
    | replace AX := Lib.hid (Loc.At.belowAll AX.out (b2))
    | replace AX := Lib.hid (nextB AX.out (b2))
    | replace AX := Lib.hid (Boxed.keep AX.out (b2))
    | replace AX := Lib.hid (Dat.belowAll AX.out (b2))
    | replace AX := Lib.hid (Fr.belowAll AX.out (b2))
    | replace AX := Lib.hid (Own.belowAll AX.out (b2))
    | replace AX := Lib.hid (Grows.next AX.out (b2))
  clear b2 hv hvA
  go_wp2_with fail
  refine (sVvNext_any v site w2 AV.out HS.out).mono ?_
  rintro e w3 ⟨⟨qa, qc, qs⟩, rfl, hq, hqA, -, b3⟩
  rw [HVE.out] at hq
  rw [HVE.out]
  have HQ := Lib.hid hq
  have AQ := Lib.hid hqA
  first
    | replace B := Lib.hid (Loc.At.belowAll B.out (b3))
    | replace B := Lib.hid (nextB B.out (b3))
    | replace B := Lib.hid (Boxed.keep B.out (b3))
    | replace B := Lib.hid (Dat.belowAll B.out (b3))
    | replace B := Lib.hid (Fr.belowAll B.out (b3))
    | replace B := Lib.hid (Own.belowAll B.out (b3))
    | replace B := Lib.hid (Grows.next B.out (b3))
  first
    | replace AX := Lib.hid (Loc.At.belowAll AX.out (b3))
    | replace AX := Lib.hid (nextB AX.out (b3))
    | replace AX := Lib.hid (Boxed.keep AX.out (b3))
    | replace AX := Lib.hid (Dat.belowAll AX.out (b3))
    | replace AX := Lib.hid (Fr.belowAll AX.out (b3))
    | replace AX := Lib.hid (Own.belowAll AX.out (b3))
    | replace AX := Lib.hid (Grows.next AX.out (b3))
  clear b3 hq hqA AY AV
  obtain ⟨ya, yc, ys⟩ := y
  simp only [Loc.val]
  have b4 : Below w3.heap.size w3 (w3.alloc (Obj.cells #[.slice qa qs.length qc, .bool g, .string s] 42)) := (Below.refl _ _).alloc (Nat.le_refl _) _
  have BX := Lib.hid (Boxed.new w3 #[.slice qa qs.length qc, .bool g, .string s] 42)
  first
    | replace B := Lib.hid (Loc.At.belowAll B.out (b4))
    | replace B := Lib.hid (nextB B.out (b4))
    | replace B := Lib.hid (Boxed.keep B.out (b4))
    | replace B := Lib.hid (Dat.belowAll B.out (b4))
    | replace B := Lib.hid (Fr.belowAll B.out (b4))
    | replace B := Lib.hid (Own.belowAll B.out (b4))
    | replace B := Lib.hid (Grows.next B.out (b4))
  first
    | replace AX := Lib.hid (Loc.At.belowAll AX.out (b4))
    | replace AX := Lib.hid (nextB AX.out (b4))
    | replace AX := Lib.hid (Boxed.keep AX.out (b4))
    | replace AX := Lib.hid (Dat.belowAll AX.out (b4))
    | replace AX := Lib.hid (Fr.belowAll AX.out (b4))
    | replace AX := Lib.hid (Own.belowAll AX.out (b4))
    | replace AX := Lib.hid (Grows.next AX.out (b4))
  first
    | replace AQ := Lib.hid (Loc.At.belowAll AQ.out (b4))
    | replace AQ := Lib.hid (nextB AQ.out (b4))
    | replace AQ := Lib.hid (Boxed.keep AQ.out (b4))
    | replace AQ := Lib.hid (Dat.belowAll AQ.out (b4))
    | replace AQ := Lib.hid (Fr.belowAll AQ.out (b4))
    | replace AQ := Lib.hid (Own.belowAll AQ.out (b4))
    | replace AQ := Lib.hid (Grows.next AQ.out (b4))
  cases hok : nextOK (vvOf (atL n T)) site with
  | false =>
    have HNO : Hid (writeOK T site n g s = false) := Lib.hid (by simp [writeOK, hok])
    clear hok b4
    go_wp2_with fail
    refine bodyPost_ret (v := .tuple #[.slice xa xs.length xc, .bool false]) ?_ rfl ⟨⟨xa, xc, xs⟩, by rw [writeL_no HNO.out]; rfl, by rw [writeL_no HNO.out]; exact HTE.out, AX.out, B.out⟩
    simp only [results, Tryz.results30]
    go_simp
  | true =>
    have HQE := Lib.hid (show qs = nextV (vvOf (atL n T)) site from HQ.out hok)
    have HOK := Lib.hid hok
    clear hok b4 HQ
    go_wp2_with fail
    generalize w3.alloc (Obj.cells #[.slice qa qs.length qc, .bool g, .string s] 42) = w4 at *
    generalize w3.heap.size = p at *
    refine (sl3Name_any n w4 HN.out).mono ?_
    rintro e w5 ⟨rfl, rfl⟩
    cases hnm : nameB n with
    | false =>
      have HNO : Hid (writeOK T site n g s = false) := Lib.hid (by simp [writeOK, hnm])
      clear hnm
      go_wp2_with fail
      refine bodyPost_ret (v := .tuple #[.slice xa xs.length xc, .bool false]) ?_ rfl ⟨⟨xa, xc, xs⟩, by rw [writeL_no HNO.out]; rfl, by rw [writeL_no HNO.out]; exact HTE.out, AX.out, B.out⟩
      simp only [results, Tryz.results30]
      go_simp
    | true =>
      have HNM := Lib.hid hnm
      clear hnm
      have hp0 := BX.out.2 0 _ rfl
      have hp1 := BX.out.2 1 _ rfl
      have hp2 := BX.out.2 2 _ rfl
      go_wp2_with fail
      refine (sSibOk_any ⟨⟨qa, qc, qs⟩, g, s⟩ w4 ⟨AQ.out, HST.out⟩).mono ?_
      have hse : LSib.er ⟨⟨qa, qc, qs⟩, g, s⟩ = newSib T site n g s := by simp only [LSib.er, newSib, HQE.out]
      rw [hse]
      have HSE := Lib.hid hse
      clear hse hp0 hp1 hp2
      rintro e w5 ⟨rfl, b5⟩
      first
        | replace B := Lib.hid (Loc.At.belowAll B.out (b5))
        | replace B := Lib.hid (nextB B.out (b5))
        | replace B := Lib.hid (Boxed.keep B.out (b5))
        | replace B := Lib.hid (Dat.belowAll B.out (b5))
        | replace B := Lib.hid (Fr.belowAll B.out (b5))
        | replace B := Lib.hid (Own.belowAll B.out (b5))
        | replace B := Lib.hid (Grows.next B.out (b5))
      first
        | replace AX := Lib.hid (Loc.At.belowAll AX.out (b5))
        | replace AX := Lib.hid (nextB AX.out (b5))
        | replace AX := Lib.hid (Boxed.keep AX.out (b5))
        | replace AX := Lib.hid (Dat.belowAll AX.out (b5))
        | replace AX := Lib.hid (Fr.belowAll AX.out (b5))
        | replace AX := Lib.hid (Own.belowAll AX.out (b5))
        | replace AX := Lib.hid (Grows.next AX.out (b5))
      first
        | replace AQ := Lib.hid (Loc.At.belowAll AQ.out (b5))
        | replace AQ := Lib.hid (nextB AQ.out (b5))
        | replace AQ := Lib.hid (Boxed.keep AQ.out (b5))
        | replace AQ := Lib.hid (Dat.belowAll AQ.out (b5))
        | replace AQ := Lib.hid (Fr.belowAll AQ.out (b5))
        | replace AQ := Lib.hid (Own.belowAll AQ.out (b5))
        | replace AQ := Lib.hid (Grows.next AQ.out (b5))
      first
        | replace BX := Lib.hid (Loc.At.belowAll BX.out (b5))
        | replace BX := Lib.hid (nextB BX.out (b5))
        | replace BX := Lib.hid (Boxed.keep BX.out (b5))
        | replace BX := Lib.hid (Dat.belowAll BX.out (b5))
        | replace BX := Lib.hid (Fr.belowAll BX.out (b5))
        | replace BX := Lib.hid (Own.belowAll BX.out (b5))
        | replace BX := Lib.hid (Grows.next BX.out (b5))
      clear b5
      cases hsb : sibB (newSib T site n g s) with
      | false =>
        have HNO : Hid (writeOK T site n g s = false) := Lib.hid (by simp [writeOK, hsb])
        clear hsb
        go_wp2_with fail
        refine bodyPost_ret (v := .tuple #[.slice xa xs.length xc, .bool false]) ?_ rfl ⟨⟨xa, xc, xs⟩, by rw [writeL_no HNO.out]; rfl, by rw [writeL_no HNO.out]; exact HTE.out, AX.out, B.out⟩
        simp only [results, Tryz.results30]
        go_simp
      | true =>
        have HSB := Lib.hid hsb
        have HLY : Hid ((atL n T).length = ys.length) := Lib.hid (by rw [← HYE.out]; simp)
        clear hsb
        by_cases hgo : g = true ∧ ys.length = 0
        · obtain ⟨rfl, hy0⟩ := hgo
          have HNO : Hid (writeOK T site n true s = false) := Lib.hid (by simp [writeOK, HLY.out, hy0])
          have hz : ((ys.length : Int) == 0) = true := by simp [hy0]
          clear hy0
          go_wp2_with fail
          refine bodyPost_ret (v := .tuple #[.slice xa xs.length xc, .bool false]) ?_ rfl ⟨⟨xa, xc, xs⟩, by rw [writeL_no HNO.out]; rfl, by rw [writeL_no HNO.out]; exact HTE.out, AX.out, B.out⟩
          simp only [results, Tryz.results30]
          go_simp
        · have HYES : Hid (writeOK T site n g s = true) := Lib.hid (by
            rw [writeOK_iff]
            exact ⟨HOK.out, HNM.out, HSB.out, by rw [HLY.out]; exact hgo⟩)
          have hz : g = true → ((ys.length : Int) == 0) = false := fun hg => by
            have : ¬ ys.length = 0 := fun h => hgo ⟨hg, h⟩
            simp [this]
          clear hgo
          have b6 : Below w5.heap.size w5 (w5.alloc (Obj.cells #[.slice qa qs.length qc, .bool g, .string s] 42)) := (Below.refl _ _).alloc (Nat.le_refl _) _
          have HNA := Lib.hid (new_At (α := LSib) w5 [(⟨⟨qa, qc, qs⟩, g, s⟩ : LSib)] #[.slice qa qs.length qc, .bool g, .string s] 42 rfl (by simp [maxLen]) (fun z hz => by rw [List.mem_singleton.1 hz]; exact ⟨AQ.out, HST.out⟩))
          have hp0 := BX.out.2 0 _ rfl
          have hp1 := BX.out.2 1 _ rfl
          have hp2 := BX.out.2 2 _ rfl
          first
            | replace B := Lib.hid (Loc.At.belowAll B.out (b6))
            | replace B := Lib.hid (nextB B.out (b6))
            | replace B := Lib.hid (Boxed.keep B.out (b6))
            | replace B := Lib.hid (Dat.belowAll B.out (b6))
            | replace B := Lib.hid (Fr.belowAll B.out (b6))
            | replace B := Lib.hid (Own.belowAll B.out (b6))
            | replace B := Lib.hid (Grows.next B.out (b6))
          first
            | replace AX := Lib.hid (Loc.At.belowAll AX.out (b6))
            | replace AX := Lib.hid (nextB AX.out (b6))
            | replace AX := Lib.hid (Boxed.keep AX.out (b6))
            | replace AX := Lib.hid (Dat.belowAll AX.out (b6))
            | replace AX := Lib.hid (Fr.belowAll AX.out (b6))
            | replace AX := Lib.hid (Own.belowAll AX.out (b6))
            | replace AX := Lib.hid (Grows.next AX.out (b6))
          have HXL := Lib.hid (show xs.length ≤ 10000 by have := HT.out.few; rw [← HTE.out] at this; simp at this; omega)
          have HC := Lib.hid (l3Put_any ⟨xa, xc, xs⟩ ⟨n, ⟨some ⟨w5.heap.size, 0, none⟩, 1, [(⟨⟨qa, qc, qs⟩, g, s⟩ : LSib)]⟩⟩ _ AX.out ⟨HNA.out, HN.out⟩ HXL.out)
          clear b6
          cases g
          case true =>
            have hz' := hz rfl
            clear hz
            go_wp2_with fail
            refine HC.out.mono ?_
            rintro e w6 ⟨y6, rfl, h6, hO6, b6⟩
            have B6 := Lib.hid (nextB B.out b6)
            have A6 := Lib.hid hO6.at_
            have H6 := Lib.hid h6
            clear b6 hO6 h6
            go_wp2_with fail
            refine bodyPost_ret (v := .tuple #[y6.val, .bool true]) ?_ rfl ⟨y6, by rw [writeL_yes HYES.out], ?_, A6.out, B6.out⟩
            · simp only [results, Tryz.results30]
              go_simp
            · rw [writeL_yes HYES.out, H6.out]
              have h7 : NAsc (xs.map LFile.er) := by rw [HTE.out]; exact HT.out.up
              rw [tpLoc_er h7, HTE.out]
              have h8 := HSE.out
              simp only [LFile.er, List.map_cons, List.map_nil, h8]; rfl
          case false =>
            clear hz
            go_wp2_with fail
            refine HC.out.mono ?_
            rintro e w6 ⟨y6, rfl, h6, hO6, b6⟩
            have B6 := Lib.hid (nextB B.out b6)
            have A6 := Lib.hid hO6.at_
            have H6 := Lib.hid h6
            clear b6 hO6 h6
            go_wp2_with fail
            refine bodyPost_ret (v := .tuple #[y6.val, .bool true]) ?_ rfl ⟨y6, by rw [writeL_yes HYES.out], ?_, A6.out, B6.out⟩
            · simp only [results, Tryz.results30]
              go_simp
            · rw [writeL_yes HYES.out, H6.out]
              have h7 : NAsc (xs.map LFile.er) := by rw [HTE.out]; exact HT.out.up
              rw [tpLoc_er h7, HTE.out]
              have h8 := HSE.out
              simp only [LFile.er, List.map_cons, List.map_nil, h8]; rfl

set_option maxRecDepth 100000 in
set_option maxHeartbeats 1000000 in
theorem sTreeWrite_any (x : Loc LFile) (site : Int) (n : ByteArray) (g : Bool) (s : ByteArray) (w : World) (hx : x.At w) (hsite : -9223372036854775808 ≤ site ∧ site ≤ 9223372036854775807) (hn : n.size ≤ maxLen) (hs : s.size ≤ maxLen) :
    Calls Tryz.prog 11 #[x.val, .int .i64 site, .string n, .bool g, .string s] w (TreeP w (writeZ (x.xs.map LFile.er) site n g s)) := by
  have hc := Lib.hid (sTreeOk_any x w hx)
  have AX := Lib.hid hx
  have HS := Lib.hid hsite
  have HN := Lib.hid hn
  have HST := Lib.hid hs
  clear hx hsite hn hs
  obtain ⟨T, hT⟩ : ∃ T, x.xs.map LFile.er = T := ⟨_, rfl⟩
  rw [hT] at hc ⊢
  have HTE := Lib.hid hT
  clear hT
  cases hb : treeB T with
  | false =>
    rw [hb] at hc
    have HZ : Hid (writeZ T site n g s = ([], false)) := Lib.hid (by unfold writeZ; rw [hb]; rfl)
    clear hb
    go_enter Tryz.func11, Tryz.ntmps11
    go_wp2_with fail
    refine hc.out.mono ?_
    rintro e w1 ⟨rfl, b1⟩
    have HG := Lib.hid (Grows.start (α := LFile) w1 58)
    have B1 := Lib.hid b1
    clear b1
    go_wp2_with fail
    refine bodyPost_ret (v := .tuple #[.slice (some ⟨w1.heap.size, 0, none⟩) 0 0, .bool false]) ?_ rfl ⟨⟨some ⟨w1.heap.size, 0, none⟩, 0, []⟩, by rw [HZ.out]; rfl, by rw [HZ.out]; rfl, HG.out.done.1, nextB B1.out HG.out.bel⟩
    simp only [results, Tryz.results11]
    go_simp
  | true =>
    rw [hb] at hc
    have HT := Lib.hid (TreeOK.of hb)
    have HZ : Hid (writeZ T site n g s = writeL T site n g s) := Lib.hid (by unfold writeZ writeL; rw [hb]; rfl)
    clear hb
    go_enter Tryz.func11, Tryz.ntmps11
    go_wp2_with fail
    refine hc.out.mono ?_
    rintro e w1 ⟨rfl, b1⟩
    have B := Lib.hid b1
    first
      | replace AX := Lib.hid (Loc.At.belowAll AX.out (b1))
      | replace AX := Lib.hid (nextB AX.out (b1))
      | replace AX := Lib.hid (Boxed.keep AX.out (b1))
      | replace AX := Lib.hid (Dat.belowAll AX.out (b1))
      | replace AX := Lib.hid (Fr.belowAll AX.out (b1))
      | replace AX := Lib.hid (Own.belowAll AX.out (b1))
      | replace AX := Lib.hid (Grows.next AX.out (b1))
    clear b1 hc
    have HXL := Lib.hid (show x.xs.length ≤ 1000 by have := HT.out.few; rw [← HTE.out] at this; simp at this; omega)
    go_wp2_with fail
    refine (l3Copy_any x w1 AX.out HXL.out (by rw [HTE.out]; exact HT.out.filesK)).mono ?_
    rintro e w2 ⟨c, rfl, hce, hcO, -, b2⟩
    have HCE := Lib.hid (show c.xs.map LFile.er = T from hce.trans HTE.out)
    have AC := Lib.hid hcO.at_
    first
      | replace B := Lib.hid (Loc.At.belowAll B.out (b2))
      | replace B := Lib.hid (nextB B.out (b2))
      | replace B := Lib.hid (Boxed.keep B.out (b2))
      | replace B := Lib.hid (Dat.belowAll B.out (b2))
      | replace B := Lib.hid (Fr.belowAll B.out (b2))
      | replace B := Lib.hid (Own.belowAll B.out (b2))
      | replace B := Lib.hid (Grows.next B.out (b2))
    clear b2 hce hcO
    go_wp2_with fail
    refine (l3Write_any c site n g s w2 AC.out (by rw [HCE.out]; exact HT.out) HS.out HN.out HST.out).mono ?_
    rintro e w3 ⟨y, rfl, hy, hyA, b3⟩
    rw [HCE.out] at hy
    rw [HCE.out]
    have HY := Lib.hid hy
    have AY := Lib.hid hyA
    first
      | replace B := Lib.hid (Loc.At.belowAll B.out (b3))
      | replace B := Lib.hid (nextB B.out (b3))
      | replace B := Lib.hid (Boxed.keep B.out (b3))
      | replace B := Lib.hid (Dat.belowAll B.out (b3))
      | replace B := Lib.hid (Fr.belowAll B.out (b3))
      | replace B := Lib.hid (Own.belowAll B.out (b3))
      | replace B := Lib.hid (Grows.next B.out (b3))
    clear b3 hy hyA
    go_wp2_with fail
    refine bodyPost_ret (v := .tuple #[y.val, .bool (writeL T site n g s).2]) ?_ rfl ⟨y, by rw [HZ.out], by rw [HZ.out]; exact HY.out, AY.out, B.out⟩
    simp only [results, Tryz.results11]
    go_simp
end Go.Proofs.YtdidkfadiaafiaaGreatDoor

namespace Go.Proofs.YtdidkfadiaafiaaGreatDoor
open Go Go.RowKit

theorem sub_flat {α β : Type} (f : α → List β) : ∀ {a b : List α}, List.Sublist a b → List.Sublist (a.flatMap f) (b.flatMap f)
  | _, _, .slnil => by simp
  | _, _, .cons x h => by rw [List.flatMap_cons]; exact (sub_flat f h).trans (List.sublist_append_right _ _)
  | _, _, .cons_cons x h => by rw [List.flatMap_cons, List.flatMap_cons]; exact (List.Sublist.refl _).append (sub_flat f h)
theorem Grows.next {α : Type} [Dat α] {e : TypeId} {w0 w w' : World} {l : Loc α} (h : Grows w0.heap.size e w0 l w) (hb : Below w.heap.size w w') : Grows w0.heap.size e w0 l w' := h.later (Nat.le_refl _) hb
theorem PutP.grows {lo : Nat} {w0 w w' : World} {x : Loc LFile} {f : LFile} {e : Ending} (h : Grows lo 58 w0 x w) (h0 : lo ≤ w0.heap.size) (hf : Fr lo w (Dat.fp f)) (hd : ∀ a ∈ x.xs.flatMap Dat.fp, ∀ b ∈ Dat.fp f, a ≠ b) (hoff : ∀ b ∈ Dat.fp f, some b ≠ x.val.ownBlock) (p : PutP lo w x f e w') :
    ∃ l : Loc LFile, e = .returned l.val ∧ l.xs.map LFile.er = tput f.er (x.xs.map LFile.er) ∧ Grows lo 58 w0 l w' := by
  obtain ⟨l, zs, i, j, w1, rfl, hij, hz, he, hb, bc⟩ := p
  refine ⟨l, rfl, by rw [bc.xs]; exact he, bc.own, ?_, ?_⟩
  · rw [bc.xs, hz, List.flatMap_append, List.flatMap_cons]
    have hsl : List.Sublist (x.xs.take i ++ x.xs.drop j) x.xs := by
      have h1 : List.Sublist (x.xs.take i ++ x.xs.drop j) (x.xs.take i ++ x.xs.drop i) := by
        refine List.Sublist.append (List.Sublist.refl _) ?_
        have : x.xs.drop j = (x.xs.drop i).drop (j - i) := by rw [List.drop_drop]; congr 1; omega
        rw [this]; exact List.drop_sublist _ _
      rwa [List.take_append_drop] at h1
    have hfl : List.Sublist ((x.xs.take i).flatMap Dat.fp ++ (x.xs.drop j).flatMap Dat.fp) (x.xs.flatMap Dat.fp) := by
      rw [← List.flatMap_append]; exact sub_flat _ hsl
    have hx1 := (h.fr.sub hfl)
    have hkeep : ∀ b ∈ x.xs.flatMap Dat.fp, w'.heap[b]? = w.heap[b]? := fun b hb' => by
      obtain ⟨y, hy, hb2⟩ := List.mem_flatMap.1 hb'
      have hlt := h.fr.lt b hb'
      rw [bc.grown.block b (Nat.lt_of_lt_of_le hlt hb.size) (h.own.off y hy b hb2), hb.block b hlt]
    have hkf : ∀ b ∈ Dat.fp f, w'.heap[b]? = w.heap[b]? := fun b hb' => by
      have hlt := hf.lt b hb'
      rw [bc.grown.block b (Nat.lt_of_lt_of_le hlt hb.size) (hoff b hb'), hb.block b hlt]
    have hmem : ∀ b ∈ (x.xs.take i).flatMap Dat.fp ++ (Dat.fp f ++ (x.xs.drop j).flatMap Dat.fp), b ∈ x.xs.flatMap Dat.fp ∨ b ∈ Dat.fp f := by
      intro b hb'
      rcases List.mem_append.1 hb' with h1 | h1
      · exact .inl (hfl.subset (List.mem_append_left _ h1))
      · rcases List.mem_append.1 h1 with h1 | h1
        · exact .inr h1
        · exact .inl (hfl.subset (List.mem_append_right _ h1))
    refine Fr.keep (w := w) ?_ (fun b hb' => by
      rcases hmem b hb' with h1 | h1
      · exact hkeep b h1
      · exact hkf b h1)
    refine ⟨fun b hb' => ?_, ?_, fun b hb' => ?_⟩
    · rcases hmem b hb' with h1 | h1
      · exact h.fr.ge b h1
      · exact hf.ge b h1
    · have hnd := hx1.nd
      rw [List.nodup_append] at hnd ⊢
      obtain ⟨n1, n2, n3⟩ := hnd
      refine ⟨n1, ?_, fun a ha b hb' => ?_⟩
      · rw [List.nodup_append]
        exact ⟨hf.nd, n2, fun a ha b hb' => fun e => hd b (hfl.subset (List.mem_append_right _ hb')) a ha e.symm⟩
      · rcases List.mem_append.1 hb' with h1 | h1
        · exact hd a (hfl.subset (List.mem_append_left _ ha)) b h1
        · exact n3 a ha b h1
    · rcases hmem b hb' with h1 | h1
      · exact h.fr.own b h1
      · exact hf.own b h1
  · have h1 : Below lo w0 w1 := h.bel.trans (hb.mono (h.lo h0))
    exact h1.grown bc.grown (Nat.le_trans (h.lo h0) hb.size) fun k hk => (h.own.lt k hk).1

set_option maxRecDepth 100000 in
set_option maxHeartbeats 4000000 in
theorem iTreeWrite_any (x : Loc LFile) (site : Int) (n : ByteArray) (g : Bool) (s : ByteArray) (w : World) (hx : x.At w) (hsite : -9223372036854775808 ≤ site ∧ site ≤ 9223372036854775807) (hn : n.size ≤ maxLen) (hs : s.size ≤ maxLen) :
    Calls Tryz.prog 13 #[x.val, .int .i64 site, .string n, .bool g, .string s] w (TreePF w (writeZ (x.xs.map LFile.er) site n g s)) := by
  have hc := Lib.hid (isTree_any x w hx)
  have AX := Lib.hid hx
  have HS := Lib.hid hsite
  have HN := Lib.hid hn
  have HST := Lib.hid hs
  clear hx hsite hn hs
  obtain ⟨T, hT⟩ : ∃ T, x.xs.map LFile.er = T := ⟨_, rfl⟩
  rw [hT] at hc ⊢
  have HTE := Lib.hid hT
  clear hT
  cases hb : treeB T with
  | false =>
    rw [hb] at hc
    have HZ : Hid (writeZ T site n g s = ([], false)) := Lib.hid (by unfold writeZ; rw [hb]; rfl)
    clear hb
    go_enter Tryz.func13, Tryz.ntmps13
    go_wp2_with fail
    refine hc.out.mono ?_
    rintro e w1 ⟨rfl, b1⟩
    have B1 := Lib.hid b1
    clear b1
    go_wp2_with fail
    refine bodyPost_ret (v := .tuple #[.slice none 0 0, .bool false]) ?_ rfl ⟨⟨none, 0, []⟩, by rw [HZ.out]; rfl, by rw [HZ.out]; rfl, nil_At _, nil_Fr _ _, B1.out⟩
    simp only [results, Tryz.results13]
    go_simp
  | true =>
    rw [hb] at hc
    have HT := Lib.hid (TreeOK.of hb)
    have HZ : Hid (writeZ T site n g s = writeL T site n g s) := Lib.hid (by unfold writeZ writeL; rw [hb]; rfl)
    clear hb
    go_enter Tryz.func13, Tryz.ntmps13
    go_wp2_with fail
    refine hc.out.mono ?_
    rintro e w1 ⟨rfl, b1⟩
    have B := Lib.hid b1
    first
      | replace AX := Lib.hid (Loc.At.belowAll AX.out (b1))
      | replace AX := Lib.hid (nextB AX.out (b1))
      | replace AX := Lib.hid (Boxed.keep AX.out (b1))
      | replace AX := Lib.hid (Dat.belowAll AX.out (b1))
      | replace AX := Lib.hid (Fr.belowAll AX.out (b1))
      | replace AX := Lib.hid (Own.belowAll AX.out (b1))
      | replace AX := Lib.hid (Grows.next AX.out (b1))
    clear b1 hc
    have HXL := Lib.hid (show x.xs.length ≤ 1000 by have := HT.out.few; rw [← HTE.out] at this; simp at this; omega)
    go_wp2_with fail
    refine (copyTree_any x w1 AX.out HXL.out (by rw [HTE.out]; exact HT.out.filesK)).mono ?_
    rintro e w2 ⟨⟨ca, cc, cs⟩, rfl, hce, hcO, hcF, b2⟩
    have HCE := Lib.hid (show cs.map LFile.er = T from hce.trans HTE.out)
    have G : Hid (Grows w1.heap.size 58 w1 (⟨ca, cc, cs⟩ : Loc LFile) w2) := Lib.hid ⟨hcO, hcF, b2⟩
    first
      | replace AX := Lib.hid (Loc.At.belowAll AX.out (b2))
      | replace AX := Lib.hid (nextB AX.out (b2))
      | replace AX := Lib.hid (Boxed.keep AX.out (b2))
      | replace AX := Lib.hid (Dat.belowAll AX.out (b2))
      | replace AX := Lib.hid (Fr.belowAll AX.out (b2))
      | replace AX := Lib.hid (Own.belowAll AX.out (b2))
      | replace AX := Lib.hid (Grows.next AX.out (b2))
    clear b2 hce hcO hcF
    simp only [Loc.val]
    go_wp2_with fail
    refine (treeAt_any x n w2 AX.out).mono ?_
    rintro e w3 ⟨rfl, b3⟩
    first
      | replace AX := Lib.hid (Loc.At.belowAll AX.out (b3))
      | replace AX := Lib.hid (nextB AX.out (b3))
      | replace AX := Lib.hid (Boxed.keep AX.out (b3))
      | replace AX := Lib.hid (Dat.belowAll AX.out (b3))
      | replace AX := Lib.hid (Fr.belowAll AX.out (b3))
      | replace AX := Lib.hid (Own.belowAll AX.out (b3))
      | replace AX := Lib.hid (Grows.next AX.out (b3))
    first
      | replace G := Lib.hid (Loc.At.belowAll G.out (b3))
      | replace G := Lib.hid (nextB G.out (b3))
      | replace G := Lib.hid (Boxed.keep G.out (b3))
      | replace G := Lib.hid (Dat.belowAll G.out (b3))
      | replace G := Lib.hid (Fr.belowAll G.out (b3))
      | replace G := Lib.hid (Own.belowAll G.out (b3))
      | replace G := Lib.hid (Grows.next G.out (b3))
    have AY := Lib.hid (atLoc_At n x.xs fun f hf => AX.out.elem hf)
    have HYE := Lib.hid (show (atLoc n x.xs).xs.map LSib.er = atL n T by rw [atLoc_er, HTE.out])
    have HYO := Lib.hid (atL_ok HT.out n)
    generalize atLoc n x.xs = y at *
    obtain ⟨ya, yc, ys⟩ := y
    clear b3
    simp only [Loc.val] at HYE ⊢
    go_wp2_with fail
    refine (sibsVv_any ⟨ya, yc, ys⟩ w3 AY.out (by rw [HYE.out]; exact HYO.out)).mono ?_
    rintro e w4 ⟨v, rfl, hv, hvA, -, b4⟩
    have HVE := Lib.hid (show v.xs = vvOf (atL n T) by rw [hv, HYE.out])
    have AV := Lib.hid hvA
    first
      | replace G := Lib.hid (Loc.At.belowAll G.out (b4))
      | replace G := Lib.hid (nextB G.out (b4))
      | replace G := Lib.hid (Boxed.keep G.out (b4))
      | replace G := Lib.hid (Dat.belowAll G.out (b4))
      | replace G := Lib.hid (Fr.belowAll G.out (b4))
      | replace G := Lib.hid (Own.belowAll G.out (b4))
      | replace G := Lib.hid (Grows.next G.out (b4))
    clear b4 hv hvA AY AX
    go_wp2_with fail
    refine (vvNext_any v site w4 AV.out HS.out).mono ?_
    rintro e w5 ⟨⟨qa, qc, qs⟩, rfl, hq, hqA, hqF, b5⟩
    rw [HVE.out] at hq
    rw [HVE.out]
    have HQ := Lib.hid hq
    have AQ := Lib.hid hqA
    have FQ := Lib.hid hqF
    have BQ := Lib.hid b5
    have HW4 := Lib.hid G.out.fr.lt
    have HW4O := Lib.hid (fun b h => (G.out.own.lt b h).2)
    have HSZ4 := Lib.hid G.out.bel.size
    first
      | replace G := Lib.hid (Loc.At.belowAll G.out (b5))
      | replace G := Lib.hid (nextB G.out (b5))
      | replace G := Lib.hid (Boxed.keep G.out (b5))
      | replace G := Lib.hid (Dat.belowAll G.out (b5))
      | replace G := Lib.hid (Fr.belowAll G.out (b5))
      | replace G := Lib.hid (Own.belowAll G.out (b5))
      | replace G := Lib.hid (Grows.next G.out (b5))
    clear b5 hq hqA hqF AV
    simp only [Loc.val]
    have HLY : Hid ((atL n T).length = ys.length) := Lib.hid (by rw [← HYE.out]; simp)
    cases hok : nextOK (vvOf (atL n T)) site with
    | false =>
      have HNO : Hid (writeOK T site n g s = false) := Lib.hid (by simp [writeOK, hok])
      clear hok
      go_wp2_with fail
      refine bodyPost_ret (v := .tuple #[.slice ca cs.length cc, .bool false]) ?_ rfl ⟨⟨ca, cc, cs⟩, by rw [HZ.out, writeL_no HNO.out]; rfl, by rw [HZ.out, writeL_no HNO.out]; exact HCE.out, G.out.done.1, G.out.done.2.mono B.out.size, nextB B.out G.out.bel⟩
      simp only [results, Tryz.results13]
      go_simp
    | true =>
      have HQE := Lib.hid (show qs = nextV (vvOf (atL n T)) site from HQ.out hok)
      have HOK := Lib.hid hok
      clear hok HQ
      go_wp2_with fail
      refine (isFileName_any n w5 HN.out).mono ?_
      rintro e w6 ⟨rfl, rfl⟩
      cases hnm : nameB n with
      | false =>
        have HNO : Hid (writeOK T site n g s = false) := Lib.hid (by simp [writeOK, hnm])
        clear hnm
        go_wp2_with fail
        refine bodyPost_ret (v := .tuple #[.slice ca cs.length cc, .bool false]) ?_ rfl ⟨⟨ca, cc, cs⟩, by rw [HZ.out, writeL_no HNO.out]; rfl, by rw [HZ.out, writeL_no HNO.out]; exact HCE.out, G.out.done.1, G.out.done.2.mono B.out.size, nextB B.out G.out.bel⟩
        simp only [results, Tryz.results13]
        go_simp
      | true =>
        have HNM := Lib.hid hnm
        clear hnm
        by_cases hgo : g = true ∧ ys.length = 0
        · obtain ⟨rfl, hy0⟩ := hgo
          have HNO : Hid (writeOK T site n true s = false) := Lib.hid (by simp [writeOK, HLY.out, hy0])
          have hz : ((ys.length : Int) == 0) = true := by simp [hy0]
          clear hy0
          go_wp2_with fail
          refine bodyPost_ret (v := .tuple #[.slice ca cs.length cc, .bool false]) ?_ rfl ⟨⟨ca, cc, cs⟩, by rw [HZ.out, writeL_no HNO.out]; rfl, by rw [HZ.out, writeL_no HNO.out]; exact HCE.out, G.out.done.1, G.out.done.2.mono B.out.size, nextB B.out G.out.bel⟩
          simp only [results, Tryz.results13]
          go_simp
        · have hse : LSib.er ⟨⟨qa, qc, qs⟩, g, s⟩ = newSib T site n g s := by simp only [LSib.er, newSib, HQE.out]
          have b7 : Below w5.heap.size w5 (w5.alloc (Obj.cells #[.slice qa qs.length qc, .bool g, .string s] 42)) := (Below.refl _ _).alloc (Nat.le_refl _) _
          have BX := Lib.hid (Boxed.new w5 #[.slice qa qs.length qc, .bool g, .string s] 42)
          have HW5 := Lib.hid b7.size
          first
            | replace G := Lib.hid (Loc.At.belowAll G.out (b7))
            | replace G := Lib.hid (nextB G.out (b7))
            | replace G := Lib.hid (Boxed.keep G.out (b7))
            | replace G := Lib.hid (Dat.belowAll G.out (b7))
            | replace G := Lib.hid (Fr.belowAll G.out (b7))
            | replace G := Lib.hid (Own.belowAll G.out (b7))
            | replace G := Lib.hid (Grows.next G.out (b7))
          first
            | replace AQ := Lib.hid (Loc.At.belowAll AQ.out (b7))
            | replace AQ := Lib.hid (nextB AQ.out (b7))
            | replace AQ := Lib.hid (Boxed.keep AQ.out (b7))
            | replace AQ := Lib.hid (Dat.belowAll AQ.out (b7))
            | replace AQ := Lib.hid (Fr.belowAll AQ.out (b7))
            | replace AQ := Lib.hid (Own.belowAll AQ.out (b7))
            | replace AQ := Lib.hid (Grows.next AQ.out (b7))
          first
            | replace FQ := Lib.hid (Loc.At.belowAll FQ.out (b7))
            | replace FQ := Lib.hid (nextB FQ.out (b7))
            | replace FQ := Lib.hid (Boxed.keep FQ.out (b7))
            | replace FQ := Lib.hid (Dat.belowAll FQ.out (b7))
            | replace FQ := Lib.hid (Fr.belowAll FQ.out (b7))
            | replace FQ := Lib.hid (Own.belowAll FQ.out (b7))
            | replace FQ := Lib.hid (Grows.next FQ.out (b7))
          first
            | replace BQ := Lib.hid (Loc.At.belowAll BQ.out (b7))
            | replace BQ := Lib.hid (nextB BQ.out (b7))
            | replace BQ := Lib.hid (Boxed.keep BQ.out (b7))
            | replace BQ := Lib.hid (Dat.belowAll BQ.out (b7))
            | replace BQ := Lib.hid (Fr.belowAll BQ.out (b7))
            | replace BQ := Lib.hid (Own.belowAll BQ.out (b7))
            | replace BQ := Lib.hid (Grows.next BQ.out (b7))
          have hsb := Lib.hid (isSib_any ⟨⟨qa, qc, qs⟩, g, s⟩ _ ⟨AQ.out, HST.out⟩)
          rw [hse] at hsb
          have HSE := Lib.hid hse
          generalize hsbb : sibB (newSib T site n g s) = sb at hsb
          have hz : g = true → ((ys.length : Int) == 0) = false := fun h => by
            have : ¬ ys.length = 0 := fun h0 => hgo ⟨h, h0⟩
            simp [this]
          cases sb with
          | false =>
            have HNO : Hid (writeOK T site n g s = false) := Lib.hid (by simp [writeOK, hsbb])
            clear hse b7 hgo hsbb
            cases g
            case true =>
              have hz2 := hz rfl
              clear hz
              go_wp2_with fail
              refine hsb.out.mono ?_
              rintro e w7 ⟨rfl, b7⟩
              first
                | replace G := Lib.hid (Loc.At.belowAll G.out (b7))
                | replace G := Lib.hid (nextB G.out (b7))
                | replace G := Lib.hid (Boxed.keep G.out (b7))
                | replace G := Lib.hid (Dat.belowAll G.out (b7))
                | replace G := Lib.hid (Fr.belowAll G.out (b7))
                | replace G := Lib.hid (Own.belowAll G.out (b7))
                | replace G := Lib.hid (Grows.next G.out (b7))
              first
                | replace AQ := Lib.hid (Loc.At.belowAll AQ.out (b7))
                | replace AQ := Lib.hid (nextB AQ.out (b7))
                | replace AQ := Lib.hid (Boxed.keep AQ.out (b7))
                | replace AQ := Lib.hid (Dat.belowAll AQ.out (b7))
                | replace AQ := Lib.hid (Fr.belowAll AQ.out (b7))
                | replace AQ := Lib.hid (Own.belowAll AQ.out (b7))
                | replace AQ := Lib.hid (Grows.next AQ.out (b7))
              first
                | replace FQ := Lib.hid (Loc.At.belowAll FQ.out (b7))
                | replace FQ := Lib.hid (nextB FQ.out (b7))
                | replace FQ := Lib.hid (Boxed.keep FQ.out (b7))
                | replace FQ := Lib.hid (Dat.belowAll FQ.out (b7))
                | replace FQ := Lib.hid (Fr.belowAll FQ.out (b7))
                | replace FQ := Lib.hid (Own.belowAll FQ.out (b7))
                | replace FQ := Lib.hid (Grows.next FQ.out (b7))
              first
                | replace BX := Lib.hid (Loc.At.belowAll BX.out (b7))
                | replace BX := Lib.hid (nextB BX.out (b7))
                | replace BX := Lib.hid (Boxed.keep BX.out (b7))
                | replace BX := Lib.hid (Dat.belowAll BX.out (b7))
                | replace BX := Lib.hid (Fr.belowAll BX.out (b7))
                | replace BX := Lib.hid (Own.belowAll BX.out (b7))
                | replace BX := Lib.hid (Grows.next BX.out (b7))
              first
                | replace BQ := Lib.hid (Loc.At.belowAll BQ.out (b7))
                | replace BQ := Lib.hid (nextB BQ.out (b7))
                | replace BQ := Lib.hid (Boxed.keep BQ.out (b7))
                | replace BQ := Lib.hid (Dat.belowAll BQ.out (b7))
                | replace BQ := Lib.hid (Fr.belowAll BQ.out (b7))
                | replace BQ := Lib.hid (Own.belowAll BQ.out (b7))
                | replace BQ := Lib.hid (Grows.next BQ.out (b7))
              clear b7 hsb
              go_wp2_with fail
              refine bodyPost_ret (v := .tuple #[.slice ca cs.length cc, .bool false]) ?_ rfl ⟨⟨ca, cc, cs⟩, by rw [HZ.out, writeL_no HNO.out]; rfl, by rw [HZ.out, writeL_no HNO.out]; exact HCE.out, G.out.done.1, G.out.done.2.mono B.out.size, nextB B.out G.out.bel⟩
              simp only [results, Tryz.results13]
              go_simp
            case false =>
              clear hz
              go_wp2_with fail
              refine hsb.out.mono ?_
              rintro e w7 ⟨rfl, b7⟩
              first
                | replace G := Lib.hid (Loc.At.belowAll G.out (b7))
                | replace G := Lib.hid (nextB G.out (b7))
                | replace G := Lib.hid (Boxed.keep G.out (b7))
                | replace G := Lib.hid (Dat.belowAll G.out (b7))
                | replace G := Lib.hid (Fr.belowAll G.out (b7))
                | replace G := Lib.hid (Own.belowAll G.out (b7))
                | replace G := Lib.hid (Grows.next G.out (b7))
              first
                | replace AQ := Lib.hid (Loc.At.belowAll AQ.out (b7))
                | replace AQ := Lib.hid (nextB AQ.out (b7))
                | replace AQ := Lib.hid (Boxed.keep AQ.out (b7))
                | replace AQ := Lib.hid (Dat.belowAll AQ.out (b7))
                | replace AQ := Lib.hid (Fr.belowAll AQ.out (b7))
                | replace AQ := Lib.hid (Own.belowAll AQ.out (b7))
                | replace AQ := Lib.hid (Grows.next AQ.out (b7))
              first
                | replace FQ := Lib.hid (Loc.At.belowAll FQ.out (b7))
                | replace FQ := Lib.hid (nextB FQ.out (b7))
                | replace FQ := Lib.hid (Boxed.keep FQ.out (b7))
                | replace FQ := Lib.hid (Dat.belowAll FQ.out (b7))
                | replace FQ := Lib.hid (Fr.belowAll FQ.out (b7))
                | replace FQ := Lib.hid (Own.belowAll FQ.out (b7))
                | replace FQ := Lib.hid (Grows.next FQ.out (b7))
              first
                | replace BX := Lib.hid (Loc.At.belowAll BX.out (b7))
                | replace BX := Lib.hid (nextB BX.out (b7))
                | replace BX := Lib.hid (Boxed.keep BX.out (b7))
                | replace BX := Lib.hid (Dat.belowAll BX.out (b7))
                | replace BX := Lib.hid (Fr.belowAll BX.out (b7))
                | replace BX := Lib.hid (Own.belowAll BX.out (b7))
                | replace BX := Lib.hid (Grows.next BX.out (b7))
              first
                | replace BQ := Lib.hid (Loc.At.belowAll BQ.out (b7))
                | replace BQ := Lib.hid (nextB BQ.out (b7))
                | replace BQ := Lib.hid (Boxed.keep BQ.out (b7))
                | replace BQ := Lib.hid (Dat.belowAll BQ.out (b7))
                | replace BQ := Lib.hid (Fr.belowAll BQ.out (b7))
                | replace BQ := Lib.hid (Own.belowAll BQ.out (b7))
                | replace BQ := Lib.hid (Grows.next BQ.out (b7))
              clear b7 hsb
              go_wp2_with fail
              refine bodyPost_ret (v := .tuple #[.slice ca cs.length cc, .bool false]) ?_ rfl ⟨⟨ca, cc, cs⟩, by rw [HZ.out, writeL_no HNO.out]; rfl, by rw [HZ.out, writeL_no HNO.out]; exact HCE.out, G.out.done.1, G.out.done.2.mono B.out.size, nextB B.out G.out.bel⟩
              simp only [results, Tryz.results13]
              go_simp
          | true =>
            have HYES : Hid (writeOK T site n g s = true) := Lib.hid (writeOK_iff.2 ⟨HOK.out, HNM.out, hsbb, by rw [HLY.out]; exact hgo⟩)
            clear hse b7 hgo hsbb
            cases g
            case true =>
              have hz2 := hz rfl
              clear hz
              go_wp2_with fail
              refine hsb.out.mono ?_
              rintro e w7 ⟨rfl, b7⟩
              first
                | replace G := Lib.hid (Loc.At.belowAll G.out (b7))
                | replace G := Lib.hid (nextB G.out (b7))
                | replace G := Lib.hid (Boxed.keep G.out (b7))
                | replace G := Lib.hid (Dat.belowAll G.out (b7))
                | replace G := Lib.hid (Fr.belowAll G.out (b7))
                | replace G := Lib.hid (Own.belowAll G.out (b7))
                | replace G := Lib.hid (Grows.next G.out (b7))
              first
                | replace AQ := Lib.hid (Loc.At.belowAll AQ.out (b7))
                | replace AQ := Lib.hid (nextB AQ.out (b7))
                | replace AQ := Lib.hid (Boxed.keep AQ.out (b7))
                | replace AQ := Lib.hid (Dat.belowAll AQ.out (b7))
                | replace AQ := Lib.hid (Fr.belowAll AQ.out (b7))
                | replace AQ := Lib.hid (Own.belowAll AQ.out (b7))
                | replace AQ := Lib.hid (Grows.next AQ.out (b7))
              first
                | replace FQ := Lib.hid (Loc.At.belowAll FQ.out (b7))
                | replace FQ := Lib.hid (nextB FQ.out (b7))
                | replace FQ := Lib.hid (Boxed.keep FQ.out (b7))
                | replace FQ := Lib.hid (Dat.belowAll FQ.out (b7))
                | replace FQ := Lib.hid (Fr.belowAll FQ.out (b7))
                | replace FQ := Lib.hid (Own.belowAll FQ.out (b7))
                | replace FQ := Lib.hid (Grows.next FQ.out (b7))
              first
                | replace BX := Lib.hid (Loc.At.belowAll BX.out (b7))
                | replace BX := Lib.hid (nextB BX.out (b7))
                | replace BX := Lib.hid (Boxed.keep BX.out (b7))
                | replace BX := Lib.hid (Dat.belowAll BX.out (b7))
                | replace BX := Lib.hid (Fr.belowAll BX.out (b7))
                | replace BX := Lib.hid (Own.belowAll BX.out (b7))
                | replace BX := Lib.hid (Grows.next BX.out (b7))
              first
                | replace BQ := Lib.hid (Loc.At.belowAll BQ.out (b7))
                | replace BQ := Lib.hid (nextB BQ.out (b7))
                | replace BQ := Lib.hid (Boxed.keep BQ.out (b7))
                | replace BQ := Lib.hid (Dat.belowAll BQ.out (b7))
                | replace BQ := Lib.hid (Fr.belowAll BQ.out (b7))
                | replace BQ := Lib.hid (Own.belowAll BQ.out (b7))
                | replace BQ := Lib.hid (Grows.next BQ.out (b7))
              clear b7 hsb
              have p0 := BX.out.2 0 _ rfl
              have p1 := BX.out.2 1 _ rfl
              have p2 := BX.out.2 2 _ rfl
              have b8 : Below w7.heap.size w7 (w7.alloc (Obj.cells #[.slice qa qs.length qc, .bool true, .string s] 42)) := (Below.refl _ _).alloc (Nat.le_refl _) _
              have HNA := Lib.hid (new_At (α := LSib) w7 [(⟨⟨qa, qc, qs⟩, true, s⟩ : LSib)] #[.slice qa qs.length qc, .bool true, .string s] 42 rfl (by simp [maxLen]) (fun z hz => by rw [List.mem_singleton.1 hz]; exact ⟨AQ.out, HST.out⟩))
              have HFE : Hid (Dat.fp (⟨n, ⟨some ⟨w7.heap.size, 0, none⟩, 1, [(⟨⟨qa, qc, qs⟩, true, s⟩ : LSib)]⟩⟩ : LFile) = [w7.heap.size] ++ (⟨qa, qc, qs⟩ : Loc Int).fp) := Lib.hid (by simp [Dat.fp, Loc.fp, Loc.blk])
              have HFF : Hid (Fr w4.heap.size (w7.alloc (Obj.cells #[.slice qa qs.length qc, .bool true, .string s] 42)) (Dat.fp (⟨n, ⟨some ⟨w7.heap.size, 0, none⟩, 1, [(⟨⟨qa, qc, qs⟩, true, s⟩ : LSib)]⟩⟩ : LFile))) := Lib.hid (by
                rw [HFE.out]
                refine Fr.append ⟨fun b hb => ?_, by simp, fun b hb => ?_⟩ (FQ.out.belowAll b8) (fun a ha b hb => ?_)
                · rw [List.mem_singleton.1 hb]; exact BQ.out.size
                · rw [List.mem_singleton.1 hb]; exact ⟨_, _, heap_alloc_new w7 _⟩
                · rw [List.mem_singleton.1 ha]; have := FQ.out.lt b hb; omega)
              have HGF := Lib.hid (G.out.next b8)
              have HGE := Lib.hid HFF.out.ge
              have HC := Lib.hid (putFile_any w1.heap.size ⟨ca, cc, cs⟩ (⟨n, ⟨some ⟨w7.heap.size, 0, none⟩, 1, [(⟨⟨qa, qc, qs⟩, true, s⟩ : LSib)]⟩⟩ : LFile) _ HGF.out.own HGF.out.bel.size
                (by have := congrArg List.length HCE.out; have h2 := HT.out.few; simp at this; simp only; omega) (by show NAsc (cs.map LFile.er); rw [HCE.out]; exact HT.out.up) ⟨HNA.out, HN.out⟩ (fun b hb h => by have h1 := HGE.out b hb; have h2 := HW4O.out b h.symm; omega))
              have HFD : Hid (∀ a ∈ (⟨ca, cc, cs⟩ : Loc LFile).xs.flatMap Dat.fp, ∀ b ∈ Dat.fp (⟨n, ⟨some ⟨w7.heap.size, 0, none⟩, 1, [(⟨⟨qa, qc, qs⟩, true, s⟩ : LSib)]⟩⟩ : LFile), a ≠ b) := Lib.hid (fun a ha b hb => by have h1 := HGE.out b hb; have h2 := HW4.out a ha; omega)
              have HFO : Hid (∀ b ∈ Dat.fp (⟨n, ⟨some ⟨w7.heap.size, 0, none⟩, 1, [(⟨⟨qa, qc, qs⟩, true, s⟩ : LSib)]⟩⟩ : LFile), some b ≠ (⟨ca, cc, cs⟩ : Loc LFile).val.ownBlock) := Lib.hid (fun b hb h => by have h1 := HGE.out b hb; have h2 := HW4O.out b h.symm; omega)
              clear b8
              go_wp2_with fail
              refine HC.out.mono ?_
              rintro e w9 hp
              obtain ⟨l, rfl, hle, hlg⟩ := PutP.grows HGF.out (Nat.le_refl _) (HFF.out.mono HSZ4.out) HFD.out HFO.out hp
              have HLE := Lib.hid hle
              have HLG := Lib.hid hlg
              clear hp hle hlg
              go_wp2_with fail
              refine bodyPost_ret (v := .tuple #[l.val, .bool true]) ?_ rfl ⟨l, by rw [HZ.out, writeL_yes HYES.out], ?_, HLG.out.done.1, HLG.out.done.2.mono B.out.size, nextB B.out HLG.out.bel⟩
              · simp only [results, Tryz.results13]
                go_simp
              · rw [HZ.out, writeL_yes HYES.out, HLE.out]
                have h8 := HSE.out
                have h9 := HCE.out
                simp only [LFile.er, List.map_cons, List.map_nil, h8, h9]; rfl
            case false =>
              clear hz
              go_wp2_with fail
              refine hsb.out.mono ?_
              rintro e w7 ⟨rfl, b7⟩
              first
                | replace G := Lib.hid (Loc.At.belowAll G.out (b7))
                | replace G := Lib.hid (nextB G.out (b7))
                | replace G := Lib.hid (Boxed.keep G.out (b7))
                | replace G := Lib.hid (Dat.belowAll G.out (b7))
                | replace G := Lib.hid (Fr.belowAll G.out (b7))
                | replace G := Lib.hid (Own.belowAll G.out (b7))
                | replace G := Lib.hid (Grows.next G.out (b7))
              first
                | replace AQ := Lib.hid (Loc.At.belowAll AQ.out (b7))
                | replace AQ := Lib.hid (nextB AQ.out (b7))
                | replace AQ := Lib.hid (Boxed.keep AQ.out (b7))
                | replace AQ := Lib.hid (Dat.belowAll AQ.out (b7))
                | replace AQ := Lib.hid (Fr.belowAll AQ.out (b7))
                | replace AQ := Lib.hid (Own.belowAll AQ.out (b7))
                | replace AQ := Lib.hid (Grows.next AQ.out (b7))
              first
                | replace FQ := Lib.hid (Loc.At.belowAll FQ.out (b7))
                | replace FQ := Lib.hid (nextB FQ.out (b7))
                | replace FQ := Lib.hid (Boxed.keep FQ.out (b7))
                | replace FQ := Lib.hid (Dat.belowAll FQ.out (b7))
                | replace FQ := Lib.hid (Fr.belowAll FQ.out (b7))
                | replace FQ := Lib.hid (Own.belowAll FQ.out (b7))
                | replace FQ := Lib.hid (Grows.next FQ.out (b7))
              first
                | replace BX := Lib.hid (Loc.At.belowAll BX.out (b7))
                | replace BX := Lib.hid (nextB BX.out (b7))
                | replace BX := Lib.hid (Boxed.keep BX.out (b7))
                | replace BX := Lib.hid (Dat.belowAll BX.out (b7))
                | replace BX := Lib.hid (Fr.belowAll BX.out (b7))
                | replace BX := Lib.hid (Own.belowAll BX.out (b7))
                | replace BX := Lib.hid (Grows.next BX.out (b7))
              first
                | replace BQ := Lib.hid (Loc.At.belowAll BQ.out (b7))
                | replace BQ := Lib.hid (nextB BQ.out (b7))
                | replace BQ := Lib.hid (Boxed.keep BQ.out (b7))
                | replace BQ := Lib.hid (Dat.belowAll BQ.out (b7))
                | replace BQ := Lib.hid (Fr.belowAll BQ.out (b7))
                | replace BQ := Lib.hid (Own.belowAll BQ.out (b7))
                | replace BQ := Lib.hid (Grows.next BQ.out (b7))
              clear b7 hsb
              have p0 := BX.out.2 0 _ rfl
              have p1 := BX.out.2 1 _ rfl
              have p2 := BX.out.2 2 _ rfl
              have b8 : Below w7.heap.size w7 (w7.alloc (Obj.cells #[.slice qa qs.length qc, .bool false, .string s] 42)) := (Below.refl _ _).alloc (Nat.le_refl _) _
              have HNA := Lib.hid (new_At (α := LSib) w7 [(⟨⟨qa, qc, qs⟩, false, s⟩ : LSib)] #[.slice qa qs.length qc, .bool false, .string s] 42 rfl (by simp [maxLen]) (fun z hz => by rw [List.mem_singleton.1 hz]; exact ⟨AQ.out, HST.out⟩))
              have HFE : Hid (Dat.fp (⟨n, ⟨some ⟨w7.heap.size, 0, none⟩, 1, [(⟨⟨qa, qc, qs⟩, false, s⟩ : LSib)]⟩⟩ : LFile) = [w7.heap.size] ++ (⟨qa, qc, qs⟩ : Loc Int).fp) := Lib.hid (by simp [Dat.fp, Loc.fp, Loc.blk])
              have HFF : Hid (Fr w4.heap.size (w7.alloc (Obj.cells #[.slice qa qs.length qc, .bool false, .string s] 42)) (Dat.fp (⟨n, ⟨some ⟨w7.heap.size, 0, none⟩, 1, [(⟨⟨qa, qc, qs⟩, false, s⟩ : LSib)]⟩⟩ : LFile))) := Lib.hid (by
                rw [HFE.out]
                refine Fr.append ⟨fun b hb => ?_, by simp, fun b hb => ?_⟩ (FQ.out.belowAll b8) (fun a ha b hb => ?_)
                · rw [List.mem_singleton.1 hb]; exact BQ.out.size
                · rw [List.mem_singleton.1 hb]; exact ⟨_, _, heap_alloc_new w7 _⟩
                · rw [List.mem_singleton.1 ha]; have := FQ.out.lt b hb; omega)
              have HGF := Lib.hid (G.out.next b8)
              have HGE := Lib.hid HFF.out.ge
              have HC := Lib.hid (putFile_any w1.heap.size ⟨ca, cc, cs⟩ (⟨n, ⟨some ⟨w7.heap.size, 0, none⟩, 1, [(⟨⟨qa, qc, qs⟩, false, s⟩ : LSib)]⟩⟩ : LFile) _ HGF.out.own HGF.out.bel.size
                (by have := congrArg List.length HCE.out; have h2 := HT.out.few; simp at this; simp only; omega) (by show NAsc (cs.map LFile.er); rw [HCE.out]; exact HT.out.up) ⟨HNA.out, HN.out⟩ (fun b hb h => by have h1 := HGE.out b hb; have h2 := HW4O.out b h.symm; omega))
              have HFD : Hid (∀ a ∈ (⟨ca, cc, cs⟩ : Loc LFile).xs.flatMap Dat.fp, ∀ b ∈ Dat.fp (⟨n, ⟨some ⟨w7.heap.size, 0, none⟩, 1, [(⟨⟨qa, qc, qs⟩, false, s⟩ : LSib)]⟩⟩ : LFile), a ≠ b) := Lib.hid (fun a ha b hb => by have h1 := HGE.out b hb; have h2 := HW4.out a ha; omega)
              have HFO : Hid (∀ b ∈ Dat.fp (⟨n, ⟨some ⟨w7.heap.size, 0, none⟩, 1, [(⟨⟨qa, qc, qs⟩, false, s⟩ : LSib)]⟩⟩ : LFile), some b ≠ (⟨ca, cc, cs⟩ : Loc LFile).val.ownBlock) := Lib.hid (fun b hb h => by have h1 := HGE.out b hb; have h2 := HW4O.out b h.symm; omega)
              clear b8
              go_wp2_with fail
              refine HC.out.mono ?_
              rintro e w9 hp
              obtain ⟨l, rfl, hle, hlg⟩ := PutP.grows HGF.out (Nat.le_refl _) (HFF.out.mono HSZ4.out) HFD.out HFO.out hp
              have HLE := Lib.hid hle
              have HLG := Lib.hid hlg
              clear hp hle hlg
              go_wp2_with fail
              refine bodyPost_ret (v := .tuple #[l.val, .bool true]) ?_ rfl ⟨l, by rw [HZ.out, writeL_yes HYES.out], ?_, HLG.out.done.1, HLG.out.done.2.mono B.out.size, nextB B.out HLG.out.bel⟩
              · simp only [results, Tryz.results13]
                go_simp
              · rw [HZ.out, writeL_yes HYES.out, HLE.out]
                have h8 := HSE.out
                have h9 := HCE.out
                simp only [LFile.er, List.map_cons, List.map_nil, h8, h9]; rfl
end Go.Proofs.YtdidkfadiaafiaaGreatDoor
