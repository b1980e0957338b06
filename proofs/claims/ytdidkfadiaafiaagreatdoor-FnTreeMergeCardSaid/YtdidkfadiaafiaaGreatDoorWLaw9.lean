/- The walk of FnTreeMerge. -/
import Derived.Test.YtdidkfadiaafiaaGreatDoorMergeKit
import Derived.Test.YtdidkfadiaafiaaGreatDoorRelM
namespace Go.Proofs.YtdidkfadiaafiaaGreatDoor
open Go Go.RowKit

theorem wpList_guarded {P : Program} {w : World} {ops : Array Oper} {rest : List Oper} {o : Oper} {a : Act} {Q : Exit → Act → World → Prop} (hg : Region.wanted o (yielded ops a.tmps) = true)
    (h : wpList P ops Q ({ o with guard := none } :: rest) a w) : wpList P ops Q (o :: rest) a w := by
  unfold wpList at h ⊢
  rw [if_pos hg]
  rw [if_pos (by simp [Region.wanted])] at h
  exact h
def nmsM : List ByteArray := [(⟨#[65]⟩ : ByteArray), ⟨#[66]⟩, ⟨#[67]⟩, ⟨#[68]⟩, ⟨#[69]⟩, ⟨#[70]⟩]
theorem nmsM_size : ∀ s ∈ nmsM, s.size ≤ 1000 := by
  intro s h
  simp only [nmsM, List.mem_cons, List.mem_nil_iff, or_false] at h
  rcases h with rfl | rfl | rfl | rfl | rfl | rfl <;> decide

set_option maxRecDepth 100000 in
set_option maxHeartbeats 8000000 in
theorem treeMerge_walk (x : Loc UInt8) (w : World) (hx : x.At w) :
    Calls Tryz.prog 9 #[x.val] w fun e w' => e = .returned (.bool true) ∧ Below w.heap.size w w' := by
  have h1 := hx.lenMax
  have HX0 := Lib.hid hx
  clear hx
  by_cases hbig : (1048576 : Int) < (x.xs.length : Int)
  · obtain ⟨xa, xc, xs⟩ := x
    simp only [Loc.val] at hbig ⊢
    go_enter Tryz.func9, Tryz.ntmps9
    go_wp2_with fail
    go_ret
    exact ⟨rfl, Below.refl _ _⟩
  have hc := Lib.hid (drawTreeMerge_any x w HX0.out)
  obtain ⟨ua, uc, us⟩ := x
  simp only [Loc.val] at hbig hc ⊢
  go_enter Tryz.func9, Tryz.ntmps9
  go_wp2_with fail
  refine hc.out.mono ?_
  rintro e w1 ⟨⟨fa, fc, fs⟩, ⟨ba, bc, bs⟩, rfl, -, -, hA, hBt, b1⟩
  have B := Lib.hid b1
  have AA := Lib.hid hA
  have AB := Lib.hid hBt
  obtain ⟨T, hT⟩ : ∃ T, fs.map LFile.er = T := ⟨_, rfl⟩
  obtain ⟨S, hS⟩ : ∃ S, bs.map LFile.er = S := ⟨_, rfl⟩
  have HTE := Lib.hid hT
  have HSE := Lib.hid hS
  obtain ⟨⟨X, ok⟩, hP⟩ : ∃ P, mergeTZ T S = P := ⟨_, rfl⟩
  have HP := Lib.hid hP
  clear hc hA hBt b1 hP hT hS
  simp only [Loc.val]
  go_wp2_with fail
  refine (sTreeMerge_any ⟨fa, fc, fs⟩ ⟨ba, bc, bs⟩ w1 AA.out AB.out).mono ?_
  rw [HTE.out, HSE.out, HP.out]
  rintro e w2 ⟨⟨va, vc, vs⟩, rfl, hv, hvA, b2⟩
  have HVE := Lib.hid hv
  have AV := Lib.hid hvA
  first
    | replace B := Lib.hid (Loc.At.belowAll B.out (b2))
    | replace B := Lib.hid (nextB B.out (b2))
    | replace B := Lib.hid (Boxed.keep B.out (b2))
    | replace B := Lib.hid (Dat.belowAll B.out (b2))
    | replace B := Lib.hid (Fr.belowAll B.out (b2))
    | replace B := Lib.hid (Own.belowAll B.out (b2))
    | replace B := Lib.hid (Grows.next B.out (b2))
  first
    | replace AA := Lib.hid (Loc.At.belowAll AA.out (b2))
    | replace AA := Lib.hid (nextB AA.out (b2))
    | replace AA := Lib.hid (Boxed.keep AA.out (b2))
    | replace AA := Lib.hid (Dat.belowAll AA.out (b2))
    | replace AA := Lib.hid (Fr.belowAll AA.out (b2))
    | replace AA := Lib.hid (Own.belowAll AA.out (b2))
    | replace AA := Lib.hid (Grows.next AA.out (b2))
  first
    | replace AB := Lib.hid (Loc.At.belowAll AB.out (b2))
    | replace AB := Lib.hid (nextB AB.out (b2))
    | replace AB := Lib.hid (Boxed.keep AB.out (b2))
    | replace AB := Lib.hid (Dat.belowAll AB.out (b2))
    | replace AB := Lib.hid (Fr.belowAll AB.out (b2))
    | replace AB := Lib.hid (Own.belowAll AB.out (b2))
    | replace AB := Lib.hid (Grows.next AB.out (b2))
  clear hv hvA b2
  simp only [Loc.val]
  go_wp2_with fail
  refine (iTreeMerge_any ⟨fa, fc, fs⟩ ⟨ba, bc, bs⟩ w2 AA.out AB.out).mono ?_
  rw [HTE.out, HSE.out, HP.out]
  rintro e w3 ⟨⟨xa, xc, xs⟩, rfl, hx, hxA, -, b3⟩
  have HXE := Lib.hid (show xs.map LFile.er = X from hx)
  have AX := Lib.hid hxA
  first
    | replace B := Lib.hid (Loc.At.belowAll B.out (b3))
    | replace B := Lib.hid (nextB B.out (b3))
    | replace B := Lib.hid (Boxed.keep B.out (b3))
    | replace B := Lib.hid (Dat.belowAll B.out (b3))
    | replace B := Lib.hid (Fr.belowAll B.out (b3))
    | replace B := Lib.hid (Own.belowAll B.out (b3))
    | replace B := Lib.hid (Grows.next B.out (b3))
  first
    | replace AA := Lib.hid (Loc.At.belowAll AA.out (b3))
    | replace AA := Lib.hid (nextB AA.out (b3))
    | replace AA := Lib.hid (Boxed.keep AA.out (b3))
    | replace AA := Lib.hid (Dat.belowAll AA.out (b3))
    | replace AA := Lib.hid (Fr.belowAll AA.out (b3))
    | replace AA := Lib.hid (Own.belowAll AA.out (b3))
    | replace AA := Lib.hid (Grows.next AA.out (b3))
  first
    | replace AB := Lib.hid (Loc.At.belowAll AB.out (b3))
    | replace AB := Lib.hid (nextB AB.out (b3))
    | replace AB := Lib.hid (Boxed.keep AB.out (b3))
    | replace AB := Lib.hid (Dat.belowAll AB.out (b3))
    | replace AB := Lib.hid (Fr.belowAll AB.out (b3))
    | replace AB := Lib.hid (Own.belowAll AB.out (b3))
    | replace AB := Lib.hid (Grows.next AB.out (b3))
  first
    | replace AV := Lib.hid (Loc.At.belowAll AV.out (b3))
    | replace AV := Lib.hid (nextB AV.out (b3))
    | replace AV := Lib.hid (Boxed.keep AV.out (b3))
    | replace AV := Lib.hid (Dat.belowAll AV.out (b3))
    | replace AV := Lib.hid (Fr.belowAll AV.out (b3))
    | replace AV := Lib.hid (Own.belowAll AV.out (b3))
    | replace AV := Lib.hid (Grows.next AV.out (b3))
  clear hx hxA b3
  have hbb : (ok != ok) = false := by simp
  have hbe : (ok == ok) = true := by simp
  have HXV : Hid ((⟨xa, xc, xs⟩ : Loc LFile).xs.map LFile.er = (⟨va, vc, vs⟩ : Loc LFile).xs.map LFile.er) := Lib.hid (HXE.out.trans HVE.out.symm)
  simp only [Loc.val]
  go_wp2_with fail
  refine (lvTree_yes ⟨xa, xc, xs⟩ ⟨va, vc, vs⟩ w3 AX.out AV.out HXV.out).mono ?_
  rintro e w4 ⟨rfl, b4⟩
  first
    | replace B := Lib.hid (Loc.At.belowAll B.out (b4))
    | replace B := Lib.hid (nextB B.out (b4))
    | replace B := Lib.hid (Boxed.keep B.out (b4))
    | replace B := Lib.hid (Dat.belowAll B.out (b4))
    | replace B := Lib.hid (Fr.belowAll B.out (b4))
    | replace B := Lib.hid (Own.belowAll B.out (b4))
    | replace B := Lib.hid (Grows.next B.out (b4))
  first
    | replace AA := Lib.hid (Loc.At.belowAll AA.out (b4))
    | replace AA := Lib.hid (nextB AA.out (b4))
    | replace AA := Lib.hid (Boxed.keep AA.out (b4))
    | replace AA := Lib.hid (Dat.belowAll AA.out (b4))
    | replace AA := Lib.hid (Fr.belowAll AA.out (b4))
    | replace AA := Lib.hid (Own.belowAll AA.out (b4))
    | replace AA := Lib.hid (Grows.next AA.out (b4))
  first
    | replace AB := Lib.hid (Loc.At.belowAll AB.out (b4))
    | replace AB := Lib.hid (nextB AB.out (b4))
    | replace AB := Lib.hid (Boxed.keep AB.out (b4))
    | replace AB := Lib.hid (Dat.belowAll AB.out (b4))
    | replace AB := Lib.hid (Fr.belowAll AB.out (b4))
    | replace AB := Lib.hid (Own.belowAll AB.out (b4))
    | replace AB := Lib.hid (Grows.next AB.out (b4))
  first
    | replace AV := Lib.hid (Loc.At.belowAll AV.out (b4))
    | replace AV := Lib.hid (nextB AV.out (b4))
    | replace AV := Lib.hid (Boxed.keep AV.out (b4))
    | replace AV := Lib.hid (Dat.belowAll AV.out (b4))
    | replace AV := Lib.hid (Fr.belowAll AV.out (b4))
    | replace AV := Lib.hid (Own.belowAll AV.out (b4))
    | replace AV := Lib.hid (Grows.next AV.out (b4))
  first
    | replace AX := Lib.hid (Loc.At.belowAll AX.out (b4))
    | replace AX := Lib.hid (nextB AX.out (b4))
    | replace AX := Lib.hid (Boxed.keep AX.out (b4))
    | replace AX := Lib.hid (Dat.belowAll AX.out (b4))
    | replace AX := Lib.hid (Fr.belowAll AX.out (b4))
    | replace AX := Lib.hid (Own.belowAll AX.out (b4))
    | replace AX := Lib.hid (Grows.next AX.out (b4))
  clear b4
  cases ok with
  | false =>
    go_wp2_with fail
    refine (lvTree_yes ⟨xa, xc, xs⟩ ⟨va, vc, vs⟩ w4 AX.out AV.out HXV.out).mono ?_
    rintro e w9 ⟨rfl, b9⟩
    first
      | replace B := Lib.hid (Loc.At.belowAll B.out (b9))
      | replace B := Lib.hid (nextB B.out (b9))
      | replace B := Lib.hid (Boxed.keep B.out (b9))
      | replace B := Lib.hid (Dat.belowAll B.out (b9))
      | replace B := Lib.hid (Fr.belowAll B.out (b9))
      | replace B := Lib.hid (Own.belowAll B.out (b9))
      | replace B := Lib.hid (Grows.next B.out (b9))
    clear b9
    go_wp2_with fail
    go_ret
    exact ⟨rfl, B.out⟩
  | true =>
    have HOK := Lib.hid (mergeTZ_ok HP.out)
    have EA : Hid ((⟨fa, fc, fs⟩ : Loc LFile).xs.map LFile.er = T) := Lib.hid HTE.out
    have EB : Hid ((⟨ba, bc, bs⟩ : Loc LFile).xs.map LFile.er = S) := Lib.hid HSE.out
    have EX : Hid ((⟨xa, xc, xs⟩ : Loc LFile).xs.map LFile.er = X) := Lib.hid HXE.out
    have b8 : Below w4.heap.size w4 (w4.alloc (Obj.cells #[.string ⟨#[65]⟩, .string ⟨#[66]⟩, .string ⟨#[67]⟩, .string ⟨#[68]⟩, .string ⟨#[69]⟩, .string ⟨#[70]⟩] 9)) := (Below.refl _ _).alloc (Nat.le_refl _) _
    have HLA := Lib.hid (strs_At (xs := nmsM) (n := 6) (heap_alloc_new w4 (Obj.cells #[.string ⟨#[65]⟩, .string ⟨#[66]⟩, .string ⟨#[67]⟩, .string ⟨#[68]⟩, .string ⟨#[69]⟩, .string ⟨#[70]⟩] 9)) rfl rfl (by decide) nmsM_size)
    first
      | replace B := Lib.hid (Loc.At.belowAll B.out (b8))
      | replace B := Lib.hid (nextB B.out (b8))
      | replace B := Lib.hid (Boxed.keep B.out (b8))
      | replace B := Lib.hid (Dat.belowAll B.out (b8))
      | replace B := Lib.hid (Fr.belowAll B.out (b8))
      | replace B := Lib.hid (Own.belowAll B.out (b8))
      | replace B := Lib.hid (Grows.next B.out (b8))
    first
      | replace AA := Lib.hid (Loc.At.belowAll AA.out (b8))
      | replace AA := Lib.hid (nextB AA.out (b8))
      | replace AA := Lib.hid (Boxed.keep AA.out (b8))
      | replace AA := Lib.hid (Dat.belowAll AA.out (b8))
      | replace AA := Lib.hid (Fr.belowAll AA.out (b8))
      | replace AA := Lib.hid (Own.belowAll AA.out (b8))
      | replace AA := Lib.hid (Grows.next AA.out (b8))
    first
      | replace AB := Lib.hid (Loc.At.belowAll AB.out (b8))
      | replace AB := Lib.hid (nextB AB.out (b8))
      | replace AB := Lib.hid (Boxed.keep AB.out (b8))
      | replace AB := Lib.hid (Dat.belowAll AB.out (b8))
      | replace AB := Lib.hid (Fr.belowAll AB.out (b8))
      | replace AB := Lib.hid (Own.belowAll AB.out (b8))
      | replace AB := Lib.hid (Grows.next AB.out (b8))
    first
      | replace AX := Lib.hid (Loc.At.belowAll AX.out (b8))
      | replace AX := Lib.hid (nextB AX.out (b8))
      | replace AX := Lib.hid (Boxed.keep AX.out (b8))
      | replace AX := Lib.hid (Dat.belowAll AX.out (b8))
      | replace AX := Lib.hid (Fr.belowAll AX.out (b8))
      | replace AX := Lib.hid (Own.belowAll AX.out (b8))
      | replace AX := Lib.hid (Grows.next AX.out (b8))
    clear b8
    go_wp2_with fail
    generalize w4.alloc (Obj.cells #[.string ⟨#[65]⟩, .string ⟨#[66]⟩, .string ⟨#[67]⟩, .string ⟨#[68]⟩, .string ⟨#[69]⟩, .string ⟨#[70]⟩] 9) = w8 at *
    generalize w4.heap.size = N at *
    go_loopw [59] (fun i wr => ∃ k : Nat, k ≤ 6 ∧ i = .int .i64 k ∧ Below w8.heap.size w8 wr) (fun i _ => 6 - (intOf i).toNat)
    case atStart => exact ⟨0, Nat.zero_le _, rfl, Below.refl _ _⟩
    case round =>
      obtain ⟨k, hk, rfl, hb⟩ := hrel
      have HB := Lib.hid hb
      clear hb
      by_cases hlt : k < 6
      · obtain ⟨n, hn⟩ : ∃ n, nmsM[k]'hlt = n := ⟨_, rfl⟩
        have cm : wr.cell? ⟨N, k, none⟩ = some (.string n) := by
          have := (HLA.out.belowAll HB.out).cellK (b := N) (o := 0) rfl (i := k) hlt (j := 0) (v := .string (nmsM[k]'hlt)) rfl
          rw [hn] at this
          simpa [Dat.k] using this
        have HLAW := Lib.hid (file_law HP.out n)
        have HZ1 := Lib.hid (atZ_of HOK.out.1 n)
        have HZ2 := Lib.hid (atZ_of HOK.out.2.1 n)
        have HZ3 := Lib.hid (atZ_of HOK.out.2.2.1 n)
        clear hn
        go_wp2_with fail
        refine (treeAt_ok ⟨fa, fc, fs⟩ n wr (AA.out.belowAll HB.out) EA.out HOK.out.1).mono ?_
        rintro e w9 ⟨⟨pa, pc, ps⟩, rfl, hp, hpA, -, b9⟩
        have PE := Lib.hid (show ps.map LSib.er = atL n T from hp)
        have AP := Lib.hid hpA
        first
          | replace HB := Lib.hid (Loc.At.belowAll HB.out (b9))
          | replace HB := Lib.hid (nextB HB.out (b9))
          | replace HB := Lib.hid (Boxed.keep HB.out (b9))
          | replace HB := Lib.hid (Dat.belowAll HB.out (b9))
          | replace HB := Lib.hid (Fr.belowAll HB.out (b9))
          | replace HB := Lib.hid (Own.belowAll HB.out (b9))
          | replace HB := Lib.hid (Grows.next HB.out (b9))
        clear hp hpA b9 cm
        simp only [Loc.val]
        go_wp2_with fail
        refine (treeAt_ok ⟨ba, bc, bs⟩ n w9 (AB.out.belowAll HB.out) EB.out HOK.out.2.1).mono ?_
        rintro e w10 ⟨⟨qa, qc, qs⟩, rfl, hp, hpA, -, b9⟩
        have QE := Lib.hid (show qs.map LSib.er = atL n S from hp)
        have AQ := Lib.hid hpA
        first
          | replace HB := Lib.hid (Loc.At.belowAll HB.out (b9))
          | replace HB := Lib.hid (nextB HB.out (b9))
          | replace HB := Lib.hid (Boxed.keep HB.out (b9))
          | replace HB := Lib.hid (Dat.belowAll HB.out (b9))
          | replace HB := Lib.hid (Fr.belowAll HB.out (b9))
          | replace HB := Lib.hid (Own.belowAll HB.out (b9))
          | replace HB := Lib.hid (Grows.next HB.out (b9))
        first
          | replace AP := Lib.hid (Loc.At.belowAll AP.out (b9))
          | replace AP := Lib.hid (nextB AP.out (b9))
          | replace AP := Lib.hid (Boxed.keep AP.out (b9))
          | replace AP := Lib.hid (Dat.belowAll AP.out (b9))
          | replace AP := Lib.hid (Fr.belowAll AP.out (b9))
          | replace AP := Lib.hid (Own.belowAll AP.out (b9))
          | replace AP := Lib.hid (Grows.next AP.out (b9))
        clear hp hpA b9
        simp only [Loc.val]
        go_wp2_with fail
        refine (treeAt_ok ⟨xa, xc, xs⟩ n w10 (AX.out.belowAll HB.out) EX.out HOK.out.2.2.1).mono ?_
        rintro e w11 ⟨⟨za, zc, zs⟩, rfl, hp, hpA, -, b9⟩
        have ZE := Lib.hid (show zs.map LSib.er = atL n X from hp)
        have AZ := Lib.hid hpA
        first
          | replace HB := Lib.hid (Loc.At.belowAll HB.out (b9))
          | replace HB := Lib.hid (nextB HB.out (b9))
          | replace HB := Lib.hid (Boxed.keep HB.out (b9))
          | replace HB := Lib.hid (Dat.belowAll HB.out (b9))
          | replace HB := Lib.hid (Fr.belowAll HB.out (b9))
          | replace HB := Lib.hid (Own.belowAll HB.out (b9))
          | replace HB := Lib.hid (Grows.next HB.out (b9))
        first
          | replace AP := Lib.hid (Loc.At.belowAll AP.out (b9))
          | replace AP := Lib.hid (nextB AP.out (b9))
          | replace AP := Lib.hid (Boxed.keep AP.out (b9))
          | replace AP := Lib.hid (Dat.belowAll AP.out (b9))
          | replace AP := Lib.hid (Fr.belowAll AP.out (b9))
          | replace AP := Lib.hid (Own.belowAll AP.out (b9))
          | replace AP := Lib.hid (Grows.next AP.out (b9))
        first
          | replace AQ := Lib.hid (Loc.At.belowAll AQ.out (b9))
          | replace AQ := Lib.hid (nextB AQ.out (b9))
          | replace AQ := Lib.hid (Boxed.keep AQ.out (b9))
          | replace AQ := Lib.hid (Dat.belowAll AQ.out (b9))
          | replace AQ := Lib.hid (Fr.belowAll AQ.out (b9))
          | replace AQ := Lib.hid (Own.belowAll AQ.out (b9))
          | replace AQ := Lib.hid (Grows.next AQ.out (b9))
        clear hp hpA b9
        simp only [Loc.val]
        obtain ⟨⟨U, both⟩, hU⟩ : ∃ P, mergeSZ (atL n T) (atL n S) = P := ⟨_, rfl⟩
        have HU := Lib.hid hU
        have hlaw := HLAW.out
        rw [HZ1.out, HZ2.out, HZ3.out, hU] at hlaw
        have HL2 := Lib.hid hlaw
        clear hU hlaw
        go_wp2_with fail
        refine (iSibsMerge_any ⟨pa, pc, ps⟩ ⟨qa, qc, qs⟩ w11 AP.out AQ.out).mono ?_
        rw [show (⟨pa, pc, ps⟩ : Loc LSib).xs.map LSib.er = atL n T from PE.out, show (⟨qa, qc, qs⟩ : Loc LSib).xs.map LSib.er = atL n S from QE.out, HU.out]
        rintro e w12 ⟨⟨ua', uc', us'⟩, rfl, hu, huA, b9⟩
        have UE := Lib.hid (show us'.map LSib.er = U from hu)
        have AU := Lib.hid huA
        first
          | replace HB := Lib.hid (Loc.At.belowAll HB.out (b9))
          | replace HB := Lib.hid (nextB HB.out (b9))
          | replace HB := Lib.hid (Boxed.keep HB.out (b9))
          | replace HB := Lib.hid (Dat.belowAll HB.out (b9))
          | replace HB := Lib.hid (Fr.belowAll HB.out (b9))
          | replace HB := Lib.hid (Own.belowAll HB.out (b9))
          | replace HB := Lib.hid (Grows.next HB.out (b9))
        first
          | replace AP := Lib.hid (Loc.At.belowAll AP.out (b9))
          | replace AP := Lib.hid (nextB AP.out (b9))
          | replace AP := Lib.hid (Boxed.keep AP.out (b9))
          | replace AP := Lib.hid (Dat.belowAll AP.out (b9))
          | replace AP := Lib.hid (Fr.belowAll AP.out (b9))
          | replace AP := Lib.hid (Own.belowAll AP.out (b9))
          | replace AP := Lib.hid (Grows.next AP.out (b9))
        first
          | replace AQ := Lib.hid (Loc.At.belowAll AQ.out (b9))
          | replace AQ := Lib.hid (nextB AQ.out (b9))
          | replace AQ := Lib.hid (Boxed.keep AQ.out (b9))
          | replace AQ := Lib.hid (Dat.belowAll AQ.out (b9))
          | replace AQ := Lib.hid (Fr.belowAll AQ.out (b9))
          | replace AQ := Lib.hid (Own.belowAll AQ.out (b9))
          | replace AQ := Lib.hid (Grows.next AQ.out (b9))
        first
          | replace AZ := Lib.hid (Loc.At.belowAll AZ.out (b9))
          | replace AZ := Lib.hid (nextB AZ.out (b9))
          | replace AZ := Lib.hid (Boxed.keep AZ.out (b9))
          | replace AZ := Lib.hid (Dat.belowAll AZ.out (b9))
          | replace AZ := Lib.hid (Fr.belowAll AZ.out (b9))
          | replace AZ := Lib.hid (Own.belowAll AZ.out (b9))
          | replace AZ := Lib.hid (Grows.next AZ.out (b9))
        clear hu huA b9
        simp only [Loc.val]
        cases both with
        | true =>
          have HZU : Hid ((⟨za, zc, zs⟩ : Loc LSib).xs.map LSib.er = (⟨ua', uc', us'⟩ : Loc LSib).xs.map LSib.er) := Lib.hid (ZE.out.trans ((HL2.out.1 rfl).trans UE.out.symm))
          go_wp2_with fail
          refine (lvSibs_yes ⟨za, zc, zs⟩ ⟨ua', uc', us'⟩ w12 AZ.out AU.out HZU.out).mono ?_
          rintro e w13 ⟨rfl, b9⟩
          first
            | replace HB := Lib.hid (Loc.At.belowAll HB.out (b9))
            | replace HB := Lib.hid (nextB HB.out (b9))
            | replace HB := Lib.hid (Boxed.keep HB.out (b9))
            | replace HB := Lib.hid (Dat.belowAll HB.out (b9))
            | replace HB := Lib.hid (Fr.belowAll HB.out (b9))
            | replace HB := Lib.hid (Own.belowAll HB.out (b9))
            | replace HB := Lib.hid (Grows.next HB.out (b9))
          clear b9
          go_wp2_with fail
          go_roundw
          case rel => exact ⟨k + 1, by omega, by go_num, HB.out⟩
          case measure => simp [intOf]; omega
        | false =>
          have HZA : Hid (zs.map LSib.er = (ps ++ qs).map LSib.er) := Lib.hid (by rw [ZE.out, List.map_append, PE.out, QE.out]; exact HL2.out.2 rfl)
          have HPL : Hid (ps.length ≤ 12) := Lib.hid (by have h := congrArg List.length PE.out; rw [List.length_map] at h; have := atL_len n (t := T) (fun f hf => (HOK.out.1.sib f hf).few); omega)
          have HQL : Hid (qs.length ≤ 12) := Lib.hid (by have h := congrArg List.length QE.out; rw [List.length_map] at h; have := atL_len n (t := S) (fun f hf => (HOK.out.2.1.sib f hf).few); omega)
          have HO0 := Lib.hid (Own.made (α := LSib) w12 42)
          have HB0 := Lib.hid ((Below.refl w12.heap.size w12).alloc (Nat.le_refl _) (Obj.cells #[] 42))
          go_wp2_with (at_builtin; refine wpList_guarded (by rfl) (wpList_append_all rfl _ _ 37 rfl w12.heap.size 42 elem_sib ⟨some ⟨w12.heap.size, 0, none⟩, 0, []⟩ rfl HO0.out ⟨pa, pc, ps⟩ rfl (AP.out.belowAll HB0.out) (fun z hz b hb h => by have := Loc.lt_of_At AP.out b (List.mem_append_right _ (List.mem_flatMap.2 ⟨z, hz, hb⟩)); simp [Loc.val, Value.ownBlock] at h; omega) (by have := HPL.out; simp; omega) (by simp) ?_))
          intro l w13 hap
          have LX := Lib.hid (show l.xs = ps by rw [hap.xs]; rfl)
          have LO := Lib.hid hap.own
          have LB := Lib.hid (hap.below HO0.out HB0.out (Nat.le_refl _) (by simp))
          have LF : Hid (∀ z ∈ qs, ∀ b ∈ Dat.fp z, some b ≠ l.val.ownBlock) := Lib.hid (fun z hz b hb h => by
            have h1 := Loc.lt_of_At AQ.out b (List.mem_append_right _ (List.mem_flatMap.2 ⟨z, hz, hb⟩))
            have h2 := (LO.out.lt b h.symm).1
            omega)
          clear hap HO0 HB0
          go_wp2_with (at_builtin; refine wpList_guarded (by rfl) (wpList_append_all rfl _ _ 37 rfl w12.heap.size 42 elem_sib l rfl LO.out ⟨qa, qc, qs⟩ rfl (AQ.out.belowAll LB.out) LF.out (by rw [LX.out]; have := HPL.out; have := HQL.out; simp only; omega) LB.out.size ?_))
          intro l2 w14 hap
          have L2X := Lib.hid (show l2.xs = ps ++ qs by rw [hap.xs, LX.out])
          have L2A := Lib.hid hap.own.at_
          have L2B := Lib.hid (hap.below LO.out LB.out (Nat.le_refl _) LB.out.size)
          first
            | replace HB := Lib.hid (Loc.At.belowAll HB.out (L2B.out))
            | replace HB := Lib.hid (nextB HB.out (L2B.out))
            | replace HB := Lib.hid (Boxed.keep HB.out (L2B.out))
            | replace HB := Lib.hid (Dat.belowAll HB.out (L2B.out))
            | replace HB := Lib.hid (Fr.belowAll HB.out (L2B.out))
            | replace HB := Lib.hid (Own.belowAll HB.out (L2B.out))
            | replace HB := Lib.hid (Grows.next HB.out (L2B.out))
          first
            | replace AZ := Lib.hid (Loc.At.belowAll AZ.out (L2B.out))
            | replace AZ := Lib.hid (nextB AZ.out (L2B.out))
            | replace AZ := Lib.hid (Boxed.keep AZ.out (L2B.out))
            | replace AZ := Lib.hid (Dat.belowAll AZ.out (L2B.out))
            | replace AZ := Lib.hid (Fr.belowAll AZ.out (L2B.out))
            | replace AZ := Lib.hid (Own.belowAll AZ.out (L2B.out))
            | replace AZ := Lib.hid (Grows.next AZ.out (L2B.out))
          clear hap LF LO LB
          go_wp2_with fail
          refine (lvSibs_yes ⟨za, zc, zs⟩ l2 w14 AZ.out L2A.out (by rw [L2X.out]; exact HZA.out)).mono ?_
          rintro e w15 ⟨rfl, b9⟩
          first
            | replace HB := Lib.hid (Loc.At.belowAll HB.out (b9))
            | replace HB := Lib.hid (nextB HB.out (b9))
            | replace HB := Lib.hid (Boxed.keep HB.out (b9))
            | replace HB := Lib.hid (Dat.belowAll HB.out (b9))
            | replace HB := Lib.hid (Fr.belowAll HB.out (b9))
            | replace HB := Lib.hid (Own.belowAll HB.out (b9))
            | replace HB := Lib.hid (Grows.next HB.out (b9))
          clear b9
          go_wp2_with fail
          go_roundw
          case rel => exact ⟨k + 1, by omega, by go_num, HB.out⟩
          case measure => simp [intOf]; omega
      · have hk6 : k = 6 := by omega
        subst hk6
        have HBF := Lib.hid (nextB B.out HB.out)
        first
          | replace AX := Lib.hid (Loc.At.belowAll AX.out (HB.out))
          | replace AX := Lib.hid (nextB AX.out (HB.out))
          | replace AX := Lib.hid (Boxed.keep AX.out (HB.out))
          | replace AX := Lib.hid (Dat.belowAll AX.out (HB.out))
          | replace AX := Lib.hid (Fr.belowAll AX.out (HB.out))
          | replace AX := Lib.hid (Own.belowAll AX.out (HB.out))
          | replace AX := Lib.hid (Grows.next AX.out (HB.out))
        go_wp2_with fail
        refine (iTreeOk_any' ⟨xa, xc, xs⟩ wr AX.out).mono ?_
        rw [EX.out, treeB_true HOK.out.2.2.1]
        rintro e w9 ⟨rfl, b9⟩
        first
          | replace HBF := Lib.hid (Loc.At.belowAll HBF.out (b9))
          | replace HBF := Lib.hid (nextB HBF.out (b9))
          | replace HBF := Lib.hid (Boxed.keep HBF.out (b9))
          | replace HBF := Lib.hid (Dat.belowAll HBF.out (b9))
          | replace HBF := Lib.hid (Fr.belowAll HBF.out (b9))
          | replace HBF := Lib.hid (Own.belowAll HBF.out (b9))
          | replace HBF := Lib.hid (Grows.next HBF.out (b9))
        clear b9
        go_wp2_with fail
        go_ret
        exact ⟨rfl, HBF.out⟩
end Go.Proofs.YtdidkfadiaafiaaGreatDoor
