/-
  NARROWER THAN 'FOR EVERY INPUT', by the rows' own cells (each row's printed sentence says how): FnExactTreeWrite: laid · FnExactTreeMerge: laid · FnWriteMerge: laid · FnWriteApart: laid · FnTreeBoth: laid · FnTreeThree: laid · FnTreeMerge: laid.
  DERIVED. THE GIVEN ROWS OF THIS SEAT. 7 by the template 'for every input the law returns true; each argument reads behind the call as it read before'; 0 by the template 'total and deterministic' (their statements: YtdidkfadiaafiaaGreatDoorTotals.lean).
  GIVEN WITH THE SEED: the statements are not yours to turn. If you find one false, say at which input.
  Laid BY PROGRAM, IN A SANDBOX (cutbox-rows.mjs): the forced cells as the released guide's own fill.sh prints them over the translation fe28bfdc0e7db21d… (all of the seat's roots in one cut). By AI agents, Wed Nov 11 2026. No macro, syntax, notation, axiom, sorry.
-/
import Derived.Test.YtdidkfadiaafiaaGreatDoorChecked
import GoSem.PinnedTables
import GoSem.Claim
import GoSem.ClaimJoined
import GoSem.ClaimMapViews
import Derived.JoinedTies
import Derived.KernelRfl
namespace Go.Proofs.YtdidkfadiaafiaaGreatDoor
/- THE CELL 'sum', in the pinned program and in every row, IS THE sha256 OF THE DUMP (.gsa) THAT YtdidkfadiaafiaaGreatDoorProg.lean LOADS. Nothing in Lean hashes anything: it is a label: what it is worth is what the hold of that sum in a sandbox is worth. -/
noncomputable def Tryz.pinned : Pinned := { name := "ytdidkfadiaafiaagreatdoor", sum := "fe28bfdc0e7db21d95372c9ba296a329b35d230e7d3a3413742d6bfb3a93bca8", checked := Tryz.checked }
namespace Rows
def none {H : Type} : Left H := { results := [], args := [] }

/- WHAT THE LISTED PACKAGE-LEVEL VARIABLES READ AS WHEN THE CALL BEGINS. Each datum BY PROGRAM (the guide's laid-datum.mjs) off the statement by which the dump's own 'gosem.cut.vars' lays the variable. In a bare row this is a premise. The card (YtdidkfadiaafiaaGreatDoorCards.lean) ties it to the program's text. -/
def laid_unicode_utf8_acceptRanges {H : Type} : DataW H := .agg [.agg [.lit (.int .u8 128), .lit (.int .u8 191)], .agg [.lit (.int .u8 160), .lit (.int .u8 191)], .agg [.lit (.int .u8 128), .lit (.int .u8 159)], .agg [.lit (.int .u8 144), .lit (.int .u8 191)], .agg [.lit (.int .u8 128), .lit (.int .u8 143)], .agg [.lit (.int .u8 0), .lit (.int .u8 0)], .agg [.lit (.int .u8 0), .lit (.int .u8 0)], .agg [.lit (.int .u8 0), .lit (.int .u8 0)], .agg [.lit (.int .u8 0), .lit (.int .u8 0)], .agg [.lit (.int .u8 0), .lit (.int .u8 0)], .agg [.lit (.int .u8 0), .lit (.int .u8 0)], .agg [.lit (.int .u8 0), .lit (.int .u8 0)], .agg [.lit (.int .u8 0), .lit (.int .u8 0)], .agg [.lit (.int .u8 0), .lit (.int .u8 0)], .agg [.lit (.int .u8 0), .lit (.int .u8 0)], .agg [.lit (.int .u8 0), .lit (.int .u8 0)]]
/-- One of Go's own tables, pinned by name: the form's constant. -/
def laid_unicode_utf8_first : DataW Unit := Go.Pinned.utf8First

/-- 'laws.FnExactTreeWrite': WHATEVER THE INPUT: true; the input reads as it did. -/
def fnExactTreeWriteSpec : ChangeSpec := { name := "fnExactTreeWrite", fn := fun _ => fun
  | [d1, d2, d3, d4, d5] => { results := [.lit (.bool true)], args := [d1, d2, d3, d4, d5] }
  | _ => none }
def fnExactTreeWriteRow : OpenClaim := { program := "ytdidkfadiaafiaagreatdoor", sum := "fe28bfdc0e7db21d95372c9ba296a329b35d230e7d3a3413742d6bfb3a93bca8", func := "loop.example/swathe/laws.FnExactTreeWrite", spec := "fnExactTreeWrite", inPlace := ["internal/bytealg.IndexByteString", "internal/bytealg.IndexString", "internal/bytealg.abigen_runtime_cmpstring", "slices.overlaps[loop.example/swathe/impl.File]"], unfollowed := true, recurses := true, named := ["unicode/utf8.first", "unicode/utf8.acceptRanges", "internal/bytealg.MaxLen"], apart := false, laid := [("unicode/utf8.acceptRanges", laid_unicode_utf8_acceptRanges), ("unicode/utf8.first", laid_unicode_utf8_first)] }
def FnExactTreeWriteSaid : Prop := fnExactTreeWriteRow.holds Tryz.pinned (OpenSpec.ofChange fnExactTreeWriteSpec)

/-- ITS FALSE NEIGHBOUR: 'it returns false'. Refute it at one input. -/
def fnExactTreeWriteWrong : ChangeSpec := { name := "fnExactTreeWrite", fn := fun _ => fun
  | [d1, d2, d3, d4, d5] => { results := [.lit (.bool false)], args := [d1, d2, d3, d4, d5] }
  | _ => none }
def FnExactTreeWriteWrongFalsely : Prop := fnExactTreeWriteRow.holds Tryz.pinned (OpenSpec.ofChange fnExactTreeWriteWrong)

/-- 'laws.FnExactTreeMerge': WHATEVER THE INPUT: true; the input reads as it did. -/
def fnExactTreeMergeSpec : ChangeSpec := { name := "fnExactTreeMerge", fn := fun _ => fun
  | [d1, d2] => { results := [.lit (.bool true)], args := [d1, d2] }
  | _ => none }
def fnExactTreeMergeRow : OpenClaim := { program := "ytdidkfadiaafiaagreatdoor", sum := "fe28bfdc0e7db21d95372c9ba296a329b35d230e7d3a3413742d6bfb3a93bca8", func := "loop.example/swathe/laws.FnExactTreeMerge", spec := "fnExactTreeMerge", inPlace := ["internal/bytealg.IndexByteString", "internal/bytealg.IndexString", "internal/bytealg.abigen_runtime_cmpstring", "slices.overlaps[loop.example/swathe/impl.File]"], unfollowed := true, recurses := true, named := ["unicode/utf8.first", "unicode/utf8.acceptRanges", "internal/bytealg.MaxLen"], apart := false, laid := [("unicode/utf8.acceptRanges", laid_unicode_utf8_acceptRanges), ("unicode/utf8.first", laid_unicode_utf8_first)] }
def FnExactTreeMergeSaid : Prop := fnExactTreeMergeRow.holds Tryz.pinned (OpenSpec.ofChange fnExactTreeMergeSpec)

/-- ITS FALSE NEIGHBOUR: 'it returns false'. Refute it at one input. -/
def fnExactTreeMergeWrong : ChangeSpec := { name := "fnExactTreeMerge", fn := fun _ => fun
  | [d1, d2] => { results := [.lit (.bool false)], args := [d1, d2] }
  | _ => none }
def FnExactTreeMergeWrongFalsely : Prop := fnExactTreeMergeRow.holds Tryz.pinned (OpenSpec.ofChange fnExactTreeMergeWrong)

/-- 'laws.FnWriteMerge': WHATEVER THE INPUT: true; the input reads as it did. -/
def fnWriteMergeSpec : ChangeSpec := { name := "fnWriteMerge", fn := fun _ => fun
  | [d] => { results := [.lit (.bool true)], args := [d] }
  | _ => none }
def fnWriteMergeRow : OpenClaim := { program := "ytdidkfadiaafiaagreatdoor", sum := "fe28bfdc0e7db21d95372c9ba296a329b35d230e7d3a3413742d6bfb3a93bca8", func := "loop.example/swathe/laws.FnWriteMerge", spec := "fnWriteMerge", inPlace := ["internal/bytealg.IndexByteString", "internal/bytealg.IndexString", "internal/bytealg.abigen_runtime_cmpstring", "slices.overlaps[loop.example/swathe/impl.File]"], unfollowed := true, recurses := true, named := ["unicode/utf8.first", "unicode/utf8.acceptRanges", "internal/bytealg.MaxLen"], apart := false, laid := [("unicode/utf8.acceptRanges", laid_unicode_utf8_acceptRanges), ("unicode/utf8.first", laid_unicode_utf8_first)] }
def FnWriteMergeSaid : Prop := fnWriteMergeRow.holds Tryz.pinned (OpenSpec.ofChange fnWriteMergeSpec)

/-- ITS FALSE NEIGHBOUR: 'it returns false'. Refute it at one input. -/
def fnWriteMergeWrong : ChangeSpec := { name := "fnWriteMerge", fn := fun _ => fun
  | [d] => { results := [.lit (.bool false)], args := [d] }
  | _ => none }
def FnWriteMergeWrongFalsely : Prop := fnWriteMergeRow.holds Tryz.pinned (OpenSpec.ofChange fnWriteMergeWrong)

/-- 'laws.FnWriteApart': WHATEVER THE INPUT: true; the input reads as it did. -/
def fnWriteApartSpec : ChangeSpec := { name := "fnWriteApart", fn := fun _ => fun
  | [d1, d2] => { results := [.lit (.bool true)], args := [d1, d2] }
  | _ => none }
def fnWriteApartRow : OpenClaim := { program := "ytdidkfadiaafiaagreatdoor", sum := "fe28bfdc0e7db21d95372c9ba296a329b35d230e7d3a3413742d6bfb3a93bca8", func := "loop.example/swathe/laws.FnWriteApart", spec := "fnWriteApart", inPlace := ["internal/bytealg.IndexByteString", "internal/bytealg.IndexString", "internal/bytealg.abigen_runtime_cmpstring", "slices.overlaps[loop.example/swathe/impl.File]"], unfollowed := true, recurses := true, named := ["unicode/utf8.first", "unicode/utf8.acceptRanges", "internal/bytealg.MaxLen"], apart := false, laid := [("unicode/utf8.acceptRanges", laid_unicode_utf8_acceptRanges), ("unicode/utf8.first", laid_unicode_utf8_first)] }
def FnWriteApartSaid : Prop := fnWriteApartRow.holds Tryz.pinned (OpenSpec.ofChange fnWriteApartSpec)

/-- ITS FALSE NEIGHBOUR: 'it returns false'. Refute it at one input. -/
def fnWriteApartWrong : ChangeSpec := { name := "fnWriteApart", fn := fun _ => fun
  | [d1, d2] => { results := [.lit (.bool false)], args := [d1, d2] }
  | _ => none }
def FnWriteApartWrongFalsely : Prop := fnWriteApartRow.holds Tryz.pinned (OpenSpec.ofChange fnWriteApartWrong)

/-- 'laws.FnTreeBoth': WHATEVER THE INPUT: true; the input reads as it did. -/
def fnTreeBothSpec : ChangeSpec := { name := "fnTreeBoth", fn := fun _ => fun
  | [d] => { results := [.lit (.bool true)], args := [d] }
  | _ => none }
def fnTreeBothRow : OpenClaim := { program := "ytdidkfadiaafiaagreatdoor", sum := "fe28bfdc0e7db21d95372c9ba296a329b35d230e7d3a3413742d6bfb3a93bca8", func := "loop.example/swathe/laws.FnTreeBoth", spec := "fnTreeBoth", inPlace := ["internal/bytealg.IndexByteString", "internal/bytealg.IndexString", "internal/bytealg.abigen_runtime_cmpstring", "slices.overlaps[loop.example/swathe/impl.File]"], unfollowed := true, recurses := true, named := ["unicode/utf8.first", "unicode/utf8.acceptRanges", "internal/bytealg.MaxLen"], apart := false, laid := [("unicode/utf8.acceptRanges", laid_unicode_utf8_acceptRanges), ("unicode/utf8.first", laid_unicode_utf8_first)] }
def FnTreeBothSaid : Prop := fnTreeBothRow.holds Tryz.pinned (OpenSpec.ofChange fnTreeBothSpec)

/-- ITS FALSE NEIGHBOUR: 'it returns false'. Refute it at one input. -/
def fnTreeBothWrong : ChangeSpec := { name := "fnTreeBoth", fn := fun _ => fun
  | [d] => { results := [.lit (.bool false)], args := [d] }
  | _ => none }
def FnTreeBothWrongFalsely : Prop := fnTreeBothRow.holds Tryz.pinned (OpenSpec.ofChange fnTreeBothWrong)

/-- 'laws.FnTreeThree': WHATEVER THE INPUT: true; the input reads as it did. -/
def fnTreeThreeSpec : ChangeSpec := { name := "fnTreeThree", fn := fun _ => fun
  | [d1, d2] => { results := [.lit (.bool true)], args := [d1, d2] }
  | _ => none }
def fnTreeThreeRow : OpenClaim := { program := "ytdidkfadiaafiaagreatdoor", sum := "fe28bfdc0e7db21d95372c9ba296a329b35d230e7d3a3413742d6bfb3a93bca8", func := "loop.example/swathe/laws.FnTreeThree", spec := "fnTreeThree", inPlace := ["internal/bytealg.IndexByteString", "internal/bytealg.IndexString", "internal/bytealg.abigen_runtime_cmpstring", "slices.overlaps[loop.example/swathe/impl.File]"], unfollowed := true, recurses := true, named := ["unicode/utf8.first", "unicode/utf8.acceptRanges", "internal/bytealg.MaxLen"], apart := false, laid := [("unicode/utf8.acceptRanges", laid_unicode_utf8_acceptRanges), ("unicode/utf8.first", laid_unicode_utf8_first)] }
def FnTreeThreeSaid : Prop := fnTreeThreeRow.holds Tryz.pinned (OpenSpec.ofChange fnTreeThreeSpec)

/-- ITS FALSE NEIGHBOUR: 'it returns false'. Refute it at one input. -/
def fnTreeThreeWrong : ChangeSpec := { name := "fnTreeThree", fn := fun _ => fun
  | [d1, d2] => { results := [.lit (.bool false)], args := [d1, d2] }
  | _ => none }
def FnTreeThreeWrongFalsely : Prop := fnTreeThreeRow.holds Tryz.pinned (OpenSpec.ofChange fnTreeThreeWrong)

/-- 'laws.FnTreeMerge': WHATEVER THE INPUT: true; the input reads as it did. -/
def fnTreeMergeSpec : ChangeSpec := { name := "fnTreeMerge", fn := fun _ => fun
  | [d] => { results := [.lit (.bool true)], args := [d] }
  | _ => none }
def fnTreeMergeRow : OpenClaim := { program := "ytdidkfadiaafiaagreatdoor", sum := "fe28bfdc0e7db21d95372c9ba296a329b35d230e7d3a3413742d6bfb3a93bca8", func := "loop.example/swathe/laws.FnTreeMerge", spec := "fnTreeMerge", inPlace := ["internal/bytealg.IndexByteString", "internal/bytealg.IndexString", "internal/bytealg.abigen_runtime_cmpstring", "slices.overlaps[loop.example/swathe/impl.File]"], unfollowed := true, recurses := true, named := ["unicode/utf8.first", "unicode/utf8.acceptRanges", "internal/bytealg.MaxLen"], apart := false, laid := [("unicode/utf8.acceptRanges", laid_unicode_utf8_acceptRanges), ("unicode/utf8.first", laid_unicode_utf8_first)] }
def FnTreeMergeSaid : Prop := fnTreeMergeRow.holds Tryz.pinned (OpenSpec.ofChange fnTreeMergeSpec)

/-- ITS FALSE NEIGHBOUR: 'it returns false'. Refute it at one input. -/
def fnTreeMergeWrong : ChangeSpec := { name := "fnTreeMerge", fn := fun _ => fun
  | [d] => { results := [.lit (.bool false)], args := [d] }
  | _ => none }
def FnTreeMergeWrongFalsely : Prop := fnTreeMergeRow.holds Tryz.pinned (OpenSpec.ofChange fnTreeMergeWrong)

/- THE SECOND FORM. 'bulk': how many values and letters a reading holds, each counted each time it is reached (what is shared counts as often as it is met; a slice's spare places count too). A statement '..UptoSaid' is the law's where the arguments, and the package variables that the reading takes, are together of bulk at most 1048576: NARROWER than '..Said'. Prove '..Said' where nothing that the law and all that it calls make is longer than what came in: it says more and counts as full. Else prove '..UptoSaid'. A law counts once. -/
mutual
def uptoBulk {H : Type} : DataW H → Nat
  | .lit (.string bytes) => bytes.length + 1
  | .lit _ => 1
  | .nil => 1
  | .ptr d => uptoBulk d + 1
  | .slice elems spare => uptoBulkAll elems + uptoBulkAll spare + 1
  | .agg parts => uptoBulkAll parts + 1
  | .iface _ d => uptoBulk d + 1
  | .map entries => uptoBulkEntries entries + 1
  | .held _ => 1
def uptoBulkAll {H : Type} : List (DataW H) → Nat
  | [] => 0
  | d :: r => uptoBulk d + uptoBulkAll r
def uptoBulkEntries {H : Type} : List (Lit × DataW H) → Nat
  | [] => 0
  | x :: r => uptoBulkEntry x + uptoBulkEntries r
def uptoBulkEntry {H : Type} : Lit × DataW H → Nat
  | (.string bytes, d) => bytes.length + uptoBulk d + 1
  | (_, d) => uptoBulk d + 1
 end
def uptoSmall : (H : Type) → List (DataW H) → Bool := fun _ ds => decide (uptoBulkAll ds ≤ 1048576)
def OpenSpec.upto (s : _root_.Go.ChangeSpec) : _root_.Go.OpenSpec := { _root_.Go.OpenSpec.ofChange s with cond := some uptoSmall }

/-- 'laws.FnExactTreeWrite', WHERE WHAT IT READS IS OF BULK AT MOST 1048576: true; the input reads as it did. -/
def fnExactTreeWriteUptoRow : OpenClaim := { program := "ytdidkfadiaafiaagreatdoor", sum := "fe28bfdc0e7db21d95372c9ba296a329b35d230e7d3a3413742d6bfb3a93bca8", func := "loop.example/swathe/laws.FnExactTreeWrite", spec := "fnExactTreeWrite", inPlace := ["internal/bytealg.IndexByteString", "internal/bytealg.IndexString", "internal/bytealg.abigen_runtime_cmpstring", "slices.overlaps[loop.example/swathe/impl.File]"], unfollowed := true, recurses := true, named := ["unicode/utf8.first", "unicode/utf8.acceptRanges", "internal/bytealg.MaxLen"], apart := false, laid := [("unicode/utf8.acceptRanges", laid_unicode_utf8_acceptRanges), ("unicode/utf8.first", laid_unicode_utf8_first)], narrowed := true }
def FnExactTreeWriteUptoSaid : Prop := fnExactTreeWriteUptoRow.holds Tryz.pinned (OpenSpec.upto fnExactTreeWriteSpec)

/-- 'laws.FnExactTreeMerge', WHERE WHAT IT READS IS OF BULK AT MOST 1048576: true; the input reads as it did. -/
def fnExactTreeMergeUptoRow : OpenClaim := { program := "ytdidkfadiaafiaagreatdoor", sum := "fe28bfdc0e7db21d95372c9ba296a329b35d230e7d3a3413742d6bfb3a93bca8", func := "loop.example/swathe/laws.FnExactTreeMerge", spec := "fnExactTreeMerge", inPlace := ["internal/bytealg.IndexByteString", "internal/bytealg.IndexString", "internal/bytealg.abigen_runtime_cmpstring", "slices.overlaps[loop.example/swathe/impl.File]"], unfollowed := true, recurses := true, named := ["unicode/utf8.first", "unicode/utf8.acceptRanges", "internal/bytealg.MaxLen"], apart := false, laid := [("unicode/utf8.acceptRanges", laid_unicode_utf8_acceptRanges), ("unicode/utf8.first", laid_unicode_utf8_first)], narrowed := true }
def FnExactTreeMergeUptoSaid : Prop := fnExactTreeMergeUptoRow.holds Tryz.pinned (OpenSpec.upto fnExactTreeMergeSpec)

/-- 'laws.FnWriteMerge', WHERE WHAT IT READS IS OF BULK AT MOST 1048576: true; the input reads as it did. -/
def fnWriteMergeUptoRow : OpenClaim := { program := "ytdidkfadiaafiaagreatdoor", sum := "fe28bfdc0e7db21d95372c9ba296a329b35d230e7d3a3413742d6bfb3a93bca8", func := "loop.example/swathe/laws.FnWriteMerge", spec := "fnWriteMerge", inPlace := ["internal/bytealg.IndexByteString", "internal/bytealg.IndexString", "internal/bytealg.abigen_runtime_cmpstring", "slices.overlaps[loop.example/swathe/impl.File]"], unfollowed := true, recurses := true, named := ["unicode/utf8.first", "unicode/utf8.acceptRanges", "internal/bytealg.MaxLen"], apart := false, laid := [("unicode/utf8.acceptRanges", laid_unicode_utf8_acceptRanges), ("unicode/utf8.first", laid_unicode_utf8_first)], narrowed := true }
def FnWriteMergeUptoSaid : Prop := fnWriteMergeUptoRow.holds Tryz.pinned (OpenSpec.upto fnWriteMergeSpec)

/-- 'laws.FnWriteApart', WHERE WHAT IT READS IS OF BULK AT MOST 1048576: true; the input reads as it did. -/
def fnWriteApartUptoRow : OpenClaim := { program := "ytdidkfadiaafiaagreatdoor", sum := "fe28bfdc0e7db21d95372c9ba296a329b35d230e7d3a3413742d6bfb3a93bca8", func := "loop.example/swathe/laws.FnWriteApart", spec := "fnWriteApart", inPlace := ["internal/bytealg.IndexByteString", "internal/bytealg.IndexString", "internal/bytealg.abigen_runtime_cmpstring", "slices.overlaps[loop.example/swathe/impl.File]"], unfollowed := true, recurses := true, named := ["unicode/utf8.first", "unicode/utf8.acceptRanges", "internal/bytealg.MaxLen"], apart := false, laid := [("unicode/utf8.acceptRanges", laid_unicode_utf8_acceptRanges), ("unicode/utf8.first", laid_unicode_utf8_first)], narrowed := true }
def FnWriteApartUptoSaid : Prop := fnWriteApartUptoRow.holds Tryz.pinned (OpenSpec.upto fnWriteApartSpec)

/-- 'laws.FnTreeBoth', WHERE WHAT IT READS IS OF BULK AT MOST 1048576: true; the input reads as it did. -/
def fnTreeBothUptoRow : OpenClaim := { program := "ytdidkfadiaafiaagreatdoor", sum := "fe28bfdc0e7db21d95372c9ba296a329b35d230e7d3a3413742d6bfb3a93bca8", func := "loop.example/swathe/laws.FnTreeBoth", spec := "fnTreeBoth", inPlace := ["internal/bytealg.IndexByteString", "internal/bytealg.IndexString", "internal/bytealg.abigen_runtime_cmpstring", "slices.overlaps[loop.example/swathe/impl.File]"], unfollowed := true, recurses := true, named := ["unicode/utf8.first", "unicode/utf8.acceptRanges", "internal/bytealg.MaxLen"], apart := false, laid := [("unicode/utf8.acceptRanges", laid_unicode_utf8_acceptRanges), ("unicode/utf8.first", laid_unicode_utf8_first)], narrowed := true }
def FnTreeBothUptoSaid : Prop := fnTreeBothUptoRow.holds Tryz.pinned (OpenSpec.upto fnTreeBothSpec)

/-- 'laws.FnTreeThree', WHERE WHAT IT READS IS OF BULK AT MOST 1048576: true; the input reads as it did. -/
def fnTreeThreeUptoRow : OpenClaim := { program := "ytdidkfadiaafiaagreatdoor", sum := "fe28bfdc0e7db21d95372c9ba296a329b35d230e7d3a3413742d6bfb3a93bca8", func := "loop.example/swathe/laws.FnTreeThree", spec := "fnTreeThree", inPlace := ["internal/bytealg.IndexByteString", "internal/bytealg.IndexString", "internal/bytealg.abigen_runtime_cmpstring", "slices.overlaps[loop.example/swathe/impl.File]"], unfollowed := true, recurses := true, named := ["unicode/utf8.first", "unicode/utf8.acceptRanges", "internal/bytealg.MaxLen"], apart := false, laid := [("unicode/utf8.acceptRanges", laid_unicode_utf8_acceptRanges), ("unicode/utf8.first", laid_unicode_utf8_first)], narrowed := true }
def FnTreeThreeUptoSaid : Prop := fnTreeThreeUptoRow.holds Tryz.pinned (OpenSpec.upto fnTreeThreeSpec)

/-- 'laws.FnTreeMerge', WHERE WHAT IT READS IS OF BULK AT MOST 1048576: true; the input reads as it did. -/
def fnTreeMergeUptoRow : OpenClaim := { program := "ytdidkfadiaafiaagreatdoor", sum := "fe28bfdc0e7db21d95372c9ba296a329b35d230e7d3a3413742d6bfb3a93bca8", func := "loop.example/swathe/laws.FnTreeMerge", spec := "fnTreeMerge", inPlace := ["internal/bytealg.IndexByteString", "internal/bytealg.IndexString", "internal/bytealg.abigen_runtime_cmpstring", "slices.overlaps[loop.example/swathe/impl.File]"], unfollowed := true, recurses := true, named := ["unicode/utf8.first", "unicode/utf8.acceptRanges", "internal/bytealg.MaxLen"], apart := false, laid := [("unicode/utf8.acceptRanges", laid_unicode_utf8_acceptRanges), ("unicode/utf8.first", laid_unicode_utf8_first)], narrowed := true }
def FnTreeMergeUptoSaid : Prop := fnTreeMergeUptoRow.holds Tryz.pinned (OpenSpec.upto fnTreeMergeSpec)

end Rows
end Go.Proofs.YtdidkfadiaafiaaGreatDoor
