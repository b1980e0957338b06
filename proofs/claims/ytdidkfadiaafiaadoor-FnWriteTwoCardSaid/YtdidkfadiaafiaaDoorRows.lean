/-
  NARROWER THAN 'FOR EVERY INPUT', by the rows' own cells (each row's printed sentence says how): FnTreeWrite: laid · FnTreeWriteNot: laid · FnGoneWrite: laid · FnWriteTwo: laid.
  DERIVED. THE GIVEN ROWS OF THIS SEAT. 4 by the template 'for every input the law returns true; each argument reads behind the call as it read before'; 0 by the template 'total and deterministic' (their statements: YtdidkfadiaafiaaDoorTotals.lean).
  GIVEN WITH THE SEED: the statements are not yours to turn. If you find one false, say at which input.
  Laid BY PROGRAM, IN A SANDBOX (cutbox-rows.mjs): the forced cells as the released guide's own fill.sh prints them over the translation 947e88749517ef11… (all of the seat's roots in one cut). By AI agents, Wed Nov 11 2026. No macro, syntax, notation, axiom, sorry.
-/
import Derived.Test.YtdidkfadiaafiaaDoorChecked
import GoSem.PinnedTables
import GoSem.Claim
import GoSem.ClaimJoined
import GoSem.ClaimMapViews
import Derived.JoinedTies
import Derived.KernelRfl
namespace Go.Proofs.YtdidkfadiaafiaaDoor
/- THE CELL 'sum', in the pinned program and in every row, IS THE sha256 OF THE DUMP (.gsa) THAT YtdidkfadiaafiaaDoorProg.lean LOADS. Nothing in Lean hashes anything: it is a label: what it is worth is what the hold of that sum in a sandbox is worth. -/
noncomputable def Tryd.pinned : Pinned := { name := "ytdidkfadiaafiaadoor", sum := "947e88749517ef111f4dbb4d889c82e51da4624390d69889f8b137092af0dcfc", checked := Tryd.checked }
namespace Rows
def none {H : Type} : Left H := { results := [], args := [] }

/- WHAT THE LISTED PACKAGE-LEVEL VARIABLES READ AS WHEN THE CALL BEGINS. Each datum BY PROGRAM (the guide's laid-datum.mjs) off the statement by which the dump's own 'gosem.cut.vars' lays the variable. In a bare row this is a premise. The card (YtdidkfadiaafiaaDoorCards.lean) ties it to the program's text. -/
def laid_unicode_utf8_acceptRanges {H : Type} : DataW H := .agg [.agg [.lit (.int .u8 128), .lit (.int .u8 191)], .agg [.lit (.int .u8 160), .lit (.int .u8 191)], .agg [.lit (.int .u8 128), .lit (.int .u8 159)], .agg [.lit (.int .u8 144), .lit (.int .u8 191)], .agg [.lit (.int .u8 128), .lit (.int .u8 143)], .agg [.lit (.int .u8 0), .lit (.int .u8 0)], .agg [.lit (.int .u8 0), .lit (.int .u8 0)], .agg [.lit (.int .u8 0), .lit (.int .u8 0)], .agg [.lit (.int .u8 0), .lit (.int .u8 0)], .agg [.lit (.int .u8 0), .lit (.int .u8 0)], .agg [.lit (.int .u8 0), .lit (.int .u8 0)], .agg [.lit (.int .u8 0), .lit (.int .u8 0)], .agg [.lit (.int .u8 0), .lit (.int .u8 0)], .agg [.lit (.int .u8 0), .lit (.int .u8 0)], .agg [.lit (.int .u8 0), .lit (.int .u8 0)], .agg [.lit (.int .u8 0), .lit (.int .u8 0)]]
/-- One of Go's own tables, pinned by name: the form's constant. -/
def laid_unicode_utf8_first : DataW Unit := Go.Pinned.utf8First

/-- 'laws.FnTreeWrite': WHATEVER THE INPUT: true; the input reads as it did. -/
def fnTreeWriteSpec : ChangeSpec := { name := "fnTreeWrite", fn := fun _ => fun
  | [d] => { results := [.lit (.bool true)], args := [d] }
  | _ => none }
def fnTreeWriteRow : OpenClaim := { program := "ytdidkfadiaafiaadoor", sum := "947e88749517ef111f4dbb4d889c82e51da4624390d69889f8b137092af0dcfc", func := "loop.example/swathe/laws.FnTreeWrite", spec := "fnTreeWrite", inPlace := ["internal/bytealg.IndexByteString", "internal/bytealg.IndexString", "internal/bytealg.abigen_runtime_cmpstring", "slices.overlaps[loop.example/swathe/impl.File]"], unfollowed := true, recurses := true, named := ["unicode/utf8.first", "unicode/utf8.acceptRanges", "internal/bytealg.MaxLen"], apart := false, laid := [("unicode/utf8.acceptRanges", laid_unicode_utf8_acceptRanges), ("unicode/utf8.first", laid_unicode_utf8_first)] }
def FnTreeWriteSaid : Prop := fnTreeWriteRow.holds Tryd.pinned (OpenSpec.ofChange fnTreeWriteSpec)

/-- ITS FALSE NEIGHBOUR: 'it returns false'. Refute it at one input. -/
def fnTreeWriteWrong : ChangeSpec := { name := "fnTreeWrite", fn := fun _ => fun
  | [d] => { results := [.lit (.bool false)], args := [d] }
  | _ => none }
def FnTreeWriteWrongFalsely : Prop := fnTreeWriteRow.holds Tryd.pinned (OpenSpec.ofChange fnTreeWriteWrong)

/-- 'laws.FnTreeWriteNot': WHATEVER THE INPUT: true; the input reads as it did. -/
def fnTreeWriteNotSpec : ChangeSpec := { name := "fnTreeWriteNot", fn := fun _ => fun
  | [d] => { results := [.lit (.bool true)], args := [d] }
  | _ => none }
def fnTreeWriteNotRow : OpenClaim := { program := "ytdidkfadiaafiaadoor", sum := "947e88749517ef111f4dbb4d889c82e51da4624390d69889f8b137092af0dcfc", func := "loop.example/swathe/laws.FnTreeWriteNot", spec := "fnTreeWriteNot", inPlace := ["internal/bytealg.IndexByteString", "internal/bytealg.IndexString", "internal/bytealg.abigen_runtime_cmpstring", "slices.overlaps[loop.example/swathe/impl.File]"], unfollowed := true, recurses := true, named := ["unicode/utf8.first", "unicode/utf8.acceptRanges", "internal/bytealg.MaxLen"], apart := false, laid := [("unicode/utf8.acceptRanges", laid_unicode_utf8_acceptRanges), ("unicode/utf8.first", laid_unicode_utf8_first)] }
def FnTreeWriteNotSaid : Prop := fnTreeWriteNotRow.holds Tryd.pinned (OpenSpec.ofChange fnTreeWriteNotSpec)

/-- ITS FALSE NEIGHBOUR: 'it returns false'. Refute it at one input. -/
def fnTreeWriteNotWrong : ChangeSpec := { name := "fnTreeWriteNot", fn := fun _ => fun
  | [d] => { results := [.lit (.bool false)], args := [d] }
  | _ => none }
def FnTreeWriteNotWrongFalsely : Prop := fnTreeWriteNotRow.holds Tryd.pinned (OpenSpec.ofChange fnTreeWriteNotWrong)

/-- 'laws.FnGoneWrite': WHATEVER THE INPUT: true; the input reads as it did. -/
def fnGoneWriteSpec : ChangeSpec := { name := "fnGoneWrite", fn := fun _ => fun
  | [d1, d2] => { results := [.lit (.bool true)], args := [d1, d2] }
  | _ => none }
def fnGoneWriteRow : OpenClaim := { program := "ytdidkfadiaafiaadoor", sum := "947e88749517ef111f4dbb4d889c82e51da4624390d69889f8b137092af0dcfc", func := "loop.example/swathe/laws.FnGoneWrite", spec := "fnGoneWrite", inPlace := ["internal/bytealg.IndexByteString", "internal/bytealg.IndexString", "internal/bytealg.abigen_runtime_cmpstring", "slices.overlaps[loop.example/swathe/impl.File]"], unfollowed := true, recurses := true, named := ["unicode/utf8.first", "unicode/utf8.acceptRanges", "internal/bytealg.MaxLen"], apart := false, laid := [("unicode/utf8.acceptRanges", laid_unicode_utf8_acceptRanges), ("unicode/utf8.first", laid_unicode_utf8_first)] }
def FnGoneWriteSaid : Prop := fnGoneWriteRow.holds Tryd.pinned (OpenSpec.ofChange fnGoneWriteSpec)

/-- ITS FALSE NEIGHBOUR: 'it returns false'. Refute it at one input. -/
def fnGoneWriteWrong : ChangeSpec := { name := "fnGoneWrite", fn := fun _ => fun
  | [d1, d2] => { results := [.lit (.bool false)], args := [d1, d2] }
  | _ => none }
def FnGoneWriteWrongFalsely : Prop := fnGoneWriteRow.holds Tryd.pinned (OpenSpec.ofChange fnGoneWriteWrong)

/-- 'laws.FnWriteTwo': WHATEVER THE INPUT: true; the input reads as it did. -/
def fnWriteTwoSpec : ChangeSpec := { name := "fnWriteTwo", fn := fun _ => fun
  | [d1, d2] => { results := [.lit (.bool true)], args := [d1, d2] }
  | _ => none }
def fnWriteTwoRow : OpenClaim := { program := "ytdidkfadiaafiaadoor", sum := "947e88749517ef111f4dbb4d889c82e51da4624390d69889f8b137092af0dcfc", func := "loop.example/swathe/laws.FnWriteTwo", spec := "fnWriteTwo", inPlace := ["internal/bytealg.IndexByteString", "internal/bytealg.IndexString", "internal/bytealg.abigen_runtime_cmpstring", "slices.overlaps[loop.example/swathe/impl.File]"], unfollowed := true, recurses := true, named := ["unicode/utf8.first", "unicode/utf8.acceptRanges", "internal/bytealg.MaxLen"], apart := false, laid := [("unicode/utf8.acceptRanges", laid_unicode_utf8_acceptRanges), ("unicode/utf8.first", laid_unicode_utf8_first)] }
def FnWriteTwoSaid : Prop := fnWriteTwoRow.holds Tryd.pinned (OpenSpec.ofChange fnWriteTwoSpec)

/-- ITS FALSE NEIGHBOUR: 'it returns false'. Refute it at one input. -/
def fnWriteTwoWrong : ChangeSpec := { name := "fnWriteTwo", fn := fun _ => fun
  | [d1, d2] => { results := [.lit (.bool false)], args := [d1, d2] }
  | _ => none }
def FnWriteTwoWrongFalsely : Prop := fnWriteTwoRow.holds Tryd.pinned (OpenSpec.ofChange fnWriteTwoWrong)

/- THE SECOND FORM. 'bulk': how many values and letters a reading holds, each counted each time it is reached (what is shared counts as often as it is met; a slice's spare places count too). A statement '..UptoSaid' is the law's where the arguments, and the package variables that the reading takes, are together of bulk at most 1048576: NARROWER than '..Said'. Prove '..Said' where nothing that the law and all that it calls make is longer than what came in: it says more and counts as full. Else prove '..UptoSaid'. A law counts once. -/
mutual
def uptoBulk {H : Type} : DataW H → Nat
  | .lit (.string bytes) => bytes.length + 1
  | .lit _ => 1
  | .nil => 1
  | .ptr d => uptoBulk d + 1
  | .slice elems spare => uptoBulkAll elems + uptoBulkAll spare + 1
  | .agg parts => uptoBulkAll parts + 1
  | .iface _ d => uptoBulk d + 1
  | .map entries => uptoBulkEntries entries + 1
  | .held _ => 1
def uptoBulkAll {H : Type} : List (DataW H) → Nat
  | [] => 0
  | d :: r => uptoBulk d + uptoBulkAll r
def uptoBulkEntries {H : Type} : List (Lit × DataW H) → Nat
  | [] => 0
  | x :: r => uptoBulkEntry x + uptoBulkEntries r
def uptoBulkEntry {H : Type} : Lit × DataW H → Nat
  | (.string bytes, d) => bytes.length + uptoBulk d + 1
  | (_, d) => uptoBulk d + 1
 end
def uptoSmall : (H : Type) → List (DataW H) → Bool := fun _ ds => decide (uptoBulkAll ds ≤ 1048576)
def OpenSpec.upto (s : _root_.Go.ChangeSpec) : _root_.Go.OpenSpec := { _root_.Go.OpenSpec.ofChange s with cond := some uptoSmall }

/-- 'laws.FnTreeWrite', WHERE WHAT IT READS IS OF BULK AT MOST 1048576: true; the input reads as it did. -/
def fnTreeWriteUptoRow : OpenClaim := { program := "ytdidkfadiaafiaadoor", sum := "947e88749517ef111f4dbb4d889c82e51da4624390d69889f8b137092af0dcfc", func := "loop.example/swathe/laws.FnTreeWrite", spec := "fnTreeWrite", inPlace := ["internal/bytealg.IndexByteString", "internal/bytealg.IndexString", "internal/bytealg.abigen_runtime_cmpstring", "slices.overlaps[loop.example/swathe/impl.File]"], unfollowed := true, recurses := true, named := ["unicode/utf8.first", "unicode/utf8.acceptRanges", "internal/bytealg.MaxLen"], apart := false, laid := [("unicode/utf8.acceptRanges", laid_unicode_utf8_acceptRanges), ("unicode/utf8.first", laid_unicode_utf8_first)], narrowed := true }
def FnTreeWriteUptoSaid : Prop := fnTreeWriteUptoRow.holds Tryd.pinned (OpenSpec.upto fnTreeWriteSpec)

/-- 'laws.FnTreeWriteNot', WHERE WHAT IT READS IS OF BULK AT MOST 1048576: true; the input reads as it did. -/
def fnTreeWriteNotUptoRow : OpenClaim := { program := "ytdidkfadiaafiaadoor", sum := "947e88749517ef111f4dbb4d889c82e51da4624390d69889f8b137092af0dcfc", func := "loop.example/swathe/laws.FnTreeWriteNot", spec := "fnTreeWriteNot", inPlace := ["internal/bytealg.IndexByteString", "internal/bytealg.IndexString", "internal/bytealg.abigen_runtime_cmpstring", "slices.overlaps[loop.example/swathe/impl.File]"], unfollowed := true, recurses := true, named := ["unicode/utf8.first", "unicode/utf8.acceptRanges", "internal/bytealg.MaxLen"], apart := false, laid := [("unicode/utf8.acceptRanges", laid_unicode_utf8_acceptRanges), ("unicode/utf8.first", laid_unicode_utf8_first)], narrowed := true }
def FnTreeWriteNotUptoSaid : Prop := fnTreeWriteNotUptoRow.holds Tryd.pinned (OpenSpec.upto fnTreeWriteNotSpec)

/-- 'laws.FnGoneWrite', WHERE WHAT IT READS IS OF BULK AT MOST 1048576: true; the input reads as it did. -/
def fnGoneWriteUptoRow : OpenClaim := { program := "ytdidkfadiaafiaadoor", sum := "947e88749517ef111f4dbb4d889c82e51da4624390d69889f8b137092af0dcfc", func := "loop.example/swathe/laws.FnGoneWrite", spec := "fnGoneWrite", inPlace := ["internal/bytealg.IndexByteString", "internal/bytealg.IndexString", "internal/bytealg.abigen_runtime_cmpstring", "slices.overlaps[loop.example/swathe/impl.File]"], unfollowed := true, recurses := true, named := ["unicode/utf8.first", "unicode/utf8.acceptRanges", "internal/bytealg.MaxLen"], apart := false, laid := [("unicode/utf8.acceptRanges", laid_unicode_utf8_acceptRanges), ("unicode/utf8.first", laid_unicode_utf8_first)], narrowed := true }
def FnGoneWriteUptoSaid : Prop := fnGoneWriteUptoRow.holds Tryd.pinned (OpenSpec.upto fnGoneWriteSpec)

/-- 'laws.FnWriteTwo', WHERE WHAT IT READS IS OF BULK AT MOST 1048576: true; the input reads as it did. -/
def fnWriteTwoUptoRow : OpenClaim := { program := "ytdidkfadiaafiaadoor", sum := "947e88749517ef111f4dbb4d889c82e51da4624390d69889f8b137092af0dcfc", func := "loop.example/swathe/laws.FnWriteTwo", spec := "fnWriteTwo", inPlace := ["internal/bytealg.IndexByteString", "internal/bytealg.IndexString", "internal/bytealg.abigen_runtime_cmpstring", "slices.overlaps[loop.example/swathe/impl.File]"], unfollowed := true, recurses := true, named := ["unicode/utf8.first", "unicode/utf8.acceptRanges", "internal/bytealg.MaxLen"], apart := false, laid := [("unicode/utf8.acceptRanges", laid_unicode_utf8_acceptRanges), ("unicode/utf8.first", laid_unicode_utf8_first)], narrowed := true }
def FnWriteTwoUptoSaid : Prop := fnWriteTwoUptoRow.holds Tryd.pinned (OpenSpec.upto fnWriteTwoSpec)

end Rows
end Go.Proofs.YtdidkfadiaafiaaDoor
