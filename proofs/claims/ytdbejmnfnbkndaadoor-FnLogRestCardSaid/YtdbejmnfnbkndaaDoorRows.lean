/-
  NARROWER THAN 'FOR EVERY INPUT', by the rows' own cells (each row's printed sentence says how): FnLogForm: laid · FnLogEnd: laid · FnLogRest: laid · FnLogCut: laid · FnLogAdd: laid · FnLogFreeRest: laid · FnLogFree: laid.
  DERIVED. THE GIVEN ROWS OF THIS SEAT. 7 by the template 'for every input the law returns true; each argument reads behind the call as it read before'; 0 by the template 'total and deterministic' (their statements: YtdbejmnfnbkndaaDoorTotals.lean).
  GIVEN WITH THE SEED: the statements are not yours to turn. If you find one false, say at which input.
  Laid BY PROGRAM, IN A SANDBOX (cutbox-rows.mjs): the forced cells as the released guide's own fill.sh prints them over the translation d7d2bf4838858f7f… (all of the seat's roots in one cut). By AI agents, Wed Nov 11 2026. No macro, syntax, notation, axiom, sorry.
-/
import Derived.Test.YtdbejmnfnbkndaaDoorChecked
import GoSem.PinnedTables
import GoSem.Claim
import GoSem.ClaimJoined
import GoSem.ClaimMapViews
import Derived.JoinedTies
import Derived.KernelRfl
namespace Go.Proofs.YtdbejmnfnbkndaaDoor
/- THE CELL 'sum', in the pinned program and in every row, IS THE sha256 OF THE DUMP (.gsa) THAT YtdbejmnfnbkndaaDoorProg.lean LOADS. Nothing in Lean hashes anything: it is a label: what it is worth is what the hold of that sum in a sandbox is worth. -/
noncomputable def Tryd.pinned : Pinned := { name := "ytdbejmnfnbkndaadoor", sum := "d7d2bf4838858f7fecbdba53bd1210d16d69206887ef8ec351d6258ff7c494ea", checked := Tryd.checked }
namespace Rows
def none {H : Type} : Left H := { results := [], args := [] }

/- WHAT THE LISTED PACKAGE-LEVEL VARIABLES READ AS WHEN THE CALL BEGINS. Each datum BY PROGRAM (the guide's laid-datum.mjs) off the statement by which the dump's own 'gosem.cut.vars' lays the variable. In a bare row this is a premise. The card (YtdbejmnfnbkndaaDoorCards.lean) ties it to the program's text. -/
def laid_unicode_utf8_acceptRanges {H : Type} : DataW H := .agg [.agg [.lit (.int .u8 128), .lit (.int .u8 191)], .agg [.lit (.int .u8 160), .lit (.int .u8 191)], .agg [.lit (.int .u8 128), .lit (.int .u8 159)], .agg [.lit (.int .u8 144), .lit (.int .u8 191)], .agg [.lit (.int .u8 128), .lit (.int .u8 143)], .agg [.lit (.int .u8 0), .lit (.int .u8 0)], .agg [.lit (.int .u8 0), .lit (.int .u8 0)], .agg [.lit (.int .u8 0), .lit (.int .u8 0)], .agg [.lit (.int .u8 0), .lit (.int .u8 0)], .agg [.lit (.int .u8 0), .lit (.int .u8 0)], .agg [.lit (.int .u8 0), .lit (.int .u8 0)], .agg [.lit (.int .u8 0), .lit (.int .u8 0)], .agg [.lit (.int .u8 0), .lit (.int .u8 0)], .agg [.lit (.int .u8 0), .lit (.int .u8 0)], .agg [.lit (.int .u8 0), .lit (.int .u8 0)], .agg [.lit (.int .u8 0), .lit (.int .u8 0)]]
/-- One of Go's own tables, pinned by name: the form's constant. -/
def laid_unicode_utf8_first : DataW Unit := Go.Pinned.utf8First

/-- 'laws.FnLogForm': WHATEVER THE INPUT: true; the input reads as it did. -/
def fnLogFormSpec : ChangeSpec := { name := "fnLogForm", fn := fun _ => fun
  | [d1, d2] => { results := [.lit (.bool true)], args := [d1, d2] }
  | _ => none }
def fnLogFormRow : OpenClaim := { program := "ytdbejmnfnbkndaadoor", sum := "d7d2bf4838858f7fecbdba53bd1210d16d69206887ef8ec351d6258ff7c494ea", func := "loop.example/swathe/laws.FnLogForm", spec := "fnLogForm", inPlace := ["internal/bytealg.IndexByteString", "internal/bytealg.IndexString"], unfollowed := true, recurses := true, named := ["unicode/utf8.first", "unicode/utf8.acceptRanges", "internal/bytealg.MaxLen"], apart := false, laid := [("unicode/utf8.acceptRanges", laid_unicode_utf8_acceptRanges), ("unicode/utf8.first", laid_unicode_utf8_first)] }
def FnLogFormSaid : Prop := fnLogFormRow.holds Tryd.pinned (OpenSpec.ofChange fnLogFormSpec)

/-- ITS FALSE NEIGHBOUR: 'it returns false'. Refute it at one input. -/
def fnLogFormWrong : ChangeSpec := { name := "fnLogForm", fn := fun _ => fun
  | [d1, d2] => { results := [.lit (.bool false)], args := [d1, d2] }
  | _ => none }
def FnLogFormWrongFalsely : Prop := fnLogFormRow.holds Tryd.pinned (OpenSpec.ofChange fnLogFormWrong)

/-- 'laws.FnLogEnd': WHATEVER THE INPUT: true; the input reads as it did. -/
def fnLogEndSpec : ChangeSpec := { name := "fnLogEnd", fn := fun _ => fun
  | [d] => { results := [.lit (.bool true)], args := [d] }
  | _ => none }
def fnLogEndRow : OpenClaim := { program := "ytdbejmnfnbkndaadoor", sum := "d7d2bf4838858f7fecbdba53bd1210d16d69206887ef8ec351d6258ff7c494ea", func := "loop.example/swathe/laws.FnLogEnd", spec := "fnLogEnd", inPlace := ["internal/bytealg.IndexByteString", "internal/bytealg.IndexString"], unfollowed := true, recurses := true, named := ["unicode/utf8.first", "unicode/utf8.acceptRanges", "internal/bytealg.MaxLen"], apart := false, laid := [("unicode/utf8.acceptRanges", laid_unicode_utf8_acceptRanges), ("unicode/utf8.first", laid_unicode_utf8_first)] }
def FnLogEndSaid : Prop := fnLogEndRow.holds Tryd.pinned (OpenSpec.ofChange fnLogEndSpec)

/-- ITS FALSE NEIGHBOUR: 'it returns false'. Refute it at one input. -/
def fnLogEndWrong : ChangeSpec := { name := "fnLogEnd", fn := fun _ => fun
  | [d] => { results := [.lit (.bool false)], args := [d] }
  | _ => none }
def FnLogEndWrongFalsely : Prop := fnLogEndRow.holds Tryd.pinned (OpenSpec.ofChange fnLogEndWrong)

/-- 'laws.FnLogRest': WHATEVER THE INPUT: true; the input reads as it did. -/
def fnLogRestSpec : ChangeSpec := { name := "fnLogRest", fn := fun _ => fun
  | [d] => { results := [.lit (.bool true)], args := [d] }
  | _ => none }
def fnLogRestRow : OpenClaim := { program := "ytdbejmnfnbkndaadoor", sum := "d7d2bf4838858f7fecbdba53bd1210d16d69206887ef8ec351d6258ff7c494ea", func := "loop.example/swathe/laws.FnLogRest", spec := "fnLogRest", inPlace := ["internal/bytealg.IndexByteString", "internal/bytealg.IndexString"], unfollowed := true, recurses := true, named := ["unicode/utf8.first", "unicode/utf8.acceptRanges", "internal/bytealg.MaxLen"], apart := false, laid := [("unicode/utf8.acceptRanges", laid_unicode_utf8_acceptRanges), ("unicode/utf8.first", laid_unicode_utf8_first)] }
def FnLogRestSaid : Prop := fnLogRestRow.holds Tryd.pinned (OpenSpec.ofChange fnLogRestSpec)

/-- ITS FALSE NEIGHBOUR: 'it returns false'. Refute it at one input. -/
def fnLogRestWrong : ChangeSpec := { name := "fnLogRest", fn := fun _ => fun
  | [d] => { results := [.lit (.bool false)], args := [d] }
  | _ => none }
def FnLogRestWrongFalsely : Prop := fnLogRestRow.holds Tryd.pinned (OpenSpec.ofChange fnLogRestWrong)

/-- 'laws.FnLogCut': WHATEVER THE INPUT: true; the input reads as it did. -/
def fnLogCutSpec : ChangeSpec := { name := "fnLogCut", fn := fun _ => fun
  | [d] => { results := [.lit (.bool true)], args := [d] }
  | _ => none }
def fnLogCutRow : OpenClaim := { program := "ytdbejmnfnbkndaadoor", sum := "d7d2bf4838858f7fecbdba53bd1210d16d69206887ef8ec351d6258ff7c494ea", func := "loop.example/swathe/laws.FnLogCut", spec := "fnLogCut", inPlace := ["internal/bytealg.IndexByteString", "internal/bytealg.IndexString"], unfollowed := true, recurses := true, named := ["unicode/utf8.first", "unicode/utf8.acceptRanges", "internal/bytealg.MaxLen"], apart := false, laid := [("unicode/utf8.acceptRanges", laid_unicode_utf8_acceptRanges), ("unicode/utf8.first", laid_unicode_utf8_first)] }
def FnLogCutSaid : Prop := fnLogCutRow.holds Tryd.pinned (OpenSpec.ofChange fnLogCutSpec)

/-- ITS FALSE NEIGHBOUR: 'it returns false'. Refute it at one input. -/
def fnLogCutWrong : ChangeSpec := { name := "fnLogCut", fn := fun _ => fun
  | [d] => { results := [.lit (.bool false)], args := [d] }
  | _ => none }
def FnLogCutWrongFalsely : Prop := fnLogCutRow.holds Tryd.pinned (OpenSpec.ofChange fnLogCutWrong)

/-- 'laws.FnLogAdd': WHATEVER THE INPUT: true; the input reads as it did. -/
def fnLogAddSpec : ChangeSpec := { name := "fnLogAdd", fn := fun _ => fun
  | [d] => { results := [.lit (.bool true)], args := [d] }
  | _ => none }
def fnLogAddRow : OpenClaim := { program := "ytdbejmnfnbkndaadoor", sum := "d7d2bf4838858f7fecbdba53bd1210d16d69206887ef8ec351d6258ff7c494ea", func := "loop.example/swathe/laws.FnLogAdd", spec := "fnLogAdd", inPlace := ["internal/bytealg.IndexByteString", "internal/bytealg.IndexString"], unfollowed := true, recurses := true, named := ["unicode/utf8.first", "unicode/utf8.acceptRanges", "internal/bytealg.MaxLen"], apart := false, laid := [("unicode/utf8.acceptRanges", laid_unicode_utf8_acceptRanges), ("unicode/utf8.first", laid_unicode_utf8_first)] }
def FnLogAddSaid : Prop := fnLogAddRow.holds Tryd.pinned (OpenSpec.ofChange fnLogAddSpec)

/-- ITS FALSE NEIGHBOUR: 'it returns false'. Refute it at one input. -/
def fnLogAddWrong : ChangeSpec := { name := "fnLogAdd", fn := fun _ => fun
  | [d] => { results := [.lit (.bool false)], args := [d] }
  | _ => none }
def FnLogAddWrongFalsely : Prop := fnLogAddRow.holds Tryd.pinned (OpenSpec.ofChange fnLogAddWrong)

/-- 'laws.FnLogFreeRest': WHATEVER THE INPUT: true; the input reads as it did. -/
def fnLogFreeRestSpec : ChangeSpec := { name := "fnLogFreeRest", fn := fun _ => fun
  | [d] => { results := [.lit (.bool true)], args := [d] }
  | _ => none }
def fnLogFreeRestRow : OpenClaim := { program := "ytdbejmnfnbkndaadoor", sum := "d7d2bf4838858f7fecbdba53bd1210d16d69206887ef8ec351d6258ff7c494ea", func := "loop.example/swathe/laws.FnLogFreeRest", spec := "fnLogFreeRest", inPlace := ["internal/bytealg.IndexByteString", "internal/bytealg.IndexString"], unfollowed := true, recurses := true, named := ["unicode/utf8.first", "unicode/utf8.acceptRanges", "internal/bytealg.MaxLen"], apart := false, laid := [("unicode/utf8.acceptRanges", laid_unicode_utf8_acceptRanges), ("unicode/utf8.first", laid_unicode_utf8_first)] }
def FnLogFreeRestSaid : Prop := fnLogFreeRestRow.holds Tryd.pinned (OpenSpec.ofChange fnLogFreeRestSpec)

/-- ITS FALSE NEIGHBOUR: 'it returns false'. Refute it at one input. -/
def fnLogFreeRestWrong : ChangeSpec := { name := "fnLogFreeRest", fn := fun _ => fun
  | [d] => { results := [.lit (.bool false)], args := [d] }
  | _ => none }
def FnLogFreeRestWrongFalsely : Prop := fnLogFreeRestRow.holds Tryd.pinned (OpenSpec.ofChange fnLogFreeRestWrong)

/-- 'laws.FnLogFree': WHATEVER THE INPUT: true; the input reads as it did. -/
def fnLogFreeSpec : ChangeSpec := { name := "fnLogFree", fn := fun _ => fun
  | [d] => { results := [.lit (.bool true)], args := [d] }
  | _ => none }
def fnLogFreeRow : OpenClaim := { program := "ytdbejmnfnbkndaadoor", sum := "d7d2bf4838858f7fecbdba53bd1210d16d69206887ef8ec351d6258ff7c494ea", func := "loop.example/swathe/laws.FnLogFree", spec := "fnLogFree", inPlace := ["internal/bytealg.IndexByteString", "internal/bytealg.IndexString"], unfollowed := true, recurses := true, named := ["unicode/utf8.first", "unicode/utf8.acceptRanges", "internal/bytealg.MaxLen"], apart := false, laid := [("unicode/utf8.acceptRanges", laid_unicode_utf8_acceptRanges), ("unicode/utf8.first", laid_unicode_utf8_first)] }
def FnLogFreeSaid : Prop := fnLogFreeRow.holds Tryd.pinned (OpenSpec.ofChange fnLogFreeSpec)

/-- ITS FALSE NEIGHBOUR: 'it returns false'. Refute it at one input. -/
def fnLogFreeWrong : ChangeSpec := { name := "fnLogFree", fn := fun _ => fun
  | [d] => { results := [.lit (.bool false)], args := [d] }
  | _ => none }
def FnLogFreeWrongFalsely : Prop := fnLogFreeRow.holds Tryd.pinned (OpenSpec.ofChange fnLogFreeWrong)

/- THE SECOND FORM. 'bulk': how many values and letters a reading holds, each counted each time it is reached (what is shared counts as often as it is met; a slice's spare places count too). A statement '..UptoSaid' is the law's where the arguments, and the package variables that the reading takes, are together of bulk at most 1048576: NARROWER than '..Said'. Prove '..Said' where nothing that the law and all that it calls make is longer than what came in: it says more and counts as full. Else prove '..UptoSaid'. A law counts once. -/
mutual
def uptoBulk {H : Type} : DataW H → Nat
  | .lit (.string bytes) => bytes.length + 1
  | .lit _ => 1
  | .nil => 1
  | .ptr d => uptoBulk d + 1
  | .slice elems spare => uptoBulkAll elems + uptoBulkAll spare + 1
  | .agg parts => uptoBulkAll parts + 1
  | .iface _ d => uptoBulk d + 1
  | .map entries => uptoBulkEntries entries + 1
  | .held _ => 1
def uptoBulkAll {H : Type} : List (DataW H) → Nat
  | [] => 0
  | d :: r => uptoBulk d + uptoBulkAll r
def uptoBulkEntries {H : Type} : List (Lit × DataW H) → Nat
  | [] => 0
  | x :: r => uptoBulkEntry x + uptoBulkEntries r
def uptoBulkEntry {H : Type} : Lit × DataW H → Nat
  | (.string bytes, d) => bytes.length + uptoBulk d + 1
  | (_, d) => uptoBulk d + 1
 end
def uptoSmall : (H : Type) → List (DataW H) → Bool := fun _ ds => decide (uptoBulkAll ds ≤ 1048576)
def OpenSpec.upto (s : _root_.Go.ChangeSpec) : _root_.Go.OpenSpec := { _root_.Go.OpenSpec.ofChange s with cond := some uptoSmall }

/-- 'laws.FnLogForm', WHERE WHAT IT READS IS OF BULK AT MOST 1048576: true; the input reads as it did. -/
def fnLogFormUptoRow : OpenClaim := { program := "ytdbejmnfnbkndaadoor", sum := "d7d2bf4838858f7fecbdba53bd1210d16d69206887ef8ec351d6258ff7c494ea", func := "loop.example/swathe/laws.FnLogForm", spec := "fnLogForm", inPlace := ["internal/bytealg.IndexByteString", "internal/bytealg.IndexString"], unfollowed := true, recurses := true, named := ["unicode/utf8.first", "unicode/utf8.acceptRanges", "internal/bytealg.MaxLen"], apart := false, laid := [("unicode/utf8.acceptRanges", laid_unicode_utf8_acceptRanges), ("unicode/utf8.first", laid_unicode_utf8_first)], narrowed := true }
def FnLogFormUptoSaid : Prop := fnLogFormUptoRow.holds Tryd.pinned (OpenSpec.upto fnLogFormSpec)

/-- 'laws.FnLogEnd', WHERE WHAT IT READS IS OF BULK AT MOST 1048576: true; the input reads as it did. -/
def fnLogEndUptoRow : OpenClaim := { program := "ytdbejmnfnbkndaadoor", sum := "d7d2bf4838858f7fecbdba53bd1210d16d69206887ef8ec351d6258ff7c494ea", func := "loop.example/swathe/laws.FnLogEnd", spec := "fnLogEnd", inPlace := ["internal/bytealg.IndexByteString", "internal/bytealg.IndexString"], unfollowed := true, recurses := true, named := ["unicode/utf8.first", "unicode/utf8.acceptRanges", "internal/bytealg.MaxLen"], apart := false, laid := [("unicode/utf8.acceptRanges", laid_unicode_utf8_acceptRanges), ("unicode/utf8.first", laid_unicode_utf8_first)], narrowed := true }
def FnLogEndUptoSaid : Prop := fnLogEndUptoRow.holds Tryd.pinned (OpenSpec.upto fnLogEndSpec)

/-- 'laws.FnLogRest', WHERE WHAT IT READS IS OF BULK AT MOST 1048576: true; the input reads as it did. -/
def fnLogRestUptoRow : OpenClaim := { program := "ytdbejmnfnbkndaadoor", sum := "d7d2bf4838858f7fecbdba53bd1210d16d69206887ef8ec351d6258ff7c494ea", func := "loop.example/swathe/laws.FnLogRest", spec := "fnLogRest", inPlace := ["internal/bytealg.IndexByteString", "internal/bytealg.IndexString"], unfollowed := true, recurses := true, named := ["unicode/utf8.first", "unicode/utf8.acceptRanges", "internal/bytealg.MaxLen"], apart := false, laid := [("unicode/utf8.acceptRanges", laid_unicode_utf8_acceptRanges), ("unicode/utf8.first", laid_unicode_utf8_first)], narrowed := true }
def FnLogRestUptoSaid : Prop := fnLogRestUptoRow.holds Tryd.pinned (OpenSpec.upto fnLogRestSpec)

/-- 'laws.FnLogCut', WHERE WHAT IT READS IS OF BULK AT MOST 1048576: true; the input reads as it did. -/
def fnLogCutUptoRow : OpenClaim := { program := "ytdbejmnfnbkndaadoor", sum := "d7d2bf4838858f7fecbdba53bd1210d16d69206887ef8ec351d6258ff7c494ea", func := "loop.example/swathe/laws.FnLogCut", spec := "fnLogCut", inPlace := ["internal/bytealg.IndexByteString", "internal/bytealg.IndexString"], unfollowed := true, recurses := true, named := ["unicode/utf8.first", "unicode/utf8.acceptRanges", "internal/bytealg.MaxLen"], apart := false, laid := [("unicode/utf8.acceptRanges", laid_unicode_utf8_acceptRanges), ("unicode/utf8.first", laid_unicode_utf8_first)], narrowed := true }
def FnLogCutUptoSaid : Prop := fnLogCutUptoRow.holds Tryd.pinned (OpenSpec.upto fnLogCutSpec)

/-- 'laws.FnLogAdd', WHERE WHAT IT READS IS OF BULK AT MOST 1048576: true; the input reads as it did. -/
def fnLogAddUptoRow : OpenClaim := { program := "ytdbejmnfnbkndaadoor", sum := "d7d2bf4838858f7fecbdba53bd1210d16d69206887ef8ec351d6258ff7c494ea", func := "loop.example/swathe/laws.FnLogAdd", spec := "fnLogAdd", inPlace := ["internal/bytealg.IndexByteString", "internal/bytealg.IndexString"], unfollowed := true, recurses := true, named := ["unicode/utf8.first", "unicode/utf8.acceptRanges", "internal/bytealg.MaxLen"], apart := false, laid := [("unicode/utf8.acceptRanges", laid_unicode_utf8_acceptRanges), ("unicode/utf8.first", laid_unicode_utf8_first)], narrowed := true }
def FnLogAddUptoSaid : Prop := fnLogAddUptoRow.holds Tryd.pinned (OpenSpec.upto fnLogAddSpec)

/-- 'laws.FnLogFreeRest', WHERE WHAT IT READS IS OF BULK AT MOST 1048576: true; the input reads as it did. -/
def fnLogFreeRestUptoRow : OpenClaim := { program := "ytdbejmnfnbkndaadoor", sum := "d7d2bf4838858f7fecbdba53bd1210d16d69206887ef8ec351d6258ff7c494ea", func := "loop.example/swathe/laws.FnLogFreeRest", spec := "fnLogFreeRest", inPlace := ["internal/bytealg.IndexByteString", "internal/bytealg.IndexString"], unfollowed := true, recurses := true, named := ["unicode/utf8.first", "unicode/utf8.acceptRanges", "internal/bytealg.MaxLen"], apart := false, laid := [("unicode/utf8.acceptRanges", laid_unicode_utf8_acceptRanges), ("unicode/utf8.first", laid_unicode_utf8_first)], narrowed := true }
def FnLogFreeRestUptoSaid : Prop := fnLogFreeRestUptoRow.holds Tryd.pinned (OpenSpec.upto fnLogFreeRestSpec)

/-- 'laws.FnLogFree', WHERE WHAT IT READS IS OF BULK AT MOST 1048576: true; the input reads as it did. -/
def fnLogFreeUptoRow : OpenClaim := { program := "ytdbejmnfnbkndaadoor", sum := "d7d2bf4838858f7fecbdba53bd1210d16d69206887ef8ec351d6258ff7c494ea", func := "loop.example/swathe/laws.FnLogFree", spec := "fnLogFree", inPlace := ["internal/bytealg.IndexByteString", "internal/bytealg.IndexString"], unfollowed := true, recurses := true, named := ["unicode/utf8.first", "unicode/utf8.acceptRanges", "internal/bytealg.MaxLen"], apart := false, laid := [("unicode/utf8.acceptRanges", laid_unicode_utf8_acceptRanges), ("unicode/utf8.first", laid_unicode_utf8_first)], narrowed := true }
def FnLogFreeUptoSaid : Prop := fnLogFreeUptoRow.holds Tryd.pinned (OpenSpec.upto fnLogFreeSpec)

end Rows
end Go.Proofs.YtdbejmnfnbkndaaDoor
