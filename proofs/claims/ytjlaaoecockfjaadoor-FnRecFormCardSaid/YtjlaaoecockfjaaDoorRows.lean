/-
  NARROWER THAN 'FOR EVERY INPUT', by the rows' own cells (each row's printed sentence says how): FnRecForm: laid · FnExactTreeOk: laid · FnExactRecOk: laid · FnTreeShow: laid · FnTreeAt: laid · FnExactTreeShow: laid · FnExactLogOk: laid · FnExactLogEnd: laid · FnLogForm: laid · FnExactTreeAt: laid.
  DERIVED. THE GIVEN ROWS OF THIS SEAT. 10 by the template 'for every input the law returns true; each argument reads behind the call as it read before'; 0 by the template 'total and deterministic' (their statements: YtjlaaoecockfjaaDoorTotals.lean).
  GIVEN WITH THE SEED: the statements are not yours to turn. If you find one false, say at which input.
  Laid BY PROGRAM, IN A SANDBOX (cutbox-rows.mjs): the forced cells as the released guide's own fill.sh prints them over the translation 3e92dd7975c46216… (all of the seat's roots in one cut). By AI agents, Wed Nov 11 2026. No macro, syntax, notation, axiom, sorry.
-/
import Derived.Test.YtjlaaoecockfjaaDoorChecked
import GoSem.PinnedTables
import GoSem.Claim
import GoSem.ClaimJoined
import GoSem.ClaimMapViews
import Derived.JoinedTies
import Derived.KernelRfl
namespace Go.Proofs.YtjlaaoecockfjaaDoor
/- THE CELL 'sum', in the pinned program and in every row, IS THE sha256 OF THE DUMP (.gsa) THAT YtjlaaoecockfjaaDoorProg.lean LOADS. Nothing in Lean hashes anything: it is a label: what it is worth is what the hold of that sum in a sandbox is worth. -/
noncomputable def Tryd.pinned : Pinned := { name := "ytjlaaoecockfjaadoor", sum := "3e92dd7975c462165aca5ca9697e41efa3573650ef6945073de9eb83984e9019", checked := Tryd.checked }
namespace Rows
def none {H : Type} : Left H := { results := [], args := [] }

/- WHAT THE LISTED PACKAGE-LEVEL VARIABLES READ AS WHEN THE CALL BEGINS. Each datum BY PROGRAM (the guide's laid-datum.mjs) off the statement by which the dump's own 'gosem.cut.vars' lays the variable. In a bare row this is a premise. The card (YtjlaaoecockfjaaDoorCards.lean) ties it to the program's text. -/
def laid_unicode_utf8_acceptRanges {H : Type} : DataW H := .agg [.agg [.lit (.int .u8 128), .lit (.int .u8 191)], .agg [.lit (.int .u8 160), .lit (.int .u8 191)], .agg [.lit (.int .u8 128), .lit (.int .u8 159)], .agg [.lit (.int .u8 144), .lit (.int .u8 191)], .agg [.lit (.int .u8 128), .lit (.int .u8 143)], .agg [.lit (.int .u8 0), .lit (.int .u8 0)], .agg [.lit (.int .u8 0), .lit (.int .u8 0)], .agg [.lit (.int .u8 0), .lit (.int .u8 0)], .agg [.lit (.int .u8 0), .lit (.int .u8 0)], .agg [.lit (.int .u8 0), .lit (.int .u8 0)], .agg [.lit (.int .u8 0), .lit (.int .u8 0)], .agg [.lit (.int .u8 0), .lit (.int .u8 0)], .agg [.lit (.int .u8 0), .lit (.int .u8 0)], .agg [.lit (.int .u8 0), .lit (.int .u8 0)], .agg [.lit (.int .u8 0), .lit (.int .u8 0)], .agg [.lit (.int .u8 0), .lit (.int .u8 0)]]
/-- One of Go's own tables, pinned by name: the form's constant. -/
def laid_unicode_utf8_first : DataW Unit := Go.Pinned.utf8First

/-- 'laws.FnRecForm': WHATEVER THE INPUT: true; the input reads as it did. -/
def fnRecFormSpec : ChangeSpec := { name := "fnRecForm", fn := fun _ => fun
  | [d] => { results := [.lit (.bool true)], args := [d] }
  | _ => none }
def fnRecFormRow : OpenClaim := { program := "ytjlaaoecockfjaadoor", sum := "3e92dd7975c462165aca5ca9697e41efa3573650ef6945073de9eb83984e9019", func := "loop.example/swathe/laws.FnRecForm", spec := "fnRecForm", inPlace := ["internal/bytealg.IndexByteString", "internal/bytealg.IndexString"], unfollowed := true, recurses := true, named := ["unicode/utf8.first", "unicode/utf8.acceptRanges", "internal/bytealg.MaxLen"], apart := false, laid := [("unicode/utf8.acceptRanges", laid_unicode_utf8_acceptRanges), ("unicode/utf8.first", laid_unicode_utf8_first)] }
def FnRecFormSaid : Prop := fnRecFormRow.holds Tryd.pinned (OpenSpec.ofChange fnRecFormSpec)

/-- ITS FALSE NEIGHBOUR: 'it returns false'. Refute it at one input. -/
def fnRecFormWrong : ChangeSpec := { name := "fnRecForm", fn := fun _ => fun
  | [d] => { results := [.lit (.bool false)], args := [d] }
  | _ => none }
def FnRecFormWrongFalsely : Prop := fnRecFormRow.holds Tryd.pinned (OpenSpec.ofChange fnRecFormWrong)

/-- 'laws.FnExactTreeOk': WHATEVER THE INPUT: true; the input reads as it did. -/
def fnExactTreeOkSpec : ChangeSpec := { name := "fnExactTreeOk", fn := fun _ => fun
  | [d] => { results := [.lit (.bool true)], args := [d] }
  | _ => none }
def fnExactTreeOkRow : OpenClaim := { program := "ytjlaaoecockfjaadoor", sum := "3e92dd7975c462165aca5ca9697e41efa3573650ef6945073de9eb83984e9019", func := "loop.example/swathe/laws.FnExactTreeOk", spec := "fnExactTreeOk", inPlace := ["internal/bytealg.IndexByteString", "internal/bytealg.IndexString"], unfollowed := true, recurses := true, named := ["unicode/utf8.first", "unicode/utf8.acceptRanges", "internal/bytealg.MaxLen"], apart := false, laid := [("unicode/utf8.acceptRanges", laid_unicode_utf8_acceptRanges), ("unicode/utf8.first", laid_unicode_utf8_first)] }
def FnExactTreeOkSaid : Prop := fnExactTreeOkRow.holds Tryd.pinned (OpenSpec.ofChange fnExactTreeOkSpec)

/-- ITS FALSE NEIGHBOUR: 'it returns false'. Refute it at one input. -/
def fnExactTreeOkWrong : ChangeSpec := { name := "fnExactTreeOk", fn := fun _ => fun
  | [d] => { results := [.lit (.bool false)], args := [d] }
  | _ => none }
def FnExactTreeOkWrongFalsely : Prop := fnExactTreeOkRow.holds Tryd.pinned (OpenSpec.ofChange fnExactTreeOkWrong)

/-- 'laws.FnExactRecOk': WHATEVER THE INPUT: true; the input reads as it did. -/
def fnExactRecOkSpec : ChangeSpec := { name := "fnExactRecOk", fn := fun _ => fun
  | [d] => { results := [.lit (.bool true)], args := [d] }
  | _ => none }
def fnExactRecOkRow : OpenClaim := { program := "ytjlaaoecockfjaadoor", sum := "3e92dd7975c462165aca5ca9697e41efa3573650ef6945073de9eb83984e9019", func := "loop.example/swathe/laws.FnExactRecOk", spec := "fnExactRecOk", inPlace := ["internal/bytealg.IndexByteString", "internal/bytealg.IndexString"], unfollowed := true, recurses := true, named := ["unicode/utf8.first", "unicode/utf8.acceptRanges", "internal/bytealg.MaxLen"], apart := false, laid := [("unicode/utf8.acceptRanges", laid_unicode_utf8_acceptRanges), ("unicode/utf8.first", laid_unicode_utf8_first)] }
def FnExactRecOkSaid : Prop := fnExactRecOkRow.holds Tryd.pinned (OpenSpec.ofChange fnExactRecOkSpec)

/-- ITS FALSE NEIGHBOUR: 'it returns false'. Refute it at one input. -/
def fnExactRecOkWrong : ChangeSpec := { name := "fnExactRecOk", fn := fun _ => fun
  | [d] => { results := [.lit (.bool false)], args := [d] }
  | _ => none }
def FnExactRecOkWrongFalsely : Prop := fnExactRecOkRow.holds Tryd.pinned (OpenSpec.ofChange fnExactRecOkWrong)

/-- 'laws.FnTreeShow': WHATEVER THE INPUT: true; the input reads as it did. -/
def fnTreeShowSpec : ChangeSpec := { name := "fnTreeShow", fn := fun _ => fun
  | [d] => { results := [.lit (.bool true)], args := [d] }
  | _ => none }
def fnTreeShowRow : OpenClaim := { program := "ytjlaaoecockfjaadoor", sum := "3e92dd7975c462165aca5ca9697e41efa3573650ef6945073de9eb83984e9019", func := "loop.example/swathe/laws.FnTreeShow", spec := "fnTreeShow", inPlace := ["internal/bytealg.IndexByteString", "internal/bytealg.IndexString"], unfollowed := true, recurses := true, named := ["unicode/utf8.first", "unicode/utf8.acceptRanges", "internal/bytealg.MaxLen"], apart := false, laid := [("unicode/utf8.acceptRanges", laid_unicode_utf8_acceptRanges), ("unicode/utf8.first", laid_unicode_utf8_first)] }
def FnTreeShowSaid : Prop := fnTreeShowRow.holds Tryd.pinned (OpenSpec.ofChange fnTreeShowSpec)

/-- ITS FALSE NEIGHBOUR: 'it returns false'. Refute it at one input. -/
def fnTreeShowWrong : ChangeSpec := { name := "fnTreeShow", fn := fun _ => fun
  | [d] => { results := [.lit (.bool false)], args := [d] }
  | _ => none }
def FnTreeShowWrongFalsely : Prop := fnTreeShowRow.holds Tryd.pinned (OpenSpec.ofChange fnTreeShowWrong)

/-- 'laws.FnTreeAt': WHATEVER THE INPUT: true; the input reads as it did. -/
def fnTreeAtSpec : ChangeSpec := { name := "fnTreeAt", fn := fun _ => fun
  | [d] => { results := [.lit (.bool true)], args := [d] }
  | _ => none }
def fnTreeAtRow : OpenClaim := { program := "ytjlaaoecockfjaadoor", sum := "3e92dd7975c462165aca5ca9697e41efa3573650ef6945073de9eb83984e9019", func := "loop.example/swathe/laws.FnTreeAt", spec := "fnTreeAt", inPlace := ["internal/bytealg.IndexByteString", "internal/bytealg.IndexString"], unfollowed := true, recurses := true, named := ["unicode/utf8.first", "unicode/utf8.acceptRanges", "internal/bytealg.MaxLen"], apart := false, laid := [("unicode/utf8.acceptRanges", laid_unicode_utf8_acceptRanges), ("unicode/utf8.first", laid_unicode_utf8_first)] }
def FnTreeAtSaid : Prop := fnTreeAtRow.holds Tryd.pinned (OpenSpec.ofChange fnTreeAtSpec)

/-- ITS FALSE NEIGHBOUR: 'it returns false'. Refute it at one input. -/
def fnTreeAtWrong : ChangeSpec := { name := "fnTreeAt", fn := fun _ => fun
  | [d] => { results := [.lit (.bool false)], args := [d] }
  | _ => none }
def FnTreeAtWrongFalsely : Prop := fnTreeAtRow.holds Tryd.pinned (OpenSpec.ofChange fnTreeAtWrong)

/-- 'laws.FnExactTreeShow': WHATEVER THE INPUT: true; the input reads as it did. -/
def fnExactTreeShowSpec : ChangeSpec := { name := "fnExactTreeShow", fn := fun _ => fun
  | [d] => { results := [.lit (.bool true)], args := [d] }
  | _ => none }
def fnExactTreeShowRow : OpenClaim := { program := "ytjlaaoecockfjaadoor", sum := "3e92dd7975c462165aca5ca9697e41efa3573650ef6945073de9eb83984e9019", func := "loop.example/swathe/laws.FnExactTreeShow", spec := "fnExactTreeShow", inPlace := ["internal/bytealg.IndexByteString", "internal/bytealg.IndexString"], unfollowed := true, recurses := true, named := ["unicode/utf8.first", "unicode/utf8.acceptRanges", "internal/bytealg.MaxLen"], apart := false, laid := [("unicode/utf8.acceptRanges", laid_unicode_utf8_acceptRanges), ("unicode/utf8.first", laid_unicode_utf8_first)] }
def FnExactTreeShowSaid : Prop := fnExactTreeShowRow.holds Tryd.pinned (OpenSpec.ofChange fnExactTreeShowSpec)

/-- ITS FALSE NEIGHBOUR: 'it returns false'. Refute it at one input. -/
def fnExactTreeShowWrong : ChangeSpec := { name := "fnExactTreeShow", fn := fun _ => fun
  | [d] => { results := [.lit (.bool false)], args := [d] }
  | _ => none }
def FnExactTreeShowWrongFalsely : Prop := fnExactTreeShowRow.holds Tryd.pinned (OpenSpec.ofChange fnExactTreeShowWrong)

/-- 'laws.FnExactLogOk': WHATEVER THE INPUT: true; the input reads as it did. -/
def fnExactLogOkSpec : ChangeSpec := { name := "fnExactLogOk", fn := fun _ => fun
  | [d] => { results := [.lit (.bool true)], args := [d] }
  | _ => none }
def fnExactLogOkRow : OpenClaim := { program := "ytjlaaoecockfjaadoor", sum := "3e92dd7975c462165aca5ca9697e41efa3573650ef6945073de9eb83984e9019", func := "loop.example/swathe/laws.FnExactLogOk", spec := "fnExactLogOk", inPlace := ["internal/bytealg.IndexByteString", "internal/bytealg.IndexString"], unfollowed := true, recurses := true, named := ["unicode/utf8.first", "unicode/utf8.acceptRanges", "internal/bytealg.MaxLen"], apart := false, laid := [("unicode/utf8.acceptRanges", laid_unicode_utf8_acceptRanges), ("unicode/utf8.first", laid_unicode_utf8_first)] }
def FnExactLogOkSaid : Prop := fnExactLogOkRow.holds Tryd.pinned (OpenSpec.ofChange fnExactLogOkSpec)

/-- ITS FALSE NEIGHBOUR: 'it returns false'. Refute it at one input. -/
def fnExactLogOkWrong : ChangeSpec := { name := "fnExactLogOk", fn := fun _ => fun
  | [d] => { results := [.lit (.bool false)], args := [d] }
  | _ => none }
def FnExactLogOkWrongFalsely : Prop := fnExactLogOkRow.holds Tryd.pinned (OpenSpec.ofChange fnExactLogOkWrong)

/-- 'laws.FnExactLogEnd': WHATEVER THE INPUT: true; the input reads as it did. -/
def fnExactLogEndSpec : ChangeSpec := { name := "fnExactLogEnd", fn := fun _ => fun
  | [d] => { results := [.lit (.bool true)], args := [d] }
  | _ => none }
def fnExactLogEndRow : OpenClaim := { program := "ytjlaaoecockfjaadoor", sum := "3e92dd7975c462165aca5ca9697e41efa3573650ef6945073de9eb83984e9019", func := "loop.example/swathe/laws.FnExactLogEnd", spec := "fnExactLogEnd", inPlace := ["internal/bytealg.IndexByteString", "internal/bytealg.IndexString"], unfollowed := true, recurses := true, named := ["unicode/utf8.first", "unicode/utf8.acceptRanges", "internal/bytealg.MaxLen"], apart := false, laid := [("unicode/utf8.acceptRanges", laid_unicode_utf8_acceptRanges), ("unicode/utf8.first", laid_unicode_utf8_first)] }
def FnExactLogEndSaid : Prop := fnExactLogEndRow.holds Tryd.pinned (OpenSpec.ofChange fnExactLogEndSpec)

/-- ITS FALSE NEIGHBOUR: 'it returns false'. Refute it at one input. -/
def fnExactLogEndWrong : ChangeSpec := { name := "fnExactLogEnd", fn := fun _ => fun
  | [d] => { results := [.lit (.bool false)], args := [d] }
  | _ => none }
def FnExactLogEndWrongFalsely : Prop := fnExactLogEndRow.holds Tryd.pinned (OpenSpec.ofChange fnExactLogEndWrong)

/-- 'laws.FnLogForm': WHATEVER THE INPUT: true; the input reads as it did. -/
def fnLogFormSpec : ChangeSpec := { name := "fnLogForm", fn := fun _ => fun
  | [d1, d2] => { results := [.lit (.bool true)], args := [d1, d2] }
  | _ => none }
def fnLogFormRow : OpenClaim := { program := "ytjlaaoecockfjaadoor", sum := "3e92dd7975c462165aca5ca9697e41efa3573650ef6945073de9eb83984e9019", func := "loop.example/swathe/laws.FnLogForm", spec := "fnLogForm", inPlace := ["internal/bytealg.IndexByteString", "internal/bytealg.IndexString"], unfollowed := true, recurses := true, named := ["unicode/utf8.first", "unicode/utf8.acceptRanges", "internal/bytealg.MaxLen"], apart := false, laid := [("unicode/utf8.acceptRanges", laid_unicode_utf8_acceptRanges), ("unicode/utf8.first", laid_unicode_utf8_first)] }
def FnLogFormSaid : Prop := fnLogFormRow.holds Tryd.pinned (OpenSpec.ofChange fnLogFormSpec)

/-- ITS FALSE NEIGHBOUR: 'it returns false'. Refute it at one input. -/
def fnLogFormWrong : ChangeSpec := { name := "fnLogForm", fn := fun _ => fun
  | [d1, d2] => { results := [.lit (.bool false)], args := [d1, d2] }
  | _ => none }
def FnLogFormWrongFalsely : Prop := fnLogFormRow.holds Tryd.pinned (OpenSpec.ofChange fnLogFormWrong)

/-- 'laws.FnExactTreeAt': WHATEVER THE INPUT: true; the input reads as it did. -/
def fnExactTreeAtSpec : ChangeSpec := { name := "fnExactTreeAt", fn := fun _ => fun
  | [d1, d2] => { results := [.lit (.bool true)], args := [d1, d2] }
  | _ => none }
def fnExactTreeAtRow : OpenClaim := { program := "ytjlaaoecockfjaadoor", sum := "3e92dd7975c462165aca5ca9697e41efa3573650ef6945073de9eb83984e9019", func := "loop.example/swathe/laws.FnExactTreeAt", spec := "fnExactTreeAt", inPlace := ["internal/bytealg.IndexByteString", "internal/bytealg.IndexString"], unfollowed := true, recurses := true, named := ["unicode/utf8.first", "unicode/utf8.acceptRanges", "internal/bytealg.MaxLen"], apart := false, laid := [("unicode/utf8.acceptRanges", laid_unicode_utf8_acceptRanges), ("unicode/utf8.first", laid_unicode_utf8_first)] }
def FnExactTreeAtSaid : Prop := fnExactTreeAtRow.holds Tryd.pinned (OpenSpec.ofChange fnExactTreeAtSpec)

/-- ITS FALSE NEIGHBOUR: 'it returns false'. Refute it at one input. -/
def fnExactTreeAtWrong : ChangeSpec := { name := "fnExactTreeAt", fn := fun _ => fun
  | [d1, d2] => { results := [.lit (.bool false)], args := [d1, d2] }
  | _ => none }
def FnExactTreeAtWrongFalsely : Prop := fnExactTreeAtRow.holds Tryd.pinned (OpenSpec.ofChange fnExactTreeAtWrong)

/- THE SECOND FORM. 'bulk': how many values and letters a reading holds, each counted each time it is reached (what is shared counts as often as it is met; a slice's spare places count too). A statement '..UptoSaid' is the law's where the arguments, and the package variables that the reading takes, are together of bulk at most 1048576: NARROWER than '..Said'. Prove '..Said' where nothing that the law and all that it calls make is longer than what came in: it says more and counts as full. Else prove '..UptoSaid'. A law counts once. -/
mutual
def uptoBulk {H : Type} : DataW H → Nat
  | .lit (.string bytes) => bytes.length + 1
  | .lit _ => 1
  | .nil => 1
  | .ptr d => uptoBulk d + 1
  | .slice elems spare => uptoBulkAll elems + uptoBulkAll spare + 1
  | .agg parts => uptoBulkAll parts + 1
  | .iface _ d => uptoBulk d + 1
  | .map entries => uptoBulkEntries entries + 1
  | .held _ => 1
def uptoBulkAll {H : Type} : List (DataW H) → Nat
  | [] => 0
  | d :: r => uptoBulk d + uptoBulkAll r
def uptoBulkEntries {H : Type} : List (Lit × DataW H) → Nat
  | [] => 0
  | x :: r => uptoBulkEntry x + uptoBulkEntries r
def uptoBulkEntry {H : Type} : Lit × DataW H → Nat
  | (.string bytes, d) => bytes.length + uptoBulk d + 1
  | (_, d) => uptoBulk d + 1
 end
def uptoSmall : (H : Type) → List (DataW H) → Bool := fun _ ds => decide (uptoBulkAll ds ≤ 1048576)
def OpenSpec.upto (s : _root_.Go.ChangeSpec) : _root_.Go.OpenSpec := { _root_.Go.OpenSpec.ofChange s with cond := some uptoSmall }

/-- 'laws.FnRecForm', WHERE WHAT IT READS IS OF BULK AT MOST 1048576: true; the input reads as it did. -/
def fnRecFormUptoRow : OpenClaim := { program := "ytjlaaoecockfjaadoor", sum := "3e92dd7975c462165aca5ca9697e41efa3573650ef6945073de9eb83984e9019", func := "loop.example/swathe/laws.FnRecForm", spec := "fnRecForm", inPlace := ["internal/bytealg.IndexByteString", "internal/bytealg.IndexString"], unfollowed := true, recurses := true, named := ["unicode/utf8.first", "unicode/utf8.acceptRanges", "internal/bytealg.MaxLen"], apart := false, laid := [("unicode/utf8.acceptRanges", laid_unicode_utf8_acceptRanges), ("unicode/utf8.first", laid_unicode_utf8_first)], narrowed := true }
def FnRecFormUptoSaid : Prop := fnRecFormUptoRow.holds Tryd.pinned (OpenSpec.upto fnRecFormSpec)

/-- 'laws.FnExactTreeOk', WHERE WHAT IT READS IS OF BULK AT MOST 1048576: true; the input reads as it did. -/
def fnExactTreeOkUptoRow : OpenClaim := { program := "ytjlaaoecockfjaadoor", sum := "3e92dd7975c462165aca5ca9697e41efa3573650ef6945073de9eb83984e9019", func := "loop.example/swathe/laws.FnExactTreeOk", spec := "fnExactTreeOk", inPlace := ["internal/bytealg.IndexByteString", "internal/bytealg.IndexString"], unfollowed := true, recurses := true, named := ["unicode/utf8.first", "unicode/utf8.acceptRanges", "internal/bytealg.MaxLen"], apart := false, laid := [("unicode/utf8.acceptRanges", laid_unicode_utf8_acceptRanges), ("unicode/utf8.first", laid_unicode_utf8_first)], narrowed := true }
def FnExactTreeOkUptoSaid : Prop := fnExactTreeOkUptoRow.holds Tryd.pinned (OpenSpec.upto fnExactTreeOkSpec)

/-- 'laws.FnExactRecOk', WHERE WHAT IT READS IS OF BULK AT MOST 1048576: true; the input reads as it did. -/
def fnExactRecOkUptoRow : OpenClaim := { program := "ytjlaaoecockfjaadoor", sum := "3e92dd7975c462165aca5ca9697e41efa3573650ef6945073de9eb83984e9019", func := "loop.example/swathe/laws.FnExactRecOk", spec := "fnExactRecOk", inPlace := ["internal/bytealg.IndexByteString", "internal/bytealg.IndexString"], unfollowed := true, recurses := true, named := ["unicode/utf8.first", "unicode/utf8.acceptRanges", "internal/bytealg.MaxLen"], apart := false, laid := [("unicode/utf8.acceptRanges", laid_unicode_utf8_acceptRanges), ("unicode/utf8.first", laid_unicode_utf8_first)], narrowed := true }
def FnExactRecOkUptoSaid : Prop := fnExactRecOkUptoRow.holds Tryd.pinned (OpenSpec.upto fnExactRecOkSpec)

/-- 'laws.FnTreeShow', WHERE WHAT IT READS IS OF BULK AT MOST 1048576: true; the input reads as it did. -/
def fnTreeShowUptoRow : OpenClaim := { program := "ytjlaaoecockfjaadoor", sum := "3e92dd7975c462165aca5ca9697e41efa3573650ef6945073de9eb83984e9019", func := "loop.example/swathe/laws.FnTreeShow", spec := "fnTreeShow", inPlace := ["internal/bytealg.IndexByteString", "internal/bytealg.IndexString"], unfollowed := true, recurses := true, named := ["unicode/utf8.first", "unicode/utf8.acceptRanges", "internal/bytealg.MaxLen"], apart := false, laid := [("unicode/utf8.acceptRanges", laid_unicode_utf8_acceptRanges), ("unicode/utf8.first", laid_unicode_utf8_first)], narrowed := true }
def FnTreeShowUptoSaid : Prop := fnTreeShowUptoRow.holds Tryd.pinned (OpenSpec.upto fnTreeShowSpec)

/-- 'laws.FnTreeAt', WHERE WHAT IT READS IS OF BULK AT MOST 1048576: true; the input reads as it did. -/
def fnTreeAtUptoRow : OpenClaim := { program := "ytjlaaoecockfjaadoor", sum := "3e92dd7975c462165aca5ca9697e41efa3573650ef6945073de9eb83984e9019", func := "loop.example/swathe/laws.FnTreeAt", spec := "fnTreeAt", inPlace := ["internal/bytealg.IndexByteString", "internal/bytealg.IndexString"], unfollowed := true, recurses := true, named := ["unicode/utf8.first", "unicode/utf8.acceptRanges", "internal/bytealg.MaxLen"], apart := false, laid := [("unicode/utf8.acceptRanges", laid_unicode_utf8_acceptRanges), ("unicode/utf8.first", laid_unicode_utf8_first)], narrowed := true }
def FnTreeAtUptoSaid : Prop := fnTreeAtUptoRow.holds Tryd.pinned (OpenSpec.upto fnTreeAtSpec)

/-- 'laws.FnExactTreeShow', WHERE WHAT IT READS IS OF BULK AT MOST 1048576: true; the input reads as it did. -/
def fnExactTreeShowUptoRow : OpenClaim := { program := "ytjlaaoecockfjaadoor", sum := "3e92dd7975c462165aca5ca9697e41efa3573650ef6945073de9eb83984e9019", func := "loop.example/swathe/laws.FnExactTreeShow", spec := "fnExactTreeShow", inPlace := ["internal/bytealg.IndexByteString", "internal/bytealg.IndexString"], unfollowed := true, recurses := true, named := ["unicode/utf8.first", "unicode/utf8.acceptRanges", "internal/bytealg.MaxLen"], apart := false, laid := [("unicode/utf8.acceptRanges", laid_unicode_utf8_acceptRanges), ("unicode/utf8.first", laid_unicode_utf8_first)], narrowed := true }
def FnExactTreeShowUptoSaid : Prop := fnExactTreeShowUptoRow.holds Tryd.pinned (OpenSpec.upto fnExactTreeShowSpec)

/-- 'laws.FnExactLogOk', WHERE WHAT IT READS IS OF BULK AT MOST 1048576: true; the input reads as it did. -/
def fnExactLogOkUptoRow : OpenClaim := { program := "ytjlaaoecockfjaadoor", sum := "3e92dd7975c462165aca5ca9697e41efa3573650ef6945073de9eb83984e9019", func := "loop.example/swathe/laws.FnExactLogOk", spec := "fnExactLogOk", inPlace := ["internal/bytealg.IndexByteString", "internal/bytealg.IndexString"], unfollowed := true, recurses := true, named := ["unicode/utf8.first", "unicode/utf8.acceptRanges", "internal/bytealg.MaxLen"], apart := false, laid := [("unicode/utf8.acceptRanges", laid_unicode_utf8_acceptRanges), ("unicode/utf8.first", laid_unicode_utf8_first)], narrowed := true }
def FnExactLogOkUptoSaid : Prop := fnExactLogOkUptoRow.holds Tryd.pinned (OpenSpec.upto fnExactLogOkSpec)

/-- 'laws.FnExactLogEnd', WHERE WHAT IT READS IS OF BULK AT MOST 1048576: true; the input reads as it did. -/
def fnExactLogEndUptoRow : OpenClaim := { program := "ytjlaaoecockfjaadoor", sum := "3e92dd7975c462165aca5ca9697e41efa3573650ef6945073de9eb83984e9019", func := "loop.example/swathe/laws.FnExactLogEnd", spec := "fnExactLogEnd", inPlace := ["internal/bytealg.IndexByteString", "internal/bytealg.IndexString"], unfollowed := true, recurses := true, named := ["unicode/utf8.first", "unicode/utf8.acceptRanges", "internal/bytealg.MaxLen"], apart := false, laid := [("unicode/utf8.acceptRanges", laid_unicode_utf8_acceptRanges), ("unicode/utf8.first", laid_unicode_utf8_first)], narrowed := true }
def FnExactLogEndUptoSaid : Prop := fnExactLogEndUptoRow.holds Tryd.pinned (OpenSpec.upto fnExactLogEndSpec)

/-- 'laws.FnLogForm', WHERE WHAT IT READS IS OF BULK AT MOST 1048576: true; the input reads as it did. -/
def fnLogFormUptoRow : OpenClaim := { program := "ytjlaaoecockfjaadoor", sum := "3e92dd7975c462165aca5ca9697e41efa3573650ef6945073de9eb83984e9019", func := "loop.example/swathe/laws.FnLogForm", spec := "fnLogForm", inPlace := ["internal/bytealg.IndexByteString", "internal/bytealg.IndexString"], unfollowed := true, recurses := true, named := ["unicode/utf8.first", "unicode/utf8.acceptRanges", "internal/bytealg.MaxLen"], apart := false, laid := [("unicode/utf8.acceptRanges", laid_unicode_utf8_acceptRanges), ("unicode/utf8.first", laid_unicode_utf8_first)], narrowed := true }
def FnLogFormUptoSaid : Prop := fnLogFormUptoRow.holds Tryd.pinned (OpenSpec.upto fnLogFormSpec)

/-- 'laws.FnExactTreeAt', WHERE WHAT IT READS IS OF BULK AT MOST 1048576: true; the input reads as it did. -/
def fnExactTreeAtUptoRow : OpenClaim := { program := "ytjlaaoecockfjaadoor", sum := "3e92dd7975c462165aca5ca9697e41efa3573650ef6945073de9eb83984e9019", func := "loop.example/swathe/laws.FnExactTreeAt", spec := "fnExactTreeAt", inPlace := ["internal/bytealg.IndexByteString", "internal/bytealg.IndexString"], unfollowed := true, recurses := true, named := ["unicode/utf8.first", "unicode/utf8.acceptRanges", "internal/bytealg.MaxLen"], apart := false, laid := [("unicode/utf8.acceptRanges", laid_unicode_utf8_acceptRanges), ("unicode/utf8.first", laid_unicode_utf8_first)], narrowed := true }
def FnExactTreeAtUptoSaid : Prop := fnExactTreeAtUptoRow.holds Tryd.pinned (OpenSpec.upto fnExactTreeAtSpec)

end Rows
end Go.Proofs.YtjlaaoecockfjaaDoor
