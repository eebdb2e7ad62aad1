/-
  NARROWER THAN 'FOR EVERY INPUT', by the rows' own cells (each row's printed sentence says how): BlockPlays: laid · BlockNil: laid · StreamNumber: laid · BlockGoes: laid · StreamSend: laid · StreamOn: laid · StreamEnds: laid · StreamIgnored: laid · TopicUnder: laid · TopicNests: laid · TopicMay: laid · TopicJoin: laid.
  DERIVED. THE GIVEN ROWS OF THIS SEAT. 12 by the template 'for every input the law returns true; each argument reads behind the call as it read before'; 0 by the template 'total and deterministic' (their statements: YtodfahcmgmleeaaDoorTotals.lean).
  GIVEN WITH THE SEED: the statements are not yours to turn. If you find one false, say at which input.
  Laid BY PROGRAM, IN A SANDBOX (cutbox-rows.mjs): the forced cells as the released guide's own fill.sh prints them over the translation a60c80c9d88741dc… (all of the seat's roots in one cut). By AI agents, Wed Nov 11 2026. No macro, syntax, notation, axiom, sorry.
-/
import Derived.Test.YtodfahcmgmleeaaDoorChecked
import GoSem.PinnedTables
import GoSem.Claim
import GoSem.ClaimJoined
import GoSem.ClaimMapViews
import Derived.JoinedTies
import Derived.KernelRfl
namespace Go.Proofs.YtodfahcmgmleeaaDoor
/- THE CELL 'sum', in the pinned program and in every row, IS THE sha256 OF THE DUMP (.gsa) THAT YtodfahcmgmleeaaDoorProg.lean LOADS. Nothing in Lean hashes anything: it is a label: what it is worth is what the hold of that sum in a sandbox is worth. -/
noncomputable def Tryd.pinned : Pinned := { name := "ytodfahcmgmleeaadoor", sum := "a60c80c9d88741dc55f6dd2e3693ed2abe66e6c188be0c5ab1280229758dace5", checked := Tryd.checked }
namespace Rows
def none {H : Type} : Left H := { results := [], args := [] }

/- WHAT THE LISTED PACKAGE-LEVEL VARIABLES READ AS WHEN THE CALL BEGINS. Each datum BY PROGRAM (the guide's laid-datum.mjs) off the statement by which the dump's own 'gosem.cut.vars' lays the variable. In a bare row this is a premise. The card (YtodfahcmgmleeaaDoorCards.lean) ties it to the program's text. -/
def laid_errors_errorType {H : Type} : DataW H := .iface "internal/reflectlite.rtype" (.agg [.ptr (.lit (.string [101, 114, 114, 111, 114]))])
def laid_unicode_utf8_acceptRanges {H : Type} : DataW H := .agg [.agg [.lit (.int .u8 128), .lit (.int .u8 191)], .agg [.lit (.int .u8 160), .lit (.int .u8 191)], .agg [.lit (.int .u8 128), .lit (.int .u8 159)], .agg [.lit (.int .u8 144), .lit (.int .u8 191)], .agg [.lit (.int .u8 128), .lit (.int .u8 143)], .agg [.lit (.int .u8 0), .lit (.int .u8 0)], .agg [.lit (.int .u8 0), .lit (.int .u8 0)], .agg [.lit (.int .u8 0), .lit (.int .u8 0)], .agg [.lit (.int .u8 0), .lit (.int .u8 0)], .agg [.lit (.int .u8 0), .lit (.int .u8 0)], .agg [.lit (.int .u8 0), .lit (.int .u8 0)], .agg [.lit (.int .u8 0), .lit (.int .u8 0)], .agg [.lit (.int .u8 0), .lit (.int .u8 0)], .agg [.lit (.int .u8 0), .lit (.int .u8 0)], .agg [.lit (.int .u8 0), .lit (.int .u8 0)], .agg [.lit (.int .u8 0), .lit (.int .u8 0)]]
/-- One of Go's own tables, pinned by name: the form's constant. -/
def laid_unicode_utf8_first : DataW Unit := Go.Pinned.utf8First

/-- 'louverlaw12.BlockPlays': WHATEVER THE INPUT: true; the input reads as it did. -/
def blockPlaysSpec : ChangeSpec := { name := "blockPlays", fn := fun _ => fun
  | [d] => { results := [.lit (.bool true)], args := [d] }
  | _ => none }
def blockPlaysRow : OpenClaim := { program := "ytodfahcmgmleeaadoor", sum := "a60c80c9d88741dc55f6dd2e3693ed2abe66e6c188be0c5ab1280229758dace5", func := "louver/louverlaw12.BlockPlays", spec := "blockPlays", inPlace := ["internal/reflectlite.ValueOf", "(internal/reflectlite.Value).Type", "(internal/reflectlite.Value).IsNil", "internal/reflectlite.TypeOf", "(internal/reflectlite.Value).Elem", "(internal/reflectlite.Value).Set"], unfollowed := true, recurses := true, named := ["errors.errorType"], apart := false, laid := [("errors.errorType", laid_errors_errorType)] }
def BlockPlaysSaid : Prop := blockPlaysRow.holds Tryd.pinned (OpenSpec.ofChange blockPlaysSpec)

/-- ITS FALSE NEIGHBOUR: 'it returns false'. Refute it at one input. -/
def blockPlaysWrong : ChangeSpec := { name := "blockPlays", fn := fun _ => fun
  | [d] => { results := [.lit (.bool false)], args := [d] }
  | _ => none }
def BlockPlaysWrongFalsely : Prop := blockPlaysRow.holds Tryd.pinned (OpenSpec.ofChange blockPlaysWrong)

/-- 'louverlaw12.BlockNil': WHATEVER THE INPUT: true; the input reads as it did. -/
def blockNilSpec : ChangeSpec := { name := "blockNil", fn := fun _ => fun
  | [d] => { results := [.lit (.bool true)], args := [d] }
  | _ => none }
def blockNilRow : OpenClaim := { program := "ytodfahcmgmleeaadoor", sum := "a60c80c9d88741dc55f6dd2e3693ed2abe66e6c188be0c5ab1280229758dace5", func := "louver/louverlaw12.BlockNil", spec := "blockNil", inPlace := ["internal/reflectlite.ValueOf", "(internal/reflectlite.Value).Type", "(internal/reflectlite.Value).IsNil", "internal/reflectlite.TypeOf", "(internal/reflectlite.Value).Elem", "(internal/reflectlite.Value).Set"], unfollowed := true, recurses := true, named := ["errors.errorType"], apart := false, laid := [("errors.errorType", laid_errors_errorType)] }
def BlockNilSaid : Prop := blockNilRow.holds Tryd.pinned (OpenSpec.ofChange blockNilSpec)

/-- ITS FALSE NEIGHBOUR: 'it returns false'. Refute it at one input. -/
def blockNilWrong : ChangeSpec := { name := "blockNil", fn := fun _ => fun
  | [d] => { results := [.lit (.bool false)], args := [d] }
  | _ => none }
def BlockNilWrongFalsely : Prop := blockNilRow.holds Tryd.pinned (OpenSpec.ofChange blockNilWrong)

/-- 'louverlaw11.StreamNumber': WHATEVER THE INPUT: true; the input reads as it did. -/
def streamNumberSpec : ChangeSpec := { name := "streamNumber", fn := fun _ => fun
  | [d1, d2, d3] => { results := [.lit (.bool true)], args := [d1, d2, d3] }
  | _ => none }
def streamNumberRow : OpenClaim := { program := "ytodfahcmgmleeaadoor", sum := "a60c80c9d88741dc55f6dd2e3693ed2abe66e6c188be0c5ab1280229758dace5", func := "louver/louverlaw11.StreamNumber", spec := "streamNumber", inPlace := ["internal/reflectlite.ValueOf", "(internal/reflectlite.Value).Type", "(internal/reflectlite.Value).IsNil", "internal/reflectlite.TypeOf", "(internal/reflectlite.Value).Elem", "(internal/reflectlite.Value).Set"], unfollowed := true, recurses := true, named := ["errors.errorType"], apart := false, laid := [("errors.errorType", laid_errors_errorType)] }
def StreamNumberSaid : Prop := streamNumberRow.holds Tryd.pinned (OpenSpec.ofChange streamNumberSpec)

/-- ITS FALSE NEIGHBOUR: 'it returns false'. Refute it at one input. -/
def streamNumberWrong : ChangeSpec := { name := "streamNumber", fn := fun _ => fun
  | [d1, d2, d3] => { results := [.lit (.bool false)], args := [d1, d2, d3] }
  | _ => none }
def StreamNumberWrongFalsely : Prop := streamNumberRow.holds Tryd.pinned (OpenSpec.ofChange streamNumberWrong)

/-- 'louverlaw12.BlockGoes': WHATEVER THE INPUT: true; the input reads as it did. -/
def blockGoesSpec : ChangeSpec := { name := "blockGoes", fn := fun _ => fun
  | [d1, d2, d3] => { results := [.lit (.bool true)], args := [d1, d2, d3] }
  | _ => none }
def blockGoesRow : OpenClaim := { program := "ytodfahcmgmleeaadoor", sum := "a60c80c9d88741dc55f6dd2e3693ed2abe66e6c188be0c5ab1280229758dace5", func := "louver/louverlaw12.BlockGoes", spec := "blockGoes", inPlace := ["internal/reflectlite.ValueOf", "(internal/reflectlite.Value).Type", "(internal/reflectlite.Value).IsNil", "internal/reflectlite.TypeOf", "(internal/reflectlite.Value).Elem", "(internal/reflectlite.Value).Set"], unfollowed := true, recurses := true, named := ["errors.errorType"], apart := false, laid := [("errors.errorType", laid_errors_errorType)] }
def BlockGoesSaid : Prop := blockGoesRow.holds Tryd.pinned (OpenSpec.ofChange blockGoesSpec)

/-- ITS FALSE NEIGHBOUR: 'it returns false'. Refute it at one input. -/
def blockGoesWrong : ChangeSpec := { name := "blockGoes", fn := fun _ => fun
  | [d1, d2, d3] => { results := [.lit (.bool false)], args := [d1, d2, d3] }
  | _ => none }
def BlockGoesWrongFalsely : Prop := blockGoesRow.holds Tryd.pinned (OpenSpec.ofChange blockGoesWrong)

/-- 'louverlaw11.StreamSend': WHATEVER THE INPUT: true; the input reads as it did. -/
def streamSendSpec : ChangeSpec := { name := "streamSend", fn := fun _ => fun
  | [d1, d2, d3] => { results := [.lit (.bool true)], args := [d1, d2, d3] }
  | _ => none }
def streamSendRow : OpenClaim := { program := "ytodfahcmgmleeaadoor", sum := "a60c80c9d88741dc55f6dd2e3693ed2abe66e6c188be0c5ab1280229758dace5", func := "louver/louverlaw11.StreamSend", spec := "streamSend", inPlace := ["internal/reflectlite.ValueOf", "(internal/reflectlite.Value).Type", "(internal/reflectlite.Value).IsNil", "internal/reflectlite.TypeOf", "(internal/reflectlite.Value).Elem", "(internal/reflectlite.Value).Set"], unfollowed := true, recurses := true, named := ["errors.errorType"], apart := false, laid := [("errors.errorType", laid_errors_errorType)] }
def StreamSendSaid : Prop := streamSendRow.holds Tryd.pinned (OpenSpec.ofChange streamSendSpec)

/-- ITS FALSE NEIGHBOUR: 'it returns false'. Refute it at one input. -/
def streamSendWrong : ChangeSpec := { name := "streamSend", fn := fun _ => fun
  | [d1, d2, d3] => { results := [.lit (.bool false)], args := [d1, d2, d3] }
  | _ => none }
def StreamSendWrongFalsely : Prop := streamSendRow.holds Tryd.pinned (OpenSpec.ofChange streamSendWrong)

/-- 'louverlaw11.StreamOn': WHATEVER THE INPUT: true; the input reads as it did. -/
def streamOnSpec : ChangeSpec := { name := "streamOn", fn := fun _ => fun
  | [d] => { results := [.lit (.bool true)], args := [d] }
  | _ => none }
def streamOnRow : OpenClaim := { program := "ytodfahcmgmleeaadoor", sum := "a60c80c9d88741dc55f6dd2e3693ed2abe66e6c188be0c5ab1280229758dace5", func := "louver/louverlaw11.StreamOn", spec := "streamOn", inPlace := ["internal/reflectlite.ValueOf", "(internal/reflectlite.Value).Type", "(internal/reflectlite.Value).IsNil", "internal/reflectlite.TypeOf", "(internal/reflectlite.Value).Elem", "(internal/reflectlite.Value).Set"], unfollowed := true, recurses := true, named := ["errors.errorType"], apart := false, laid := [("errors.errorType", laid_errors_errorType)] }
def StreamOnSaid : Prop := streamOnRow.holds Tryd.pinned (OpenSpec.ofChange streamOnSpec)

/-- ITS FALSE NEIGHBOUR: 'it returns false'. Refute it at one input. -/
def streamOnWrong : ChangeSpec := { name := "streamOn", fn := fun _ => fun
  | [d] => { results := [.lit (.bool false)], args := [d] }
  | _ => none }
def StreamOnWrongFalsely : Prop := streamOnRow.holds Tryd.pinned (OpenSpec.ofChange streamOnWrong)

/-- 'louverlaw11.StreamEnds': WHATEVER THE INPUT: true; the input reads as it did. -/
def streamEndsSpec : ChangeSpec := { name := "streamEnds", fn := fun _ => fun
  | [d] => { results := [.lit (.bool true)], args := [d] }
  | _ => none }
def streamEndsRow : OpenClaim := { program := "ytodfahcmgmleeaadoor", sum := "a60c80c9d88741dc55f6dd2e3693ed2abe66e6c188be0c5ab1280229758dace5", func := "louver/louverlaw11.StreamEnds", spec := "streamEnds", inPlace := ["internal/reflectlite.ValueOf", "(internal/reflectlite.Value).Type", "(internal/reflectlite.Value).IsNil", "internal/reflectlite.TypeOf", "(internal/reflectlite.Value).Elem", "(internal/reflectlite.Value).Set"], unfollowed := true, recurses := true, named := ["errors.errorType"], apart := false, laid := [("errors.errorType", laid_errors_errorType)] }
def StreamEndsSaid : Prop := streamEndsRow.holds Tryd.pinned (OpenSpec.ofChange streamEndsSpec)

/-- ITS FALSE NEIGHBOUR: 'it returns false'. Refute it at one input. -/
def streamEndsWrong : ChangeSpec := { name := "streamEnds", fn := fun _ => fun
  | [d] => { results := [.lit (.bool false)], args := [d] }
  | _ => none }
def StreamEndsWrongFalsely : Prop := streamEndsRow.holds Tryd.pinned (OpenSpec.ofChange streamEndsWrong)

/-- 'louverlaw11.StreamIgnored': WHATEVER THE INPUT: true; the input reads as it did. -/
def streamIgnoredSpec : ChangeSpec := { name := "streamIgnored", fn := fun _ => fun
  | [d1, d2, d3] => { results := [.lit (.bool true)], args := [d1, d2, d3] }
  | _ => none }
def streamIgnoredRow : OpenClaim := { program := "ytodfahcmgmleeaadoor", sum := "a60c80c9d88741dc55f6dd2e3693ed2abe66e6c188be0c5ab1280229758dace5", func := "louver/louverlaw11.StreamIgnored", spec := "streamIgnored", inPlace := ["internal/reflectlite.ValueOf", "(internal/reflectlite.Value).Type", "(internal/reflectlite.Value).IsNil", "internal/reflectlite.TypeOf", "(internal/reflectlite.Value).Elem", "(internal/reflectlite.Value).Set"], unfollowed := true, recurses := true, named := ["errors.errorType"], apart := false, laid := [("errors.errorType", laid_errors_errorType)] }
def StreamIgnoredSaid : Prop := streamIgnoredRow.holds Tryd.pinned (OpenSpec.ofChange streamIgnoredSpec)

/-- ITS FALSE NEIGHBOUR: 'it returns false'. Refute it at one input. -/
def streamIgnoredWrong : ChangeSpec := { name := "streamIgnored", fn := fun _ => fun
  | [d1, d2, d3] => { results := [.lit (.bool false)], args := [d1, d2, d3] }
  | _ => none }
def StreamIgnoredWrongFalsely : Prop := streamIgnoredRow.holds Tryd.pinned (OpenSpec.ofChange streamIgnoredWrong)

/-- 'louverlaw21.TopicUnder': WHATEVER THE INPUT: true; the input reads as it did. -/
def topicUnderSpec : ChangeSpec := { name := "topicUnder", fn := fun _ => fun
  | [d1, d2] => { results := [.lit (.bool true)], args := [d1, d2] }
  | _ => none }
def topicUnderRow : OpenClaim := { program := "ytodfahcmgmleeaadoor", sum := "a60c80c9d88741dc55f6dd2e3693ed2abe66e6c188be0c5ab1280229758dace5", func := "louver/louverlaw21.TopicUnder", spec := "topicUnder", inPlace := ["internal/bytealg.CountString", "internal/bytealg.IndexByteString", "internal/bytealg.IndexString"], unfollowed := true, recurses := true, named := ["unicode/utf8.first", "unicode/utf8.acceptRanges", "internal/bytealg.MaxLen"], apart := false, laid := [("unicode/utf8.acceptRanges", laid_unicode_utf8_acceptRanges), ("unicode/utf8.first", laid_unicode_utf8_first)] }
def TopicUnderSaid : Prop := topicUnderRow.holds Tryd.pinned (OpenSpec.ofChange topicUnderSpec)

/-- ITS FALSE NEIGHBOUR: 'it returns false'. Refute it at one input. -/
def topicUnderWrong : ChangeSpec := { name := "topicUnder", fn := fun _ => fun
  | [d1, d2] => { results := [.lit (.bool false)], args := [d1, d2] }
  | _ => none }
def TopicUnderWrongFalsely : Prop := topicUnderRow.holds Tryd.pinned (OpenSpec.ofChange topicUnderWrong)

/-- 'louverlaw21.TopicNests': WHATEVER THE INPUT: true; the input reads as it did. -/
def topicNestsSpec : ChangeSpec := { name := "topicNests", fn := fun _ => fun
  | [d1, d2, d3, d4] => { results := [.lit (.bool true)], args := [d1, d2, d3, d4] }
  | _ => none }
def topicNestsRow : OpenClaim := { program := "ytodfahcmgmleeaadoor", sum := "a60c80c9d88741dc55f6dd2e3693ed2abe66e6c188be0c5ab1280229758dace5", func := "louver/louverlaw21.TopicNests", spec := "topicNests", inPlace := ["internal/bytealg.CountString", "internal/bytealg.IndexByteString", "internal/bytealg.IndexString"], unfollowed := true, recurses := true, named := ["unicode/utf8.first", "unicode/utf8.acceptRanges", "internal/bytealg.MaxLen"], apart := false, laid := [("unicode/utf8.acceptRanges", laid_unicode_utf8_acceptRanges), ("unicode/utf8.first", laid_unicode_utf8_first)] }
def TopicNestsSaid : Prop := topicNestsRow.holds Tryd.pinned (OpenSpec.ofChange topicNestsSpec)

/-- ITS FALSE NEIGHBOUR: 'it returns false'. Refute it at one input. -/
def topicNestsWrong : ChangeSpec := { name := "topicNests", fn := fun _ => fun
  | [d1, d2, d3, d4] => { results := [.lit (.bool false)], args := [d1, d2, d3, d4] }
  | _ => none }
def TopicNestsWrongFalsely : Prop := topicNestsRow.holds Tryd.pinned (OpenSpec.ofChange topicNestsWrong)

/-- 'louverlaw21.TopicMay': WHATEVER THE INPUT: true; the input reads as it did. -/
def topicMaySpec : ChangeSpec := { name := "topicMay", fn := fun _ => fun
  | [d] => { results := [.lit (.bool true)], args := [d] }
  | _ => none }
def topicMayRow : OpenClaim := { program := "ytodfahcmgmleeaadoor", sum := "a60c80c9d88741dc55f6dd2e3693ed2abe66e6c188be0c5ab1280229758dace5", func := "louver/louverlaw21.TopicMay", spec := "topicMay", inPlace := ["internal/bytealg.CountString", "internal/bytealg.IndexByteString", "internal/bytealg.IndexString", "internal/abi.NoEscape", "internal/bytealg.MakeNoZero"], unfollowed := true, recurses := true, named := ["unicode/utf8.first", "unicode/utf8.acceptRanges", "internal/bytealg.MaxLen"], apart := false, laid := [("unicode/utf8.acceptRanges", laid_unicode_utf8_acceptRanges), ("unicode/utf8.first", laid_unicode_utf8_first)] }
def TopicMaySaid : Prop := topicMayRow.holds Tryd.pinned (OpenSpec.ofChange topicMaySpec)

/-- ITS FALSE NEIGHBOUR: 'it returns false'. Refute it at one input. -/
def topicMayWrong : ChangeSpec := { name := "topicMay", fn := fun _ => fun
  | [d] => { results := [.lit (.bool false)], args := [d] }
  | _ => none }
def TopicMayWrongFalsely : Prop := topicMayRow.holds Tryd.pinned (OpenSpec.ofChange topicMayWrong)

/-- 'louverlaw21.TopicJoin': WHATEVER THE INPUT: true; the input reads as it did. -/
def topicJoinSpec : ChangeSpec := { name := "topicJoin", fn := fun _ => fun
  | [d] => { results := [.lit (.bool true)], args := [d] }
  | _ => none }
def topicJoinRow : OpenClaim := { program := "ytodfahcmgmleeaadoor", sum := "a60c80c9d88741dc55f6dd2e3693ed2abe66e6c188be0c5ab1280229758dace5", func := "louver/louverlaw21.TopicJoin", spec := "topicJoin", inPlace := ["internal/bytealg.CountString", "internal/bytealg.IndexByteString", "internal/bytealg.IndexString", "internal/abi.NoEscape", "internal/bytealg.MakeNoZero"], unfollowed := true, recurses := true, named := ["unicode/utf8.first", "unicode/utf8.acceptRanges", "internal/bytealg.MaxLen"], apart := false, laid := [("unicode/utf8.acceptRanges", laid_unicode_utf8_acceptRanges), ("unicode/utf8.first", laid_unicode_utf8_first)] }
def TopicJoinSaid : Prop := topicJoinRow.holds Tryd.pinned (OpenSpec.ofChange topicJoinSpec)

/-- ITS FALSE NEIGHBOUR: 'it returns false'. Refute it at one input. -/
def topicJoinWrong : ChangeSpec := { name := "topicJoin", fn := fun _ => fun
  | [d] => { results := [.lit (.bool false)], args := [d] }
  | _ => none }
def TopicJoinWrongFalsely : Prop := topicJoinRow.holds Tryd.pinned (OpenSpec.ofChange topicJoinWrong)

/- THE SECOND FORM. 'bulk': how many values and letters a reading holds, each counted each time it is reached (what is shared counts as often as it is met; a slice's spare places count too). A statement '..UptoSaid' is the law's where the arguments, and the package variables that the reading takes, are together of bulk at most 1048576: NARROWER than '..Said'. Prove '..Said' where nothing that the law and all that it calls make is longer than what came in: it says more and counts as full. Else prove '..UptoSaid'. A law counts once. -/
mutual
def uptoBulk {H : Type} : DataW H → Nat
  | .lit (.string bytes) => bytes.length + 1
  | .lit _ => 1
  | .nil => 1
  | .ptr d => uptoBulk d + 1
  | .slice elems spare => uptoBulkAll elems + uptoBulkAll spare + 1
  | .agg parts => uptoBulkAll parts + 1
  | .iface _ d => uptoBulk d + 1
  | .map entries => uptoBulkEntries entries + 1
  | .held _ => 1
def uptoBulkAll {H : Type} : List (DataW H) → Nat
  | [] => 0
  | d :: r => uptoBulk d + uptoBulkAll r
def uptoBulkEntries {H : Type} : List (Lit × DataW H) → Nat
  | [] => 0
  | x :: r => uptoBulkEntry x + uptoBulkEntries r
def uptoBulkEntry {H : Type} : Lit × DataW H → Nat
  | (.string bytes, d) => bytes.length + uptoBulk d + 1
  | (_, d) => uptoBulk d + 1
 end
def uptoSmall : (H : Type) → List (DataW H) → Bool := fun _ ds => decide (uptoBulkAll ds ≤ 1048576)
def OpenSpec.upto (s : _root_.Go.ChangeSpec) : _root_.Go.OpenSpec := { _root_.Go.OpenSpec.ofChange s with cond := some uptoSmall }

/-- 'louverlaw12.BlockPlays', WHERE WHAT IT READS IS OF BULK AT MOST 1048576: true; the input reads as it did. -/
def blockPlaysUptoRow : OpenClaim := { program := "ytodfahcmgmleeaadoor", sum := "a60c80c9d88741dc55f6dd2e3693ed2abe66e6c188be0c5ab1280229758dace5", func := "louver/louverlaw12.BlockPlays", spec := "blockPlays", inPlace := ["internal/reflectlite.ValueOf", "(internal/reflectlite.Value).Type", "(internal/reflectlite.Value).IsNil", "internal/reflectlite.TypeOf", "(internal/reflectlite.Value).Elem", "(internal/reflectlite.Value).Set"], unfollowed := true, recurses := true, named := ["errors.errorType"], apart := false, laid := [("errors.errorType", laid_errors_errorType)], narrowed := true }
def BlockPlaysUptoSaid : Prop := blockPlaysUptoRow.holds Tryd.pinned (OpenSpec.upto blockPlaysSpec)

/-- 'louverlaw12.BlockNil', WHERE WHAT IT READS IS OF BULK AT MOST 1048576: true; the input reads as it did. -/
def blockNilUptoRow : OpenClaim := { program := "ytodfahcmgmleeaadoor", sum := "a60c80c9d88741dc55f6dd2e3693ed2abe66e6c188be0c5ab1280229758dace5", func := "louver/louverlaw12.BlockNil", spec := "blockNil", inPlace := ["internal/reflectlite.ValueOf", "(internal/reflectlite.Value).Type", "(internal/reflectlite.Value).IsNil", "internal/reflectlite.TypeOf", "(internal/reflectlite.Value).Elem", "(internal/reflectlite.Value).Set"], unfollowed := true, recurses := true, named := ["errors.errorType"], apart := false, laid := [("errors.errorType", laid_errors_errorType)], narrowed := true }
def BlockNilUptoSaid : Prop := blockNilUptoRow.holds Tryd.pinned (OpenSpec.upto blockNilSpec)

/-- 'louverlaw11.StreamNumber', WHERE WHAT IT READS IS OF BULK AT MOST 1048576: true; the input reads as it did. -/
def streamNumberUptoRow : OpenClaim := { program := "ytodfahcmgmleeaadoor", sum := "a60c80c9d88741dc55f6dd2e3693ed2abe66e6c188be0c5ab1280229758dace5", func := "louver/louverlaw11.StreamNumber", spec := "streamNumber", inPlace := ["internal/reflectlite.ValueOf", "(internal/reflectlite.Value).Type", "(internal/reflectlite.Value).IsNil", "internal/reflectlite.TypeOf", "(internal/reflectlite.Value).Elem", "(internal/reflectlite.Value).Set"], unfollowed := true, recurses := true, named := ["errors.errorType"], apart := false, laid := [("errors.errorType", laid_errors_errorType)], narrowed := true }
def StreamNumberUptoSaid : Prop := streamNumberUptoRow.holds Tryd.pinned (OpenSpec.upto streamNumberSpec)

/-- 'louverlaw12.BlockGoes', WHERE WHAT IT READS IS OF BULK AT MOST 1048576: true; the input reads as it did. -/
def blockGoesUptoRow : OpenClaim := { program := "ytodfahcmgmleeaadoor", sum := "a60c80c9d88741dc55f6dd2e3693ed2abe66e6c188be0c5ab1280229758dace5", func := "louver/louverlaw12.BlockGoes", spec := "blockGoes", inPlace := ["internal/reflectlite.ValueOf", "(internal/reflectlite.Value).Type", "(internal/reflectlite.Value).IsNil", "internal/reflectlite.TypeOf", "(internal/reflectlite.Value).Elem", "(internal/reflectlite.Value).Set"], unfollowed := true, recurses := true, named := ["errors.errorType"], apart := false, laid := [("errors.errorType", laid_errors_errorType)], narrowed := true }
def BlockGoesUptoSaid : Prop := blockGoesUptoRow.holds Tryd.pinned (OpenSpec.upto blockGoesSpec)

/-- 'louverlaw11.StreamSend', WHERE WHAT IT READS IS OF BULK AT MOST 1048576: true; the input reads as it did. -/
def streamSendUptoRow : OpenClaim := { program := "ytodfahcmgmleeaadoor", sum := "a60c80c9d88741dc55f6dd2e3693ed2abe66e6c188be0c5ab1280229758dace5", func := "louver/louverlaw11.StreamSend", spec := "streamSend", inPlace := ["internal/reflectlite.ValueOf", "(internal/reflectlite.Value).Type", "(internal/reflectlite.Value).IsNil", "internal/reflectlite.TypeOf", "(internal/reflectlite.Value).Elem", "(internal/reflectlite.Value).Set"], unfollowed := true, recurses := true, named := ["errors.errorType"], apart := false, laid := [("errors.errorType", laid_errors_errorType)], narrowed := true }
def StreamSendUptoSaid : Prop := streamSendUptoRow.holds Tryd.pinned (OpenSpec.upto streamSendSpec)

/-- 'louverlaw11.StreamOn', WHERE WHAT IT READS IS OF BULK AT MOST 1048576: true; the input reads as it did. -/
def streamOnUptoRow : OpenClaim := { program := "ytodfahcmgmleeaadoor", sum := "a60c80c9d88741dc55f6dd2e3693ed2abe66e6c188be0c5ab1280229758dace5", func := "louver/louverlaw11.StreamOn", spec := "streamOn", inPlace := ["internal/reflectlite.ValueOf", "(internal/reflectlite.Value).Type", "(internal/reflectlite.Value).IsNil", "internal/reflectlite.TypeOf", "(internal/reflectlite.Value).Elem", "(internal/reflectlite.Value).Set"], unfollowed := true, recurses := true, named := ["errors.errorType"], apart := false, laid := [("errors.errorType", laid_errors_errorType)], narrowed := true }
def StreamOnUptoSaid : Prop := streamOnUptoRow.holds Tryd.pinned (OpenSpec.upto streamOnSpec)

/-- 'louverlaw11.StreamEnds', WHERE WHAT IT READS IS OF BULK AT MOST 1048576: true; the input reads as it did. -/
def streamEndsUptoRow : OpenClaim := { program := "ytodfahcmgmleeaadoor", sum := "a60c80c9d88741dc55f6dd2e3693ed2abe66e6c188be0c5ab1280229758dace5", func := "louver/louverlaw11.StreamEnds", spec := "streamEnds", inPlace := ["internal/reflectlite.ValueOf", "(internal/reflectlite.Value).Type", "(internal/reflectlite.Value).IsNil", "internal/reflectlite.TypeOf", "(internal/reflectlite.Value).Elem", "(internal/reflectlite.Value).Set"], unfollowed := true, recurses := true, named := ["errors.errorType"], apart := false, laid := [("errors.errorType", laid_errors_errorType)], narrowed := true }
def StreamEndsUptoSaid : Prop := streamEndsUptoRow.holds Tryd.pinned (OpenSpec.upto streamEndsSpec)

/-- 'louverlaw11.StreamIgnored', WHERE WHAT IT READS IS OF BULK AT MOST 1048576: true; the input reads as it did. -/
def streamIgnoredUptoRow : OpenClaim := { program := "ytodfahcmgmleeaadoor", sum := "a60c80c9d88741dc55f6dd2e3693ed2abe66e6c188be0c5ab1280229758dace5", func := "louver/louverlaw11.StreamIgnored", spec := "streamIgnored", inPlace := ["internal/reflectlite.ValueOf", "(internal/reflectlite.Value).Type", "(internal/reflectlite.Value).IsNil", "internal/reflectlite.TypeOf", "(internal/reflectlite.Value).Elem", "(internal/reflectlite.Value).Set"], unfollowed := true, recurses := true, named := ["errors.errorType"], apart := false, laid := [("errors.errorType", laid_errors_errorType)], narrowed := true }
def StreamIgnoredUptoSaid : Prop := streamIgnoredUptoRow.holds Tryd.pinned (OpenSpec.upto streamIgnoredSpec)

/-- 'louverlaw21.TopicUnder', WHERE WHAT IT READS IS OF BULK AT MOST 1048576: true; the input reads as it did. -/
def topicUnderUptoRow : OpenClaim := { program := "ytodfahcmgmleeaadoor", sum := "a60c80c9d88741dc55f6dd2e3693ed2abe66e6c188be0c5ab1280229758dace5", func := "louver/louverlaw21.TopicUnder", spec := "topicUnder", inPlace := ["internal/bytealg.CountString", "internal/bytealg.IndexByteString", "internal/bytealg.IndexString"], unfollowed := true, recurses := true, named := ["unicode/utf8.first", "unicode/utf8.acceptRanges", "internal/bytealg.MaxLen"], apart := false, laid := [("unicode/utf8.acceptRanges", laid_unicode_utf8_acceptRanges), ("unicode/utf8.first", laid_unicode_utf8_first)], narrowed := true }
def TopicUnderUptoSaid : Prop := topicUnderUptoRow.holds Tryd.pinned (OpenSpec.upto topicUnderSpec)

/-- 'louverlaw21.TopicNests', WHERE WHAT IT READS IS OF BULK AT MOST 1048576: true; the input reads as it did. -/
def topicNestsUptoRow : OpenClaim := { program := "ytodfahcmgmleeaadoor", sum := "a60c80c9d88741dc55f6dd2e3693ed2abe66e6c188be0c5ab1280229758dace5", func := "louver/louverlaw21.TopicNests", spec := "topicNests", inPlace := ["internal/bytealg.CountString", "internal/bytealg.IndexByteString", "internal/bytealg.IndexString"], unfollowed := true, recurses := true, named := ["unicode/utf8.first", "unicode/utf8.acceptRanges", "internal/bytealg.MaxLen"], apart := false, laid := [("unicode/utf8.acceptRanges", laid_unicode_utf8_acceptRanges), ("unicode/utf8.first", laid_unicode_utf8_first)], narrowed := true }
def TopicNestsUptoSaid : Prop := topicNestsUptoRow.holds Tryd.pinned (OpenSpec.upto topicNestsSpec)

/-- 'louverlaw21.TopicMay', WHERE WHAT IT READS IS OF BULK AT MOST 1048576: true; the input reads as it did. -/
def topicMayUptoRow : OpenClaim := { program := "ytodfahcmgmleeaadoor", sum := "a60c80c9d88741dc55f6dd2e3693ed2abe66e6c188be0c5ab1280229758dace5", func := "louver/louverlaw21.TopicMay", spec := "topicMay", inPlace := ["internal/bytealg.CountString", "internal/bytealg.IndexByteString", "internal/bytealg.IndexString", "internal/abi.NoEscape", "internal/bytealg.MakeNoZero"], unfollowed := true, recurses := true, named := ["unicode/utf8.first", "unicode/utf8.acceptRanges", "internal/bytealg.MaxLen"], apart := false, laid := [("unicode/utf8.acceptRanges", laid_unicode_utf8_acceptRanges), ("unicode/utf8.first", laid_unicode_utf8_first)], narrowed := true }
def TopicMayUptoSaid : Prop := topicMayUptoRow.holds Tryd.pinned (OpenSpec.upto topicMaySpec)

/-- 'louverlaw21.TopicJoin', WHERE WHAT IT READS IS OF BULK AT MOST 1048576: true; the input reads as it did. -/
def topicJoinUptoRow : OpenClaim := { program := "ytodfahcmgmleeaadoor", sum := "a60c80c9d88741dc55f6dd2e3693ed2abe66e6c188be0c5ab1280229758dace5", func := "louver/louverlaw21.TopicJoin", spec := "topicJoin", inPlace := ["internal/bytealg.CountString", "internal/bytealg.IndexByteString", "internal/bytealg.IndexString", "internal/abi.NoEscape", "internal/bytealg.MakeNoZero"], unfollowed := true, recurses := true, named := ["unicode/utf8.first", "unicode/utf8.acceptRanges", "internal/bytealg.MaxLen"], apart := false, laid := [("unicode/utf8.acceptRanges", laid_unicode_utf8_acceptRanges), ("unicode/utf8.first", laid_unicode_utf8_first)], narrowed := true }
def TopicJoinUptoSaid : Prop := topicJoinUptoRow.holds Tryd.pinned (OpenSpec.upto topicJoinSpec)

end Rows
end Go.Proofs.YtodfahcmgmleeaaDoor
