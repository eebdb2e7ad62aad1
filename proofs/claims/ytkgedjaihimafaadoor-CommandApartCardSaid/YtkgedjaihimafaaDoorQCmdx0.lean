/- Printed by a program of this claim's author (wip/pr.py); not trusted: Lean checks it. -/
import Derived.Test.YtkgedjaihimafaaDoorProg
import Derived.Below
import Derived.Deep.Draws
import Derived.Deep.AppendLies
import Derived.Maps.AppendAt
import Derived.OwnWalk
import Derived.Laws.BytesArg
import Derived.Laws.MakeOwn
import Derived.Laws.OwnMore
import Derived.Deep.OwnRows
import Derived.Tactics
import Derived.Lib.ConvBytes
import Derived.Laws.Slices
import Derived.WalkKit
import Derived.KernelRfl
import Derived.RowKit3
import Derived.Deep.LoopGhost
import Derived.Deep.QuietTactic
import Derived.BigQuiet
import Derived.WideLaws
import Derived.Deep.DeepCutAuto
import Derived.Deep.CutBlock
import Derived.Deep.RegionHeld3
import Derived.Laws.Rows
import Derived.Lib.AppendStr
import Derived.ArgAppend
import Derived.Laws.IdiomCopy
import Derived.OrdersHeld
import Derived.Laws.BitsLemmas
import Derived.RowKit
import Derived.Test.YtkgedjaihimafaaDoorTopicGiven
import Derived.Test.YtkgedjaihimafaaDoorWWords
import Derived.Test.YtkgedjaihimafaaDoorWLast
import Derived.Test.YtkgedjaihimafaaDoorWTab
import Derived.Test.YtkgedjaihimafaaDoorWFour
import Derived.Test.YtkgedjaihimafaaDoorWQPut
import Derived.Test.YtkgedjaihimafaaDoorWApart
import Derived.Test.YtkgedjaihimafaaDoorWArr
import Derived.Test.YtkgedjaihimafaaDoorWZeros
import Derived.Test.YtkgedjaihimafaaDoorWFoot
import Derived.Test.YtkgedjaihimafaaDoorWKept
import Derived.Test.YtkgedjaihimafaaDoorWShare
import Derived.Test.YtkgedjaihimafaaDoorWN
import Derived.Test.YtkgedjaihimafaaDoorWFootNe
import Derived.Test.YtkgedjaihimafaaDoorWAt
import Derived.Test.YtkgedjaihimafaaDoorWEqStruct
import Derived.Test.YtkgedjaihimafaaDoorWRepsOne
import Derived.Test.YtkgedjaihimafaaDoorWInv
import Derived.Test.YtkgedjaihimafaaDoorWInvWords
import Derived.Test.YtkgedjaihimafaaDoorWGuard
import Derived.Test.YtkgedjaihimafaaDoorWNEv
import Derived.Test.YtkgedjaihimafaaDoorWMore
namespace Go.Proofs.YtkgedjaihimafaaDoor.QCmd
open Go.Proofs.YtkgedjaihimafaaDoor Go.Proofs.YtkgedjaihimafaaDoor.Given
open Go.RowKit Go.Proofs.YtkgedjaihimafaaDoorW.PrintWords Go.Proofs.YtkgedjaihimafaaDoorW.PrintLast Go.Proofs.YtkgedjaihimafaaDoorW.PrintMore
attribute [local go_sem] max2_int min2_int max_two min_two max_three min_three max_four min_four   -- for this text's walks alone
set_option linter.unusedVariables false
set_option linter.unusedSimpArgs false



def errW : Option Int → Value
  | none => .nilIface
  | some c => .iface 0 (.int .i64 c)
theorem errW_none : errW none = .nilIface := rfl
theorem errW_some (c : Int) : errW (some c) = .iface 0 (.int .i64 c) := rfl

theorem info5 : (Tryd.prog.info? 5).map (fun i => (i.zero, i.size, i.bytes)) = some (some (.int .u8 0), 1, 1) := by kernel_rfl
theorem info9 : (Tryd.prog.info? 9).map (fun i => (i.zero, i.size, i.bytes)) = some (some (.string ⟨#[]⟩), 1, 16) := by kernel_rfl
-- the values' own types

end Go.Proofs.YtkgedjaihimafaaDoor.QCmd
