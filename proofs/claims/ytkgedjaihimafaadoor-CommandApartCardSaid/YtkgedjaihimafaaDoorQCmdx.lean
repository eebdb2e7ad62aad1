/- Printed by a program of this claim's author (wip/pr.py); not trusted: Lean checks it. -/
import Derived.Test.YtkgedjaihimafaaDoorQCmdx0
import Derived.Test.YtkgedjaihimafaaDoorQCmdx1
import Derived.Test.YtkgedjaihimafaaDoorQCmdx2
import Derived.Test.YtkgedjaihimafaaDoorQCmdx3
import Derived.Test.YtkgedjaihimafaaDoorQCmdx4
import Derived.Test.YtkgedjaihimafaaDoorQCmdx5
import Derived.Test.YtkgedjaihimafaaDoorQCmdx6
import Derived.Test.YtkgedjaihimafaaDoorQCmdx7
namespace Go.Proofs.YtkgedjaihimafaaDoor.QCmd
open Go.Proofs.YtkgedjaihimafaaDoor Go.Proofs.YtkgedjaihimafaaDoor.Given
open Go.RowKit Go.Proofs.YtkgedjaihimafaaDoorW.PrintWords Go.Proofs.YtkgedjaihimafaaDoorW.PrintLast Go.Proofs.YtkgedjaihimafaaDoorW.PrintMore
attribute [local go_sem] max2_int min2_int max_two min_two max_three min_three max_four min_four   -- for this text's walks alone
set_option linter.unusedVariables false
set_option linter.unusedSimpArgs false

end Go.Proofs.YtkgedjaihimafaaDoor.QCmd
