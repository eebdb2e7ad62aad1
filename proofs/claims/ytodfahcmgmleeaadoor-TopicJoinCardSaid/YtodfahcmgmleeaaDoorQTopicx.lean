/- Printed by a program of this claim's author (wip/pr.py); not trusted: Lean checks it. -/
import Derived.Test.YtodfahcmgmleeaaDoorQTopicx0
import Derived.Test.YtodfahcmgmleeaaDoorQTopicx1
import Derived.Test.YtodfahcmgmleeaaDoorQTopicx2
import Derived.Test.YtodfahcmgmleeaaDoorQTopicx3
import Derived.Test.YtodfahcmgmleeaaDoorQTopicx4
import Derived.Test.YtodfahcmgmleeaaDoorQTopicx5
namespace Go.Proofs.YtodfahcmgmleeaaDoor.QTopic
open Go.Proofs.YtodfahcmgmleeaaDoor.Given
open Go.RowKit Go.Proofs.YtodfahcmgmleeaaDoorW.PrintWords Go.Proofs.YtodfahcmgmleeaaDoorW.PrintLast Go.Proofs.YtodfahcmgmleeaaDoorW.PrintMore
attribute [local go_sem] max2_int min2_int max_two min_two max_three min_three max_four min_four   -- for this text's walks alone
set_option linter.unusedVariables false
set_option linter.unusedSimpArgs false

end Go.Proofs.YtodfahcmgmleeaaDoor.QTopic
