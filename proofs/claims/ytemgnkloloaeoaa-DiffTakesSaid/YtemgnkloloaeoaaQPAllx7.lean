/- Pruned by wip/prune.py. -/
import Derived.Test.YtemgnkloloaeoaaQGivenSame
import Derived.Test.YtemgnkloloaeoaaQPAllx0
import Derived.Test.YtemgnkloloaeoaaQPAllx5
import Derived.Test.YtemgnkloloaeoaaQPAllx6

namespace Go.Proofs.Ytemgnkloloaeoaa.PAll
open Go.RowKit Go.Proofs.YtemgnkloloaeoaaW.PrintWords Go.Proofs.YtemgnkloloaeoaaW.PrintLast Go.Proofs.YtemgnkloloaeoaaW.PrintMore Go.Proofs.Ytemgnkloloaeoaa.Given
attribute [local go_sem] max2_int min2_int max_two min_two max_three min_three max_four min_four   -- for this text's walks alone
set_option linter.unusedVariables false
set_option linter.unusedSimpArgs false
end Go.Proofs.Ytemgnkloloaeoaa.PAll
