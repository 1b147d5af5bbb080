/- Pruned by wip/prune.py. -/
import Derived.Test.YtemgnkloloaeoaaQSxEq
namespace Go.Proofs.Ytemgnkloloaeoaa.Sx
open Go Go.RowKit Go.Proofs.YtemgnkloloaeoaaW.PrintWords
set_option linter.unusedVariables false
end Go.Proofs.Ytemgnkloloaeoaa.Sx
