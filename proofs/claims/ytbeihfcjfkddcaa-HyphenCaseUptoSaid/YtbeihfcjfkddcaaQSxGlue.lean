/- Pruned by wip/prune.py. -/
import Derived.Test.YtbeihfcjfkddcaaQSxEq
namespace Go.Proofs.Ytbeihfcjfkddcaa.Sx
open Go Go.RowKit Go.Proofs.YtbeihfcjfkddcaaW.PrintWords
set_option linter.unusedVariables false
end Go.Proofs.Ytbeihfcjfkddcaa.Sx
