/- Pruned by wip/prune.py. -/
import Derived.Test.YtbeihfcjfkddcaaQRunesPure
namespace Go.Proofs.Ytbeihfcjfkddcaa.Rn
open Go Go.RowKit Go.Proofs.YtbeihfcjfkddcaaW.PrintWords Go.Proofs.YtbeihfcjfkddcaaW.PrintMore Go.Proofs.Ytbeihfcjfkddcaa.Given
set_option linter.unusedVariables false
set_option linter.unusedSimpArgs false
end Go.Proofs.Ytbeihfcjfkddcaa.Rn
