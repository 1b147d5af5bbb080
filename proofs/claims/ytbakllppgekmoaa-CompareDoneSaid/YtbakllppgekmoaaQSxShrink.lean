/- Pruned by wip/prune.py. -/
import Derived.Test.YtbakllppgekmoaaQSxJoin
namespace Go.Proofs.Ytbakllppgekmoaa.Sx
open Go Go.RowKit Go.Proofs.YtbakllppgekmoaaW.PrintWords
set_option linter.unusedVariables false
end Go.Proofs.Ytbakllppgekmoaa.Sx
