/- Pruned by wip/prune.py. -/
import Derived.Test.YtbakllppgekmoaaQCmpDiff
namespace Go.Proofs.Ytbakllppgekmoaa.Cmp
open Go Go.RowKit Go.Proofs.Ytbakllppgekmoaa.Given Go.Proofs.Ytbakllppgekmoaa.Kinds Go.Proofs.Ytbakllppgekmoaa.Rn Go.Proofs.YtbakllppgekmoaaW.PrintWords
set_option linter.unusedVariables false
set_option linter.unusedSimpArgs false
section
variable {s a b : ByteArray}
end
end Go.Proofs.Ytbakllppgekmoaa.Cmp
