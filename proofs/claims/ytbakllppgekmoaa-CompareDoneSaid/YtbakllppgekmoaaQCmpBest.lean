/- Pruned by wip/prune.py. -/
import Derived.Test.YtbakllppgekmoaaQCmpBetween
namespace Go.Proofs.Ytbakllppgekmoaa.Cmp
open Go Go.RowKit Go.Proofs.Ytbakllppgekmoaa.Given Go.Proofs.Ytbakllppgekmoaa.Kinds
set_option linter.unusedVariables false
set_option linter.unusedSimpArgs false
section
variable {A B : List Int}
end
end Go.Proofs.Ytbakllppgekmoaa.Cmp
