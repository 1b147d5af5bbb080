/- Pruned by wip/prune.py. -/
import Derived.Test.YtieieindakbpoaaQOpens
import Derived.Test.YtieieindakbpoaaProg
import Derived.Test.YtieieindakbpoaaQSxKinds
namespace Go.Proofs.Ytieieindakbpoaa.Opens
open Go.RowKit Go.Deep Go.Proofs.Ytieieindakbpoaa.Kinds Go.Proofs.YtieieindakbpoaaW.PrintWords
set_option linter.unusedVariables false
section
variable {P : Program} {w : World} {H : Type} {enc : TypeId × Value → H}
end
end Go.Proofs.Ytieieindakbpoaa.Opens
