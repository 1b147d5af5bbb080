/- Pruned by wip/prune.py. -/
import Derived.Test.YtmlkajmlhmfdgaaQOpens
import Derived.Test.YtmlkajmlhmfdgaaProg
import Derived.Test.YtmlkajmlhmfdgaaQSxKinds
namespace Go.Proofs.Ytmlkajmlhmfdgaa.Opens
open Go.RowKit Go.Deep Go.Proofs.Ytmlkajmlhmfdgaa.Kinds Go.Proofs.YtmlkajmlhmfdgaaW.PrintWords
set_option linter.unusedVariables false
section
variable {P : Program} {w : World} {H : Type} {enc : TypeId × Value → H}
end
end Go.Proofs.Ytmlkajmlhmfdgaa.Opens
