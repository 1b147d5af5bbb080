/- Pruned by wip/prune.py. -/
import Derived.Test.YtmlkajmlhmfdgaaQSxGlue
namespace Go.Proofs.Ytmlkajmlhmfdgaa.Sx
open Go Go.RowKit Go.Proofs.YtmlkajmlhmfdgaaW.PrintWords
set_option linter.unusedVariables false
section
variable {P : Program} {Q : Exit → Act → World → Prop} {n : Nat} {f : List (Nat × Value)} {w : World}
end
end Go.Proofs.Ytmlkajmlhmfdgaa.Sx
