/- Pruned by wip/prune.py. -/
import Derived.Test.YtbeihfcjfkddcaaQSxIn
namespace Go.Proofs.Ytbeihfcjfkddcaa.Sx
open Go Go.RowKit Go.Proofs.YtbeihfcjfkddcaaW.PrintWords
set_option linter.unusedVariables false
set_option linter.unusedSimpArgs false
section
variable {P : Program} {n : Nat} {f : List (Nat × Value)} {w : World} {ds : List Deferred} {Q : Exit → Act → World → Prop} {fn : Func} {R : Ending → World → Prop}
end
section
variable {P : Program} {F : Fence} {m : Nat} {ds : List Deferred} {Q : Exit → Act → World → Prop} {ops : Array Oper} {n : Nat} {f : List (Nat × Value)} {w : World} {rest : List Oper}
end
end Go.Proofs.Ytbeihfcjfkddcaa.Sx
