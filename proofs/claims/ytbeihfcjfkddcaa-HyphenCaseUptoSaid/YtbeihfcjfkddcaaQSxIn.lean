/- Pruned by wip/prune.py. -/
import Derived.Test.YtbeihfcjfkddcaaQSxGlue
import Derived.RangeFuncFrom
import Derived.RangeFuncLeaves
import Derived.RangeFuncCalls
import Derived.OrdersIn
import Derived.TacticsIn
import Derived.LoopNIn
namespace Go.Proofs.Ytbeihfcjfkddcaa.Sx
open Go Go.RowKit Go.Proofs.YtbeihfcjfkddcaaW.PrintWords
set_option linter.unusedVariables false
set_option linter.unusedSimpArgs false
def shift (ds : List Deferred) (a : Act) : Act := { a with defers := a.defers ++ ds }
section
variable {P : Program} {F : Fence} {m : Nat} {ds : List Deferred} {Q : Exit → Act → World → Prop} {ops : Array Oper}
variable {n : Nat} {f : List (Nat × Value)} {w : World}
end
end Go.Proofs.Ytbeihfcjfkddcaa.Sx
