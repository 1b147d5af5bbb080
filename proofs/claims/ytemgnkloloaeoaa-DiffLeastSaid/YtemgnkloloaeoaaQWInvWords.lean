/- Pruned by wip/prune.py. -/

import Derived.Test.YtemgnkloloaeoaaQWInv
import Derived.Test.YtemgnkloloaeoaaQWFootNe
namespace Go.Proofs.YtemgnkloloaeoaaW.PrintWords
open Go.RowKit
end Go.Proofs.YtemgnkloloaeoaaW.PrintWords
namespace Go.Proofs.YtemgnkloloaeoaaW.PrintLast
section
variable {ops : Array Oper} {a : Act} {o og : Oper} {g : Nat} {t : Tmp} {u : Bool}
end
end Go.Proofs.YtemgnkloloaeoaaW.PrintLast
