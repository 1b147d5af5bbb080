/- Pruned by wip/prune.py. -/
import Derived.Test.YtemgnkloloaeoaaQSxView
import Derived.Laws.StructEq
namespace Go.Proofs.Ytemgnkloloaeoaa.Sx
open Go Go.RowKit Go.Proofs.YtemgnkloloaeoaaW.PrintWords
set_option linter.unusedVariables false
set_option linter.unusedSimpArgs false
section
variable {P : Program} {w : World}
theorem mkStr (x : ByteArray) {w : World} {b : Nat} {ok : Nat → Prop} : Kd.string.M w b ok x [.string x] := rfl
end
end Go.Proofs.Ytemgnkloloaeoaa.Sx
