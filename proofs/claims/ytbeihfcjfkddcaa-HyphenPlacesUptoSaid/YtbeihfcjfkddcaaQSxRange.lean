/- Pruned by wip/prune.py. -/
import Derived.Test.YtbeihfcjfkddcaaQSxIn
namespace Go.Proofs.Ytbeihfcjfkddcaa.Sx
open Go Go.RowKit Go.Proofs.YtbeihfcjfkddcaaW.PrintWords
set_option linter.unusedVariables false
set_option linter.unusedSimpArgs false
section
variable {P : Program} {n : Nat} {f : List (Nat × Value)} {w : World} {ds : List Deferred} {Q : Exit → Act → World → Prop} {fn : Func} {R : Ending → World → Prop}
end
section
variable {P : Program} {F : Fence} {m : Nat} {ds : List Deferred} {Q : Exit → Act → World → Prop} {ops : Array Oper} {n : Nat} {f : List (Nat × Value)} {w : World} {rest : List Oper}
end
abbrev Gs := List (Nat × Nat)
def At (w : World) : Gs → List (List Value) → Prop
  | (g, t) :: gs, v :: vs => w.heap[g]? = some (.cells v.toArray t (0, 0)) ∧ At w gs vs
  | [], [] => True
  | _, _ => False
end Go.Proofs.Ytbeihfcjfkddcaa.Sx
