/- Pruned by wip/prune.py. -/
import Derived.Test.YtmlkajmlhmfdgaaQSxJoin
import Derived.LoopN
import Derived.ScopeJumps
import Derived.Scope
import Derived.Laws.Entries
namespace Go.Proofs.Ytmlkajmlhmfdgaa.Sx
open Go Go.RowKit Go.Proofs.YtmlkajmlhmfdgaaW.PrintWords
set_option linter.unusedVariables false
set_option linter.unusedSimpArgs false
section
variable {P : Program} {Q : Exit → Act → World → Prop} {n : Nat} {f : List (Nat × Value)} {w : World}
variable {t : Nat} {kd yk : IntKind} {p q : Int}
theorem binR_shr {r : Int} (h0 : 0 ≤ q) (h1 : q ≤ kd.bits) (h : p / 2 ^ q.toNat = r) : binR P .shr t (.int kd p) (.int yk q) (.int kd r) := fun X Y w => by
  have e : binOp .shr t (.int kd p) (.int yk q) = Op.shift .shr kd p yk q := rfl
  have e2 : eqGuard .shr t X Y (.int kd p) (.int yk q) = pure () := rfl
  rw [e2, e, shift_shr kd yk p q h0 h1, h]
  rfl
theorem binR_xor {r : Int} (h : Go.bits .xor kd p q = r) : binR P .xor t (.int kd p) (.int kd q) (.int kd r) := fun X Y w => by
  subst h
  simp [eqGuard, binOp_xor, Result.andThen, Go.bits, Op.intBits]
end
end Go.Proofs.Ytmlkajmlhmfdgaa.Sx
