/- Pruned by wip/prune.py. -/
import Derived.Test.YtbeihfcjfkddcaaQSxJoin
import Derived.Lib.AppendStr
namespace Go.Proofs.Ytbeihfcjfkddcaa.Sx
open Go Go.Lib Go.RowKit Go.Proofs.YtbeihfcjfkddcaaW.PrintWords
set_option linter.unusedVariables false
set_option linter.unusedSimpArgs false
section
variable {P : Program}
end
section
variable {P : Program} {ops : Array Oper} {Q : Exit → Act → World → Prop} {n : Nat} {f : List (Nat × Value)} {w w0 : World} {F0 : Nat → Prop} {cs : List HP} {rest : List Oper} {dn : Nat} {ty : TypeId} {ps : String} {af : Array Edge} {g : Option (Nat × Bool)}
theorem ov_string {t u e : Nat} {x : Operand} {A : Option Addr} {m c : Nat} {L : List Int} (hx : ev f x = some (.slice A m c)) (hC : (Kd.int .u8).C w A m L) (ht : P.underlying t = some (.slice e)) (he : P.underlying e = some (.int .u8)) (hu : P.underlying u = some .string) : OV P n f w (.convert t u x) (.string (strOfNums L)) := fun a fa dst ty ps af g => by
  have := Kd.C_string (P := P) (w := w) (src := t) (dst := u) (c := c) ht he hu hC
  simp [execOp, ev_eval fa hx, this, Result.andThen]
end
end Go.Proofs.Ytbeihfcjfkddcaa.Sx
