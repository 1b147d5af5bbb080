/- Pruned by wip/prune.py. -/
import Derived.Test.YtbeihfcjfkddcaaQHyEq
namespace Go.Proofs.Ytbeihfcjfkddcaa.Hy
open Go Go.RowKit Go.Proofs.YtbeihfcjfkddcaaW.PrintWords Go.Proofs.Ytbeihfcjfkddcaa.Given Go.Proofs.Ytbeihfcjfkddcaa.Rn Go.Proofs.Ytbeihfcjfkddcaa.Sx
set_option linter.unusedVariables false
set_option linter.unusedSimpArgs false
section
variable {s : ByteArray} {i : Nat} {f : Int} {o L : List (Int × Int)}
end
end Go.Proofs.Ytbeihfcjfkddcaa.Hy
