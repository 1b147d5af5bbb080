/- Pruned by wip/prune.py. -/
import Derived.Test.YtbeihfcjfkddcaaQHyWords
namespace Go.Proofs.Ytbeihfcjfkddcaa.Hy
open Go Go.RowKit Go.Proofs.YtbeihfcjfkddcaaW.PrintWords Go.Proofs.Ytbeihfcjfkddcaa.Given Go.Proofs.Ytbeihfcjfkddcaa.Rn Go.Proofs.Ytbeihfcjfkddcaa.Sx
set_option linter.unusedVariables false
set_option linter.unusedSimpArgs false
section
variable {T : List Nd} {kn : ByteArray → Option (List Int)} {lf rt : Int}
end
end Go.Proofs.Ytbeihfcjfkddcaa.Hy
