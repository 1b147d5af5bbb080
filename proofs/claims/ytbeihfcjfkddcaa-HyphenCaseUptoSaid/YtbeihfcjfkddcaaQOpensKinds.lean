/- Pruned by wip/prune.py. -/
import Derived.Test.YtbeihfcjfkddcaaQOpens
import Derived.Test.YtbeihfcjfkddcaaProg
import Derived.Test.YtbeihfcjfkddcaaQSxKinds
namespace Go.Proofs.Ytbeihfcjfkddcaa.Opens
open Go.RowKit Go.Deep Go.Proofs.Ytbeihfcjfkddcaa.Kinds Go.Proofs.YtbeihfcjfkddcaaW.PrintWords
set_option linter.unusedVariables false
section
variable {P : Program} {w : World} {H : Type} {enc : TypeId × Value → H}
end
end Go.Proofs.Ytbeihfcjfkddcaa.Opens
