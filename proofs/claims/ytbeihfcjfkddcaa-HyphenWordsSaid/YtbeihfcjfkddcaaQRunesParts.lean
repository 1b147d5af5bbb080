/- Pruned by wip/prune.py. -/
import Derived.Test.YtbeihfcjfkddcaaQRunesPure
namespace Go.Proofs.Ytbeihfcjfkddcaa.Rn
open Go Go.RowKit Go.Proofs.YtbeihfcjfkddcaaW.PrintWords Go.Proofs.YtbeihfcjfkddcaaW.PrintMore Go.Proofs.Ytbeihfcjfkddcaa.Given
set_option linter.unusedVariables false
set_option linter.unusedSimpArgs false
theorem right_par {s : ByteArray} (h : (refV s).2 < 0) : Par s 0 (refV s).1 s.size := by
  rcases right_or s with z | z
  · exact z.2
  · omega
end Go.Proofs.Ytbeihfcjfkddcaa.Rn
