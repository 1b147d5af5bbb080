/- Pruned by wip/prune.py. -/


import Derived.SizedLaws
import Derived.ChangeSlices
namespace Go.Proofs.YtemgnkloloaeoaaW.PrintWords
open Go.ChangeShapes Go.WideShapes
end Go.Proofs.YtemgnkloloaeoaaW.PrintWords
