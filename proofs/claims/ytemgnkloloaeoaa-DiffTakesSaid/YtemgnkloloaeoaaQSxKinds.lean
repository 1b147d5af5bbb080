/- Pruned by wip/prune.py. -/
import Derived.Test.YtemgnkloloaeoaaQPAllx0
import Derived.Test.YtemgnkloloaeoaaQSxGlue
namespace Go.Proofs.Ytemgnkloloaeoaa.Kinds
open Go Go.RowKit Go.Proofs.Ytemgnkloloaeoaa.PAll Go.Proofs.YtemgnkloloaeoaaW.PrintWords
end Go.Proofs.Ytemgnkloloaeoaa.Kinds
