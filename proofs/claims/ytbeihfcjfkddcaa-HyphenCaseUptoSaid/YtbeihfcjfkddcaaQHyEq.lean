/- Pruned by wip/prune.py. -/
import Derived.Test.YtbeihfcjfkddcaaQHyFlat
namespace Go.Proofs.Ytbeihfcjfkddcaa.Hy
open Go Go.RowKit Go.Proofs.YtbeihfcjfkddcaaW.PrintWords Go.Proofs.Ytbeihfcjfkddcaa.Given Go.Proofs.Ytbeihfcjfkddcaa.Rn Go.Proofs.Ytbeihfcjfkddcaa.Sx
set_option linter.unusedVariables false
set_option linter.unusedSimpArgs false
theorem set_get (o : List Int) (j x : Nat) (v : Int) (h : x < o.length) : (o.set j v).getD x 0 = if x = j then v else o.getD x 0 := by
  simp only [List.getD_eq_getElem?_getD, List.getElem?_set]
  by_cases e : j = x
  · subst e; simp [h]
  · rw [if_neg e, if_neg (fun z => e z.symm)]
end Go.Proofs.Ytbeihfcjfkddcaa.Hy
