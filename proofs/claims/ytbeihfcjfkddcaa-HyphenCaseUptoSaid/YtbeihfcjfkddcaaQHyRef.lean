/- Pruned by wip/prune.py. -/
import Derived.Test.YtbeihfcjfkddcaaQHyWf
namespace Go.Proofs.Ytbeihfcjfkddcaa.Hy
open Go Go.RowKit Go.Proofs.YtbeihfcjfkddcaaW.PrintWords Go.Proofs.Ytbeihfcjfkddcaa.Given Go.Proofs.Ytbeihfcjfkddcaa.Rn Go.Proofs.Ytbeihfcjfkddcaa.Sx
set_option linter.unusedVariables false
set_option linter.unusedSimpArgs false
/-- A pattern that has none behind it with the same letters. -/
def CountP (P : List ByteArray) (i : Nat) : Prop := ∀ k, i < k → k < P.length → (patD (P.getD i ByteArray.empty)).1 ≠ (patD (P.getD k ByteArray.empty)).1
noncomputable instance (P : List ByteArray) (i : Nat) : Decidable (CountP P i) := Classical.propDecidable _
end Go.Proofs.Ytbeihfcjfkddcaa.Hy
