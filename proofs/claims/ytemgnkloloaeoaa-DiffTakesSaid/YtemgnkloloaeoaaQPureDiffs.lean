/- Pruned by wip/prune.py. -/
import Derived.Test.YtemgnkloloaeoaaQPureDiff
set_option linter.unusedVariables false
set_option linter.unusedSimpArgs false
namespace Go.Proofs.Ytemgnkloloaeoaa.Pure
open Go.RowKit Go.Proofs.Ytemgnkloloaeoaa.PAll Go.Proofs.YtemgnkloloaeoaaW.PrintWords Go.Proofs.YtemgnkloloaeoaaW.PrintLast Go.Proofs.YtemgnkloloaeoaaW.PrintMore Go.Proofs.Ytemgnkloloaeoaa.Given
def endP (a b : List Line) : Nat := ((diff_Ends.f 100 a b).getD (0, 0)).1.toNat
def endQ (a b : List Line) : Nat := ((diff_Ends.f 100 a b).getD (0, 0)).2.toNat
theorem ends_pq (a b : List Line) (ha : Short a) (hb : Short b) : IsEnds a b (endP a b) (endQ a b) ∧ ∀ k, 100 ≤ k → diff_Ends.f k a b = some ((endP a b : Int), (endQ a b : Int)) := by
  obtain ⟨p, q, h1, h2⟩ := ends_val a b ha hb
  have e1 : endP a b = p := by unfold endP; rw [h2 100 (by omega)]; simp
  have e2 : endQ a b = q := by unfold endQ; rw [h2 100 (by omega)]; simp
  rw [e1, e2]
  exact ⟨h1, h2⟩
def regOf (n : Int) (a b : List Line) : Region := regionOf n a b (endP a b) (endQ a b)
end Go.Proofs.Ytemgnkloloaeoaa.Pure
