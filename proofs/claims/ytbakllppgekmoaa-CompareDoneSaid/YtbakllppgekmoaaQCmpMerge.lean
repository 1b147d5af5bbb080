/- Pruned by wip/prune.py. -/
import Derived.Test.YtbakllppgekmoaaQCmpText
namespace Go.Proofs.Ytbakllppgekmoaa.Cmp
open Go Go.RowKit Go.Proofs.Ytbakllppgekmoaa.Given Go.Proofs.Ytbakllppgekmoaa.Kinds
set_option linter.unusedVariables false
set_option linter.unusedSimpArgs false
def Ahead (a b : Edit) : Prop := a.f1 < b.f0 ∨ (a.f1 = b.f0 ∧ a.f0 < a.f1)
instance (a b : Edit) : Decidable (Ahead a b) := by unfold Ahead; infer_instance
/-- May edits be of a text of so many bytes? -/
def OkAt (size : Int) (l : List Edit) (i : Nat) : Prop := 0 ≤ (l.getD i z33).f0 ∧ (l.getD i z33).f0 ≤ (l.getD i z33).f1 ∧ (l.getD i z33).f1 ≤ size ∧ (0 < i → (l.getD (i - 1) z33).f1 ≤ (l.getD i z33).f0 ∧ (l.getD i z33).f0 ≠ (l.getD (i - 1) z33).f0)
instance (size : Int) (l : List Edit) (i : Nat) : Decidable (OkAt size l i) := by unfold OkAt; infer_instance
def InOrd (size : Int) (l : List Edit) : Prop := ∀ i, i < l.length → OkAt size l i
instance (size : Int) (l : List Edit) : Decidable (InOrd size l) := by unfold InOrd; infer_instance
def Compat (a b : List Edit) : Prop := ∀ x ∈ a, ∀ y ∈ b, x = y ∨ Ahead x y ∨ Ahead y x
instance (a b : List Edit) : Decidable (Compat a b) := by unfold Compat; infer_instance
/-- As compare.Merge has it: the two lists, from places on. -/
def mergeN : Nat → List Edit → List Edit → Option (List Edit)
  | 0, _, _ => some []
  | _ + 1, [], [] => some []
  | n + 1, [], y :: b => (mergeN n [] b).map (y :: ·)
  | n + 1, x :: a, [] => (mergeN n a []).map (x :: ·)
  | n + 1, x :: a, y :: b => if x = y then (mergeN n a b).map (x :: ·) else if Ahead x y then (mergeN n a (y :: b)).map (x :: ·) else if Ahead y x then (mergeN n (x :: a) b).map (y :: ·) else none
def mergeV (a b : List Edit) : Option (List Edit) := mergeN (a.length + b.length) a b
end Go.Proofs.Ytbakllppgekmoaa.Cmp
