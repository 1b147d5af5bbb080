/- Pruned by wip/prune.py. -/
import Derived.Test.YtbeihfcjfkddcaaQWWords
import Derived.OpenShut
import Derived.Deep.Slices
namespace Go.Proofs.Ytbeihfcjfkddcaa.Opens
open Go.RowKit Go.Deep Go.ChangeShapes Go.WideShapes Go.Proofs.YtbeihfcjfkddcaaW.PrintWords
set_option linter.unusedVariables false
/-- What reads as type t is of kind d, with what holds of it. -/
def Opens {α : Type} (P : Program) (d : Kd α) (G : α → Prop) (t : TypeId) : Prop :=
  P.cellsOf t = d.sz ∧ ∀ (H : Type) (enc : TypeId × Value → H) (w : World) (fuel : Nat) (cs : List Value) (x : DataW H × List MemPlace),
    DataW.trod enc P w 0 (fun _ => true) true fuel t cs = some x → ∃ a, d.K w a cs ∧ G a
section
variable {P : Program}
theorem opens_int {t : TypeId} {k : IntKind} (ht : P.underlying t = some (.int k)) (hc : P.cellsOf t = 1) : Opens P (Kd.int k) (fun n => (Lit.int k n).wf = true) t := by
  refine ⟨hc, fun H enc w fuel cs x h => ?_⟩
  cases fuel with
  | zero => simp [DataW.trod] at h
  | succ m =>
    unfold DataW.trod at h
    rw [ht] at h
    split at h <;> simp_all
    obtain ⟨⟨e1, e2⟩, _⟩ := h
    rename_i n _ _ _
    exact ⟨_, rfl, by simpa using e2⟩
end
end Go.Proofs.Ytbeihfcjfkddcaa.Opens
