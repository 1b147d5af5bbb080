/- Pruned by wip/prune.py. -/
import Derived.Test.YtieieindakbpoaaQOpensUp
import Derived.Test.YtieieindakbpoaaQOpensKinds
namespace Go.Proofs.Ytieieindakbpoaa.Opens
open Go.RowKit Go.Deep Go.Proofs.Ytieieindakbpoaa.Kinds Go.Proofs.YtieieindakbpoaaW.PrintWords
set_option linter.unusedVariables false
def Gb48 (x : S48) (n : Nat) : Prop := True ∧ (((Lit.int .i64 x.f1).wf = true) ∧ (((Lit.int .i64 x.f2).wf = true) ∧ ((x.f3.size ≤ maxLen ∧ x.f3.size ≤ n))))
theorem opens2_48 : Opens2 Try.prog k48 Gb48 48 := opens2_struct Try.underlying48 (by kernel_rfl) _ (fun a => (⟨a.1, a.2.1, a.2.2.1, a.2.2.2⟩ : S48)) (fun _ => rfl) (opensF2_cons rfl (opens2_of (opens_bool Try.underlying4 (by kernel_rfl))) (opensF2_cons rfl (opens2_of (opens_int Try.underlying3 (by kernel_rfl))) (opensF2_cons rfl (opens2_of (opens_int Try.underlying3 (by kernel_rfl))) (opensF2_one rfl (opens2_string Try.underlying9 (by kernel_rfl))))))
end Go.Proofs.Ytieieindakbpoaa.Opens
