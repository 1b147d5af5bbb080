/- Pruned by wip/prune.py. -/
import Derived.Test.YtbeihfcjfkddcaaQOpensUp
import Derived.Test.YtbeihfcjfkddcaaQOpensKinds
namespace Go.Proofs.Ytbeihfcjfkddcaa.Opens
open Go.RowKit Go.Deep Go.Proofs.Ytbeihfcjfkddcaa.Kinds Go.Proofs.YtbeihfcjfkddcaaW.PrintWords
set_option linter.unusedVariables false
def Gb24 (x : S24) (n : Nat) : Prop := (x.f0.length ≤ maxLen ∧ x.f0.length ≤ n ∧ ∀ y ∈ x.f0, (y.size ≤ maxLen ∧ y.size ≤ n)) ∧ ((x.f1.length ≤ maxLen ∧ x.f1.length ≤ n ∧ ∀ y ∈ x.f1, (y.size ≤ maxLen ∧ y.size ≤ n)) ∧ (((Lit.int .i64 x.f2).wf = true) ∧ (((Lit.int .i64 x.f3).wf = true))))
theorem opens2_24 : Opens2 Try.prog k24 Gb24 24 := opens2_struct Try.underlying24 (by kernel_rfl) _ (fun a => (⟨a.1, a.2.1, a.2.2.1, a.2.2.2⟩ : S24)) (fun _ => rfl) (opensF2_cons rfl (opens2_slice Try.underlying22 (by kernel_rfl) (opens2_string Try.underlying9 (by kernel_rfl))) (opensF2_cons rfl (opens2_slice Try.underlying22 (by kernel_rfl) (opens2_string Try.underlying9 (by kernel_rfl))) (opensF2_cons rfl (opens2_of (opens_int Try.underlying3 (by kernel_rfl))) (opensF2_one rfl (opens2_of (opens_int Try.underlying3 (by kernel_rfl)))))))
end Go.Proofs.Ytbeihfcjfkddcaa.Opens
