/- Pruned by wip/prune.py. -/
import Derived.Test.YtemgnkloloaeoaaQOpens
import Derived.Test.YtemgnkloloaeoaaProg
import Derived.Test.YtemgnkloloaeoaaQSxKinds
namespace Go.Proofs.Ytemgnkloloaeoaa.Opens
open Go.RowKit Go.Deep Go.Proofs.Ytemgnkloloaeoaa.Kinds Go.Proofs.Ytemgnkloloaeoaa.PAll Go.Proofs.YtemgnkloloaeoaaW.PrintWords
set_option linter.unusedVariables false
def G57 (x : S57) : Prop := ((Lit.int .i64 x.f0).wf = true) ∧ (((Lit.int .i64 x.f1).wf = true))
theorem opens57 : Opens Try.prog k57 G57 57 := opens_struct Try.underlying57 (by kernel_rfl) _ (fun a => (⟨a.1, a.2⟩ : S57)) (fun _ => rfl) (opensF_cons rfl (opens_int Try.underlying3 (by kernel_rfl)) (opensF_one rfl (opens_int Try.underlying3 (by kernel_rfl))))
def G39 (x : S39) : Prop := (x.f0.size ≤ maxLen) ∧ ((x.f1.length ≤ maxLen ∧ ∀ y ∈ x.f1, (G57 y)) ∧ (((Lit.int .i64 x.f2).wf = true) ∧ (((Lit.int .i64 x.f3).wf = true) ∧ (((Lit.int .i64 x.f4).wf = true) ∧ (True ∧ (((Lit.int .i64 x.f6).wf = true) ∧ (True ∧ (True))))))))
theorem opens39 : Opens Try.prog k39 G39 39 := opens_struct Try.underlying39 (by kernel_rfl) _ (fun a => (⟨a.1, a.2.1, a.2.2.1, a.2.2.2.1, a.2.2.2.2.1, a.2.2.2.2.2.1, a.2.2.2.2.2.2.1, a.2.2.2.2.2.2.2.1, a.2.2.2.2.2.2.2.2⟩ : S39)) (fun _ => rfl) (opensF_cons rfl (opens_string Try.underlying9 (by kernel_rfl)) (opensF_cons rfl (opens_slice Try.underlying37 (by kernel_rfl) opens57) (opensF_cons rfl (opens_int Try.underlying3 (by kernel_rfl)) (opensF_cons rfl (opens_int Try.underlying3 (by kernel_rfl)) (opensF_cons rfl (opens_int Try.underlying3 (by kernel_rfl)) (opensF_cons rfl (opens_bool Try.underlying4 (by kernel_rfl)) (opensF_cons rfl (opens_int Try.underlying3 (by kernel_rfl)) (opensF_cons rfl (opens_bool Try.underlying4 (by kernel_rfl)) (opensF_one rfl (opens_bool Try.underlying4 (by kernel_rfl)))))))))))
def G31 (x : S31) : Prop := (x.f0.length ≤ maxLen ∧ ∀ y ∈ x.f0, (G39 y))
theorem opens31 : Opens Try.prog k31 G31 31 := opens_struct Try.underlying31 (by kernel_rfl) _ (fun a => (⟨a⟩ : S31)) (fun _ => rfl) (opensF_one rfl (opens_slice Try.underlying29 (by kernel_rfl) opens39))
def G34 (x : S34) : Prop := ((Lit.int .i64 x.f0).wf = true) ∧ (((Lit.int .i64 x.f1).wf = true) ∧ (((Lit.int .i64 x.f2).wf = true) ∧ (((Lit.int .i64 x.f3).wf = true) ∧ ((x.f4.length ≤ maxLen ∧ ∀ y ∈ x.f4, (G39 y))))))
theorem opens34 : Opens Try.prog k34 G34 34 := opens_struct Try.underlying34 (by kernel_rfl) _ (fun a => (⟨a.1, a.2.1, a.2.2.1, a.2.2.2.1, a.2.2.2.2⟩ : S34)) (fun _ => rfl) (opensF_cons rfl (opens_int Try.underlying3 (by kernel_rfl)) (opensF_cons rfl (opens_int Try.underlying3 (by kernel_rfl)) (opensF_cons rfl (opens_int Try.underlying3 (by kernel_rfl)) (opensF_cons rfl (opens_int Try.underlying3 (by kernel_rfl)) (opensF_one rfl (opens_slice Try.underlying29 (by kernel_rfl) opens39))))))
section
variable {P : Program} {w : World} {H : Type} {enc : TypeId × Value → H}
end
end Go.Proofs.Ytemgnkloloaeoaa.Opens
