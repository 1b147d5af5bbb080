/- The readings of the struct types. -/
import Derived.Test.YtkliboeebookeaaOpens
import Derived.Test.YtkliboeebookeaaProg
import Derived.Test.YtkliboeebookeaaSxKinds
namespace Go.Proofs.Ytkliboeebookeaa.Opens
open Go.RowKit Go.Deep Go.Proofs.Ytkliboeebookeaa.Kinds Go.Proofs.YtkliboeebookeaaW.PrintWords
set_option linter.unusedVariables false
def G66 (x : S66) : Prop := ((Lit.int .i64 x.f0).wf = true) ∧ (((Lit.int .i64 x.f1).wf = true))
theorem opens66 : Opens Try.prog k66 G66 66 := opens_struct Try.underlying66 (by kernel_rfl) _ (fun a => (⟨a.1, a.2⟩ : S66)) (fun _ => rfl) (opensF_cons rfl (opens_int Try.underlying3 (by kernel_rfl)) (opensF_one rfl (opens_int Try.underlying3 (by kernel_rfl))))
def G55 (x : S55) : Prop := ((Lit.int .i64 x.f0).wf = true) ∧ (((Lit.int .i64 x.f1).wf = true) ∧ (((Lit.int .i64 x.f2).wf = true) ∧ (((Lit.int .i64 x.f3).wf = true) ∧ ((x.f4.length ≤ maxLen ∧ ∀ y ∈ x.f4, (G66 y))))))
theorem opens55 : Opens Try.prog k55 G55 55 := opens_struct Try.underlying55 (by kernel_rfl) _ (fun a => (⟨a.1, a.2.1, a.2.2.1, a.2.2.2.1, a.2.2.2.2⟩ : S55)) (fun _ => rfl) (opensF_cons rfl (opens_int Try.underlying3 (by kernel_rfl)) (opensF_cons rfl (opens_int Try.underlying3 (by kernel_rfl)) (opensF_cons rfl (opens_int Try.underlying3 (by kernel_rfl)) (opensF_cons rfl (opens_int Try.underlying3 (by kernel_rfl)) (opensF_one rfl (opens_slice Try.underlying33 (by kernel_rfl) opens66))))))
/-- What an argument reads as. -/
theorem arg_any {α : Type} {P : Program} {d : Kd α} {G : α → Prop} {t : TypeId} {H : Type} {enc : TypeId × Value → H} {w : World} {v : Value} {dd : DataW H} {p : List MemPlace} (h : Opens P d G t)
    (hd : DataW.Trod enc P w 0 (fun _ => true) true t v dd p) : ∃ a, d.K w a v.cells.toList ∧ G a := by
  obtain ⟨fuel, hf⟩ := hd
  exact h.2 H enc w fuel _ _ hf
end Go.Proofs.Ytkliboeebookeaa.Opens
