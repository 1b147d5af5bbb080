/- Pruned by wip/prune.py. -/
import Derived.Test.YtbakllppgekmoaaQOpens
import Derived.Test.YtbakllppgekmoaaProg
import Derived.Test.YtbakllppgekmoaaQSxKinds
namespace Go.Proofs.Ytbakllppgekmoaa.Opens
open Go.RowKit Go.Deep Go.Proofs.Ytbakllppgekmoaa.Kinds Go.Proofs.YtbakllppgekmoaaW.PrintWords
set_option linter.unusedVariables false
def G33 (x : S33) : Prop := ((Lit.int .i64 x.f0).wf = true) ∧ (((Lit.int .i64 x.f1).wf = true) ∧ ((x.f2.size ≤ maxLen)))
theorem opens33 : Opens Try.prog k33 G33 33 := opens_struct Try.underlying33 (by kernel_rfl) _ (fun a => (⟨a.1, a.2.1, a.2.2⟩ : S33)) (fun _ => rfl) (opensF_cons rfl (opens_int Try.underlying3 (by kernel_rfl)) (opensF_cons rfl (opens_int Try.underlying3 (by kernel_rfl)) (opensF_one rfl (opens_string Try.underlying9 (by kernel_rfl)))))
/-- What an argument reads as. -/
theorem arg_any {α : Type} {P : Program} {d : Kd α} {G : α → Prop} {t : TypeId} {H : Type} {enc : TypeId × Value → H} {w : World} {v : Value} {dd : DataW H} {p : List MemPlace} (h : Opens P d G t)
    (hd : DataW.Trod enc P w 0 (fun _ => true) true t v dd p) : ∃ a, d.K w a v.cells.toList ∧ G a := by
  obtain ⟨fuel, hf⟩ := hd
  exact h.2 H enc w fuel _ _ hf
section
variable {P : Program} {w : World} {H : Type} {enc : TypeId × Value → H}
end
end Go.Proofs.Ytbakllppgekmoaa.Opens
