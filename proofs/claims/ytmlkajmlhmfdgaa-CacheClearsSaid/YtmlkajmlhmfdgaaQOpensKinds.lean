/- Pruned by wip/prune.py. -/
import Derived.Test.YtmlkajmlhmfdgaaQOpens
import Derived.Test.YtmlkajmlhmfdgaaProg
import Derived.Test.YtmlkajmlhmfdgaaQSxKinds
namespace Go.Proofs.Ytmlkajmlhmfdgaa.Opens
open Go.RowKit Go.Deep Go.Proofs.Ytmlkajmlhmfdgaa.Kinds Go.Proofs.YtmlkajmlhmfdgaaW.PrintWords
set_option linter.unusedVariables false
def G50 (x : S50) : Prop := ((Lit.int .i64 x.f0).wf = true) ∧ (((Lit.int .i64 x.f1).wf = true))
theorem opens50 : Opens Try.prog k50 G50 50 := opens_struct Try.underlying50 (by kernel_rfl) _ (fun a => (⟨a.1, a.2⟩ : S50)) (fun _ => rfl) (opensF_cons rfl (opens_int Try.underlying3 (by kernel_rfl)) (opensF_one rfl (opens_int Try.underlying3 (by kernel_rfl))))
def G31 (x : S31) : Prop := ((Lit.int .i64 x.f0).wf = true) ∧ (((Lit.int .i64 x.f1).wf = true) ∧ (((Lit.int .i64 x.f2).wf = true) ∧ (((Lit.int .i64 x.f3).wf = true) ∧ (((Lit.int .i64 x.f4).wf = true) ∧ (((Lit.int .i64 x.f5).wf = true) ∧ (((Lit.int .i64 x.f6).wf = true)))))))
theorem opens31 : Opens Try.prog k31 G31 31 := opens_struct Try.underlying31 (by kernel_rfl) _ (fun a => (⟨a.1, a.2.1, a.2.2.1, a.2.2.2.1, a.2.2.2.2.1, a.2.2.2.2.2.1, a.2.2.2.2.2.2⟩ : S31)) (fun _ => rfl) (opensF_cons rfl (opens_int Try.underlying3 (by kernel_rfl)) (opensF_cons rfl (opens_int Try.underlying3 (by kernel_rfl)) (opensF_cons rfl (opens_int Try.underlying3 (by kernel_rfl)) (opensF_cons rfl (opens_int Try.underlying3 (by kernel_rfl)) (opensF_cons rfl (opens_int Try.underlying3 (by kernel_rfl)) (opensF_cons rfl (opens_int Try.underlying3 (by kernel_rfl)) (opensF_one rfl (opens_int Try.underlying3 (by kernel_rfl)))))))))
def G33 (x : S33) : Prop := (x.f0.size ≤ maxLen) ∧ ((x.f1.length ≤ maxLen ∧ ∀ y ∈ x.f1, (G50 y)) ∧ (((Lit.int .i64 x.f2).wf = true) ∧ (((Lit.int .i64 x.f3).wf = true) ∧ ((G31 x.f4)))))
theorem opens33 : Opens Try.prog k33 G33 33 := opens_struct Try.underlying33 (by kernel_rfl) _ (fun a => (⟨a.1, a.2.1, a.2.2.1, a.2.2.2.1, a.2.2.2.2⟩ : S33)) (fun _ => rfl) (opensF_cons rfl (opens_string Try.underlying9 (by kernel_rfl)) (opensF_cons rfl (opens_slice Try.underlying29 (by kernel_rfl) opens50) (opensF_cons rfl (opens_int Try.underlying3 (by kernel_rfl)) (opensF_cons rfl (opens_int Try.underlying3 (by kernel_rfl)) (opensF_one rfl opens31)))))
def G69 (x : S69) : Prop := ((Lit.int .i64 x.f0).wf = true) ∧ ((G33 x.f1) ∧ (((Lit.int .i64 x.f2).wf = true)))
theorem opens69 : Opens Try.prog k69 G69 69 := opens_struct Try.underlying69 (by kernel_rfl) _ (fun a => (⟨a.1, a.2.1, a.2.2⟩ : S69)) (fun _ => rfl) (opensF_cons rfl (opens_int Try.underlying3 (by kernel_rfl)) (opensF_cons rfl opens33 (opensF_one rfl (opens_int Try.underlying3 (by kernel_rfl)))))
/-- What an argument reads as. -/
theorem arg_any {α : Type} {P : Program} {d : Kd α} {G : α → Prop} {t : TypeId} {H : Type} {enc : TypeId × Value → H} {w : World} {v : Value} {dd : DataW H} {p : List MemPlace} (h : Opens P d G t)
    (hd : DataW.Trod enc P w 0 (fun _ => true) true t v dd p) : ∃ a, d.K w a v.cells.toList ∧ G a := by
  obtain ⟨fuel, hf⟩ := hd
  exact h.2 H enc w fuel _ _ hf
section
variable {P : Program} {w : World} {H : Type} {enc : TypeId × Value → H}
end
end Go.Proofs.Ytmlkajmlhmfdgaa.Opens
