/- Pruned by wip/prune.py. -/
import Derived.Test.YtmlkajmlhmfdgaaQOpens
import Derived.Test.YtmlkajmlhmfdgaaProg
import Derived.Test.YtmlkajmlhmfdgaaQSxKinds
namespace Go.Proofs.Ytmlkajmlhmfdgaa.Opens
open Go.RowKit Go.Deep Go.Proofs.Ytmlkajmlhmfdgaa.Kinds Go.Proofs.YtmlkajmlhmfdgaaW.PrintWords
set_option linter.unusedVariables false
/-- What an argument reads as. -/
theorem arg_any {α : Type} {P : Program} {d : Kd α} {G : α → Prop} {t : TypeId} {H : Type} {enc : TypeId × Value → H} {w : World} {v : Value} {dd : DataW H} {p : List MemPlace} (h : Opens P d G t)
    (hd : DataW.Trod enc P w 0 (fun _ => true) true t v dd p) : ∃ a, d.K w a v.cells.toList ∧ G a := by
  obtain ⟨fuel, hf⟩ := hd
  exact h.2 H enc w fuel _ _ hf
section
variable {P : Program} {w : World} {H : Type} {enc : TypeId × Value → H}
end
end Go.Proofs.Ytmlkajmlhmfdgaa.Opens
