/- Pruned by wip/prune.py. -/
import Derived.Test.YtieieindakbpoaaQSxRange
namespace Go.Proofs.Ytieieindakbpoaa.Sx
open Go Go.RowKit Go.Proofs.YtieieindakbpoaaW.PrintWords
set_option linter.unusedVariables false
set_option linter.unusedSimpArgs false
theorem wpIn_unshift {F : Fence} {m : Nat} {P : Program} {c : Code} {Q : Exit → Act → World → Prop} {a : Act} {w : World} (h : c.wpIn F m P (Qup [] Q) (shift [] a) w) : c.wpIn F m P Q a w := by
  have e : ∀ a : Act, shift [] a = a := fun a => by unfold shift; rw [List.append_nil]
  rw [e] at h
  refine wpIn_mono h fun e1 a1 w1 ⟨a0, ha, hq⟩ => ?_
  rw [ha, e]
  exact hq
def NP (Q : Exit → Act → World → Prop) : Prop := ∀ c a a' w, Q (.panic c) a w → Q (.panic c) a' w
/-- The blocks that a round may write, as it sees them. -/
abbrev FX (gs : Gs) (l D : Nat) : Nat → Prop := fun k => k = l ∨ k = D ∨ inG gs k
end Go.Proofs.Ytieieindakbpoaa.Sx
