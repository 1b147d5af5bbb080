/- Pruned by wip/prune.py. -/
import Derived.Test.YtemgnkloloaeoaaQPurePatch
set_option linter.unusedVariables false
set_option linter.unusedSimpArgs false
namespace Go.Proofs.Ytemgnkloloaeoaa.Pure
open Go.RowKit Go.Proofs.Ytemgnkloloaeoaa.PAll Go.Proofs.YtemgnkloloaeoaaW.PrintWords Go.Proofs.YtemgnkloloaeoaaW.PrintLast Go.Proofs.YtemgnkloloaeoaaW.PrintMore Go.Proofs.Ytemgnkloloaeoaa.Given
theorem sameL_iff : ∀ (a b : List Run), sameL a b = true ↔ a = b
  | [], [] => by simp [sameL]
  | [], _ :: _ => by simp [sameL]
  | _ :: _, [] => by simp [sameL]
  | x :: a, y :: b => by
    obtain ⟨x0, x1⟩ := x
    obtain ⟨y0, y1⟩ := y
    simp only [sameL, Bool.and_eq_true, beq_iff_eq, sameL_iff a b, List.cons.injEq]
    constructor
    · rintro ⟨⟨rfl, rfl⟩, rfl⟩; exact ⟨rfl, rfl⟩
    · rintro ⟨h, rfl⟩; injection h with h1 h2; exact ⟨⟨h1, h2⟩, rfl⟩
/-- What counts of a line. -/
def normL (a : Line) : List UInt8 × Int × Int × Int × Bool × Int × Bool × Bool × List Run := (a.f0.toList, a.f2, a.f3, a.f4, a.f5, a.f6, a.f7, a.f8, layAll [] a.f1)
theorem same_iff (a b : Line) : sameLine a b = true ↔ normL a = normL b := by
  unfold sameLine normL
  simp only [Bool.and_eq_true, decide_eq_true_eq, beq_iff_eq, sameL_iff, Prod.mk.injEq, and_assoc]
theorem same_refl (a : Line) : sameLine a a = true := (same_iff a a).2 rfl
abbrev gl (a : List Line) (i : Nat) : Line := a.getD i z39
end Go.Proofs.Ytemgnkloloaeoaa.Pure
