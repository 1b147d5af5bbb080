/- Pruned by wip/prune.py. -/
import Derived.Test.YtbeihfcjfkddcaaQSxEq
namespace Go.Proofs.Ytbeihfcjfkddcaa.Sx
open Go Go.RowKit Go.Proofs.YtbeihfcjfkddcaaW.PrintWords
set_option linter.unusedVariables false
set_option linter.unusedSimpArgs false
theorem run_eqA2 {P : Program} {w : World} {t e : Nat} {k : IntKind} {a b c d : Int} (ht : P.underlying t = some (.array 2 e)) (he : P.underlying e = some (.int k)) (hs : shapeOf P e = some (false, 1)) :
    (Op.equalIn (9998 + 1 + 1) t (.agg #[.int k a, .int k b]) (.agg #[.int k c, .int k d])).run P w = .ok ((a == c) && (b == d)) w := by
  have h1 := (shape_one (w := w) hs)
  have p1 : ∀ (x y : Int), (Go.part e #[.int k x, .int k y] 0).run P w = .ok (.int k x) w := fun x y => by simp [Go.part, h1.1, Result.andThen]
  have p2 : ∀ (x y : Int), (Go.part e #[.int k x, .int k y] 1).run P w = .ok (.int k y) w := fun x y => by simp [Go.part, h1.1, Result.andThen]
  have e1 : ∀ x y : Int, (Op.equalIn (9998 + 1) e (.int k x) (.int k y)).run P w = .ok (x == y) w := fun x y => run_equalIn_int w 9998 e _ _ _ _ he
  unfold Op.equalIn
  simp only [Sem.run_bind, run_underlying ht, Result.andThen, h1.2, Std.Legacy.Range.forIn_eq_forIn_range', Std.Legacy.Range.size]
  simp [List.range', p1, p2, e1, Result.andThen]
  by_cases h : a = c <;> by_cases h2 : b = d <;> simp [h, h2, p1, p2, e1, Result.andThen]
theorem binR_neA2 {P : Program} {t e : Nat} {k : IntKind} {a b c d : Int} (ht : P.underlying t = some (.array 2 e)) (he : P.underlying e = some (.int k)) (hs : shapeOf P e = some (false, 1)) (hp : P.eqGuardType P.depth t = false) :
    binR P .neq t (.agg #[.int k a, .int k b]) (.agg #[.int k c, .int k d]) (.bool (decide (¬ (a = c ∧ b = d)))) := fun X Y w => by
  have e1 := run_eqGuard_agg (P := P) w .neq t X Y #[.int k a, .int k b] #[.int k c, .int k d] hp
  have e2 := run_neq_struct (P := P) w t #[.int k a, .int k b] #[.int k c, .int k d]
  rw [run_eqA2 (w := w) ht he hs] at e2
  have e3 : (!((a == c) && (b == d))) = decide (¬ (a = c ∧ b = d)) := by rw [Bool.eq_iff_iff]; simp
  simp only [Sem.run_bind, e1, Result.andThen, e2, e3]
end Go.Proofs.Ytbeihfcjfkddcaa.Sx
