/- Any bytes are a right text, or wrong at the first place with which no rune begins: the pure statement of RunesRight, for texts of at most 1048576 bytes. -/
import Derived.Test.YtbbnhameafolgaaRunesPar
import Derived.Test.YtbbnhameafolgaaPAllx3
set_option linter.unusedVariables false
namespace Go.Proofs.Ytbbnhameafolgaa.Pure
open Go.RowKit Go.Proofs.Ytbbnhameafolgaa.PAll Go.Proofs.YtbbnhameafolgaaW.PrintWords Go.Proofs.YtbbnhameafolgaaW.PrintLast Go.Proofs.YtbbnhameafolgaaW.PrintMore Go.Proofs.Ytbbnhameafolgaa.Given

theorem check_f (s : ByteArray) (hs : s.size ≤ 1125899906842624) : runes_Check.f s = some (if 0 ≤ badV s then 20 else 0) := by
  unfold runes_Check.f
  rw [bad_f s hs]
  show (if badV s ≥ 0 then some (20 : Int) else some 0) = _
  by_cases h : 0 ≤ badV s
  · rw [if_pos h, if_pos h]
  · rw [if_neg h, if_neg h]
theorem RunesRight : ∀ s : ByteArray, s.size ≤ 1048576 → ∃ k, regletlaw02_RunesRight.f k s = some true := by
  intro s hs
  refine ⟨s.size + 22 + 1, ?_⟩
  unfold regletlaw02_RunesRight.f
  rw [awake_ok]
  simp only [bind_s, if_true]
  rw [runes_ok s (by omega) _ (by omega)]
  simp only [bind_s]
  rw [bad_f s (by omega)]
  simp only [bind_s]
  rw [bad_ref, if_pos rfl, check_f s (by omega)]
  simp only [bind_s]
  rw [bad_ref]
  by_cases h : 0 ≤ (refV s).2
  · rw [if_pos h]
    rw [if_pos (by simp; omega)]
    simp; omega
  · rw [if_neg h]
    rw [if_pos (by simp; omega)]
    simp; omega
end Go.Proofs.Ytbbnhameafolgaa.Pure
