/- Any place of any right text is beyond it, within a rune, or between runes: the pure statement of RunesPlaces. For every text and every number. -/
import Derived.Test.YtbbnhameafolgaaRunesPar
import Derived.Test.YtbbnhameafolgaaPAllx3
set_option linter.unusedVariables false
namespace Go.Proofs.Ytbbnhameafolgaa.Pure
open Go.RowKit Go.Proofs.Ytbbnhameafolgaa.PAll Go.Proofs.YtbbnhameafolgaaW.PrintWords Go.Proofs.YtbbnhameafolgaaW.PrintLast Go.Proofs.YtbbnhameafolgaaW.PrintMore Go.Proofs.Ytbbnhameafolgaa.Given

theorem between_go (s : ByteArray) (a : Int) : ∀ (l pre : List Int) (k : Nat), l.length < k → pre.length + l.length < 1125899906842624 →
    regletref02_Between.l0 k s a (pre ++ l) (pre.length : Int) = some (decide (a ∈ l ∨ a = s.size))
  | [], pre, k, hk, hb => by
    obtain ⟨k, rfl⟩ : ∃ m, k = m + 1 := ⟨k - 1, by simp at hk; omega⟩
    simp only [regletref02_Between.l0, List.append_nil]
    rw [if_neg (by omega)]
    simp [BEq.beq]
  | x :: l, pre, k, hk, hb => by
    obtain ⟨k, rfl⟩ : ∃ m, k = m + 1 := ⟨k - 1, by simp at hk; omega⟩
    simp only [List.length_cons] at hk hb
    simp only [regletref02_Between.l0, List.length_append, List.length_cons]
    rw [if_pos (by omega), if_pos (by omega), rd_mid, wrap_id (by omega) (by omega)]
    by_cases e : x = a
    · rw [if_pos e]; simp [e]
    · rw [if_neg e]
      have ih := between_go s a l (pre ++ [x]) k (by omega) (by simp; omega)
      simp only [List.append_assoc, List.cons_append, List.nil_append, List.length_append, List.length_cons, List.length_nil, Int.natCast_add, Int.natCast_one, Nat.zero_add] at ih
      rw [ih]
      have e' : ¬ a = x := fun h => e h.symm
      simp [e']
theorem boundary_ref (s : ByteArray) (hs : s.size ≤ 4096) (a : Int) (k : Nat) (hk : s.size + 40 ≤ k) (hp : Par s 0 (refV s).1 s.size) :
    regletref02_Boundary.f k s a = some (if a < 0 ∨ (s.size : Int) < a then 30 else if a = s.size ∨ inside (bt s a) = false then 0 else 21) := by
  obtain ⟨k, rfl⟩ : ∃ m, k = m + 1 := ⟨k - 1, by omega⟩
  unfold regletref02_Boundary.f
  by_cases h1 : a < 0
  · rw [if_pos h1, if_pos (.inl h1)]; simp only [regletref02_Boundary.j0]; rfl
  rw [if_neg h1]
  by_cases h2 : (s.size : Int) < a
  · rw [if_pos (.inr h2)]; simp only [regletref02_Boundary.j0]; rw [if_pos (by simpa using h2)]
  rw [if_neg (by omega)]
  simp only [regletref02_Boundary.j0]
  rw [if_neg (by simpa using h2)]
  unfold regletref02_Between.f
  rw [runes_ok s (by omega) k (by omega)]
  simp only [Option.bind_some]
  have hl := par_le hp
  have g := between_go s a ((refV s).1.map (·.1)) [] k (by simp; omega) (by simp; omega)
  simp only [List.nil_append, List.length_nil, Int.natCast_zero] at g
  rw [g]
  simp only [Option.bind_some, decide_eq_true_eq]
  by_cases h3 : a = s.size
  · rw [if_pos (.inr h3), if_pos (.inl h3)]
  have hm : a ∈ (refV s).1.map (·.1) ↔ inside (bt s a) = false := by
    rw [← par_place hp a (by omega) (by omega)]
    simp
  by_cases h4 : inside (bt s a) = false
  · rw [if_pos (.inl (hm.2 h4)), if_pos (.inr h4)]
  · rw [if_neg (by rintro (h | h); exact h4 (hm.1 h); exact h3 h), if_neg (by rintro (h | h); exact h3 h; exact h4 h)]
theorem boundary_code (s : ByteArray) (a : Int) (k : Nat) : runes_Boundary.f (k + 1) s a = some (if a < 0 ∨ (s.size : Int) < a then 30 else if a = s.size ∨ inside (bt s a) = false then 0 else 21) := by
  unfold runes_Boundary.f
  by_cases h1 : a < 0
  · rw [if_pos h1, if_pos (.inl h1)]; simp only [runes_Boundary.j0]; rfl
  rw [if_neg h1]
  by_cases h2 : (s.size : Int) < a
  · rw [if_pos (.inr h2)]; simp only [runes_Boundary.j0]; rw [if_pos (by simpa using h2)]
  rw [if_neg (by omega)]
  simp only [runes_Boundary.j0]
  rw [if_neg (by simpa using h2)]
  have hb := bt_nonneg s a
  by_cases h3 : a < (s.size : Int)
  · rw [if_pos h3, if_pos (by omega), inside_f _ hb.1 hb.2]
    simp only [Option.bind_some]
    by_cases h4 : inside (bt s a) = true
    · rw [if_pos h4, if_neg (by rintro (h | h); omega; rw [h] at h4; cases h4)]
    · rw [if_neg h4, if_pos (.inr (by simpa using h4))]
  · rw [if_neg h3, if_pos (.inl (by omega))]

theorem RunesPlaces : regletlaw02_RunesPlaces.Pure := by
  intro s a hs ha
  refine ⟨s.size + 60, ?_⟩
  unfold regletlaw02_RunesPlaces.f
  rw [awake_ok]
  simp only [Option.bind_some, if_true]
  by_cases h1 : (s.size : Int) > 4096
  · rw [if_pos h1]; simp only [regletlaw02_RunesPlaces.j0]; rfl
  rw [if_neg h1, right_f s (by omega) _ (by omega)]
  simp only [Option.bind_some, regletlaw02_RunesPlaces.j0]
  rcases right_or s with ⟨hb, hp⟩ | ⟨hb, _⟩
  · rw [if_neg (by rw [hb]; decide), boundary_code, boundary_ref s (by omega) a _ (by omega) hp]
    simp
  · rw [if_pos (by simp; omega)]
end Go.Proofs.Ytbbnhameafolgaa.Pure
