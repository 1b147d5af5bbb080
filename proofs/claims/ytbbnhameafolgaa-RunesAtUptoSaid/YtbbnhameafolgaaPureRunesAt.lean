/- Each rune of a right text begins where it is told to, and there are none beyond: the pure statement of RunesAt, for texts of at most 1048576 bytes and every number. -/
import Derived.Test.YtbbnhameafolgaaRunesPar
import Derived.Test.YtbbnhameafolgaaPAllx6
set_option linter.unusedVariables false
namespace Go.Proofs.Ytbbnhameafolgaa.Pure
open Go.RowKit Go.Proofs.Ytbbnhameafolgaa.PAll Go.Proofs.YtbbnhameafolgaaW.PrintWords Go.Proofs.YtbbnhameafolgaaW.PrintLast Go.Proofs.YtbbnhameafolgaaW.PrintMore Go.Proofs.Ytbbnhameafolgaa.Given

theorem atGo_eq (s : ByteArray) : ∀ (l : List (Int × Int)) (n : Int), (∀ x ∈ l, 0 ≤ x.1) → 0 ≤ n → n ≤ 9223372036854775807 →
    atGo s (l.map fun x => (x.1.toNat, x.2.toNat)) n = if n < (l.length : Int) then (rd (l.map (·.1)) n, true) else if n = l.length then ((s.size : Int), true) else (0, false)
  | [], n, hl, h0, h1 => by
    simp only [List.map_nil, atGo, List.length_nil]
    rw [if_neg (show ¬ n < ((0 : Nat) : Int) by omega)]
    rfl
  | x :: l, n, hl, h0, h1 => by
    simp only [List.map_cons, atGo, List.length_cons]
    have hx := hl x List.mem_cons_self
    by_cases e : n = 0
    · subst e
      rw [if_pos rfl, if_pos (by omega)]
      simp [rd, Int.toNat_of_nonneg hx]
    · rw [if_neg e, wrap_id (by omega) (by omega), atGo_eq s l (n - 1) (fun y hy => hl y (List.mem_cons_of_mem _ hy)) (by omega) (by omega)]
      by_cases c : n < ((l.length + 1 : Nat) : Int)
      · rw [if_pos (by omega), if_pos c]
        congr 1
        unfold rd
        rw [show n.toNat = (n - 1).toNat + 1 by omega]
        rfl
      · rw [if_neg (by omega), if_neg c]
        by_cases c2 : n = ((l.length + 1 : Nat) : Int)
        · rw [if_pos (by omega), if_pos c2]
        · rw [if_neg (by omega), if_neg c2]
theorem RunesAt : ∀ (s : ByteArray) (n : Int), s.size ≤ 1048576 → (Lit.int .i64 n).wf = true → ∃ k, regletlaw02_RunesAt.f k s n = some true := by
  intro s n hs hn
  have hn' := wf64 hn
  refine ⟨s.size + 22 + 1, ?_⟩
  unfold regletlaw02_RunesAt.f
  rw [awake_ok]
  simp only [bind_s, if_true]
  rw [runes_ok s (by omega) _ (by omega)]
  simp only [bind_s]
  rcases right_or s with ⟨hb, hp⟩ | ⟨hb, _⟩
  case inr => rw [if_pos (by omega)]
  rw [if_neg (by omega)]
  unfold runes_At.f
  rw [if_pos (by omega)]
  simp only [bind_s]
  rw [List.length_map]
  unfold atV
  by_cases c0 : n ≥ 0
  · rw [if_pos c0, if_neg (by omega), par_runesV hp, atGo_eq s _ n (fun x hx => (par_mem hp x hx).2.2.1) (by omega) hn'.2]
    simp only [regletlaw02_RunesAt.j0, decide_eq_true_eq]
    by_cases c1 : n < ((refV s).1.length : Int)
    · rw [if_pos c1, if_pos c1, if_pos rfl, if_pos (by omega), List.length_map, if_pos c1]
      simp
    rw [if_neg c1, if_neg c1]
    by_cases c2 : n = ((refV s).1.length : Int)
    · rw [if_pos c2, List.length_map, if_pos c2, if_pos rfl]; simp
    · rw [if_neg c2, List.length_map, if_neg c2, if_neg (by decide)]; simp
  · rw [if_neg c0, if_pos (by omega)]
    simp only [regletlaw02_RunesAt.j0]
    rw [if_neg (by decide), List.length_map, if_neg (by omega), if_neg (by decide)]
    simp
end Go.Proofs.Ytbbnhameafolgaa.Pure
