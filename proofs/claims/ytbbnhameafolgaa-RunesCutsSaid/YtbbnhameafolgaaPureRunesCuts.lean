/- A right text is cut between runes, as far as may be: the pure statement of RunesCuts. For every text and every number. -/
import Derived.Test.YtbbnhameafolgaaRunesPar
import Derived.Test.YtbbnhameafolgaaPAllx4
set_option linter.unusedVariables false
namespace Go.Proofs.Ytbbnhameafolgaa.Pure
open Go.RowKit Go.Proofs.Ytbbnhameafolgaa.PAll Go.Proofs.YtbbnhameafolgaaW.PrintWords Go.Proofs.YtbbnhameafolgaaW.PrintLast Go.Proofs.YtbbnhameafolgaaW.PrintMore Go.Proofs.Ytbbnhameafolgaa.Given

theorem cut_go (s : ByteArray) (hs : s.size ≤ 4096) : ∀ (m k : Nat), m < s.size → m < k →
    ∃ r : Int, runes_Cut.l0 k s m = some r ∧ 0 ≤ r ∧ r ≤ m ∧ (r = 0 ∨ inside (bt s r) = false) ∧ ∀ q : Int, r < q → q ≤ m → inside (bt s q) = true
  | 0, k, hm, hk => by
    obtain ⟨k, rfl⟩ : ∃ j, k = j + 1 := ⟨k - 1, by omega⟩
    refine ⟨0, ?_, by omega, by omega, .inl rfl, fun q h1 h2 => by omega⟩
    simp only [runes_Cut.l0]
    rw [if_neg (by decide)]
    rfl
  | m + 1, k, hm, hk => by
    obtain ⟨k, rfl⟩ : ∃ j, k = j + 1 := ⟨k - 1, by omega⟩
    have hb := bt_nonneg s ((m + 1 : Nat) : Int)
    simp only [runes_Cut.l0]
    rw [if_pos (by omega), if_pos (by omega), if_pos (by omega), inside_f _ hb.1 hb.2]
    simp only [Option.bind_some]
    by_cases h : inside (bt s ((m + 1 : Nat) : Int)) = true
    · rw [if_pos h, wrap_id (by omega) (by omega), show ((m + 1 : Nat) : Int) - 1 = (m : Int) by omega]
      obtain ⟨r, h1, h2, h3, h4, h5⟩ := cut_go s hs m k (by omega) (by omega)
      refine ⟨r, h1, h2, by omega, h4, fun q g1 g2 => ?_⟩
      by_cases e : q = ((m + 1 : Nat) : Int)
      · rw [e]; exact h
      · exact h5 q g1 (by omega)
    · rw [if_neg h]
      exact ⟨_, rfl, by omega, by omega, .inr (by simpa using h), fun q g1 g2 => by omega⟩
/-- The last place that isn't beyond. -/
def bestGo (most : Int) : List Int → Int → Int
  | [], b => b
  | x :: l, b => bestGo most l (if x ≤ most then x else b)
theorem bestGo_append (most : Int) : ∀ (l m : List Int) (b : Int), bestGo most (l ++ m) b = bestGo most m (bestGo most l b)
  | [], _, _ => rfl
  | x :: l, m, b => bestGo_append most l m _
theorem bestGo_none (most : Int) : ∀ (l : List Int) (b : Int), (∀ x ∈ l, most < x) → bestGo most l b = b
  | [], _, _ => rfl
  | x :: l, b, h => by
    simp only [bestGo]
    rw [if_neg (by have := h x List.mem_cons_self; omega)]
    exact bestGo_none most l b fun y hy => h y (List.mem_cons_of_mem _ hy)
def cutV (s : ByteArray) (k : Nat) (a : Int) : Option Int := runes_Cut.f k s a
theorem cuts_go (s : ByteArray) (most : Int) : ∀ (l pre : List Int) (k j : Nat) (b : Int), l.length + j + 1 = k → pre.length + l.length < 1125899906842624 →
    regletlaw02_RunesCuts.l0 k s most b (pre ++ l) (pre.length : Int) = (runes_Cut.f j s most).bind fun t => some (t == (if most ≥ (s.size : Int) then (s.size : Int) else bestGo most l b))
  | [], pre, k, j, b, hk, hb => by
    simp only [List.length_nil, Nat.zero_add] at hk
    subst hk
    simp only [regletlaw02_RunesCuts.l0, List.append_nil, bestGo]
    rw [if_neg (by omega)]
    split <;> rfl
  | x :: l, pre, k, j, b, hk, hb => by
    simp only [List.length_cons] at hk hb
    obtain ⟨k, rfl⟩ : ∃ m, k = m + 1 := ⟨k - 1, by omega⟩
    simp only [regletlaw02_RunesCuts.l0, List.length_append, List.length_cons, bestGo]
    rw [if_pos (by omega), if_pos (by omega), rd_mid, wrap_id (by omega) (by omega)]
    have ih := fun b' => cuts_go s most l (pre ++ [x]) k j b' (by omega) (by simp; omega)
    simp only [List.append_assoc, List.cons_append, List.nil_append, List.length_append, List.length_cons, List.length_nil, Int.natCast_add, Int.natCast_one, Nat.zero_add] at ih
    by_cases e : x ≤ most
    · rw [if_pos e, ih, if_pos e]
    · rw [if_neg e, ih, if_neg e]
theorem par_first {s : ByteArray} {e : Int} {l : List (Int × Int)} (hp : Par s 0 l e) (h : 0 < e) : inside (bt s 0) = false := by
  cases hp with
  | nil => omega
  | cons h0 h1' hk' h => exact (first_not s 0 hk').1
theorem best_zero {s : ByteArray} {e : Int} {l : List (Int × Int)} (hp : Par s 0 l e) (a : Int) (h3 : a ≤ 0) : bestGo a (l.map (·.1)) 0 = 0 := by
  cases hp with
  | nil => rfl
  | cons h0 h1' hk' h =>
    simp only [List.map_cons, bestGo]
    rw [show (if (0 : Int) ≤ a then (0 : Int) else 0) = 0 by split <;> rfl]
    apply bestGo_none
    intro x hx
    obtain ⟨y, hy, rfl⟩ := List.mem_map.1 hx
    have := par_mem h y hy
    omega
theorem RunesCuts : regletlaw02_RunesCuts.Pure := by
  intro s a hs ha
  have ha' := wf64 ha
  obtain ⟨k, hk⟩ : ∃ k, k = s.size + 60 + s.size + (refV s).1.length := ⟨_, rfl⟩
  refine ⟨k + 2, ?_⟩
  unfold regletlaw02_RunesCuts.f
  rw [awake_ok]
  simp only [Option.bind_some, if_true]
  by_cases h1 : (s.size : Int) > 4096
  · rw [if_pos h1]; simp only [regletlaw02_RunesCuts.j0]; rfl
  rw [if_neg h1, right_f s (by omega) _ (by omega)]
  simp only [Option.bind_some, regletlaw02_RunesCuts.j0]
  rcases right_or s with ⟨hb, hp⟩ | ⟨hb, _⟩
  case inr => rw [if_pos (by simp; omega)]
  rw [if_neg (by rw [hb]; decide), runes_ok s (by omega) _ (by omega)]
  simp only [Option.bind_some]
  have hl := par_le hp
  have g := cuts_go s a ((refV s).1.map (·.1)) [] (k + 1) (k - (refV s).1.length) 0 (by simp; omega) (by simp; omega)
  simp only [List.nil_append, List.length_nil, Int.natCast_zero] at g
  rw [g]
  clear g
  unfold runes_Cut.f
  by_cases h2 : a ≥ (s.size : Int)
  · rw [if_pos h2, if_pos h2]; simp
  rw [if_neg h2, if_neg h2]
  by_cases h3 : a ≤ 0
  · rw [if_pos h3]
    simp only [Option.bind_some]
    congr 1
    rw [beq_iff_eq]
    exact (best_zero hp a h3).symm
  rw [if_neg h3]
  obtain ⟨r, h4, h5, h6, h7, h8⟩ := cut_go s (by omega) a.toNat (k - (refV s).1.length) (by omega) (by omega)
  rw [Int.toNat_of_nonneg (by omega)] at h4 h6 h8
  rw [h4]
  simp only [Option.bind_some]
  congr 1
  rw [beq_iff_eq]
  have hr : r = s.size ∨ ∃ x ∈ (refV s).1, x.1 = r := by
    right
    rw [par_place hp r (by omega) (by omega)]
    rcases h7 with rfl | h7
    · exact par_first hp (by omega)
    · exact h7
  obtain ⟨l1, l2, e, g1, g2⟩ := par_split hp r hr
  rw [e, List.map_append, bestGo_append]
  cases g2 with
  | nil => omega
  | cons h0 h1' hk' h =>
    simp only [List.map_cons, bestGo]
    rw [if_pos h6]
    symm
    apply bestGo_none
    intro x hx
    obtain ⟨y, hy, rfl⟩ := List.mem_map.1 hx
    have hm := par_mem h y hy
    apply Int.lt_of_not_ge
    intro hle
    have hin := h8 y.1 (by omega) hle
    have := (par_place h y.1 hm.1 hm.2.1).1 ⟨y, hy, rfl⟩
    rw [hin] at this
    cases this
end Go.Proofs.Ytbbnhameafolgaa.Pure
