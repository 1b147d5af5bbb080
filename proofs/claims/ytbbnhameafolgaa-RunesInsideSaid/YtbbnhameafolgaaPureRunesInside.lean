/- A right text has as many runes as bytes that aren't within one: the pure statement of RunesInside. For every text. -/
import Derived.Test.YtbbnhameafolgaaRunesPar
import Derived.Test.YtbbnhameafolgaaPAllx3
set_option linter.unusedVariables false
namespace Go.Proofs.Ytbbnhameafolgaa.Pure
open Go.RowKit Go.Proofs.Ytbbnhameafolgaa.PAll Go.Proofs.YtbbnhameafolgaaW.PrintWords Go.Proofs.YtbbnhameafolgaaW.PrintLast Go.Proofs.YtbbnhameafolgaaW.PrintMore Go.Proofs.Ytbbnhameafolgaa.Given

def notIn (s : ByteArray) : Nat → Int → Nat
  | 0, _ => 0
  | k + 1, p => (if inside (bt s p) = true then 0 else 1) + notIn s k (p + 1)
theorem notIn_add (s : ByteArray) : ∀ (a b : Nat) (p : Int), notIn s (a + b) p = notIn s a p + notIn s b (p + a)
  | 0, b, p => by simp [notIn]
  | a + 1, b, p => by
    rw [show a + 1 + b = (a + b) + 1 by omega]
    simp only [notIn]
    rw [notIn_add s a b (p + 1), show p + 1 + (a : Int) = p + ((a + 1 : Nat) : Int) by omega]
    omega
theorem notIn_zero (s : ByteArray) : ∀ (a : Nat) (p : Int), (∀ i, p ≤ i → i < p + a → inside (bt s i) = true) → notIn s a p = 0
  | 0, _, _ => rfl
  | a + 1, p, h => by
    simp only [notIn]
    rw [if_pos (h p (by omega) (by omega)), notIn_zero s a (p + 1) fun i h1 h2 => h i (by omega) (by omega)]
theorem notIn_le (s : ByteArray) : ∀ (a : Nat) (p : Int), notIn s a p ≤ a
  | 0, _ => by simp [notIn]
  | a + 1, p => by
    have := notIn_le s a (p + 1)
    simp only [notIn]
    split <;> omega
theorem par_notIn {s : ByteArray} {p e : Int} {l : List (Int × Int)} (h : Par s p l e) : notIn s (e - p).toNat p = l.length := by
  induction h with
  | nil p => rw [show p - p = 0 by omega]; rfl
  | @cons p e l h0 h1 hk h ih =>
    have hl := par_le h
    have hf := first_not s p hk
    rw [show (e - p).toNat = (1 + ((readV s p).2.toNat - 1)) + (e - (p + (readV s p).2)).toNat by omega, notIn_add, notIn_add,
      notIn_zero s ((readV s p).2.toNat - 1) _ (fun i hi hi' => by
        have := hf.2 (i - p) (by omega) (by omega)
        rw [show p + (i - p) = i by omega] at this
        exact this),
      show p + ((1 + ((readV s p).2.toNat - 1) : Nat) : Int) = p + (readV s p).2 by omega, ih]
    simp only [notIn]
    rw [if_neg (by rw [hf.1]; decide), List.length_cons]
    omega
theorem inside_go (s : ByteArray) (hs : s.size ≤ 140737488351232) : ∀ (m k : Nat) (p n : Int), 0 ≤ p → (s.size : Int) = p + m → m < k → 0 ≤ n → n ≤ p →
    regletlaw02_RunesInside.l0 k s n p = some (decide (0 ≤ badV s) || decide (((runesV s).length : Int) = n + notIn s m p))
  | 0, k, p, n, h0, hm, hk, hn, hn' => by
    obtain ⟨k, rfl⟩ : ∃ j, k = j + 1 := ⟨k - 1, by omega⟩
    simp only [regletlaw02_RunesInside.l0]
    rw [if_neg (by omega), bad_f s (by omega)]
    simp only [Option.bind_some]
    by_cases h : badV s ≥ 0
    · rw [if_pos h]; simp; left; omega
    · rw [if_neg h, count_f s (by omega)]
      have : ¬ 0 ≤ badV s := by omega
      simp [this, notIn, BEq.beq]
  | m + 1, k, p, n, h0, hm, hk, hn, hn' => by
    obtain ⟨k, rfl⟩ : ∃ j, k = j + 1 := ⟨k - 1, by omega⟩
    have hb := bt_nonneg s p
    simp only [regletlaw02_RunesInside.l0]
    rw [if_pos (by omega), if_pos h0, inside_f _ hb.1 hb.2, wrap_id (x := p + 1) (by omega) (by omega), wrap_id (x := n + 1) (by omega) (by omega)]
    simp only [Option.bind_some]
    have e1 : notIn s (m + 1) p = (if inside (bt s p) = true then 0 else 1) + notIn s m (p + 1) := rfl
    by_cases h : inside (bt s p) = true
    · rw [if_pos h, h]
      have h' := h
      unfold inside at h'
      simp only [Bool.and_eq_true, decide_eq_true_eq] at h'
      rw [if_pos (by omega), if_neg (by simp; omega), inside_go s hs m k (p + 1) n (by omega) (by omega) (by omega) hn (by omega), e1, if_pos h, Nat.zero_add]
    · rw [if_neg h, Bool.eq_false_iff.2 h]
      have h' := h
      unfold inside at h'
      simp only [Bool.and_eq_true, decide_eq_true_eq] at h'
      have g := inside_go s hs m k (p + 1) (n + 1) (by omega) (by omega) (by omega) (by omega) (by omega)
      have e2 : n + (notIn s (m + 1) p : Int) = n + 1 + (notIn s m (p + 1) : Int) := by rw [e1, if_neg h]; omega
      rw [e2, ← g]
      by_cases c : bt s p ≥ 128
      · rw [if_pos c, if_neg (by simp; omega)]
      · rw [if_neg c, if_neg (by simp)]
theorem RunesInside : regletlaw02_RunesInside.Pure := by
  intro s hs
  refine ⟨s.size + 2, ?_⟩
  unfold regletlaw02_RunesInside.f
  rw [awake_ok]
  simp only [Option.bind_some, if_true]
  rw [inside_go s hs s.size _ 0 0 (by omega) (by omega) (by omega) (by omega) (by omega)]
  rcases bad_or s with ⟨hb, hp⟩ | ⟨hb, _⟩
  · have g := par_notIn hp
    rw [par_runesV hp]
    rw [show ((s.size : Int) - 0).toNat = s.size by omega] at g
    rw [g]
    simp
  · simp [hb]
end Go.Proofs.Ytbbnhameafolgaa.Pure
