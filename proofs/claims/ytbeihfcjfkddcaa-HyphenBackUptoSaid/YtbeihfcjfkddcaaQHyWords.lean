/- Pruned by wip/prune.py. -/
import Derived.Test.YtbeihfcjfkddcaaQHyEq
namespace Go.Proofs.Ytbeihfcjfkddcaa.Hy
open Go Go.RowKit Go.Proofs.YtbeihfcjfkddcaaW.PrintWords Go.Proofs.Ytbeihfcjfkddcaa.Given Go.Proofs.Ytbeihfcjfkddcaa.Rn Go.Proofs.Ytbeihfcjfkddcaa.Sx
set_option linter.unusedVariables false
set_option linter.unusedSimpArgs false
theorem plc_lt {s : ByteArray} {i : Nat} (h : i < (refV s).1.length) : (placesL s).getD i 0 = plcV s i := by
  have hl : i < ((refV s).1.map (·.1)).length := by rw [List.length_map]; exact h
  unfold plcV placesL
  simp only [List.getD_eq_getElem?_getD, List.getElem?_append_left hl]
theorem plc_end (s : ByteArray) : plcV s (refV s).1.length = s.size := by
  have hl : ((refV s).1.map (·.1)).length ≤ (refV s).1.length := by rw [List.length_map]; exact Nat.le_refl _
  unfold plcV
  rw [List.getD_eq_getElem?_getD, List.getElem?_append_right hl, List.length_map, Nat.sub_self]
  rfl
theorem par_plc {s : ByteArray} {p e : Int} {l : List (Int × Int)} (h : Par s p l e) : ∀ i, i < l.length → (l.map (·.1) ++ [e]).getD i 0 < (l.map (·.1) ++ [e]).getD (i + 1) 0 ∧ p ≤ (l.map (·.1) ++ [e]).getD i 0 := by
  induction h with
  | nil p => intro i hi; exact absurd hi (Nat.not_lt_zero _)
  | @cons p e l h0 h1 hk h ih =>
    intro i hi
    cases i with
    | zero =>
      refine ⟨?_, Int.le_refl _⟩
      show p < (l.map (·.1) ++ [e]).getD 0 0
      cases l with
      | nil => have := (par_le h).1; show p < e; omega
      | cons x l => have := (ih 0 (by simp)).2; omega
    | succ i =>
      have h2 := ih i (by simpa using hi)
      exact ⟨h2.1, by show p ≤ (l.map (·.1) ++ [e]).getD i 0; omega⟩
theorem plc_mono {s : ByteArray} (h : (refV s).2 < 0) {i : Nat} (hi : i < (refV s).1.length) : plcV s i < plcV s (i + 1) ∧ 0 ≤ plcV s i := par_plc (right_par h) i hi
theorem ref_drop {s : ByteArray} {i : Nat} (h : i < (refV s).1.length) : (refV s).1.drop i = (plcV s i, (runesL s).getD i 0) :: (refV s).1.drop (i + 1) := by
  rw [drop_get _ (0, 0) h, ← plc_lt h]
  congr 1
  simp only [List.getD_eq_getElem?_getD, List.getElem?_eq_getElem h, placesL, runesL, List.getElem?_map]
  rfl
theorem runesL_len (s : ByteArray) : (runesL s).length = (refV s).1.length := by unfold runesL; rw [List.length_map]
theorem placesL_len (s : ByteArray) : (placesL s).length = (refV s).1.length := by unfold placesL; rw [List.length_map]
section
variable {s : ByteArray} {i : Nat} {f : Int} {o L : List (Int × Int)}
end
/-- Words lie between runes, one behind the other. -/
def WOk (s : ByteArray) (x : Int × Int) : Prop := (∃ i j, i < j ∧ j ≤ (refV s).1.length ∧ x = (plcV s i, plcV s j) ∧ ∀ k, i ≤ k → k < j → LetP ((runesL s).getD k 0))
theorem words_ok {s : ByteArray} (hr : (refV s).2 < 0) : ∀ (n i : Nat) (f : Int) (o : List (Int × Int)), i + n = (refV s).1.length → (∀ x ∈ o, WOk s x) → (f < 0 ∨ ∃ j, j < i ∧ f = plcV s j ∧ ∀ k, j ≤ k → k < i → LetP ((runesL s).getD k 0)) → ∀ x ∈ wordsGo s.size ((refV s).1.drop i) f o, WOk s x
  | 0, i, f, o, hi, ho, hf => by
    obtain rfl : i = (refV s).1.length := by omega
    rw [List.drop_eq_nil_of_le (Nat.le_refl _), wordsGo]
    split
    · intro x hx
      rcases List.mem_append.1 hx with hx | hx
      · exact ho x hx
      · rw [List.mem_singleton.1 hx]
        rcases hf with hf | ⟨j, h1, h2, h3⟩
        · omega
        · exact ⟨j, _, h1, Nat.le_refl _, by rw [h2, plc_end], h3⟩
    · exact ho
  | n + 1, i, f, o, hi, ho, hf => by
    have hm := plc_mono hr (i := i) (by omega)
    rw [ref_drop (by omega), wordsGo]
    by_cases c : LetP ((runesL s).getD i 0)
    · rw [if_pos c]
      refine words_ok hr n (i + 1) _ o (by omega) ho ?_
      by_cases cf : f < 0
      · rw [if_pos cf]
        exact .inr ⟨i, by omega, rfl, fun k h1 h2 => by rw [show k = i by omega]; exact c⟩
      · rw [if_neg cf]
        rcases hf with hf | ⟨j, h1, h2, h3⟩
        · exact absurd hf cf
        · refine .inr ⟨j, by omega, h2, fun k g1 g2 => ?_⟩
          rcases Nat.lt_succ_iff_lt_or_eq.1 g2 with g3 | rfl
          · exact h3 k g1 g3
          · exact c
    · rw [if_neg c]
      by_cases cf : 0 ≤ f
      · rw [if_pos cf]
        refine words_ok hr n (i + 1) _ _ (by omega) (fun x hx => ?_) (.inl (by decide))
        rcases List.mem_append.1 hx with hx | hx
        · exact ho x hx
        · rw [List.mem_singleton.1 hx]
          rcases hf with hf | ⟨j, h1, h2, h3⟩
          · omega
          · exact ⟨j, i, h1, by omega, by rw [h2], h3⟩
      · rw [if_neg cf]
        exact words_ok hr n (i + 1) f o (by omega) ho (.inl (by omega))
theorem word_ok {s : ByteArray} (hr : (refV s).2 < 0) : ∀ x ∈ wordsV s, WOk s x := by
  have := words_ok hr (refV s).1.length 0 (-1) [] (by omega) (fun x hx => by cases hx) (.inl (by decide))
  rw [List.drop_zero] at this
  exact this
theorem plc_between {s : ByteArray} {i : Nat} (hi : i ≤ (refV s).1.length) : BetweenP s (plcV s i) := by
  rcases Nat.lt_or_ge i (refV s).1.length with h | h
  · refine .inl ?_
    rw [← plc_lt h]
    have hl : i < (placesL s).length := by rw [placesL_len]; exact h
    rw [List.getD_eq_getElem?_getD, List.getElem?_eq_getElem hl]
    exact List.getElem_mem _
  · refine .inr ?_
    rw [show i = (refV s).1.length by omega, plc_end]
theorem plc_le {s : ByteArray} (hr : (refV s).2 < 0) {i j : Nat} (h : i ≤ j) (hj : j ≤ (refV s).1.length) : plcV s i ≤ plcV s j := by
  induction j with
  | zero => rw [show i = 0 by omega]; exact Int.le_refl _
  | succ j ih =>
    rcases Nat.lt_or_ge i (j + 1) with c | c
    · have h1 := ih (by omega) (by omega)
      have h2 := (plc_mono hr (i := j) (by omega)).1
      omega
    · rw [show i = j + 1 by omega]; exact Int.le_refl _
theorem wok_bd {s : ByteArray} (hr : (refV s).2 < 0) {x : Int × Int} (h : WOk s x) : 0 ≤ x.1 ∧ x.1 ≤ x.2 ∧ x.2 ≤ s.size ∧ (refV (s.extract x.1.toNat x.2.toNat)).2 < 0 := by
  obtain ⟨i, j, h1, h2, rfl, _⟩ := h
  have h3 := plc_le hr (Nat.le_of_lt h1) h2
  have h4 := plc_le hr h2 (Nat.le_refl _)
  rw [plc_end] at h4
  exact ⟨(plc_mono hr (by omega)).2, h3, h4, sub_right hr (plc_between (by omega)) (plc_between h2) h3⟩
theorem wordsGo_len (z : Int) : ∀ (l : List (Int × Int)) (f : Int) (o : List (Int × Int)), (wordsGo z l f o).length ≤ o.length + l.length + 1
  | [], f, o => by rw [wordsGo]; split <;> simp
  | (p, r) :: l, f, o => by
    rw [wordsGo]
    split
    · have := wordsGo_len z l (if f < 0 then p else f) o
      simp only [List.length_cons]; omega
    · split
      · have := wordsGo_len z l (-1) (o ++ [(f, p)])
        simp only [List.length_append, List.length_cons, List.length_nil] at this ⊢; omega
      · have := wordsGo_len z l f o
        simp only [List.length_cons]; omega
theorem words_len (s : ByteArray) : (wordsV s).length ≤ s.size + 1 := by
  have h1 := wordsGo_len s.size (refV s).1 (-1) []
  have h2 := refV_room s
  unfold wordsV
  simp only [List.length_nil] at h1
  omega
end Go.Proofs.Ytbeihfcjfkddcaa.Hy
