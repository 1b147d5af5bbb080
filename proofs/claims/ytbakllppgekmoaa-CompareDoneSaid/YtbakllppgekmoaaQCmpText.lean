/- Pruned by wip/prune.py. -/
import Derived.Test.YtbakllppgekmoaaQRunesV
import Derived.Test.YtbakllppgekmoaaQCmpTh
import Derived.Test.YtbakllppgekmoaaQSxKinds
namespace Go.Proofs.Ytbakllppgekmoaa.Cmp
open Go Go.RowKit Go.Proofs.Ytbakllppgekmoaa.Given Go.Proofs.Ytbakllppgekmoaa.Kinds
set_option linter.unusedVariables false
set_option linter.unusedSimpArgs false
abbrev Edit := S33
theorem decs_step (s : ByteArray) (p : Nat) (h : p < s.size) : decs s s.size p = (p, (Utf8.decode s p).1) :: decs s s.size (p + (Utf8.decode s p).2) := by
  have hd := dec_pos s p h
  obtain ⟨k, hk⟩ : ∃ k, s.size = k + 1 := ⟨s.size - 1, by omega⟩
  have e : decs s (k + 1) p = (p, (Utf8.decode s p).1) :: decs s k (p + (Utf8.decode s p).2) := by
    simp only [decs]
    rw [if_pos h]
  rw [hk, e, decs_more s k (k + 1) _ (by omega) (by omega)]
theorem decs_end (s : ByteArray) (p : Nat) (h : ¬ p < s.size) : decs s s.size p = [] := by
  cases hk : s.size with
  | zero => rfl
  | succ k =>
    simp only [decs]
    rw [if_neg h]
theorem decs_le (s : ByteArray) : ∀ k p, (decs s k p).length ≤ k
  | 0, _ => Nat.le_refl _
  | k + 1, p => by
    simp only [decs]
    split
    · have := decs_le s k (p + (Utf8.decode s p).2)
      simp only [List.length_cons]
      omega
    · exact Nat.zero_le _
theorem runes_le (s : ByteArray) : (runesV s).length ≤ s.size := decs_le s _ _
def rv (l : List (Nat × Nat)) : List Int := l.map fun q => (q.2 : Int)
def pv (l : List (Nat × Nat)) : List Int := l.map fun q => (q.1 : Int)
theorem rv_len (l : List (Nat × Nat)) : (rv l).length = l.length := by simp [rv]
theorem pv_len (l : List (Nat × Nat)) : (pv l).length = l.length := by simp [pv]
theorem rv_snoc (l : List (Nat × Nat)) (p r : Nat) : rv l ++ [(r : Int)] = rv (l ++ [(p, r)]) := by simp [rv]
theorem pv_snoc (l : List (Nat × Nat)) (p r : Nat) : pv l ++ [(p : Int)] = pv (l ++ [(p, r)]) := by simp [pv]
def lettersV (s : ByteArray) : List Int := rv (runesV s)
def atsV (s : ByteArray) : List Int := pv (runesV s) ++ [(s.size : Int)]
theorem decs_ge (s : ByteArray) : ∀ (k p : Nat) (q : Nat × Nat), q ∈ decs s k p → p ≤ q.1 ∧ q.1 < s.size
  | 0, p, q, h => by simp [decs] at h
  | k + 1, p, q, h => by
    simp only [decs] at h
    split at h
    · rename_i hp
      rcases List.mem_cons.1 h with h | h
      · subst h; exact ⟨Nat.le_refl _, hp⟩
      · have := decs_ge s k _ q h
        exact ⟨by omega, this.2⟩
    · cases h
theorem decs_mono (s : ByteArray) : ∀ (k p i j : Nat), i ≤ j → j < (decs s k p).length → ((decs s k p).getD i (0, 0)).1 ≤ ((decs s k p).getD j (0, 0)).1
  | 0, p, i, j, _, h => by simp [decs] at h
  | k + 1, p, i, j, h1, h2 => by
    by_cases hp : p < s.size
    · have e : decs s (k + 1) p = (p, (Utf8.decode s p).1) :: decs s k (p + (Utf8.decode s p).2) := by simp only [decs]; rw [if_pos hp]
      rw [e] at h2 ⊢
      simp only [List.length_cons] at h2
      cases i with
      | zero =>
        cases j with
        | zero => exact Nat.le_refl _
        | succ j =>
          have hm : (decs s k (p + (Utf8.decode s p).2)).getD j (0, 0) ∈ decs s k (p + (Utf8.decode s p).2) := by rw [List.getD_eq_getElem?_getD, List.getElem?_eq_getElem (by omega)]; exact List.getElem_mem _
          have := (decs_ge s k _ _ hm).1
          show p ≤ _
          simp only [List.getD_cons_succ]
          omega
      | succ i =>
        cases j with
        | zero => omega
        | succ j =>
          simp only [List.getD_cons_succ]
          exact decs_mono s k _ i j (by omega) (by omega)
    · have e : decs s (k + 1) p = [] := by simp only [decs]; rw [if_neg hp]
      rw [e] at h2
      simp at h2
theorem ats_len (s : ByteArray) : (atsV s).length = (lettersV s).length + 1 := by simp [atsV, lettersV, pv_len, rv_len]
theorem letters_le (s : ByteArray) : (lettersV s).length ≤ s.size := by rw [lettersV, rv_len]; exact runes_le s
theorem pv_at (l : List (Nat × Nat)) (i : Nat) : (pv l).getD i 0 = ((l.getD i (0, 0)).1 : Int) := by
  simp only [pv, List.getD_eq_getElem?_getD, List.getElem?_map]
  cases l[i]? <;> rfl
theorem ats_at (s : ByteArray) (i : Nat) (h : i < (runesV s).length) : (atsV s).getD i 0 = (((runesV s).getD i (0, 0)).1 : Int) := by
  rw [← pv_at, atsV, List.getD_eq_getElem?_getD, List.getElem?_append_left (by rw [pv_len]; exact h), ← List.getD_eq_getElem?_getD]
theorem ats_last (s : ByteArray) (i : Nat) (h : i = (runesV s).length) : (atsV s).getD i 0 = (s.size : Int) := by
  subst h
  rw [atsV, List.getD_eq_getElem?_getD, List.getElem?_append_right (by rw [pv_len]; exact Nat.le_refl _), pv_len, Nat.sub_self]
  rfl
theorem ats_ok (s : ByteArray) (i j : Nat) (hij : i ≤ j) (hj : j < (atsV s).length) : 0 ≤ (atsV s).getD i 0 ∧ (atsV s).getD i 0 ≤ (atsV s).getD j 0 ∧ (atsV s).getD j 0 ≤ s.size := by
  have hl : (atsV s).length = (runesV s).length + 1 := by rw [ats_len, lettersV, rv_len]
  have hlt : ∀ q, q < (runesV s).length → ((runesV s).getD q (0, 0)).1 < s.size := fun q hq =>
    (decs_ge s _ 0 _ (show (runesV s).getD q (0, 0) ∈ runesV s by rw [List.getD_eq_getElem?_getD, List.getElem?_eq_getElem hq]; exact List.getElem_mem _)).2
  by_cases h1 : j < (runesV s).length
  · have := decs_mono s s.size 0 i j hij h1
    have h3 := hlt j h1
    rw [ats_at s i (by omega), ats_at s j h1]
    have h4 : ((runesV s).getD i (0, 0)).1 ≤ ((runesV s).getD j (0, 0)).1 := this
    omega
  · rw [ats_last s j (by omega)]
    by_cases h2 : i < (runesV s).length
    · have h3 := hlt i h2
      rw [ats_at s i h2]
      omega
    · rw [ats_last s i (by omega)]
      omega
end Go.Proofs.Ytbakllppgekmoaa.Cmp
