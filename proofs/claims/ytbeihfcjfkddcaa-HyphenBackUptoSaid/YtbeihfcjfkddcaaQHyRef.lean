/- Pruned by wip/prune.py. -/
import Derived.Test.YtbeihfcjfkddcaaQHyWf
namespace Go.Proofs.Ytbeihfcjfkddcaa.Hy
open Go Go.RowKit Go.Proofs.YtbeihfcjfkddcaaW.PrintWords Go.Proofs.Ytbeihfcjfkddcaa.Given Go.Proofs.Ytbeihfcjfkddcaa.Rn Go.Proofs.Ytbeihfcjfkddcaa.Sx
set_option linter.unusedVariables false
set_option linter.unusedSimpArgs false
/-- A pattern that has none behind it with the same letters. -/
def CountP (P : List ByteArray) (i : Nat) : Prop := ∀ k, i < k → k < P.length → (patD (P.getD i ByteArray.empty)).1 ≠ (patD (P.getD k ByteArray.empty)).1
noncomputable instance (P : List ByteArray) (i : Nat) : Decidable (CountP P i) := Classical.propDecidable _
theorem getD_mem {l : List Int} {i : Nat} (h : i < l.length) : l.getD i 0 ∈ l := by
  rw [List.getD_eq_getElem?_getD, List.getElem?_eq_getElem h]
  exact List.getElem_mem _
/-- A word's hyphens: in order, behind letters and ahead of some. -/
theorem wordGo_at : ∀ (rs L A M Q : List Int), wordGo rs L A = some (M, Q) → (∀ a ∈ A, 1 ≤ a ∧ a ≤ (L.length : Int)) → A.Pairwise (· < ·) → (∀ a ∈ Q, 1 ≤ a ∧ a < (M.length : Int)) ∧ Q.Pairwise (· < ·)
  | [], L, A, M, Q, h, h1, h2 => by
    unfold wordGo at h
    split at h
    · cases h
    · rename_i hb
      simp only [Option.some.injEq, Prod.mk.injEq] at h
      obtain ⟨rfl, rfl⟩ := h
      refine ⟨fun a ha => ⟨(h1 a ha).1, ?_⟩, h2⟩
      have h3 := (h1 a ha).2
      rcases Int.lt_or_eq_of_le h3 with h4 | h4
      · exact h4
      · exfalso
        apply hb
        refine .inr ⟨(fun z => by rw [z] at ha; cases ha), ?_⟩
        have hne : A ≠ [] := fun z => by rw [z] at ha; cases ha
        have hl := List.length_pos_iff.2 hne
        have hm := getD_mem (l := A) (i := A.length - 1) (by omega)
        have h5 := (h1 _ hm).2
        obtain ⟨j, hj, rfl⟩ := List.getElem_of_mem ha
        rcases Nat.lt_or_ge j (A.length - 1) with h6 | h6
        · have := List.pairwise_iff_getElem.1 h2 j (A.length - 1) hj (by omega) h6
          rw [List.getD_eq_getElem?_getD, List.getElem?_eq_getElem (by omega)] at h5 ⊢
          show A[A.length - 1] = _
          have h7 : A[A.length - 1] ≤ (L.length : Int) := h5
          omega
        · have e : j = A.length - 1 := by omega
          subst e
          rw [List.getD_eq_getElem?_getD, List.getElem?_eq_getElem hj]
          exact h4
  | r :: rs, L, A, M, Q, h, h1, h2 => by
    unfold wordGo at h
    split at h
    · split at h
      · cases h
      · rename_i hb
        have hL : L ≠ [] := fun z => hb (.inl z)
        have hl := List.length_pos_iff.2 hL
        refine wordGo_at rs _ _ M Q h (fun a ha => ?_) ?_
        · rcases List.mem_append.1 ha with ha | ha
          · exact h1 a ha
          · rw [List.mem_singleton.1 ha]; omega
        · refine List.pairwise_append.2 ⟨h2, List.pairwise_singleton _ _, fun a ha b hb' => ?_⟩
          rw [List.mem_singleton.1 hb']
          rcases Int.lt_or_eq_of_le (h1 a ha).2 with h4 | h4
          · exact h4
          · exfalso
            apply hb
            have hne : A ≠ [] := fun z => by rw [z] at ha; cases ha
            have hla := List.length_pos_iff.2 hne
            refine .inr ⟨hne, ?_⟩
            have hm := getD_mem (l := A) (i := A.length - 1) (by omega)
            have h5 := (h1 _ hm).2
            obtain ⟨j, hj, rfl⟩ := List.getElem_of_mem ha
            rcases Nat.lt_or_ge j (A.length - 1) with h6 | h6
            · have := List.pairwise_iff_getElem.1 h2 j (A.length - 1) hj (by omega) h6
              rw [List.getD_eq_getElem?_getD, List.getElem?_eq_getElem (by omega)] at h5 ⊢
              show A[A.length - 1] = _
              have h7 : A[A.length - 1] ≤ (L.length : Int) := h5
              omega
            · have e : j = A.length - 1 := by omega
              subst e
              rw [List.getD_eq_getElem?_getD, List.getElem?_eq_getElem hj]
              exact h4
    · split at h
      · refine wordGo_at rs _ _ M Q h (fun a ha => ?_) h2
        have := h1 a ha
        simp only [List.length_append, List.length_cons, List.length_nil]
        omega
      · cases h
theorem wordD_at (x : ByteArray) : (∀ a ∈ (wordD x).2, 1 ≤ a ∧ a < ((wordD x).1.length : Int)) ∧ (wordD x).2.Pairwise (· < ·) := by
  unfold wordD
  cases h : wordV x with
  | none => exact ⟨(fun a ha => by cases ha), List.Pairwise.nil⟩
  | some p =>
    obtain ⟨M, Q⟩ := p
    unfold wordV at h
    split at h
    · cases h
    · exact wordGo_at _ _ _ M Q h (fun a ha => by cases ha) List.Pairwise.nil
end Go.Proofs.Ytbeihfcjfkddcaa.Hy
