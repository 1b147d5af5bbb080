/- Pruned by wip/prune.py. -/
import Derived.Test.YtbeihfcjfkddcaaQHyWf
namespace Go.Proofs.Ytbeihfcjfkddcaa.Hy
open Go Go.RowKit Go.Proofs.YtbeihfcjfkddcaaW.PrintWords Go.Proofs.Ytbeihfcjfkddcaa.Given Go.Proofs.Ytbeihfcjfkddcaa.Rn Go.Proofs.Ytbeihfcjfkddcaa.Sx
set_option linter.unusedVariables false
set_option linter.unusedSimpArgs false
/-- A pattern that has none behind it with the same letters. -/
def CountP (P : List ByteArray) (i : Nat) : Prop := ∀ k, i < k → k < P.length → (patD (P.getD i ByteArray.empty)).1 ≠ (patD (P.getD k ByteArray.empty)).1
noncomputable instance (P : List ByteArray) (i : Nat) : Decidable (CountP P i) := Classical.propDecidable _
def set1 : List Int → List Int → List Int
  | [], o => o
  | p :: l, o => set1 l (o.set p.toNat 1)
theorem set1_len : ∀ (l o : List Int), (set1 l o).length = o.length
  | [], _ => rfl
  | p :: l, o => by rw [set1, set1_len l]; simp
def refW (w : List Int) : List ByteArray → List Int → Bool → List Int × Bool
  | [], o, b => (o, b)
  | x :: xs, o, b => if (wordD x).1 = w then refW w xs (set1 (wordD x).2 (List.replicate (w.length + 1) 0)) true else refW w xs o b
def refK (at' : Nat) : List Int → Nat → List Int → List Int
  | [], _, o => o
  | v :: lv, k, o => refK at' lv (k + 1) (if 1 ≤ at' + k ∧ at' + k - 1 < o.length ∧ o.getD (at' + k - 1) 0 < v then o.set (at' + k - 1) v else o)
theorem refK_len (at' : Nat) : ∀ (lv : List Int) (k : Nat) (o : List Int), (refK at' lv k o).length = o.length
  | [], _, _ => rfl
  | v :: lv, k, o => by
    rw [refK, refK_len at' lv]
    split
    · simp
    · rfl
def refAt (row L Q : List Int) : Nat → Nat → List Int → List Int
  | 0, _, o => o
  | f + 1, at', o => if at' + L.length ≤ row.length then refAt row L Q f (at' + 1) (if (row.take (at' + L.length)).drop at' = L then refK at' Q 0 o else o) else o
theorem refAt_len (row L Q : List Int) : ∀ (f at' : Nat) (o : List Int), (refAt row L Q f at' o).length = o.length
  | 0, _, _ => rfl
  | f + 1, at', o => by
    rw [refAt]
    split
    · rw [refAt_len row L Q f]
      split
      · rw [refK_len]
      · rfl
    · rfl
noncomputable def refI (P : List ByteArray) (row : List Int) : Nat → Nat → List Int → List Int
  | 0, _, o => o
  | f + 1, i, o => refI P row f (i + 1) (if CountP P i then refAt row (patD (P.getD i ByteArray.empty)).1 (patD (P.getD i ByteArray.empty)).2 (row.length + 1) 0 o else o)
def refO (o : List Int) (hi : Int) : Nat → Int → List Int
  | 0, _ => []
  | f + 1, n => if n ≤ hi then (if o.getD n.toNat 0 % 2 = 1 then n :: refO o hi f (n + 1) else refO o hi f (n + 1)) else []
noncomputable def refOdd (P W : List ByteArray) (w : List Int) : List Int :=
  if (refW w W (List.replicate (w.length + 1) 0) false).2 = true then (refW w W (List.replicate (w.length + 1) 0) false).1 else refI P (rowOf w) P.length 0 (refW w W (List.replicate (w.length + 1) 0) false).1
noncomputable def refWord (P W : List ByteArray) (lf rt : Int) (w : List Int) : List Int := refO (refOdd P W w) (w.length - rt) ((w.length : Int) - rt + 1 - lf).toNat lf
open Classical in
noncomputable def refPts (P W : List ByteArray) (lf rt : Int) (s : ByteArray) : List Int :=
  if 256 < s.size ∨ 0 ≤ badV s then [] else if ∀ r ∈ runesL s, LetP r then refWord P W lf rt ((runesL s).map lowV) else []
theorem refPts_no {P W : List ByteArray} {lf rt : Int} {s : ByteArray} (h : 256 < s.size ∨ 0 ≤ badV s) : refPts P W lf rt s = [] := by unfold refPts; rw [if_pos h]
theorem refPts_not {P W : List ByteArray} {lf rt : Int} {s : ByteArray} {r : Int} (hr : r ∈ runesL s) (h : ¬ LetP r) : refPts P W lf rt s = [] := by
  unfold refPts
  split
  · rfl
  · rw [if_neg (fun z => h (z r hr))]
theorem refPts_yes {P W : List ByteArray} {lf rt : Int} {s : ByteArray} (h : ¬ (256 < s.size ∨ 0 ≤ badV s)) (h2 : ∀ i, i < (runesL s).length → LetP ((runesL s).getD i 0)) : refPts P W lf rt s = refWord P W lf rt ((runesL s).map lowV) := by
  unfold refPts
  rw [if_neg h, if_pos]
  intro r hr
  obtain ⟨i, hi, rfl⟩ := mem_get hr
  exact h2 i hi
theorem getD_mem {l : List Int} {i : Nat} (h : i < l.length) : l.getD i 0 ∈ l := by
  rw [List.getD_eq_getElem?_getD, List.getElem?_eq_getElem h]
  exact List.getElem_mem _
theorem map_take_succ (l : List Int) {i : Nat} (h : i < l.length) : (l.take i).map lowV ++ [lowV (l.getD i 0)] = (l.take (i + 1)).map lowV := by
  rw [List.take_add_one, List.getElem?_eq_getElem h, List.getD_eq_getElem?_getD, List.getElem?_eq_getElem h, List.map_append]
  rfl
/-- A word's hyphens: in order, behind letters and ahead of some. -/
theorem wordGo_at : ∀ (rs L A M Q : List Int), wordGo rs L A = some (M, Q) → (∀ a ∈ A, 1 ≤ a ∧ a ≤ (L.length : Int)) → A.Pairwise (· < ·) → (∀ a ∈ Q, 1 ≤ a ∧ a < (M.length : Int)) ∧ Q.Pairwise (· < ·)
  | [], L, A, M, Q, h, h1, h2 => by
    unfold wordGo at h
    split at h
    · cases h
    · rename_i hb
      simp only [Option.some.injEq, Prod.mk.injEq] at h
      obtain ⟨rfl, rfl⟩ := h
      refine ⟨fun a ha => ⟨(h1 a ha).1, ?_⟩, h2⟩
      have h3 := (h1 a ha).2
      rcases Int.lt_or_eq_of_le h3 with h4 | h4
      · exact h4
      · exfalso
        apply hb
        refine .inr ⟨(fun z => by rw [z] at ha; cases ha), ?_⟩
        have hne : A ≠ [] := fun z => by rw [z] at ha; cases ha
        have hl := List.length_pos_iff.2 hne
        have hm := getD_mem (l := A) (i := A.length - 1) (by omega)
        have h5 := (h1 _ hm).2
        obtain ⟨j, hj, rfl⟩ := List.getElem_of_mem ha
        rcases Nat.lt_or_ge j (A.length - 1) with h6 | h6
        · have := List.pairwise_iff_getElem.1 h2 j (A.length - 1) hj (by omega) h6
          rw [List.getD_eq_getElem?_getD, List.getElem?_eq_getElem (by omega)] at h5 ⊢
          show A[A.length - 1] = _
          have h7 : A[A.length - 1] ≤ (L.length : Int) := h5
          omega
        · have e : j = A.length - 1 := by omega
          subst e
          rw [List.getD_eq_getElem?_getD, List.getElem?_eq_getElem hj]
          exact h4
  | r :: rs, L, A, M, Q, h, h1, h2 => by
    unfold wordGo at h
    split at h
    · split at h
      · cases h
      · rename_i hb
        have hL : L ≠ [] := fun z => hb (.inl z)
        have hl := List.length_pos_iff.2 hL
        refine wordGo_at rs _ _ M Q h (fun a ha => ?_) ?_
        · rcases List.mem_append.1 ha with ha | ha
          · exact h1 a ha
          · rw [List.mem_singleton.1 ha]; omega
        · refine List.pairwise_append.2 ⟨h2, List.pairwise_singleton _ _, fun a ha b hb' => ?_⟩
          rw [List.mem_singleton.1 hb']
          rcases Int.lt_or_eq_of_le (h1 a ha).2 with h4 | h4
          · exact h4
          · exfalso
            apply hb
            have hne : A ≠ [] := fun z => by rw [z] at ha; cases ha
            have hla := List.length_pos_iff.2 hne
            refine .inr ⟨hne, ?_⟩
            have hm := getD_mem (l := A) (i := A.length - 1) (by omega)
            have h5 := (h1 _ hm).2
            obtain ⟨j, hj, rfl⟩ := List.getElem_of_mem ha
            rcases Nat.lt_or_ge j (A.length - 1) with h6 | h6
            · have := List.pairwise_iff_getElem.1 h2 j (A.length - 1) hj (by omega) h6
              rw [List.getD_eq_getElem?_getD, List.getElem?_eq_getElem (by omega)] at h5 ⊢
              show A[A.length - 1] = _
              have h7 : A[A.length - 1] ≤ (L.length : Int) := h5
              omega
            · have e : j = A.length - 1 := by omega
              subst e
              rw [List.getD_eq_getElem?_getD, List.getElem?_eq_getElem hj]
              exact h4
    · split at h
      · refine wordGo_at rs _ _ M Q h (fun a ha => ?_) h2
        have := h1 a ha
        simp only [List.length_append, List.length_cons, List.length_nil]
        omega
      · cases h
theorem wordD_at (x : ByteArray) : (∀ a ∈ (wordD x).2, 1 ≤ a ∧ a < ((wordD x).1.length : Int)) ∧ (wordD x).2.Pairwise (· < ·) := by
  unfold wordD
  cases h : wordV x with
  | none => exact ⟨(fun a ha => by cases ha), List.Pairwise.nil⟩
  | some p =>
    obtain ⟨M, Q⟩ := p
    unfold wordV at h
    split at h
    · cases h
    · exact wordGo_at _ _ _ M Q h (fun a ha => by cases ha) List.Pairwise.nil
def NN (o : List Int) : Prop := ∀ x ∈ o, 0 ≤ x
theorem nn_get {o : List Int} (h : NN o) (j : Nat) : 0 ≤ o.getD j 0 := by
  rw [List.getD_eq_getElem?_getD]
  cases e : o[j]? with
  | none => exact Int.le_refl _
  | some x => exact h x (List.mem_of_getElem? e)
theorem nn_set {o : List Int} (h : NN o) (j : Nat) {v : Int} (hv : 0 ≤ v) : NN (o.set j v) := fun x hx => by
  rcases List.mem_or_eq_of_mem_set hx with hx | rfl
  · exact h x hx
  · exact hv
theorem nn_rep (n : Nat) : NN (List.replicate n 0) := fun x hx => by rw [List.eq_of_mem_replicate hx]; exact Int.le_refl _
theorem set1_nn : ∀ (l o : List Int), NN o → NN (set1 l o)
  | [], _, h => h
  | p :: l, o, h => set1_nn l _ (nn_set h _ (by decide))
theorem refW_nn (w : List Int) : ∀ (xs : List ByteArray) (o : List Int) (b : Bool), NN o → NN (refW w xs o b).1
  | [], _, _, h => h
  | x :: xs, o, b, h => by
    rw [refW]
    split
    · exact refW_nn w xs _ _ (set1_nn _ _ (nn_rep _))
    · exact refW_nn w xs _ _ h
theorem refK_nn (a : Nat) : ∀ (lv : List Int) (k : Nat) (o : List Int), NN o → NN (refK a lv k o)
  | [], _, _, h => h
  | v :: lv, k, o, h => by
    rw [refK]
    refine refK_nn a lv _ _ ?_
    split
    · rename_i c
      exact nn_set h _ (by have := nn_get h (a + k - 1); omega)
    · exact h
theorem refAt_nn (row L Q : List Int) : ∀ (f a : Nat) (o : List Int), NN o → NN (refAt row L Q f a o)
  | 0, _, _, h => h
  | f + 1, a, o, h => by
    rw [refAt]
    split
    · refine refAt_nn row L Q f _ _ ?_
      split
      · exact refK_nn _ _ _ _ h
      · exact h
    · exact h
theorem refI_nn (P : List ByteArray) (row : List Int) : ∀ (f i : Nat) (o : List Int), NN o → NN (refI P row f i o)
  | 0, _, _, h => h
  | f + 1, i, o, h => by
    rw [refI]
    refine refI_nn P row f _ _ ?_
    split
    · exact refAt_nn _ _ _ _ _ _ h
    · exact h
theorem refOdd_nn (P W : List ByteArray) (w : List Int) : NN (refOdd P W w) := by
  unfold refOdd
  split
  · exact refW_nn _ _ _ _ (nn_rep _)
  · exact refI_nn _ _ _ _ _ (refW_nn _ _ _ _ (nn_rep _))
end Go.Proofs.Ytbeihfcjfkddcaa.Hy
