/- Pruned by wip/prune.py. -/
import Derived.Test.YtbakllppgekmoaaQCmpMerge
namespace Go.Proofs.Ytbakllppgekmoaa.Cmp
open Go Go.RowKit Go.Proofs.Ytbakllppgekmoaa.Given Go.Proofs.Ytbakllppgekmoaa.Kinds
set_option linter.unusedVariables false
set_option linter.unusedSimpArgs false
theorem edit_eq (x y : Edit) : x = y ↔ x.f0 = y.f0 ∧ x.f1 = y.f1 ∧ x.f2 = y.f2 := by
  constructor
  · rintro rfl; exact ⟨rfl, rfl, rfl⟩
  · rintro ⟨a, b, c⟩; cases x; cases y; simp_all
abbrev ge (l : List Edit) (i : Nat) : Edit := l.getD i z33
theorem ge_mem {l : List Edit} {i : Nat} (h : i < l.length) : ge l i ∈ l := by
  unfold ge
  rw [List.getD_eq_getElem?_getD, List.getElem?_eq_getElem h]
  exact List.getElem_mem _
theorem mem_ge {l : List Edit} {e : Edit} (h : e ∈ l) : ∃ i, i < l.length ∧ ge l i = e := by
  obtain ⟨i, hi, rfl⟩ := List.getElem_of_mem h
  exact ⟨i, hi, by unfold ge; rw [List.getD_eq_getElem?_getD, List.getElem?_eq_getElem hi]; rfl⟩
def FewE (l : List Edit) : Prop := l.length ≤ 60 ∧ ∀ e ∈ l, e.f2.size ≤ 400
theorem few_of {l : List Edit} {k : Nat} (hk : ¬ k < l.length) (h : ∀ j, j < k → (ge l j).f2.size ≤ 400) (h60 : l.length ≤ 60) : FewE l := ⟨h60, fun e he => by
  obtain ⟨i, hi, rfl⟩ := mem_ge he
  exact h i (by omega)⟩
theorem mergeN_more : ∀ (n m : Nat) (a b : List Edit), a.length + b.length ≤ n → a.length + b.length ≤ m → mergeN n a b = mergeN m a b
  | 0, 0, _, _, _, _ => rfl
  | 0, m + 1, [], [], _, _ => rfl
  | 0, m + 1, x :: a, b, h, _ => by simp at h
  | 0, m + 1, [], y :: b, h, _ => by simp at h
  | n + 1, 0, [], [], _, _ => rfl
  | n + 1, 0, x :: a, b, _, h => by simp at h
  | n + 1, 0, [], y :: b, _, h => by simp at h
  | n + 1, m + 1, [], [], _, _ => rfl
  | n + 1, m + 1, [], y :: b, h1, h2 => by
    simp only [List.length_cons, List.length_nil] at h1 h2
    simp only [mergeN]
    rw [mergeN_more n m [] b (by simp only [List.length_nil]; omega) (by simp only [List.length_nil]; omega)]
  | n + 1, m + 1, x :: a, [], h1, h2 => by
    simp only [List.length_cons, List.length_nil] at h1 h2
    simp only [mergeN]
    rw [mergeN_more n m a [] (by simp only [List.length_nil]; omega) (by simp only [List.length_nil]; omega)]
  | n + 1, m + 1, x :: a, y :: b, h1, h2 => by
    simp only [List.length_cons] at h1 h2
    simp only [mergeN]
    rw [mergeN_more n m a b (by omega) (by omega), mergeN_more n m a (y :: b) (by simp only [List.length_cons]; omega) (by simp only [List.length_cons]; omega), mergeN_more n m (x :: a) b (by simp only [List.length_cons]; omega) (by simp only [List.length_cons]; omega)]
/-- From places on. -/
def mergeAt (a b : List Edit) (i j : Nat) : Option (List Edit) := mergeN (a.length + b.length) (a.drop i) (b.drop j)
theorem drop_ge {l : List Edit} {n : Nat} (hn : n < l.length) : l.drop n = ge l n :: l.drop (n + 1) := by
  rw [List.drop_eq_getElem_cons hn]
  unfold ge
  rw [List.getD_eq_getElem?_getD, List.getElem?_eq_getElem hn]
  rfl
theorem mergeAt_end {a b : List Edit} {i j : Nat} (hi : ¬ i < a.length) (hj : ¬ j < b.length) : mergeAt a b i j = some [] := by
  unfold mergeAt
  rw [List.drop_eq_nil_of_le (by omega), List.drop_eq_nil_of_le (by omega)]
  cases a.length + b.length <;> rfl
theorem mergeAt_b {a b : List Edit} {i j : Nat} (hi : ¬ i < a.length) (hj : j < b.length) : mergeAt a b i j = (mergeAt a b i (j + 1)).map (ge b j :: ·) := by
  unfold mergeAt
  rw [List.drop_eq_nil_of_le (show a.length ≤ i by omega), drop_ge hj]
  obtain ⟨n, hn⟩ : ∃ n, a.length + b.length = n + 1 := ⟨a.length + b.length - 1, by omega⟩
  rw [hn]
  simp only [mergeN]
  rw [mergeN_more n (n + 1) [] (b.drop (j + 1)) (by simp only [List.length_nil, List.length_drop]; omega) (by simp only [List.length_nil, List.length_drop]; omega)]
theorem mergeAt_a {a b : List Edit} {i j : Nat} (hi : i < a.length) (hj : ¬ j < b.length) : mergeAt a b i j = (mergeAt a b (i + 1) j).map (ge a i :: ·) := by
  unfold mergeAt
  rw [List.drop_eq_nil_of_le (show b.length ≤ j by omega), drop_ge hi]
  obtain ⟨n, hn⟩ : ∃ n, a.length + b.length = n + 1 := ⟨a.length + b.length - 1, by omega⟩
  rw [hn]
  simp only [mergeN]
  rw [mergeN_more n (n + 1) (a.drop (i + 1)) [] (by simp only [List.length_nil, List.length_drop]; omega) (by simp only [List.length_nil, List.length_drop]; omega)]
theorem mergeAt_two {a b : List Edit} {i j : Nat} (hi : i < a.length) (hj : j < b.length) : mergeAt a b i j = if ge a i = ge b j then (mergeAt a b (i + 1) (j + 1)).map (ge a i :: ·) else if Ahead (ge a i) (ge b j) then (mergeAt a b (i + 1) j).map (ge a i :: ·) else if Ahead (ge b j) (ge a i) then (mergeAt a b i (j + 1)).map (ge b j :: ·) else none := by
  unfold mergeAt
  obtain ⟨n, hn⟩ : ∃ n, a.length + b.length = n + 1 := ⟨a.length + b.length - 1, by omega⟩
  have e1 := mergeN_more n (n + 1) (a.drop (i + 1)) (b.drop (j + 1)) (by simp only [List.length_drop]; omega) (by simp only [List.length_drop]; omega)
  have e2 := mergeN_more n (n + 1) (a.drop (i + 1)) (b.drop j) (by simp only [List.length_drop]; omega) (by simp only [List.length_drop]; omega)
  have e3 := mergeN_more n (n + 1) (a.drop i) (b.drop (j + 1)) (by simp only [List.length_drop]; omega) (by simp only [List.length_drop]; omega)
  rw [hn, ← e1, ← e2, ← e3, drop_ge hi, drop_ge hj]
  simp only [mergeN]
theorem map_app {o : Option (List Edit)} {L : List Edit} {x : Edit} : (o.map (x :: ·)).map (L ++ ·) = o.map ((L ++ [x]) ++ ·) := by
  cases o with
  | none => rfl
  | some l => simp
end Go.Proofs.Ytbakllppgekmoaa.Cmp
