/- What the law asks of lists of edits, in plain Lean. -/
import Derived.Test.YtbakllppgekmoaaCmpMerge
namespace Go.Proofs.Ytbakllppgekmoaa.Cmp
open Go Go.RowKit Go.Proofs.Ytbakllppgekmoaa.Given Go.Proofs.Ytbakllppgekmoaa.Kinds
set_option linter.unusedVariables false
set_option linter.unusedSimpArgs false
theorem edit_eq (x y : Edit) : x = y ↔ x.f0 = y.f0 ∧ x.f1 = y.f1 ∧ x.f2 = y.f2 := by
  constructor
  · rintro rfl; exact ⟨rfl, rfl, rfl⟩
  · rintro ⟨a, b, c⟩; cases x; cases y; simp_all
abbrev ge (l : List Edit) (i : Nat) : Edit := l.getD i z33
theorem ge_mem {l : List Edit} {i : Nat} (h : i < l.length) : ge l i ∈ l := by
  unfold ge
  rw [List.getD_eq_getElem?_getD, List.getElem?_eq_getElem h]
  exact List.getElem_mem _
theorem mem_ge {l : List Edit} {e : Edit} (h : e ∈ l) : ∃ i, i < l.length ∧ ge l i = e := by
  obtain ⟨i, hi, rfl⟩ := List.getElem_of_mem h
  exact ⟨i, hi, by unfold ge; rw [List.getD_eq_getElem?_getD, List.getElem?_eq_getElem hi]; rfl⟩
def FewE (l : List Edit) : Prop := l.length ≤ 60 ∧ ∀ e ∈ l, e.f2.size ≤ 400
theorem few_of {l : List Edit} {k : Nat} (hk : ¬ k < l.length) (h : ∀ j, j < k → (ge l j).f2.size ≤ 400) (h60 : l.length ≤ 60) : FewE l := ⟨h60, fun e he => by
  obtain ⟨i, hi, rfl⟩ := mem_ge he
  exact h i (by omega)⟩
theorem in_yes {l : List Edit} {e : Edit} {i : Nat} (hi : i < l.length) (h : ge l i = e) : decide (e ∈ l) = true := decide_eq_true (h ▸ ge_mem hi)
theorem in_no {l : List Edit} {e : Edit} {k : Nat} (hk : ¬ k < l.length) (h : ∀ j, j < k → ge l j ≠ e) : decide (e ∈ l) = false := decide_eq_false fun he => by
  obtain ⟨i, hi, h2⟩ := mem_ge he
  exact h i (by omega) h2
theorem same_yes {a b : List Edit} {k : Nat} (hl : a.length = b.length) (hk : ¬ k < a.length) (h : ∀ j, j < k → ge a j = ge b j) : decide (a = b) = true := decide_eq_true (by
  apply List.ext_getElem hl
  intro i h1 h2
  have := h i (by omega)
  unfold ge at this
  rwa [List.getD_eq_getElem?_getD, List.getD_eq_getElem?_getD, List.getElem?_eq_getElem h1, List.getElem?_eq_getElem h2] at this)
theorem same_no {a b : List Edit} (h : a.length ≠ b.length ∨ ∃ j, ge a j ≠ ge b j) : decide (a = b) = false := decide_eq_false fun e => by
  subst e
  rcases h with h | ⟨j, h⟩
  · exact h rfl
  · exact h rfl
def Comp (x y : Edit) : Prop := x = y ∨ Ahead x y ∨ Ahead y x
theorem compat_of {a b : List Edit} {k : Nat} (hk : ¬ k < a.length) (h : ∀ p q, p < k → q < b.length → Comp (ge a p) (ge b q)) : Compat a b := fun x hx y hy => by
  obtain ⟨i, hi, rfl⟩ := mem_ge hx
  obtain ⟨j, hj, rfl⟩ := mem_ge hy
  exact h i j (by omega) hj
theorem compat_no {a b : List Edit} {i j : Nat} (hi : i < a.length) (hj : j < b.length) (h : ¬ Comp (ge a i) (ge b j)) : ¬ Compat a b := fun z => h (z _ (ge_mem hi) _ (ge_mem hj))
def foldK (a b : List Edit) (k : Nat) : List Edit := (b.take k).foldl (addE a) a
theorem foldK_next (a b : List Edit) (k : Nat) (h : k < b.length) : foldK a b (k + 1) = addE a (foldK a b k) (ge b k) := by
  unfold foldK ge
  rw [List.take_add_one, List.getElem?_eq_getElem h, List.foldl_append, List.getD_eq_getElem?_getD, List.getElem?_eq_getElem h]
  rfl
theorem refMerge_some {a b : List Edit} {k : Nat} (h : Compat a b) (hk : ¬ k < b.length) : refMergeV a b = some (foldK a b k) := by
  unfold refMergeV foldK
  rw [if_pos h, List.take_of_length_le (by omega)]
theorem pos_step {e : Edit} {l : List Edit} {n : Nat} (hn : n < l.length) (h : Ahead (ge l n) e) : posE e (l.drop n) = posE e (l.drop (n + 1)) + 1 := by
  have : l.drop n = ge l n :: l.drop (n + 1) := by
    rw [List.drop_eq_getElem_cons hn]
    unfold ge
    rw [List.getD_eq_getElem?_getD, List.getElem?_eq_getElem hn]
    rfl
  rw [this]
  simp only [posE]
  rw [if_pos h]
theorem pos_stop {e : Edit} {l : List Edit} {n : Nat} (h : ¬ n < l.length ∨ ¬ Ahead (ge l n) e) : posE e (l.drop n) = 0 := by
  by_cases hn : n < l.length
  · have : l.drop n = ge l n :: l.drop (n + 1) := by
      rw [List.drop_eq_getElem_cons hn]
      unfold ge
      rw [List.getD_eq_getElem?_getD, List.getElem?_eq_getElem hn]
      rfl
    rw [this]
    simp only [posE]
    rw [if_neg (h.resolve_left (fun z => z hn))]
  · rw [List.drop_eq_nil_of_le (by omega)]
    rfl
theorem add_len (a out : List Edit) (e : Edit) : (addE a out e).length ≤ out.length + 1 := by
  unfold addE insE
  split
  · omega
  · simp only [List.length_append, List.length_take, List.length_drop, List.length_cons, List.length_nil]
    have := posE_le e out
    omega
theorem mergeN_more : ∀ (n m : Nat) (a b : List Edit), a.length + b.length ≤ n → a.length + b.length ≤ m → mergeN n a b = mergeN m a b
  | 0, 0, _, _, _, _ => rfl
  | 0, m + 1, [], [], _, _ => rfl
  | 0, m + 1, x :: a, b, h, _ => by simp at h
  | 0, m + 1, [], y :: b, h, _ => by simp at h
  | n + 1, 0, [], [], _, _ => rfl
  | n + 1, 0, x :: a, b, _, h => by simp at h
  | n + 1, 0, [], y :: b, _, h => by simp at h
  | n + 1, m + 1, [], [], _, _ => rfl
  | n + 1, m + 1, [], y :: b, h1, h2 => by
    simp only [List.length_cons, List.length_nil] at h1 h2
    simp only [mergeN]
    rw [mergeN_more n m [] b (by simp only [List.length_nil]; omega) (by simp only [List.length_nil]; omega)]
  | n + 1, m + 1, x :: a, [], h1, h2 => by
    simp only [List.length_cons, List.length_nil] at h1 h2
    simp only [mergeN]
    rw [mergeN_more n m a [] (by simp only [List.length_nil]; omega) (by simp only [List.length_nil]; omega)]
  | n + 1, m + 1, x :: a, y :: b, h1, h2 => by
    simp only [List.length_cons] at h1 h2
    simp only [mergeN]
    rw [mergeN_more n m a b (by omega) (by omega), mergeN_more n m a (y :: b) (by simp only [List.length_cons]; omega) (by simp only [List.length_cons]; omega), mergeN_more n m (x :: a) b (by simp only [List.length_cons]; omega) (by simp only [List.length_cons]; omega)]
/-- From places on. -/
def mergeAt (a b : List Edit) (i j : Nat) : Option (List Edit) := mergeN (a.length + b.length) (a.drop i) (b.drop j)
theorem drop_ge {l : List Edit} {n : Nat} (hn : n < l.length) : l.drop n = ge l n :: l.drop (n + 1) := by
  rw [List.drop_eq_getElem_cons hn]
  unfold ge
  rw [List.getD_eq_getElem?_getD, List.getElem?_eq_getElem hn]
  rfl
theorem mergeAt_end {a b : List Edit} {i j : Nat} (hi : ¬ i < a.length) (hj : ¬ j < b.length) : mergeAt a b i j = some [] := by
  unfold mergeAt
  rw [List.drop_eq_nil_of_le (by omega), List.drop_eq_nil_of_le (by omega)]
  cases a.length + b.length <;> rfl
theorem mergeAt_b {a b : List Edit} {i j : Nat} (hi : ¬ i < a.length) (hj : j < b.length) : mergeAt a b i j = (mergeAt a b i (j + 1)).map (ge b j :: ·) := by
  unfold mergeAt
  rw [List.drop_eq_nil_of_le (show a.length ≤ i by omega), drop_ge hj]
  obtain ⟨n, hn⟩ : ∃ n, a.length + b.length = n + 1 := ⟨a.length + b.length - 1, by omega⟩
  rw [hn]
  simp only [mergeN]
  rw [mergeN_more n (n + 1) [] (b.drop (j + 1)) (by simp only [List.length_nil, List.length_drop]; omega) (by simp only [List.length_nil, List.length_drop]; omega)]
theorem mergeAt_a {a b : List Edit} {i j : Nat} (hi : i < a.length) (hj : ¬ j < b.length) : mergeAt a b i j = (mergeAt a b (i + 1) j).map (ge a i :: ·) := by
  unfold mergeAt
  rw [List.drop_eq_nil_of_le (show b.length ≤ j by omega), drop_ge hi]
  obtain ⟨n, hn⟩ : ∃ n, a.length + b.length = n + 1 := ⟨a.length + b.length - 1, by omega⟩
  rw [hn]
  simp only [mergeN]
  rw [mergeN_more n (n + 1) (a.drop (i + 1)) [] (by simp only [List.length_nil, List.length_drop]; omega) (by simp only [List.length_nil, List.length_drop]; omega)]
theorem mergeAt_two {a b : List Edit} {i j : Nat} (hi : i < a.length) (hj : j < b.length) : mergeAt a b i j = if ge a i = ge b j then (mergeAt a b (i + 1) (j + 1)).map (ge a i :: ·) else if Ahead (ge a i) (ge b j) then (mergeAt a b (i + 1) j).map (ge a i :: ·) else if Ahead (ge b j) (ge a i) then (mergeAt a b i (j + 1)).map (ge b j :: ·) else none := by
  unfold mergeAt
  obtain ⟨n, hn⟩ : ∃ n, a.length + b.length = n + 1 := ⟨a.length + b.length - 1, by omega⟩
  have e1 := mergeN_more n (n + 1) (a.drop (i + 1)) (b.drop (j + 1)) (by simp only [List.length_drop]; omega) (by simp only [List.length_drop]; omega)
  have e2 := mergeN_more n (n + 1) (a.drop (i + 1)) (b.drop j) (by simp only [List.length_drop]; omega) (by simp only [List.length_drop]; omega)
  have e3 := mergeN_more n (n + 1) (a.drop i) (b.drop (j + 1)) (by simp only [List.length_drop]; omega) (by simp only [List.length_drop]; omega)
  rw [hn, ← e1, ← e2, ← e3, drop_ge hi, drop_ge hj]
  simp only [mergeN]
theorem map_app {o : Option (List Edit)} {L : List Edit} {x : Edit} : (o.map (x :: ·)).map (L ++ ·) = o.map ((L ++ [x]) ++ ·) := by
  cases o with
  | none => rfl
  | some l => simp
end Go.Proofs.Ytbakllppgekmoaa.Cmp
