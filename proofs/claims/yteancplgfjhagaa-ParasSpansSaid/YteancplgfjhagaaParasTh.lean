/- Lengths of paragraphs: plain laws. -/
import Derived.Test.YteancplgfjhagaaSxKinds
namespace Go.Proofs.Yteancplgfjhagaa.Paras
open Go Go.RowKit Go.Proofs.YteancplgfjhagaaW.PrintWords Go.Proofs.Yteancplgfjhagaa.Kinds
set_option linter.unusedVariables false
set_option linter.unusedSimpArgs false
/-- What is cut of the first bytes, and where the rest begins. -/
def cut (s : ByteArray) : Nat → List Int × Nat
  | 0 => ([], 0)
  | k + 1 => if Sx.byteAt s k = 10 then ((cut s k).1 ++ [(k : Int) + 1 - ((cut s k).2 : Int)], k + 1) else cut s k
def lensOf (s : ByteArray) : List Int := if ((cut s s.size).2 : Int) < s.size then (cut s s.size).1 ++ [(s.size : Int) - ((cut s s.size).2 : Int)] else (cut s s.size).1
def openOf (s : ByteArray) : Bool := decide (((cut s s.size).2 : Int) < s.size)
theorem cut_nl {s : ByteArray} {k : Nat} (h : Sx.byteAt s k = 10) : cut s (k + 1) = ((cut s k).1 ++ [(k : Int) + 1 - ((cut s k).2 : Int)], k + 1) := by rw [cut, if_pos h]
theorem cut_no {s : ByteArray} {k : Nat} (h : ¬ Sx.byteAt s k = 10) : cut s (k + 1) = cut s k := by rw [cut, if_neg h]
theorem cut_le (s : ByteArray) (k : Nat) : (cut s k).2 ≤ k ∧ (cut s k).1.length ≤ k ∧ (cut s k).1.sum = (cut s k).2 ∧ ∀ n ∈ (cut s k).1, 1 ≤ n := by
  induction k with
  | zero => simp [cut]
  | succ k ih =>
    obtain ⟨h1, h2, h3, h4⟩ := ih
    by_cases h : Sx.byteAt s k = 10
    · rw [cut_nl h]
      refine ⟨Nat.le_refl _, by simp; exact h2, ?_, fun n hn => ?_⟩
      · simp only [List.sum_append, h3, List.sum_cons, List.sum_nil]; omega
      · rcases List.mem_append.1 hn with hn | hn
        · exact h4 n hn
        · rw [List.mem_singleton.1 hn]; omega
    · rw [cut_no h]; exact ⟨by omega, by omega, h3, h4⟩
theorem lensOf_ok (s : ByteArray) : (lensOf s).length ≤ s.size + 1 ∧ (lensOf s).sum = s.size ∧ (∀ n ∈ lensOf s, 1 ≤ n) := by
  obtain ⟨h1, h2, h3, h4⟩ := cut_le s s.size
  unfold lensOf
  split
  · refine ⟨by simp; exact h2, ?_, fun n hn => ?_⟩
    · simp only [List.sum_append, h3, List.sum_cons, List.sum_nil]; omega
    · rcases List.mem_append.1 hn with hn | hn
      · exact h4 n hn
      · rw [List.mem_singleton.1 hn]; omega
  · exact ⟨by omega, by omega, h4⟩
/-! ### sums -/
theorem sum_take_succ (l : List Int) (k : Nat) (hk : k < l.length) : (l.take (k + 1)).sum = (l.take k).sum + l.getD k 0 := by
  rw [List.take_succ_eq_append_getElem hk, List.sum_append]; simp [List.getD, hk]
theorem sum_nonneg {l : List Int} (h : ∀ n ∈ l, 1 ≤ n) : 0 ≤ l.sum := by
  induction l with
  | nil => simp
  | cons a l ih => have := h a List.mem_cons_self; have := ih (fun n hn => h n (List.mem_cons_of_mem _ hn)); simp only [List.sum_cons]; omega
theorem sum_split (l : List Int) (k : Nat) : l.sum = (l.take k).sum + (l.drop k).sum := by
  conv => lhs; rw [← List.take_append_drop k l]
  rw [List.sum_append]
theorem sum_take_le {l : List Int} (h : ∀ n ∈ l, 1 ≤ n) (k : Nat) : 0 ≤ (l.take k).sum ∧ (l.take k).sum ≤ l.sum := by
  have h1 := sum_nonneg (fun n hn => h n (List.mem_of_mem_take hn) : ∀ n ∈ l.take k, 1 ≤ n)
  have h2 := sum_nonneg (fun n hn => h n (List.mem_of_mem_drop hn) : ∀ n ∈ l.drop k, 1 ≤ n)
  have := sum_split l k
  omega
theorem getD_pos {l : List Int} (h : ∀ n ∈ l, 1 ≤ n) (k : Nat) (hk : k < l.length) : 1 ≤ l.getD k 0 := h _ (by simp [List.getD, hk])
theorem len_le_sum {l : List Int} (h : ∀ n ∈ l, 1 ≤ n) : (l.length : Int) ≤ l.sum := by
  induction l with
  | nil => simp
  | cons a l ih => have := h a List.mem_cons_self; have := ih (fun n hn => h n (List.mem_cons_of_mem _ hn)); simp only [List.sum_cons, List.length_cons]; omega
/-- The paragraph of a byte. -/
def findP : List Int → Int → Nat
  | [], _ => 0
  | n :: l, a => if a < n then 0 else findP l (a - n) + 1
theorem findP_drop (l : List Int) (k : Nat) (hk : k < l.length) (a : Int) : findP (l.drop k) a = if a < l.getD k 0 then 0 else findP (l.drop (k + 1)) (a - l.getD k 0) + 1 := by
  have e : l.drop k = l.getD k 0 :: l.drop (k + 1) := by rw [List.drop_eq_getElem_cons hk]; simp [List.getD, hk]
  rw [e, findP]
theorem findP_spec {l : List Int} : ∀ {a : Int}, 0 ≤ a → a < l.sum → (∀ n ∈ l, 1 ≤ n) → findP l a < l.length ∧ (l.take (findP l a)).sum ≤ a ∧ a < (l.take (findP l a + 1)).sum := by
  induction l with
  | nil => intro a h0 h1 _; simp at h1; omega
  | cons n l ih =>
    intro a h0 h1 h2
    rw [findP]
    by_cases h : a < n
    · rw [if_pos h]; simp; omega
    · rw [if_neg h]
      simp only [List.sum_cons] at h1
      have := ih (a := a - n) (by omega) (by omega) (fun m hm => h2 m (List.mem_cons_of_mem _ hm))
      simp only [List.length_cons, List.take_succ_cons, List.sum_cons]
      omega
theorem findP_eq {l : List Int} : ∀ {a : Int} {p : Nat}, (∀ n ∈ l, 1 ≤ n) → 0 ≤ a → p < l.length → (l.take p).sum ≤ a → a < (l.take (p + 1)).sum → findP l a = p := by
  induction l with
  | nil => intro a p _ _ hp; simp at hp
  | cons n l ih =>
    intro a p h h0 hp h1 h2
    have hn := h n List.mem_cons_self
    rw [findP]
    cases p with
    | zero => simp at h2; rw [if_pos h2]
    | succ p =>
      simp only [List.take_succ_cons, List.sum_cons] at h1 h2
      have hq := (sum_take_le (fun m hm => h m (List.mem_cons_of_mem _ hm) : ∀ m ∈ l, 1 ≤ m) p).1
      rw [if_neg (by omega), ih (fun m hm => h m (List.mem_cons_of_mem _ hm)) (by omega) (by simpa using hp) (by omega) (by omega)]
/-! ### the plain answers -/
def starts (s : ByteArray) : Nat → List Int
  | 0 => []
  | k + 1 => if k = 0 ∨ Sx.byteAt s (k - 1) = 10 then starts s k ++ [(k : Int)] else starts s k
def startsOf (s : ByteArray) : List Int := starts s s.size ++ [(s.size : Int)]
/-- Where the paragraphs begin, and where the last one ends. -/
def bounds (l : List Int) : List Int := (List.range (l.length + 1)).map fun k => (l.take k).sum
theorem bounds_snoc (l : List Int) (n : Int) : bounds (l ++ [n]) = bounds l ++ [l.sum + n] := by
  unfold bounds
  rw [List.length_append, List.length_singleton, List.range_succ, List.map_append]
  congr 1
  · refine List.map_congr_left fun k hk => ?_
    rw [List.take_append_of_le_length (by have := List.mem_range.1 hk; omega)]
  · show [((l ++ [n]).take (l.length + 1)).sum] = _
    rw [List.take_of_length_le (by simp), List.sum_append]; simp
theorem cut_end (s : ByteArray) (k : Nat) : (cut s k).2 = k ↔ k = 0 ∨ Sx.byteAt s (k - 1) = 10 := by
  cases k with
  | zero => simp [cut]
  | succ k =>
    have := (cut_le s k).1
    by_cases h : Sx.byteAt s k = 10
    · rw [cut_nl h]; simp [h]
    · rw [cut_no h]; simp [h]; omega
theorem bounds_cut (s : ByteArray) (k : Nat) : bounds (cut s k).1 = starts s k ++ (if (cut s k).2 = k then [(k : Int)] else []) := by
  induction k with
  | zero => simp [cut, bounds, starts]
  | succ k ih =>
    have h0 := cut_le s k
    have e : starts s (k + 1) = bounds (cut s k).1 := by
      rw [ih, starts]
      by_cases h : (cut s k).2 = k
      · rw [if_pos h, if_pos ((cut_end s k).1 h)]
      · rw [if_neg h, if_neg (fun e => h ((cut_end s k).2 e)), List.append_nil]
    by_cases h : Sx.byteAt s k = 10
    · rw [cut_nl h]
      simp only [if_true, if_pos]
      rw [bounds_snoc, e, h0.2.2.1, show ((cut s k).2 : Int) + ((k : Int) + 1 - ((cut s k).2 : Int)) = ((k + 1 : Nat) : Int) by omega]
    · rw [cut_no h, if_neg (by omega), e, List.append_nil]
theorem starts_bounds (s : ByteArray) : startsOf s = bounds (lensOf s) := by
  have h := bounds_cut s s.size
  have h0 := cut_le s s.size
  unfold startsOf lensOf
  split
  · rename_i h1
    rw [if_neg (by omega), List.append_nil] at h
    rw [bounds_snoc, h, h0.2.2.1]
    congr 2
    omega
  · rename_i h1
    rw [if_pos (by omega)] at h
    rw [h]
theorem bounds_len (l : List Int) : (bounds l).length = l.length + 1 := by simp [bounds]
theorem bounds_getD (l : List Int) (k : Nat) (hk : k ≤ l.length) : (bounds l).getD k 0 = (l.take k).sum := by
  unfold bounds
  rw [List.getD_eq_getElem?_getD, List.getElem?_map, List.getElem?_range (by omega)]
  rfl
abbrev openP (s : ByteArray) : Prop := 0 < s.size ∧ ¬ Sx.byteAt s (s.size - 1) = 10
theorem open_eq (s : ByteArray) : openOf s = decide (openP s) := by
  unfold openOf
  have h := cut_end s s.size
  have h0 := (cut_le s s.size).1
  rw [decide_eq_decide]
  constructor
  · intro h1
    have h2 : ¬ (s.size = 0 ∨ Sx.byteAt s (s.size - 1) = 10) := fun e => by have := h.2 e; omega
    exact ⟨by omega, fun e => h2 (.inr e)⟩
  · intro h1
    have : ¬ (cut s s.size).2 = s.size := fun e => by rcases h.1 e with h2 | h2; omega; exact h1.2 h2
    omega
/-- How many line ends are ahead. -/
def nlc (s : ByteArray) : Nat → Nat
  | 0 => 0
  | k + 1 => if Sx.byteAt s k = 10 then nlc s k + 1 else nlc s k
theorem nlc_cut (s : ByteArray) (k : Nat) : nlc s k = (cut s k).1.length := by
  induction k with
  | zero => rfl
  | succ k ih =>
    rw [nlc]
    by_cases h : Sx.byteAt s k = 10
    · rw [if_pos h, cut_nl h]; simp [ih]
    · rw [if_neg h, cut_no h]; exact ih
theorem cut_prefix (s : ByteArray) (k : Nat) : ∀ m, (cut s k).1 = (cut s (k + m)).1.take (cut s k).1.length := by
  intro m
  induction m with
  | zero => simp
  | succ m ih =>
    have hle : (cut s k).1.length ≤ (cut s (k + m)).1.length := by rw [ih]; simp; omega
    rw [show k + (m + 1) = (k + m) + 1 by omega]
    by_cases h : Sx.byteAt s (k + m) = 10
    · rw [cut_nl h]; simp only; rw [List.take_append_of_le_length hle]; exact ih
    · rw [cut_no h]; exact ih
theorem lens_prefix (s : ByteArray) (k : Nat) (hk : k ≤ s.size) : (lensOf s).take (cut s k).1.length = (cut s k).1 := by
  have h := cut_prefix s k (s.size - k)
  rw [show k + (s.size - k) = s.size by omega] at h
  have hle : (cut s k).1.length ≤ (cut s s.size).1.length := by rw [h]; simp; omega
  unfold lensOf
  split
  · rw [List.take_append_of_le_length hle]; exact h.symm
  · exact h.symm
theorem find_eq (s : ByteArray) (k : Nat) (hk : k < s.size) : findP (lensOf s) (k : Int) = nlc s k := by
  have hl := lensOf_ok s
  rw [nlc_cut]
  have h1 := cut_le s k
  have h2 := lens_prefix s k (by omega)
  -- the paragraph of byte k ends behind it
  have key : ∀ m, k + m ≤ s.size → (cut s (k + m)).1.length = (cut s k).1.length → (cut s (k + m)).2 = (cut s k).2 := by
    intro m
    induction m with
    | zero => intro _ _; rfl
    | succ m ih =>
      intro hm he
      rw [show k + (m + 1) = (k + m) + 1 by omega] at he ⊢
      have h3 := cut_prefix s k m
      have hle : (cut s k).1.length ≤ (cut s (k + m)).1.length := by rw [h3]; simp; omega
      by_cases h : Sx.byteAt s (k + m) = 10
      · rw [cut_nl h] at he; simp at he; omega
      · rw [cut_no h] at he ⊢; exact ih (by omega) he
  by_cases hmore : (cut s k).1.length < (lensOf s).length
  · refine findP_eq hl.2.2 (by omega) hmore (by rw [h2, h1.2.2.1]; omega) ?_
    rcases Nat.lt_or_ge (k : Nat) ((lensOf s).take ((cut s k).1.length + 1)).sum.toNat with h3 | h3
    · omega
    · exfalso
      -- the first place behind k where the next paragraph is cut
      have step : ∀ m, k + m ≤ s.size → (cut s (k + m)).1.length ≤ (cut s k).1.length ∨ (k : Int) < ((lensOf s).take ((cut s k).1.length + 1)).sum := by
        intro m
        induction m with
        | zero => intro _; exact .inl (Nat.le_refl _)
        | succ m ih =>
          intro hm
          rcases ih (by omega) with h4 | h4
          · rw [show k + (m + 1) = (k + m) + 1 by omega]
            by_cases h : Sx.byteAt s (k + m) = 10
            · have h5 := cut_prefix s k m
              have hle : (cut s k).1.length ≤ (cut s (k + m)).1.length := by rw [h5]; simp; omega
              have h6 := lens_prefix s (k + m + 1) (by omega)
              have h7 := cut_le s (k + m + 1)
              rw [cut_nl h] at h6 h7
              simp only [List.length_append, List.length_singleton] at h6 h7
              refine .inr ?_
              rw [show (cut s k).1.length + 1 = (cut s (k + m)).1.length + 1 by omega, h6, h7.2.2.1]
              omega
            · rw [cut_no h]; exact .inl h4
          · exact .inr h4
      rcases step (s.size - k) (by omega) with h4 | h4
      · rw [show k + (s.size - k) = s.size by omega] at h4
        -- nothing is cut behind k: the last paragraph is the rest
        have h5 := cut_prefix s k (s.size - k)
        rw [show k + (s.size - k) = s.size by omega] at h5
        have hle : (cut s k).1.length ≤ (cut s s.size).1.length := by rw [h5]; simp; omega
        have h6 : (lensOf s).take ((cut s k).1.length + 1) = lensOf s := by
          refine List.take_of_length_le ?_
          unfold lensOf
          split
          · simp; omega
          · omega
        rw [h6, hl.2.1] at h3
        omega
      · omega
  · exfalso
    have h3 : (lensOf s).take (cut s k).1.length = lensOf s := List.take_of_length_le (by omega)
    rw [h3] at h2
    have h4 := hl.2.1
    rw [h2, h1.2.2.1] at h4
    omega
end Go.Proofs.Yteancplgfjhagaa.Paras
