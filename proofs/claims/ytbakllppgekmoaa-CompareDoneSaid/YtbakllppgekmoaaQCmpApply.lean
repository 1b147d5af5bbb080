/- Pruned by wip/prune.py. -/
import Derived.Test.YtbakllppgekmoaaQCmpList
import Derived.Test.YtbakllppgekmoaaQCmpBetween
namespace Go.Proofs.Ytbakllppgekmoaa.Cmp
open Go Go.RowKit Go.Proofs.Ytbakllppgekmoaa.Given Go.Proofs.Ytbakllppgekmoaa.Kinds Go.Proofs.YtbakllppgekmoaaW.PrintWords
set_option linter.unusedVariables false
set_option linter.unusedSimpArgs false
def accA (s : ByteArray) (l : List Edit) : Nat → ByteArray × Int
  | 0 => (ByteArray.empty, 0)
  | k + 1 => ((accA s l k).1 ++ s.extract (accA s l k).2.toNat (ge l k).f0.toNat ++ (ge l k).f2, (ge l k).f1)
def doneV (s : ByteArray) (l : List Edit) : ByteArray := (accA s l l.length).1 ++ s.extract (accA s l l.length).2.toNat s.size
def applyV (s : ByteArray) (l : List Edit) : Option ByteArray := if InOrd s.size l then some (doneV s l) else none
theorem acc_at (s : ByteArray) (l : List Edit) (k : Nat) (h : 0 < k) : (accA s l k).2 = (ge l (k - 1)).f1 := by
  obtain ⟨k, rfl⟩ : ∃ m, k = m + 1 := ⟨k - 1, by omega⟩
  rfl
theorem bytes_app (a b : ByteArray) : bytesOf (a ++ b) = bytesOf a ++ bytesOf b := by
  unfold bytesOf
  rw [ByteArray.data_append, Array.toList_append, List.map_append]
theorem str_bytes (a : ByteArray) : strOfNums (bytesOf a) = a := by
  unfold strOfNums bytesOf
  cases a with
  | mk d =>
    congr 1
    apply Array.ext'
    simp [Function.comp_def]
theorem bytes_len (a : ByteArray) : (bytesOf a).length = a.size := bytesOf_length a
theorem acc_size (s : ByteArray) (l : List Edit) (m : Nat) (hF : ∀ e ∈ l, e.f2.size ≤ m) : ∀ k, k ≤ l.length → (accA s l k).1.size ≤ k * (s.size + m)
  | 0, _ => by show ByteArray.empty.size ≤ _; simp
  | k + 1, h => by
    have ih := acc_size s l m hF k (by omega)
    have h2 := hF (ge l k) (ge_mem (by omega))
    show ((accA s l k).1 ++ s.extract _ _ ++ _).size ≤ _
    rw [ByteArray.size_append, ByteArray.size_append, ByteArray.size_extract, Nat.succ_mul]
    omega
theorem acc_facts {s : ByteArray} {l : List Edit} {k : Nat} (h : ∀ j, j < k → OkAt s.size l j) : (k = 0 ∧ (accA s l k).2 = 0) ∨ (0 < k ∧ (accA s l k).2 = (ge l (k - 1)).f1 ∧ 0 ≤ (ge l (k - 1)).f0 ∧ (ge l (k - 1)).f0 ≤ (ge l (k - 1)).f1 ∧ (ge l (k - 1)).f1 ≤ s.size) := by
  rcases Nat.eq_zero_or_pos k with h0 | h0
  · subst h0; exact .inl ⟨rfl, rfl⟩
  · obtain ⟨a, b, c, _⟩ := h (k - 1) (by omega)
    exact .inr ⟨h0, acc_at s l k h0, a, b, c⟩
theorem apply_none {s : ByteArray} {l : List Edit} {k : Nat} (hk : k < l.length) (h : ¬ OkAt s.size l k) : applyV s l = none := if_neg fun z => h (z k hk)
theorem apply_some {s : ByteArray} {l : List Edit} {k : Nat} (hk : ¬ k < l.length) (hkl : k ≤ l.length) (h : ∀ j, j < k → OkAt s.size l j) : applyV s l = some ((accA s l k).1 ++ s.extract (accA s l k).2.toNat s.size) := by
  unfold applyV doneV
  rw [if_pos (show InOrd s.size l from fun i hi => h i (by omega)), show l.length = k by omega]
/-- How many runes an edit takes out and puts in. -/
def cost1 (s : ByteArray) (e : Edit) : Int := (if 0 ≤ e.f0 ∧ e.f0 ≤ e.f1 ∧ e.f1 ≤ s.size then ((runesV (s.extract e.f0.toNat e.f1.toNat)).length : Int) else 0) + ((runesV e.f2).length : Int)
def costN (s : ByteArray) (l : List Edit) : Nat → Int
  | 0 => 0
  | k + 1 => costN s l k + cost1 s (ge l k)
def costV (s : ByteArray) (l : List Edit) : Int := costN s l l.length
theorem cost1_le (s : ByteArray) (e : Edit) (m : Nat) (h : e.f2.size ≤ m) : 0 ≤ cost1 s e ∧ cost1 s e ≤ s.size + m := by
  unfold cost1
  have h1 := runes_le (s.extract e.f0.toNat e.f1.toNat)
  have h2 := runes_le e.f2
  rw [ByteArray.size_extract] at h1
  split <;> omega
theorem costN_le (s : ByteArray) (l : List Edit) (m : Nat) (hF : ∀ e ∈ l, e.f2.size ≤ m) : ∀ k, k ≤ l.length → 0 ≤ costN s l k ∧ costN s l k ≤ k * (s.size + m)
  | 0, _ => by simp [costN]
  | k + 1, h => by
    obtain ⟨h1, h2⟩ := costN_le s l m hF k (by omega)
    obtain ⟨h3, h4⟩ := cost1_le s (ge l k) m (hF _ (ge_mem (by omega)))
    have e : ((k + 1 : Nat) : Int) * ((s.size : Int) + m) = (k : Int) * ((s.size : Int) + m) + ((s.size : Int) + m) := by
      rw [show ((k + 1 : Nat) : Int) = (k : Int) + 1 by omega, Int.add_mul, Int.one_mul]
    have e2 : costN s l (k + 1) = costN s l k + cost1 s (ge l k) := rfl
    rw [e, e2]
    omega
theorem costN_room (s : ByteArray) (l : List Edit) (hs : s.size ≤ 100000) (hn : l.length ≤ 1000000) (hF : ∀ e ∈ l, e.f2.size ≤ 100000) (k : Nat) (hk : k ≤ l.length) : 0 ≤ costN s l k ∧ costN s l k ≤ 200000000000 := by
  obtain ⟨h1, h2⟩ := costN_le s l 100000 hF k hk
  have h3 : k * (s.size + 100000) ≤ 1000000 * 200000 := Nat.mul_le_mul (by omega) (by omega)
  refine ⟨h1, ?_⟩
  have h4 : ((k * (s.size + 100000) : Nat) : Int) = (k : Int) * ((s.size : Int) + ((100000 : Nat) : Int)) := by
    rw [Int.natCast_mul, Int.natCast_add]
  omega
theorem acc_room (s : ByteArray) (l : List Edit) (hs : s.size ≤ 100000) (hn : l.length ≤ 1000000) (hF : ∀ e ∈ l, e.f2.size ≤ 100000) (k : Nat) (hk : k ≤ l.length) : (accA s l k).1.size ≤ 200000000000 := by
  have h1 := acc_size s l 100000 hF k hk
  have h3 : k * (s.size + 100000) ≤ 1000000 * 200000 := Nat.mul_le_mul (by omega) (by omega)
  omega
def threeV (s a b : ByteArray) : Option ByteArray := (mergeV (diffV s a) (diffV s b)).bind (applyV s)
def ex1 : ByteArray := ByteArray.mk #[97, 98, 99, 100]
def ex2 : ByteArray := ByteArray.mk #[97, 120, 99, 100, 101]
def ex3 : ByteArray := ByteArray.mk #[97, 32, 98]
def ex4 : ByteArray := ByteArray.mk #[120, 32, 98]
def ex5 : ByteArray := ByteArray.mk #[97, 32, 121]
def ex6 : ByteArray := ByteArray.mk #[120, 32, 121]
theorem ex_len : (diffV ex1 ex2).length = 2 := by decide +kernel
theorem ex_cost : costV ex1 (diffV ex1 ex2) = 3 := by decide +kernel
theorem ex_three : threeV ex3 ex4 ex5 = some ex6 := by decide +kernel
theorem edits_small (ax bys : List Int) (b : ByteArray) (f : Int) : ∀ (ps : List (Int × Int)) (i j : Int), (editsV ax bys b f ps i j).length ≤ ps.length ∧ ∀ e ∈ editsV ax bys b f ps i j, e.f2.size ≤ b.size
  | [], i, j => ⟨Nat.le_refl _, fun e h => by cases h⟩
  | p :: ps, i, j => by
    obtain ⟨h1, h2⟩ := edits_small ax bys b f ps (p.1 + 1) (p.2 + 1)
    simp only [editsV]
    refine ⟨?_, fun e he => ?_⟩
    · rw [List.length_append, List.length_cons]
      split <;> simp only [List.length_cons, List.length_nil] <;> omega
    · rcases List.mem_append.1 he with he | he
      · split at he
        · rw [List.mem_singleton.1 he]
          show (b.extract _ _).size ≤ _
          rw [ByteArray.size_extract]
          omega
        · cases he
      · exact h2 e he
theorem diff_small (a b : ByteArray) : (diffV a b).length ≤ a.size + 1 ∧ ∀ e ∈ diffV a b, e.f2.size ≤ b.size := by
  obtain ⟨h1, h2⟩ := edits_small (atsV a) (atsV b) b (preV (lettersV a) (lettersV b)) (pairsV (midX (lettersV a) (lettersV b)) (midY (lettersV a) (lettersV b)) ++ [(((midX (lettersV a) (lettersV b)).length : Int), ((midY (lettersV a) (lettersV b)).length : Int))]) 0 0
  refine ⟨?_, h2⟩
  have h3 := pairs_len (midX (lettersV a) (lettersV b)) (midY (lettersV a) (lettersV b))
  have h4 := mid_len (lettersV a) (lettersV b)
  have h5 := ends_facts (lettersV a) (lettersV b)
  have h6 := letters_le a
  rw [List.length_append] at h1
  simp only [List.length_cons, List.length_nil] at h1
  have h7 : (diffV a b).length ≤ _ := h1
  omega
theorem mergeN_small : ∀ (n : Nat) (a b l : List Edit), mergeN n a b = some l → l.length ≤ n ∧ ∀ e ∈ l, e ∈ a ∨ e ∈ b
  | 0, a, b, l, h => by
    simp only [mergeN] at h
    injection h with h
    subst h
    exact ⟨Nat.le_refl _, fun e h => by cases h⟩
  | n + 1, [], [], l, h => by
    simp only [mergeN] at h
    injection h with h
    subst h
    exact ⟨Nat.zero_le _, fun e h => by cases h⟩
  | n + 1, [], y :: b, l, h => by
    simp only [mergeN, Option.map_eq_some_iff] at h
    obtain ⟨m, h1, rfl⟩ := h
    obtain ⟨h2, h3⟩ := mergeN_small n [] b m h1
    refine ⟨by simp only [List.length_cons]; omega, fun e he => ?_⟩
    rcases List.mem_cons.1 he with rfl | he
    · exact .inr (List.mem_cons_self ..)
    · exact (h3 e he).imp id (List.mem_cons_of_mem _)
  | n + 1, x :: a, [], l, h => by
    simp only [mergeN, Option.map_eq_some_iff] at h
    obtain ⟨m, h1, rfl⟩ := h
    obtain ⟨h2, h3⟩ := mergeN_small n a [] m h1
    refine ⟨by simp only [List.length_cons]; omega, fun e he => ?_⟩
    rcases List.mem_cons.1 he with rfl | he
    · exact .inl (List.mem_cons_self ..)
    · exact (h3 e he).imp (List.mem_cons_of_mem _) id
  | n + 1, x :: a, y :: b, l, h => by
    simp only [mergeN] at h
    split at h
    · obtain ⟨m, h1, rfl⟩ := Option.map_eq_some_iff.1 h
      obtain ⟨h2, h3⟩ := mergeN_small n a b m h1
      refine ⟨by simp only [List.length_cons]; omega, fun e he => ?_⟩
      rcases List.mem_cons.1 he with rfl | he
      · exact .inl (List.mem_cons_self ..)
      · exact (h3 e he).imp (List.mem_cons_of_mem _) (List.mem_cons_of_mem _)
    split at h
    · obtain ⟨m, h1, rfl⟩ := Option.map_eq_some_iff.1 h
      obtain ⟨h2, h3⟩ := mergeN_small n a (y :: b) m h1
      refine ⟨by simp only [List.length_cons]; omega, fun e he => ?_⟩
      rcases List.mem_cons.1 he with rfl | he
      · exact .inl (List.mem_cons_self ..)
      · exact (h3 e he).imp (List.mem_cons_of_mem _) id
    split at h
    · obtain ⟨m, h1, rfl⟩ := Option.map_eq_some_iff.1 h
      obtain ⟨h2, h3⟩ := mergeN_small n (x :: a) b m h1
      refine ⟨by simp only [List.length_cons]; omega, fun e he => ?_⟩
      rcases List.mem_cons.1 he with rfl | he
      · exact .inr (List.mem_cons_self ..)
      · exact (h3 e he).imp id (List.mem_cons_of_mem _)
    · cases h
theorem merge_small {s a b : ByteArray} {l : List Edit} (h : mergeV (diffV s a) (diffV s b) = some l) (hs : s.size ≤ 100000) (ha : a.size ≤ 100000) (hb : b.size ≤ 100000) : l.length ≤ 1000000 ∧ ∀ e ∈ l, e.f2.size ≤ 100000 := by
  obtain ⟨h1, h2⟩ := mergeN_small _ _ _ _ h
  obtain ⟨h3, h4⟩ := diff_small s a
  obtain ⟨h5, h6⟩ := diff_small s b
  refine ⟨by omega, fun e he => ?_⟩
  rcases h2 e he with h | h
  · have := h4 e h; omega
  · have := h6 e h; omega
end Go.Proofs.Ytbakllppgekmoaa.Cmp
