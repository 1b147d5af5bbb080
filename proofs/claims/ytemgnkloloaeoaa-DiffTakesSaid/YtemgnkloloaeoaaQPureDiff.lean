/- Pruned by wip/prune.py. -/
import Derived.Test.YtemgnkloloaeoaaQPAllx7
set_option linter.unusedVariables false
set_option linter.unusedSimpArgs false
namespace Go.Proofs.Ytemgnkloloaeoaa.Pure
open Go.RowKit Go.Proofs.Ytemgnkloloaeoaa.PAll Go.Proofs.YtemgnkloloaeoaaW.PrintWords Go.Proofs.YtemgnkloloaeoaaW.PrintLast Go.Proofs.YtemgnkloloaeoaaW.PrintMore Go.Proofs.Ytemgnkloloaeoaa.Given
abbrev Line := S39
abbrev Page := S31
abbrev Region := S34
abbrev ln (a : List Line) (i : Int) : Line := rd_T39 a i
abbrev pgs (a : List Page) (i : Int) : List Line := (rd_T31 a i).f0
theorem bind_s {α β : Type} (a : α) (f : α → Option β) : (some a).bind f = f a := congrArg (fun x => x) rfl
theorem w_id {x : Int} (h1 : -9223372036854775808 ≤ x) (h2 : x < 9223372036854775808) : wrap64 x = x := by unfold wrap64; omega
theorem ln_nat (a : List Line) (i : Nat) (h : i < a.length) : ln a (i : Int) = a[i] := by unfold ln rd_T39; simp [List.getD, h]
theorem pgs_nat (a : List Page) (i : Nat) (h : i < a.length) : pgs a (i : Int) = a[i].f0 := by unfold pgs rd_T31; simp [List.getD, h]
theorem leo_up {α : Type} {f : Nat → Option α} (hm : ∀ k, LeO (f k) (f (k + 1))) {k n : Nat} (hk : k ≤ n) {r : α} (h : f k = some r) : f n = some r := by
  induction hk with
  | refl => exact h
  | step _ ih => exact hm _ _ ih
/-- A line that is tried. -/
def ShortLine (l : Line) : Prop := l.f1.length ≤ 20 ∧ ∀ r ∈ l.f1, r.f0 ≤ 1099511627776
def Short (x : List Line) : Prop := x.length ≤ 40 ∧ ∀ l ∈ x, ShortLine l
def Few (x : List Page) : Prop := x.length ≤ 20 ∧ ∀ p ∈ x, Short p.f0
theorem short_at {x : List Line} (h : Short x) (i : Int) (h0 : 0 ≤ i) (h1 : i < x.length) : ShortLine (ln x i) := by
  obtain ⟨n, rfl⟩ : ∃ n : Nat, i = n := ⟨i.toNat, by omega⟩
  rw [ln_nat x n (by omega)]
  exact h.2 _ (List.getElem_mem _)
theorem few_at {x : List Page} (h : Few x) (i : Int) (h0 : 0 ≤ i) (h1 : i < x.length) : Short (pgs x i) := by
  obtain ⟨n, rfl⟩ : ∃ n : Nat, i = n := ⟨i.toNat, by omega⟩
  rw [pgs_nat x n (by omega)]
  exact h.2 _ (List.getElem_mem _)
theorem short_l (x : List Line) (hx : x.length ≤ 40) : ∀ (n : Nat), ∀ i : Nat, i + n = x.length → (∀ k, n * 22 + 1 ≤ k → ∃ b, regletlaw14_short.l0 k x i = some b ∧ (b = true → ∀ j, i ≤ j → (h : j < x.length) → ShortLine x[j])) := by
  intro n
  induction n with
  | zero =>
    intro i hi k hk
    obtain ⟨k, rfl⟩ : ∃ m, k = m + 1 := ⟨k - 1, by omega⟩
    simp only [regletlaw14_short.l0]
    rw [if_neg (by omega)]
    exact ⟨true, rfl, fun _ j h1 h2 => by omega⟩
  | succ n ih =>
    intro i hi k hk
    obtain ⟨k, rfl⟩ : ∃ m, k = m + 1 := ⟨k - 1, by omega⟩
    have hil : i < x.length := by omega
    simp only [regletlaw14_short.l0]
    rw [if_pos (by omega), if_pos (by omega)]
    have e := ln_nat x i hil
    unfold ln at e
    by_cases hr : (((rd_T39 x i).f1).length : Int) > 20
    · rw [if_pos hr]; exact ⟨false, rfl, fun h => by cases h⟩
    rw [if_neg hr]
    have inner : ∀ (m : Nat), ∀ c : Nat, c + m = (rd_T39 x i).f1.length → ∀ k, n * 22 + 1 + m + 1 ≤ k → (∀ j, j < c → (rd_T57 (rd_T39 x i).f1 (j : Int)).f0 ≤ 1099511627776) →
        ∃ b, regletlaw14_short.l1 k x i c = some b ∧ (b = true → ∀ j, i ≤ j → (h : j < x.length) → ShortLine x[j]) := by
      intro m
      induction m with
      | zero =>
        intro c hc k hk hg
        obtain ⟨k, rfl⟩ : ∃ m, k = m + 1 := ⟨k - 1, by omega⟩
        simp only [regletlaw14_short.l1]
        rw [if_pos (by omega), if_pos (by omega), if_neg (by omega)]
        obtain ⟨b, h1, h2⟩ := ih (i + 1) (by omega) k (by omega)
        rw [w_id (by omega) (by omega)]
        rw [show ((i : Int) + 1) = ((i + 1 : Nat) : Int) by omega]
        refine ⟨b, h1, fun hb j hj hjl => ?_⟩
        by_cases hji : j = i
        · subst hji
          rw [e] at hr hc hg
          refine ⟨by omega, fun r hr => ?_⟩
          obtain ⟨q, hq, rfl⟩ := List.getElem_of_mem hr
          have := hg q (by omega)
          unfold rd_T57 at this
          simpa [List.getD, hq] using this
        · exact h2 hb j (by omega) hjl
      | succ m ihm =>
        intro c hc k hk hg
        obtain ⟨k, rfl⟩ : ∃ m, k = m + 1 := ⟨k - 1, by omega⟩
        simp only [regletlaw14_short.l1]
        rw [if_pos (by omega), if_pos (by omega), if_pos (by omega), if_pos (by omega)]
        by_cases hbig : (rd_T57 (rd_T39 x i).f1 (c : Int)).f0 > 1099511627776
        · rw [if_pos hbig]; exact ⟨false, rfl, fun h => by cases h⟩
        rw [if_neg hbig, w_id (by omega) (by omega), show ((c : Int) + 1) = ((c + 1 : Nat) : Int) by omega]
        refine ihm (c + 1) (by omega) k (by omega) fun j hj => ?_
        by_cases hjc : j = c
        · subst hjc; omega
        · exact hg j (by omega)
    obtain ⟨b, h1, h2⟩ := inner (rd_T39 x i).f1.length 0 (by omega) k (by omega) (fun j hj => absurd hj (by omega))
    exact ⟨b, h1, h2⟩
theorem short_val (x : List Line) (k : Nat) (hk : 1000 ≤ k) : ∃ b, regletlaw14_short.f k x = some b ∧ (b = true → Short x) := by
  unfold regletlaw14_short.f
  by_cases h : (x.length : Int) > 40
  · rw [if_pos h]; exact ⟨false, rfl, fun h => by cases h⟩
  rw [if_neg h]
  obtain ⟨b, h1, h2⟩ := short_l x (by omega) x.length 0 (by omega) k (by omega)
  refine ⟨b, h1, fun hb => ⟨by omega, fun l hl => ?_⟩⟩
  obtain ⟨q, hq, rfl⟩ := List.getElem_of_mem hl
  exact h2 hb q (by omega) hq
theorem few_l (x : List Page) (hx : x.length ≤ 20) : ∀ (n : Nat), ∀ i : Nat, i + n = x.length → (∀ k, 1001 + n ≤ k → ∃ b, regletlaw14_few.l0 k x i = some b ∧ (b = true → ∀ j, i ≤ j → (h : j < x.length) → Short x[j].f0)) := by
  intro n
  induction n with
  | zero =>
    intro i hi k hk
    obtain ⟨k, rfl⟩ : ∃ m, k = m + 1 := ⟨k - 1, by omega⟩
    simp only [regletlaw14_few.l0]
    rw [if_neg (by omega)]
    exact ⟨true, rfl, fun _ j h1 h2 => by omega⟩
  | succ n ih =>
    intro i hi k hk
    obtain ⟨k, rfl⟩ : ∃ m, k = m + 1 := ⟨k - 1, by omega⟩
    have hil : i < x.length := by omega
    simp only [regletlaw14_few.l0]
    rw [if_pos (by omega), if_pos (by omega)]
    obtain ⟨b, h1, h2⟩ := short_val ((rd_T31 x i).f0) k (by omega)
    rw [h1, bind_s]
    cases b with
    | false => exact ⟨false, by simp, fun h => by cases h⟩
    | true =>
      rw [if_pos rfl, w_id (by omega) (by omega), show ((i : Int) + 1) = ((i + 1 : Nat) : Int) by omega]
      obtain ⟨b, h3, h4⟩ := ih (i + 1) (by omega) k (by omega)
      refine ⟨b, h3, fun hb j hj hjl => ?_⟩
      by_cases hji : j = i
      · subst hji
        have e := pgs_nat x j hil
        unfold pgs at e
        rw [← e]; exact h2 rfl
      · exact h4 hb j (by omega) hjl
theorem few_val (x : List Page) (k : Nat) (hk : 1100 ≤ k) : ∃ b, regletlaw14_few.f k x = some b ∧ (b = true → Few x) := by
  unfold regletlaw14_few.f
  by_cases h : (x.length : Int) > 20
  · rw [if_pos h]; exact ⟨false, rfl, fun h => by cases h⟩
  rw [if_neg h]
  obtain ⟨b, h1, h2⟩ := few_l x (by omega) x.length 0 (by omega) k (by omega)
  refine ⟨b, h1, fun hb => ⟨by omega, fun l hl => ?_⟩⟩
  obtain ⟨q, hq, rfl⟩ := List.getElem_of_mem hl
  exact h2 hb q (by omega) hq
/-- Are two lines the same? -/
def sameLine (a b : Line) : Bool := decide (a.f0.toList = b.f0.toList) && (a.f2 == b.f2) && (a.f3 == b.f3) && (a.f4 == b.f4) && (a.f5 == b.f5) && (a.f6 == b.f6) && (a.f7 == b.f7) && (a.f8 == b.f8) && sameL (layAll [] a.f1) (layAll [] b.f1)
theorem same_val (a b : Line) (ha : ShortLine a) (hb : ShortLine b) : lines_Same.f a.f0 a.f1 a.f2 a.f3 a.f4 a.f5 a.f6 a.f7 a.f8 b.f0 b.f1 b.f2 b.f3 b.f4 b.f5 b.f6 b.f7 b.f8 = some (sameLine a b) := by
  unfold lines_Same.f sameLine runs_Same.f
  have h1 := ha.1
  have h2 := hb.1
  rw [if_pos (show a.f1.length ≤ 1099511627776 ∧ b.f1.length ≤ 1099511627776 from ⟨by omega, by omega⟩)]
  repeat' (split <;> simp_all)
/-- How many lines are alike ahead and behind. -/
structure IsEnds (a b : List Line) (p q : Nat) : Prop where
  la : p + q ≤ a.length
  lb : p + q ≤ b.length
  head : ∀ j : Nat, j < p → sameLine (ln a j) (ln b j) = true
  headEnd : p < a.length → p < b.length → sameLine (ln a p) (ln b p) = false
  tail : ∀ j : Nat, j < q → sameLine (ln a ((a.length : Int) - 1 - j)) (ln b ((b.length : Int) - 1 - j)) = true
  tailEnd : p + q < a.length → p + q < b.length → sameLine (ln a ((a.length : Int) - 1 - q)) (ln b ((b.length : Int) - 1 - q)) = false
theorem ends_l1 (a b : List Line) (ha : Short a) (hb : Short b) (most p : Nat) (hm : most ≤ a.length) (hm2 : most ≤ b.length) : ∀ (n : Nat), ∀ q : Nat, p + q + n = most → ∀ k, n + 1 ≤ k → (∀ j : Nat, j < q → sameLine (ln a ((a.length : Int) - 1 - j)) (ln b ((b.length : Int) - 1 - j)) = true) →
    ∃ q' : Nat, diff_Ends.l1 k most p q a b = some ((p : Int), (q' : Int)) ∧ p + q' ≤ most ∧ (∀ j : Nat, j < q' → sameLine (ln a ((a.length : Int) - 1 - j)) (ln b ((b.length : Int) - 1 - j)) = true) ∧ (p + q' < most → sameLine (ln a ((a.length : Int) - 1 - q')) (ln b ((b.length : Int) - 1 - q')) = false) := by
  have hla := ha.1
  have hlb := hb.1
  have wa : wrap64 ((a.length : Int) - 1) = (a.length : Int) - 1 := w_id (by omega) (by omega)
  have wb : wrap64 ((b.length : Int) - 1) = (b.length : Int) - 1 := w_id (by omega) (by omega)
  intro n
  induction n with
  | zero =>
    intro q hq k hk hg
    obtain ⟨k, rfl⟩ : ∃ m, k = m + 1 := ⟨k - 1, by omega⟩
    simp only [diff_Ends.l1]
    rw [w_id (x := (most : Int) - p) (by omega) (by omega), if_neg (by omega)]
    exact ⟨q, rfl, by omega, hg, fun h => by omega⟩
  | succ n ih =>
    intro q hq k hk hg
    obtain ⟨k, rfl⟩ : ∃ m, k = m + 1 := ⟨k - 1, by omega⟩
    simp only [diff_Ends.l1]
    rw [w_id (x := (most : Int) - p) (by omega) (by omega), if_pos (by omega), wa, wb, w_id (x := (a.length : Int) - 1 - q) (by omega) (by omega), w_id (x := (b.length : Int) - 1 - q) (by omega) (by omega)]
    rw [if_pos (by omega), if_pos (by omega), if_pos (by omega), if_pos (by omega)]
    rw [same_val (rd_T39 a _) (rd_T39 b _) (short_at ha _ (by omega) (by omega)) (short_at hb _ (by omega) (by omega)), bind_s]
    by_cases hs : sameLine (ln a ((a.length : Int) - 1 - q)) (ln b ((b.length : Int) - 1 - q)) = true
    · rw [if_pos hs, w_id (x := (q : Int) + 1) (by omega) (by omega), show ((q : Int) + 1) = ((q + 1 : Nat) : Int) by omega]
      refine ih (q + 1) (by omega) k (by omega) fun j hj => ?_
      by_cases hjq : j = q
      · subst hjq; exact hs
      · exact hg j (by omega)
    · rw [if_neg hs]
      exact ⟨q, rfl, by omega, hg, fun _ => by simpa using hs⟩
theorem ends_l0 (a b : List Line) (ha : Short a) (hb : Short b) (most : Nat) (hm : most ≤ a.length) (hm2 : most ≤ b.length) (hmm : most = a.length ∨ most = b.length) : ∀ (n : Nat), ∀ p : Nat, p + n = most → ∀ k, 50 + n ≤ k → (∀ j : Nat, j < p → sameLine (ln a j) (ln b j) = true) →
    ∃ p' q' : Nat, diff_Ends.l0 k most p a b = some ((p' : Int), (q' : Int)) ∧ IsEnds a b p' q' := by
  have hla := ha.1
  have hlb := hb.1
  intro n
  have fin : ∀ p : Nat, p ≤ most → ∀ k, 48 ≤ k → (∀ j : Nat, j < p → sameLine (ln a j) (ln b j) = true) → (p < most → sameLine (ln a p) (ln b p) = false) → ∃ p' q' : Nat, diff_Ends.j1 k most p a b = some ((p' : Int), (q' : Int)) ∧ IsEnds a b p' q' := by
    intro p hp k hk hg he
    obtain ⟨k, rfl⟩ : ∃ m, k = m + 1 := ⟨k - 1, by omega⟩
    simp only [diff_Ends.j1]
    obtain ⟨q, h1, h2, h3, h4⟩ := ends_l1 a b ha hb most p hm hm2 (most - p) 0 (by omega) k (by omega) (fun j hj => absurd hj (by omega))
    exact ⟨p, q, h1, by omega, by omega, hg, fun x y => he (by omega), h3, fun x y => h4 (by omega)⟩
  induction n with
  | zero =>
    intro p hp k hk hg
    obtain ⟨k, rfl⟩ : ∃ m, k = m + 1 := ⟨k - 1, by omega⟩
    simp only [diff_Ends.l0]
    rw [if_neg (by omega)]
    exact fin p (by omega) k (by omega) hg (fun h => by omega)
  | succ n ih =>
    intro p hp k hk hg
    obtain ⟨k, rfl⟩ : ∃ m, k = m + 1 := ⟨k - 1, by omega⟩
    simp only [diff_Ends.l0]
    rw [if_pos (by omega), if_pos (by omega), if_pos (by omega), if_pos (by omega)]
    rw [same_val (rd_T39 a _) (rd_T39 b _) (short_at ha _ (by omega) (by omega)) (short_at hb _ (by omega) (by omega)), bind_s]
    by_cases hs : sameLine (ln a p) (ln b p) = true
    · rw [if_pos hs, w_id (x := (p : Int) + 1) (by omega) (by omega), show ((p : Int) + 1) = ((p + 1 : Nat) : Int) by omega]
      refine ih (p + 1) (by omega) k (by omega) fun j hj => ?_
      by_cases hjq : j = p
      · subst hjq; exact hs
      · exact hg j (by omega)
    · rw [if_neg hs]
      exact fin p (by omega) k (by omega) hg (fun _ => by simpa using hs)
theorem mn_nat (a b : Nat) : mn (a : Int) (b : Int) = ((min a b : Nat) : Int) := by
  unfold mn
  split <;> omega
theorem ends_val (a b : List Line) (ha : Short a) (hb : Short b) : ∃ p q : Nat, IsEnds a b p q ∧ ∀ k, 100 ≤ k → diff_Ends.f k a b = some ((p : Int), (q : Int)) := by
  have hla := ha.1
  have hlb := hb.1
  obtain ⟨p, q, h1, h2⟩ := ends_l0 a b ha hb (min a.length b.length) (by omega) (by omega) (by omega) (min a.length b.length) 0 (by omega) 100 (by omega) (fun j hj => absurd hj (by omega))
  refine ⟨p, q, h2, fun k hk => leo_up (f := fun k => diff_Ends.f k a b) (fun k => diff_Ends.mono a b k) hk ?_⟩
  show diff_Ends.f 100 a b = _
  unfold diff_Ends.f
  rw [mn_nat]
  exact h1
theorem copy_l (xs : List Line) (h : Short xs) : ∀ (n : Nat), ∀ i : Nat, i + n = xs.length → ∀ k, n + 1 ≤ k → diff_copied.l0 k (xs.take i) xs (xs.length : Int) i = some xs := by
  have hl := h.1
  intro n
  induction n with
  | zero =>
    intro i hi k hk
    obtain ⟨k, rfl⟩ : ∃ m, k = m + 1 := ⟨k - 1, by omega⟩
    simp only [diff_copied.l0]
    rw [if_neg (by omega), List.take_of_length_le (by omega)]
  | succ n ih =>
    intro i hi k hk
    obtain ⟨k, rfl⟩ : ∃ m, k = m + 1 := ⟨k - 1, by omega⟩
    simp only [diff_copied.l0]
    rw [if_pos (by omega), if_pos (by omega), if_pos (by omega)]
    have hs := short_at h i (by omega) (by omega)
    have e := ln_nat xs i (by omega)
    unfold ln at hs e
    have hc : ∀ l : Line, ShortLine l → lines_Copy.f l.f0 l.f1 l.f2 l.f3 l.f4 l.f5 l.f6 l.f7 l.f8 = some (l.f0, l.f1, l.f2, l.f3, l.f4, l.f5, l.f6, l.f7, l.f8) := fun l hl => by
      unfold lines_Copy.f
      rw [bind_s]
      have := hl.1
      rw [if_pos (by simp; omega)]
      rfl
    rw [hc _ hs, bind_s, if_pos (by rw [List.length_take]; omega), w_id (by omega) (by omega), show ((i : Int) + 1) = ((i + 1 : Nat) : Int) by omega]
    have et : xs.take i ++ [rd_T39 xs i] = xs.take (i + 1) := by rw [List.take_succ_eq_append_getElem (by omega), e]
    have := ih (i + 1) (by omega) k (by omega)
    rw [← et] at this
    exact this
theorem copied_val (xs : List Line) (h : Short xs) (k : Nat) (hk : 50 ≤ k) : diff_copied.f k xs = some xs := by
  have hl := h.1
  unfold diff_copied.f
  exact copy_l xs h xs.length 0 (by omega) k (by omega)
/-- What is told of a page. -/
def regionOf (n : Int) (a b : List Line) (p q : Nat) : Region := ⟨n, 1, p, (a.length : Int) - p - q, (b.take (b.length - q)).drop p⟩
end Go.Proofs.Ytemgnkloloaeoaa.Pure
