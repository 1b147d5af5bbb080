/- Pruned by wip/prune.py. -/
import Derived.Test.YtemgnkloloaeoaaQPureDiff
set_option linter.unusedVariables false
set_option linter.unusedSimpArgs false
namespace Go.Proofs.Ytemgnkloloaeoaa.Pure
open Go.RowKit Go.Proofs.Ytemgnkloloaeoaa.PAll Go.Proofs.YtemgnkloloaeoaaW.PrintWords Go.Proofs.YtemgnkloloaeoaaW.PrintLast Go.Proofs.YtemgnkloloaeoaaW.PrintMore Go.Proofs.Ytemgnkloloaeoaa.Given
def endP (a b : List Line) : Nat := ((diff_Ends.f 100 a b).getD (0, 0)).1.toNat
def endQ (a b : List Line) : Nat := ((diff_Ends.f 100 a b).getD (0, 0)).2.toNat
theorem ends_pq (a b : List Line) (ha : Short a) (hb : Short b) : IsEnds a b (endP a b) (endQ a b) ∧ ∀ k, 100 ≤ k → diff_Ends.f k a b = some ((endP a b : Int), (endQ a b : Int)) := by
  obtain ⟨p, q, h1, h2⟩ := ends_val a b ha hb
  have e1 : endP a b = p := by unfold endP; rw [h2 100 (by omega)]; simp
  have e2 : endQ a b = q := by unfold endQ; rw [h2 100 (by omega)]; simp
  rw [e1, e2]
  exact ⟨h1, h2⟩
/-- Do two pages differ? -/
def differs (a b : List Line) : Bool := decide (endP a b + endQ a b < a.length ∨ endP a b + endQ a b < b.length)
def regOf (n : Int) (a b : List Line) : Region := regionOf n a b (endP a b) (endQ a b)
theorem page_pq (n : Int) (a b : List Line) (ha : Short a) (hb : Short b) (k : Nat) (hk : 100 ≤ k) :
    diff_Page.f k n a b = some ((regOf n a b).f0, (regOf n a b).f1, (regOf n a b).f2, (regOf n a b).f3, (regOf n a b).f4, differs a b) := by
  obtain ⟨h1, h2⟩ := ends_pq a b ha hb
  exact page_val n a b ha hb _ _ h1 h2 k hk
/-- The regions. -/
def pagesL (x y : List Page) : Nat → Nat → List Region
  | 0, _ => []
  | m + 1, i => (if differs (pgs x i) (pgs y i) = true then [regOf i (pgs x i) (pgs y i)] else []) ++ pagesL x y m (i + 1)
def addL (y : List Page) : Nat → Nat → List Region
  | 0, _ => []
  | m + 1, i => (⟨i, 2, 0, 0, pgs y i⟩ : Region) :: addL y m (i + 1)
def goneL (x : List Page) : Nat → Nat → List Region
  | 0, _ => []
  | m + 1, i => (⟨i, 3, 0, ((pgs x i).length : Int), []⟩ : Region) :: goneL x m (i + 1)
def diffV (x y : List Page) : List Region := pagesL x y (min x.length y.length) 0 ++ addL y (y.length - min x.length y.length) (min x.length y.length) ++ goneL x (x.length - min x.length y.length) (min x.length y.length)
theorem diff_l2 (x : List Page) (hx : Few x) : ∀ (n i : Nat) (acc : List Region), i + n = x.length → acc.length + n ≤ 1000 → ∀ k, n + 1 ≤ k → diff_Diff.l2 k x acc i = some (acc ++ goneL x n i) := by
  have hl := hx.1
  intro n
  induction n with
  | zero =>
    intro i acc hi hacc k hk
    obtain ⟨k, rfl⟩ : ∃ m, k = m + 1 := ⟨k - 1, by omega⟩
    simp only [diff_Diff.l2]
    rw [if_neg (by omega)]
    simp [goneL]
  | succ n ih =>
    intro i acc hi hacc k hk
    obtain ⟨k, rfl⟩ : ∃ m, k = m + 1 := ⟨k - 1, by omega⟩
    simp only [diff_Diff.l2]
    rw [if_pos (by omega), if_pos (by omega), if_pos (by omega), w_id (by omega) (by omega), show ((i : Int) + 1) = ((i + 1 : Nat) : Int) by omega]
    rw [ih (i + 1) _ (by omega) (by simp; omega) k (by omega)]
    simp only [goneL, List.append_assoc, List.cons_append, List.nil_append]
theorem diff_l1 (x y : List Page) (hx : Few x) (hy : Few y) (both : Nat) (hb : both ≤ x.length) : ∀ (n i : Nat) (acc : List Region), i + n = y.length → acc.length + n + 20 ≤ 1000 → ∀ k, n + 60 ≤ k → diff_Diff.l1 k x y acc both i = some (acc ++ addL y n i ++ goneL x (x.length - both) both) := by
  have hl := hx.1
  have hly := hy.1
  intro n
  induction n with
  | zero =>
    intro i acc hi hacc k hk
    obtain ⟨k, rfl⟩ : ∃ m, k = m + 1 := ⟨k - 1, by omega⟩
    simp only [diff_Diff.l1]
    rw [if_neg (by omega), diff_l2 x hx (x.length - both) both acc (by omega) (by omega) k (by omega)]
    simp [addL]
  | succ n ih =>
    intro i acc hi hacc k hk
    obtain ⟨k, rfl⟩ : ∃ m, k = m + 1 := ⟨k - 1, by omega⟩
    simp only [diff_Diff.l1]
    rw [if_pos (by omega), if_pos (by omega), copied_val _ (few_at hy i (by omega) (by omega)) k (by omega), bind_s, if_pos (by omega), w_id (by omega) (by omega), show ((i : Int) + 1) = ((i + 1 : Nat) : Int) by omega]
    rw [ih (i + 1) _ (by omega) (by simp; omega) k (by omega)]
    simp only [addL, List.append_assoc, List.cons_append, List.nil_append]
theorem diff_l0 (x y : List Page) (hx : Few x) (hy : Few y) (both : Nat) (hb : both ≤ x.length) (hb2 : both ≤ y.length) : ∀ (n i : Nat) (acc : List Region), i + n = both → acc.length + n + 60 ≤ 1000 → ∀ k, n + 150 ≤ k →
    diff_Diff.l0 k x y acc both i = some (acc ++ pagesL x y n i ++ addL y (y.length - both) both ++ goneL x (x.length - both) both) := by
  have hl := hx.1
  have hly := hy.1
  intro n
  induction n with
  | zero =>
    intro i acc hi hacc k hk
    obtain ⟨k, rfl⟩ : ∃ m, k = m + 1 := ⟨k - 1, by omega⟩
    simp only [diff_Diff.l0]
    rw [if_neg (by omega), diff_l1 x y hx hy both hb (y.length - both) both acc (by omega) (by omega) k (by omega)]
    simp [pagesL]
  | succ n ih =>
    intro i acc hi hacc k hk
    obtain ⟨k, rfl⟩ : ∃ m, k = m + 1 := ⟨k - 1, by omega⟩
    simp only [diff_Diff.l0]
    rw [if_pos (by omega), if_pos (by omega), if_pos (by omega), if_pos (by omega), page_pq i (rd_T31 x i).f0 (rd_T31 y i).f0 (few_at hx i (by omega) (by omega)) (few_at hy i (by omega) (by omega)) k (by omega), bind_s]
    dsimp only
    have hw : wrap64 ((i : Int) + 1) = ((i + 1 : Nat) : Int) := by rw [w_id (by omega) (by omega)]; omega
    by_cases hd : differs (pgs x i) (pgs y i) = true
    · have hd' : differs (rd_T31 x i).f0 (rd_T31 y i).f0 = true := hd
      rw [if_pos hd', if_pos (by omega), hw, ih (i + 1) _ (by omega) (by simp; omega) k (by omega)]
      simp only [pagesL]
      rw [if_pos hd]
      simp only [List.append_assoc, List.cons_append, List.nil_append]
    · have hd' : ¬ differs (rd_T31 x i).f0 (rd_T31 y i).f0 = true := hd
      rw [if_neg hd', hw, ih (i + 1) _ (by omega) (by omega) k (by omega)]
      simp only [pagesL]
      rw [if_neg hd]
      simp only [List.nil_append]
theorem diff_val (x y : List Page) (hx : Few x) (hy : Few y) (k : Nat) (hk : 200 ≤ k) : diff_Diff.f k x y 0 = some (diffV x y) := by
  have hl := hx.1
  have hly := hy.1
  unfold diff_Diff.f diffV
  rw [mn_nat, show mx 0 0 = ((0 : Nat) : Int) from rfl]
  have h := diff_l0 x y hx hy (min x.length y.length) (by omega) (by omega) (min x.length y.length) 0 [] (by omega) (by simp; omega) k (by omega)
  simpa using h
def sumIn : List Region → Int
  | [] => 0
  | r :: l => (r.f4.length : Int) + sumIn l
def sumOut : List Region → Int
  | [] => 0
  | r :: l => r.f3 + sumOut l
theorem sumIn_append (a b : List Region) : sumIn (a ++ b) = sumIn a + sumIn b := by
  induction a with
  | nil => simp [sumIn]
  | cons r l ih => simp only [List.cons_append, sumIn, ih]; omega
theorem sumOut_append (a b : List Region) : sumOut (a ++ b) = sumOut a + sumOut b := by
  induction a with
  | nil => simp [sumOut]
  | cons r l ih => simp only [List.cons_append, sumOut, ih]; omega
def Mild (r : Region) : Prop := 0 ≤ r.f3 ∧ r.f3 ≤ 40 ∧ r.f4.length ≤ 40
def lens (x : List Page) : Nat → Nat → Int
  | 0, _ => 0
  | m + 1, i => ((pgs x i).length : Int) + lens x m (i + 1)
theorem lens_add (x : List Page) : ∀ m n i, lens x (m + n) i = lens x m i + lens x n (i + m)
  | 0, n, i => by simp [lens]
  | m + 1, n, i => by
    rw [show m + 1 + n = (m + n) + 1 by omega]
    simp only [lens]
    rw [lens_add x m n (i + 1), show i + 1 + m = i + (m + 1) by omega]
    omega
theorem reg_mild (n : Int) (a b : List Line) (ha : Short a) (hb : Short b) : Mild (regOf n a b) ∧ ((regOf n a b).f4.length : Int) - (regOf n a b).f3 = (b.length : Int) - a.length ∧ (differs a b = false → (a.length : Int) = b.length) := by
  obtain ⟨h, _⟩ := ends_pq a b ha hb
  have g1 := h.la
  have g2 := h.lb
  have hla := ha.1
  have hlb := hb.1
  have e : (regOf n a b).f4.length = b.length - endQ a b - endP a b := by
    show ((b.take (b.length - endQ a b)).drop (endP a b)).length = _
    simp only [List.length_drop, List.length_take]; omega
  have e3 : (regOf n a b).f3 = (a.length : Int) - endP a b - endQ a b := rfl
  refine ⟨⟨by rw [e3]; omega, by rw [e3]; omega, by rw [e]; omega⟩, by rw [e, e3]; omega, fun hd => ?_⟩
  unfold differs at hd
  have := of_decide_eq_false hd
  omega
theorem pages_mild (x y : List Page) (hx : Few x) (hy : Few y) : ∀ m i, i + m ≤ x.length → i + m ≤ y.length → (∀ r ∈ pagesL x y m i, Mild r) ∧ sumIn (pagesL x y m i) - sumOut (pagesL x y m i) = lens y m i - lens x m i ∧ (pagesL x y m i).length ≤ m
  | 0, i, _, _ => by simp [pagesL, sumIn, sumOut, lens]
  | m + 1, i, h1, h2 => by
    obtain ⟨g1, g2, g3⟩ := pages_mild x y hx hy m (i + 1) (by omega) (by omega)
    obtain ⟨r1, r2, r3⟩ := reg_mild i (pgs x i) (pgs y i) (few_at hx i (by omega) (by omega)) (few_at hy i (by omega) (by omega))
    simp only [pagesL, lens]
    by_cases hd : differs (pgs x i) (pgs y i) = true
    · rw [if_pos hd]
      refine ⟨fun r hr => ?_, ?_, by simp; omega⟩
      · simp only [List.cons_append, List.nil_append, List.mem_cons] at hr
        rcases hr with rfl | hr
        · exact r1
        · exact g1 r hr
      · simp only [List.cons_append, List.nil_append, sumIn, sumOut]
        omega
    · rw [if_neg hd]
      refine ⟨fun r hr => g1 r (by simpa using hr), ?_, by simp; omega⟩
      simp only [List.nil_append]
      have := r3 (by simpa using hd)
      omega
theorem add_mild (y : List Page) (hy : Few y) : ∀ m i, i + m ≤ y.length → (∀ r ∈ addL y m i, Mild r) ∧ sumIn (addL y m i) - sumOut (addL y m i) = lens y m i ∧ (addL y m i).length ≤ m
  | 0, i, _ => by simp [addL, sumIn, sumOut, lens]
  | m + 1, i, h2 => by
    obtain ⟨g1, g2, g3⟩ := add_mild y hy m (i + 1) (by omega)
    have := (few_at hy i (by omega) (by omega)).1
    simp only [addL, lens, sumIn, sumOut]
    refine ⟨fun r hr => ?_, by omega, by simp; omega⟩
    rcases List.mem_cons.1 hr with rfl | hr
    · exact ⟨by simp, by simp, this⟩
    · exact g1 r hr
theorem gone_mild (x : List Page) (hx : Few x) : ∀ m i, i + m ≤ x.length → (∀ r ∈ goneL x m i, Mild r) ∧ sumIn (goneL x m i) - sumOut (goneL x m i) = - lens x m i ∧ (goneL x m i).length ≤ m
  | 0, i, _ => by simp [goneL, sumIn, sumOut, lens]
  | m + 1, i, h2 => by
    obtain ⟨g1, g2, g3⟩ := gone_mild x hx m (i + 1) (by omega)
    have := (few_at hx i (by omega) (by omega)).1
    simp only [goneL, lens, sumIn, sumOut, List.length_nil]
    refine ⟨fun r hr => ?_, by omega, by simp; omega⟩
    rcases List.mem_cons.1 hr with rfl | hr
    · exact ⟨by simp, by show ((pgs x i).length : Int) ≤ 40; omega, by simp⟩
    · exact g1 r hr
theorem diff_mild (x y : List Page) (hx : Few x) (hy : Few y) : (∀ r ∈ diffV x y, Mild r) ∧ sumIn (diffV x y) - sumOut (diffV x y) = lens y y.length 0 - lens x x.length 0 ∧ (diffV x y).length ≤ 60 := by
  have hl := hx.1
  have hly := hy.1
  obtain ⟨a1, a2, a3⟩ := pages_mild x y hx hy (min x.length y.length) 0 (by omega) (by omega)
  obtain ⟨b1, b2, b3⟩ := add_mild y hy (y.length - min x.length y.length) (min x.length y.length) (by omega)
  obtain ⟨c1, c2, c3⟩ := gone_mild x hx (x.length - min x.length y.length) (min x.length y.length) (by omega)
  have e1 := lens_add x (min x.length y.length) (x.length - min x.length y.length) 0
  have e2 := lens_add y (min x.length y.length) (y.length - min x.length y.length) 0
  rw [show min x.length y.length + (x.length - min x.length y.length) = x.length by omega, Nat.zero_add] at e1
  rw [show min x.length y.length + (y.length - min x.length y.length) = y.length by omega, Nat.zero_add] at e2
  unfold diffV
  refine ⟨fun r hr => ?_, by rw [sumIn_append, sumIn_append, sumOut_append, sumOut_append]; omega, by simp only [List.length_append]; omega⟩
  rcases List.mem_append.1 hr with hr | hr
  · rcases List.mem_append.1 hr with hr | hr
    · exact a1 r hr
    · exact b1 r hr
  · exact c1 r hr
end Go.Proofs.Ytemgnkloloaeoaa.Pure
