/- The least number of steps from one list to another one is what the rows find. -/
import Derived.Test.YtbakllppgekmoaaCmpBetween
namespace Go.Proofs.Ytbakllppgekmoaa.Cmp
open Go Go.RowKit Go.Proofs.Ytbakllppgekmoaa.Given Go.Proofs.Ytbakllppgekmoaa.Kinds
set_option linter.unusedVariables false
set_option linter.unusedSimpArgs false
/-! ### ways from one list to another one -/
inductive Al : List Int → List Int → Nat → Prop where
  | nil : Al [] [] 0
  | del {x : Int} {X Y : List Int} {d : Nat} (h : Al X Y d) : Al (x :: X) Y (d + 1)
  | ins {y : Int} {X Y : List Int} {d : Nat} (h : Al X Y d) : Al X (y :: Y) (d + 1)
  | keep {x : Int} {X Y : List Int} {d : Nat} (h : Al X Y d) : Al (x :: X) (x :: Y) d
theorem al_refl : ∀ X : List Int, Al X X 0
  | [] => .nil
  | x :: X => .keep (al_refl X)
theorem al_symm {X Y : List Int} {d : Nat} (h : Al X Y d) : Al Y X d := by
  induction h with
  | nil => exact .nil
  | del _ ih => exact .ins ih
  | ins _ ih => exact .del ih
  | keep _ ih => exact .keep ih
theorem al_dels {X Y : List Int} {d : Nat} : ∀ (n : Nat), n ≤ X.length → Al (X.drop n) Y d → Al X Y (d + n) := by
  intro n
  induction n generalizing X with
  | zero => intro _ h; simpa using h
  | succ n ih =>
    intro hn h
    cases X with
    | nil => simp at hn
    | cons x X => exact .del (ih (by simpa using hn) (by simpa using h))
theorem al_inss {X Y : List Int} {d : Nat} (n : Nat) (hn : n ≤ Y.length) (h : Al X (Y.drop n) d) : Al X Y (d + n) := al_symm (al_dels n hn (al_symm h))
theorem al_all (X Y : List Int) : Al X Y (X.length + Y.length) := by
  have h1 : Al ([] : List Int) Y Y.length := by
    have := al_inss (X := []) (Y := Y) (d := 0) Y.length (Nat.le_refl _) (by rw [List.drop_length]; exact .nil)
    simpa using this
  have := al_dels (X := X) (Y := Y) X.length (Nat.le_refl _) (by rw [List.drop_length]; exact h1)
  rwa [Nat.add_comm] at this
theorem al_trans {X Y : List Int} {d1 : Nat} (h : Al X Y d1) : ∀ {Z : List Int} {d2 : Nat}, Al Y Z d2 → ∃ d, d ≤ d1 + d2 ∧ Al X Z d := by
  induction h with
  | nil => intro Z d2 h2; exact ⟨d2, by omega, h2⟩
  | del _ ih =>
    intro Z d2 h2
    obtain ⟨d, hd, h⟩ := ih h2
    exact ⟨d + 1, by omega, .del h⟩
  | @ins y X Y d1 _ ih =>
    intro Z d2 h2
    generalize hy : y :: Y = W at h2
    induction h2 with
    | nil => cases hy
    | del h _ =>
      injection hy with e1 e2
      subst e2
      obtain ⟨d, hd, h⟩ := ih h
      exact ⟨d, by omega, h⟩
    | ins _ ih2 =>
      obtain ⟨d, hd, h⟩ := ih2 hy
      exact ⟨d + 1, by omega, .ins h⟩
    | keep h _ =>
      injection hy with e1 e2
      subst e2
      obtain ⟨d, hd, h⟩ := ih h
      exact ⟨d + 1, by omega, .ins h⟩
  | @keep y X Y d1 _ ih =>
    intro Z d2 h2
    generalize hy : y :: Y = W at h2
    induction h2 with
    | nil => cases hy
    | del h _ =>
      injection hy with e1 e2
      subst e2
      obtain ⟨d, hd, h⟩ := ih h
      exact ⟨d + 1, by omega, .del h⟩
    | ins _ ih2 =>
      obtain ⟨d, hd, h⟩ := ih2 hy
      exact ⟨d + 1, by omega, .ins h⟩
    | keep h _ =>
      injection hy with e1 e2
      subst e1
      subst e2
      obtain ⟨d, hd, h⟩ := ih h
      exact ⟨d, by omega, .keep h⟩
theorem al_cut {x : Int} {X Y : List Int} {d : Nat} (h : Al (x :: X) (x :: Y) d) : ∃ d', d' ≤ d ∧ Al X Y d' := by
  have h1 : Al (x :: Y) Y 1 := .del (al_refl Y)
  have h2 : Al X (x :: X) 1 := .ins (al_refl X)
  cases h with
  | del h => obtain ⟨d', h3, h4⟩ := al_trans h h1; exact ⟨d', by omega, h4⟩
  | ins h => obtain ⟨d', h3, h4⟩ := al_trans h2 h; exact ⟨d', by omega, h4⟩
  | keep h => exact ⟨d, Nat.le_refl _, h⟩
theorem al_cuts : ∀ (P : List Int) {X Y : List Int} {d : Nat}, Al (P ++ X) (P ++ Y) d → ∃ d', d' ≤ d ∧ Al X Y d'
  | [], _, _, d, h => ⟨d, Nat.le_refl _, h⟩
  | p :: P, X, Y, d, h => by
    obtain ⟨d1, h1, h2⟩ := al_cut h
    obtain ⟨d2, h3, h4⟩ := al_cuts P h2
    exact ⟨d2, by omega, h4⟩
theorem al_front : ∀ (P : List Int) {X Y : List Int} {d : Nat}, Al X Y d → Al (P ++ X) (P ++ Y) d
  | [], _, _, d, h => h
  | p :: P, X, Y, d, h => .keep (al_front P h)
theorem al_snoc1 {X Y : List Int} {d : Nat} (x : Int) (h : Al X Y d) : Al (X ++ [x]) Y (d + 1) := by
  induction h with
  | nil => exact .del .nil
  | del _ ih => exact .del ih
  | ins _ ih => exact .ins ih
  | keep _ ih => exact .keep ih
theorem al_snoc {X Y : List Int} {d : Nat} (x : Int) (h : Al X Y d) : Al (X ++ [x]) (Y ++ [x]) d := by
  induction h with
  | nil => exact .keep .nil
  | del _ ih => exact .del ih
  | ins _ ih => exact .ins ih
  | keep _ ih => exact .keep ih
theorem al_rev {X Y : List Int} {d : Nat} (h : Al X Y d) : Al X.reverse Y.reverse d := by
  induction h with
  | nil => exact .nil
  | del _ ih => rw [List.reverse_cons]; exact al_snoc1 _ ih
  | ins _ ih => rw [List.reverse_cons]; exact al_symm (al_snoc1 _ (al_symm ih))
  | keep _ ih => rw [List.reverse_cons, List.reverse_cons]; exact al_snoc _ ih
theorem al_tails {X Y S : List Int} {d : Nat} (h : Al (X ++ S) (Y ++ S) d) : ∃ d', d' ≤ d ∧ Al X Y d' := by
  have h1 := al_rev h
  rw [List.reverse_append, List.reverse_append] at h1
  obtain ⟨d', h2, h3⟩ := al_cuts _ h1
  have := al_rev h3
  rw [List.reverse_reverse, List.reverse_reverse] at this
  exact ⟨d', h2, this⟩
theorem al_back {X Y : List Int} {d : Nat} (S : List Int) (h : Al X Y d) : Al (X ++ S) (Y ++ S) d := by
  have := al_rev (al_front S.reverse (al_rev h))
  simpa using this
/-! ### steps along both lists -/
section
variable {A B : List Int}
inductive Path (A B : List Int) : Nat → Int → Int → Prop where
  | nil : Path A B 0 0 0
  | right {d : Nat} {x y : Int} (h : Path A B d x y) (hx : x < A.length) : Path A B (d + 1) (x + 1) y
  | down {d : Nat} {x y : Int} (h : Path A B d x y) (hy : y < B.length) : Path A B (d + 1) x (y + 1)
  | diag {d : Nat} {x y : Int} (h : Path A B d x y) (hx : x < A.length) (hy : y < B.length) (e : rdI A x = rdI B y) : Path A B d (x + 1) (y + 1)
theorem path_facts {d : Nat} {x y : Int} (h : Path A B d x y) : 0 ≤ x ∧ x ≤ A.length ∧ 0 ≤ y ∧ y ≤ B.length ∧ -(d : Int) ≤ x - y ∧ x - y ≤ d ∧ (x - y + d) % 2 = 0 := by
  induction h with
  | nil => simp
  | right _ _ ih => omega
  | down _ _ ih => omega
  | diag _ _ _ _ ih => omega
theorem path_al {X Y : List Int} {e : Nat} (h : Al X Y e) : ∀ {d : Nat} {x y : Nat}, X = A.drop x → Y = B.drop y → x ≤ A.length → y ≤ B.length → Path A B d x y → Path A B (d + e) A.length B.length := by
  have hd : ∀ (L : List Int) (n : Nat) (v : Int) (T : List Int), v :: T = L.drop n → n < L.length ∧ rdI L (n : Int) = v ∧ T = L.drop (n + 1) := by
    intro L n v T hv
    have hn : n < L.length := by
      rcases Nat.lt_or_ge n L.length with h | h
      · exact h
      · rw [List.drop_eq_nil_of_le h] at hv; cases hv
    rw [List.drop_eq_getElem_cons hn] at hv
    injection hv with h1 h2
    refine ⟨hn, ?_, h2⟩
    unfold rdI
    rw [Int.toNat_natCast, List.getD_eq_getElem?_getD, List.getElem?_eq_getElem hn]
    exact h1.symm
  have he : ∀ (L : List Int) (n : Nat), [] = L.drop n → n ≤ L.length → n = L.length := by
    intro L n h1 h2
    have := congrArg List.length h1
    rw [List.length_drop] at this
    simp at this
    omega
  induction h with
  | nil =>
    intro d x y hX hY hx hy hp
    rw [← he A x hX hx, ← he B y hY hy]
    exact hp
  | @del v X Y e _ ih =>
    intro d x y hX hY hx hy hp
    obtain ⟨h1, h2, h3⟩ := hd A x v X hX
    have := ih (d := d + 1) (x := x + 1) (y := y) h3 hY (by omega) hy (.right hp (by omega))
    rwa [show d + 1 + e = d + (e + 1) by omega] at this
  | @ins v X Y e _ ih =>
    intro d x y hX hY hx hy hp
    obtain ⟨h1, h2, h3⟩ := hd B y v Y hY
    have := ih (d := d + 1) (x := x) (y := y + 1) hX h3 hx (by omega) (.down hp (by omega))
    rwa [show d + 1 + e = d + (e + 1) by omega] at this
  | @keep v X Y e _ ih =>
    intro d x y hX hY hx hy hp
    obtain ⟨h1, h2, h3⟩ := hd A x v X hX
    obtain ⟨g1, g2, g3⟩ := hd B y v Y hY
    exact ih (d := d) (x := x + 1) (y := y + 1) h3 g3 (by omega) (by omega) (.diag hp (by omega) (by omega) (h2.trans g2.symm))
theorem al_path {d : Nat} (h : Al A B d) : Path A B d A.length B.length := by
  have := path_al h (d := 0) (x := 0) (y := 0) rfl rfl (by omega) (by omega) .nil
  rwa [Nat.zero_add] at this
/-! ### how far along -/
def cel (A B : List Int) (d : Nat) (k : Int) : Int := cellV A B (farV A B d) d k
def sta (A B : List Int) (d : Nat) (k : Int) : Int := startV (farV A B d) d k
theorem row_cel {d : Nat} {k : Int} (h1 : -(d : Int) ≤ k) (h2 : k ≤ d) (h3 : (k + d) % 2 = 0) : rdI ((farV A B (d + 1)).getD d []) (k + d) = cel A B d k := by
  have e := far_get A B (d + 1) d [] (by omega)
  rw [List.append_nil] at e
  rw [e]
  unfold rdI
  rw [rowP_at _ _ _ _ _ _ (by omega), if_pos ⟨by omega, by omega⟩, show (((k + (d : Int)).toNat : Nat) : Int) - d = k by omega]
  rfl
theorem sta_succ {d : Nat} {k : Int} (h1 : -((d : Int) + 1) ≤ k) (h2 : k ≤ d + 1) (h3 : (k + d + 1) % 2 = 0) :
    sta A B (d + 1) k = if k = -((d : Int) + 1) then cel A B d (k + 1) else if k = (d : Int) + 1 then cel A B d (k - 1) + 1 else if cel A B d (k - 1) < cel A B d (k + 1) then cel A B d (k + 1) else cel A B d (k - 1) + 1 := by
  unfold sta startV
  rw [if_neg (by omega), show (((d + 1 : Nat) : Int) - 1).toNat = d by omega]
  have er : k ≠ (d : Int) + 1 → rdI ((farV A B (d + 1)).getD d []) (k + 1 + ((d + 1 : Nat) : Int) - 1) = cel A B d (k + 1) := fun hn => by
    rw [show k + 1 + ((d + 1 : Nat) : Int) - 1 = (k + 1) + d by omega]
    exact row_cel (by omega) (by omega) (by omega)
  have el : k ≠ -((d : Int) + 1) → rdI ((farV A B (d + 1)).getD d []) (k - 1 + ((d + 1 : Nat) : Int) - 1) = cel A B d (k - 1) := fun hn => by
    rw [show k - 1 + ((d + 1 : Nat) : Int) - 1 = (k - 1) + d by omega]
    exact row_cel (by omega) (by omega) (by omega)
  by_cases c1 : k = -((d : Int) + 1)
  · rw [if_pos c1, if_pos (by omega), er (by omega)]
  · rw [if_neg c1, if_neg (by omega)]
    by_cases c2 : k = (d : Int) + 1
    · rw [if_pos c2, if_pos (by omega), el c1]
    · rw [if_neg c2, if_neg (by omega), el c1, er c2]
theorem cel_cases {d : Nat} {k : Int} (hd : d ≤ 100000) (hk : -1000000 ≤ k) : (cel A B d k = -1073741824 ∧ (sta A B d k > A.length ∨ sta A B d k - k > B.length ∨ sta A B d k - k < 0)) ∨
    (0 ≤ sta A B d k ∧ sta A B d k ≤ cel A B d k ∧ cel A B d k ≤ A.length ∧ 0 ≤ sta A B d k - k ∧ cel A B d k - k ≤ B.length ∧ ¬ (cel A B d k < A.length ∧ cel A B d k - k < B.length ∧ rdI A (cel A B d k) = rdI B (cel A B d k - k))) := by
  have h := start_val (k := k) (far_ok A B d hd) (show d ≤ (farV A B d).length by rw [far_len]; exact Nat.le_refl _) (by omega)
  unfold cel cellV
  split
  · exact .inl ⟨rfl, by unfold sta; assumption⟩
  · rename_i c
    right
    obtain ⟨a, b, e, f⟩ := slideN_facts A B (A.length + 1) (startV (farV A B d) d k) (startV (farV A B d) d k - k) (by omega) (by omega) (by omega)
    have g := slideN_most A B (A.length + 1) (startV (farV A B d) d k) (startV (farV A B d) d k - k) (by omega)
    unfold sta slideV
    refine ⟨by omega, a, b, by omega, by omega, fun z => g ?_⟩
    rw [show slideN A B (A.length + 1) (startV (farV A B d) d k) (startV (farV A B d) d k - k) - startV (farV A B d) d k + (startV (farV A B d) d k - k) = slideN A B (A.length + 1) (startV (farV A B d) d k) (startV (farV A B d) d k - k) - k by omega]
    exact z
/-- One list's end is reached, and the way from there is no longer. -/
def Bdy (A B : List Int) (E : Int) : Prop := ∃ (d : Nat) (k : Int), -(d : Int) ≤ k ∧ k ≤ d ∧ (k + d) % 2 = 0 ∧ 0 ≤ cel A B d k ∧
  ((cel A B d k = A.length ∧ (A.length : Int) - B.length ≤ k ∧ d + (k - ((A.length : Int) - B.length)) ≤ E) ∨ (cel A B d k - k = B.length ∧ k ≤ (A.length : Int) - B.length ∧ d + ((A.length : Int) - B.length - k) ≤ E))
theorem bdy_found {E : Int} (hE : E ≤ 90000) : ∀ (n : Nat) (d : Nat) (k : Int), (k - ((A.length : Int) - B.length)).natAbs ≤ n → -(d : Int) ≤ k → k ≤ d → (k + d) % 2 = 0 → 0 ≤ cel A B d k →
    ((cel A B d k = A.length ∧ (A.length : Int) - B.length ≤ k ∧ d + (k - ((A.length : Int) - B.length)) ≤ E) ∨ (cel A B d k - k = B.length ∧ k ≤ (A.length : Int) - B.length ∧ d + ((A.length : Int) - B.length - k) ≤ E)) → ∃ D : Nat, (D : Int) ≤ E ∧ FoundAt A B D := by
  intro n
  induction n with
  | zero =>
    intro d k hn h1 h2 h3 h4 h5
    refine ⟨d, by omega, ((k + d) / 2).toNat, by omega, ?_⟩
    unfold FoundK
    rw [show 2 * ((((k + (d : Int)) / 2).toNat : Nat) : Int) - d = k by omega]
    have e : cellV A B (farV A B d) d k = cel A B d k := rfl
    rw [e]
    omega
  | succ n ih =>
    intro d k hn h1 h2 h3 h4 h5
    by_cases hk : k = (A.length : Int) - B.length
    · exact ih d k (by omega) h1 h2 h3 h4 h5
    have hv := cel_cases (A := A) (B := B) (d := d) (k := k) (by omega) (by omega)
    rcases h5 with ⟨p1, p2, p3⟩ | ⟨p1, p2, p3⟩
    · -- down
      have hs := sta_succ (A := A) (B := B) (d := d) (k := k - 1) (by omega) (by omega) (by omega)
      have hc := cel_cases (A := A) (B := B) (d := d + 1) (k := k - 1) (by omega) (by omega)
      rw [show k - 1 + 1 = k by omega, show k - 1 - 1 = k - 2 by omega] at hs
      by_cases c1 : k - 1 = -((d : Int) + 1)
      · rw [if_pos c1] at hs
        exact ih (d + 1) (k - 1) (by omega) (by omega) (by omega) (by omega) (by omega) (.inl ⟨by omega, by omega, by omega⟩)
      · rw [if_neg c1, if_neg (by omega)] at hs
        by_cases c3 : cel A B d (k - 2) < cel A B d k
        · rw [if_pos c3] at hs
          exact ih (d + 1) (k - 1) (by omega) (by omega) (by omega) (by omega) (by omega) (.inl ⟨by omega, by omega, by omega⟩)
        · have hl := cel_cases (A := A) (B := B) (d := d) (k := k - 2) (by omega) (by omega)
          exact ih d (k - 2) (by omega) (by omega) (by omega) (by omega) (by omega) (.inl ⟨by omega, by omega, by omega⟩)
    · -- right
      have hs := sta_succ (A := A) (B := B) (d := d) (k := k + 1) (by omega) (by omega) (by omega)
      have hc := cel_cases (A := A) (B := B) (d := d + 1) (k := k + 1) (by omega) (by omega)
      rw [show k + 1 - 1 = k by omega, show k + 1 + 1 = k + 2 by omega] at hs
      rw [if_neg (by omega)] at hs
      by_cases c1 : k + 1 = (d : Int) + 1
      · rw [if_pos c1] at hs
        exact ih (d + 1) (k + 1) (by omega) (by omega) (by omega) (by omega) (by omega) (.inr ⟨by omega, by omega, by omega⟩)
      · rw [if_neg c1] at hs
        by_cases c3 : cel A B d k < cel A B d (k + 2)
        · rw [if_pos c3] at hs
          have hl := cel_cases (A := A) (B := B) (d := d) (k := k + 2) (by omega) (by omega)
          by_cases c4 : cel A B d (k + 2) = cel A B d k + 1
          · exact ih (d + 1) (k + 1) (by omega) (by omega) (by omega) (by omega) (by omega) (.inr ⟨by omega, by omega, by omega⟩)
          · exact ih d (k + 2) (by omega) (by omega) (by omega) (by omega) (by omega) (.inr ⟨by omega, by omega, by omega⟩)
        · rw [if_neg c3] at hs
          exact ih (d + 1) (k + 1) (by omega) (by omega) (by omega) (by omega) (by omega) (.inr ⟨by omega, by omega, by omega⟩)
theorem bdy_ex {E : Int} (hE : E ≤ 90000) (h : Bdy A B E) : ∃ D : Nat, (D : Int) ≤ E ∧ FoundAt A B D := by
  obtain ⟨d, k, h1, h2, h3, h4, h5⟩ := h
  exact bdy_found hE _ d k (Nat.le_refl _) h1 h2 h3 h4 h5
/-- Whatever steps lead to, is passed. -/
theorem path_cel {d : Nat} {x y : Int} (h : Path A B d x y) : d ≤ 90000 → ∀ E : Int, (d : Int) + (x - y - ((A.length : Int) - B.length)) ≤ E → (d : Int) + ((A.length : Int) - B.length - (x - y)) ≤ E → x ≤ cel A B d (x - y) ∨ Bdy A B E := by
  induction h with
  | nil =>
    intro _ E _ _
    left
    have hc := cel_cases (A := A) (B := B) (d := 0) (k := 0) (by omega) (by omega)
    have hs : sta A B 0 0 = 0 := by unfold sta startV; exact if_pos rfl
    show (0 : Int) ≤ cel A B 0 (0 - 0)
    rw [show (0 : Int) - 0 = 0 by omega]
    omega
  | @diag d x y hp hx hy e ih =>
    intro hd E h1 h2
    rw [show x + 1 - (y + 1) = x - y by omega] at h1 h2 ⊢
    rcases ih hd E h1 h2 with h | h
    · left
      have hf := path_facts hp
      have hc := cel_cases (A := A) (B := B) (d := d) (k := x - y) (by omega) (by omega)
      rcases hc with hc | hc
      · omega
      · refine Classical.byContradiction fun hn => hc.2.2.2.2.2 ?_
        have ex : cel A B d (x - y) = x := by omega
        rw [ex]
        refine ⟨hx, by omega, ?_⟩
        rw [show x - (x - y) = y by omega]
        exact e
    · exact .inr h
  | @right d x y hp hx ih =>
    intro hd E h1 h2
    have hf := path_facts hp
    rcases ih (by omega) E (by omega) (by omega) with h | h
    · generalize hk : x - y = k at *
      rw [show x + 1 - y = k + 1 by omega] at h1 h2 ⊢
      have hv := cel_cases (A := A) (B := B) (d := d) (k := k) (by omega) (by omega)
      have hs := sta_succ (A := A) (B := B) (d := d) (k := k + 1) (by omega) (by omega) (by omega)
      have hc := cel_cases (A := A) (B := B) (d := d + 1) (k := k + 1) (by omega) (by omega)
      rw [show k + 1 - 1 = k by omega, show k + 1 + 1 = k + 2 by omega] at hs
      rw [if_neg (by omega)] at hs
      by_cases c1 : k + 1 = (d : Int) + 1
      · rw [if_pos c1] at hs
        by_cases c0 : x + 1 ≤ cel A B (d + 1) (k + 1)
        · exact .inl c0
        · exact .inr ⟨d, k, by omega, by omega, by omega, by omega, .inl ⟨by omega, by omega, by omega⟩⟩
      · rw [if_neg c1] at hs
        have hl := cel_cases (A := A) (B := B) (d := d) (k := k + 2) (by omega) (by omega)
        by_cases c3 : cel A B d k < cel A B d (k + 2)
        · rw [if_pos c3] at hs
          by_cases c0 : x + 1 ≤ cel A B (d + 1) (k + 1)
          · exact .inl c0
          · exact .inr ⟨d, k + 2, by omega, by omega, by omega, by omega, .inr ⟨by omega, by omega, by omega⟩⟩
        · rw [if_neg c3] at hs
          by_cases c0 : x + 1 ≤ cel A B (d + 1) (k + 1)
          · exact .inl c0
          · exact .inr ⟨d, k, by omega, by omega, by omega, by omega, .inl ⟨by omega, by omega, by omega⟩⟩
    · exact .inr h
  | @down d x y hp hy ih =>
    intro hd E h1 h2
    have hf := path_facts hp
    rcases ih (by omega) E (by omega) (by omega) with h | h
    · generalize hk : x - y = k at *
      rw [show x - (y + 1) = k - 1 by omega] at h1 h2 ⊢
      have hv := cel_cases (A := A) (B := B) (d := d) (k := k) (by omega) (by omega)
      have hs := sta_succ (A := A) (B := B) (d := d) (k := k - 1) (by omega) (by omega) (by omega)
      have hc := cel_cases (A := A) (B := B) (d := d + 1) (k := k - 1) (by omega) (by omega)
      rw [show k - 1 + 1 = k by omega, show k - 1 - 1 = k - 2 by omega] at hs
      by_cases c1 : k - 1 = -((d : Int) + 1)
      · rw [if_pos c1] at hs
        by_cases c0 : x ≤ cel A B (d + 1) (k - 1)
        · exact .inl c0
        · exact .inr ⟨d, k, by omega, by omega, by omega, by omega, .inr ⟨by omega, by omega, by omega⟩⟩
      · rw [if_neg c1, if_neg (by omega)] at hs
        have hl := cel_cases (A := A) (B := B) (d := d) (k := k - 2) (by omega) (by omega)
        by_cases c3 : cel A B d (k - 2) < cel A B d k
        · rw [if_pos c3] at hs
          by_cases c0 : x ≤ cel A B (d + 1) (k - 1)
          · exact .inl c0
          · exact .inr ⟨d, k, by omega, by omega, by omega, by omega, .inr ⟨by omega, by omega, by omega⟩⟩
        · rw [if_neg c3] at hs
          by_cases c0 : x ≤ cel A B (d + 1) (k - 1)
          · exact .inl c0
          · exact .inr ⟨d, k - 2, by omega, by omega, by omega, by omega, .inl ⟨by omega, by omega, by omega⟩⟩
    · exact .inr h
theorem found_le {d : Nat} (hd : d ≤ 90000) (h : Al A B d) : ∃ D, D ≤ d ∧ FoundAt A B D := by
  have hp := al_path h
  have hf := path_facts hp
  rcases path_cel hp hd (d : Int) (by omega) (by omega) with h1 | h1
  · refine ⟨d, Nat.le_refl _, (((A.length : Int) - B.length + d) / 2).toNat, by omega, ?_⟩
    unfold FoundK
    rw [show 2 * (((((A.length : Int) - B.length + d) / 2).toNat : Nat) : Int) - d = (A.length : Int) - B.length by omega]
    have e : cellV A B (farV A B d) d ((A.length : Int) - B.length) = cel A B d ((A.length : Int) - B.length) := rfl
    rw [e]
    omega
  · obtain ⟨D, h2, h3⟩ := bdy_ex (by omega) h1
    exact ⟨D, by omega, h3⟩
theorem dnV_len (k lo : Int) : ∀ n, (dnV k lo n).length = n
  | 0 => rfl
  | n + 1 => by simp [dnV, dnV_len k lo n]
theorem dnV_mem {k lo : Int} : ∀ {n : Nat} {q : Int × Int}, q ∈ dnV k lo n → ∃ i, i < n ∧ q = (lo + (i : Int), lo + (i : Int) - k)
  | 0, q, h => by cases h
  | n + 1, q, h => by
    simp only [dnV, List.mem_cons] at h
    rcases h with rfl | h
    · exact ⟨n, by omega, rfl⟩
    · obtain ⟨i, hi, e⟩ := dnV_mem h
      exact ⟨i, by omega, e⟩
theorem kept_facts {D : Nat} {p : List Int} {F : List (List Int)} (hD : D ≤ 90000) (hF : F = farV A B D ++ [p]) : ∀ (d : Nat) (x k : Int), d ≤ D → KInv A B d x k →
    2 * ((keptB F d x k).length : Int) + d = 2 * x - k ∧ ∀ q ∈ keptB F d x k, rdI A q.1 = rdI B q.2
  | d, x, k, hd, hk => by
    have hv := kinv_val (by omega) hk
    have hsf := start_far A B D [p] d k hd
    rw [← hF] at hsf
    rw [← hsf] at hv
    obtain ⟨v1, v2, v3, v4, v5, v6⟩ := hv
    have hdn : ∀ q ∈ dnV k (startV F d k) (x - startV F d k).toNat, rdI A q.1 = rdI B q.2 := fun q hq => by
      obtain ⟨i, hi, rfl⟩ := dnV_mem hq
      exact v6 _ (by omega) (by omega)
    rw [keptB_eq]
    rw [List.length_append, dnV_len]
    cases d with
    | zero =>
      have h1 := hk.lo
      have h2 := hk.hi
      have hs : startV F (0 : Nat) k = 0 := by unfold startV; exact if_pos rfl
      simp only [restV, List.length_nil, List.append_nil]
      refine ⟨by rw [hs]; omega, fun q hq => hdn q hq⟩
    | succ d =>
      by_cases g : goesUp F (d + 1 : Nat) k
      · obtain ⟨k1, k2, k3⟩ := kinv_up hF hD (by omega) hd hk g
        rw [Nat.add_sub_cancel] at k1 k2
        obtain ⟨i1, i2⟩ := kept_facts hD hF d _ _ (by omega) k1
        rw [k2]
        refine ⟨by omega, fun q hq => (List.mem_append.1 hq).elim (hdn q) (i2 q)⟩
      · obtain ⟨k1, k2, k3⟩ := kinv_dn hF hD (by omega) hd hk g
        rw [Nat.add_sub_cancel] at k1 k2
        obtain ⟨i1, i2⟩ := kept_facts hD hF d _ _ (by omega) k1
        rw [k2]
        refine ⟨by omega, fun q hq => (List.mem_append.1 hq).elim (hdn q) (i2 q)⟩
theorem chain_al : ∀ (ps : List (Int × Int)) (i j : Int), 0 ≤ i → 0 ≤ j → Chain A.length B.length i j (ps ++ [((A.length : Int), (B.length : Int))]) → (∀ q ∈ ps, rdI A q.1 = rdI B q.2 ∧ q.1 < A.length ∧ q.2 < B.length) →
    Al (A.drop i.toNat) (B.drop j.toNat) (A.length - i.toNat + (B.length - j.toNat) - 2 * ps.length) ∧ i + (ps.length : Int) ≤ A.length ∧ j + (ps.length : Int) ≤ B.length
  | [], i, j, hi, hj, hc, _ => by
    obtain ⟨h1, h2, _⟩ := hc
    refine ⟨?_, by simpa using h1, by simpa using h2⟩
    have := al_all (A.drop i.toNat) (B.drop j.toNat)
    rw [List.length_drop, List.length_drop] at this
    exact this
  | p :: ps, i, j, hi, hj, hc, hm => by
    obtain ⟨h1, h2, h3, h4, h5⟩ := hc
    obtain ⟨e1, e2, e3⟩ := hm p List.mem_cons_self
    obtain ⟨g1, g2, g3⟩ := chain_al ps (p.1 + 1) (p.2 + 1) (by omega) (by omega) h5 (fun q hq => hm q (List.mem_cons_of_mem _ hq))
    have hA : A.drop p.1.toNat = rdI A p.1 :: A.drop (p.1 + 1).toNat := by
      rw [List.drop_eq_getElem_cons (by omega), show (p.1 + 1).toNat = p.1.toNat + 1 by omega]
      unfold rdI
      rw [List.getD_eq_getElem?_getD, List.getElem?_eq_getElem (by omega)]
      rfl
    have hB : B.drop p.2.toNat = rdI B p.2 :: B.drop (p.2 + 1).toNat := by
      rw [List.drop_eq_getElem_cons (by omega), show (p.2 + 1).toNat = p.2.toNat + 1 by omega]
      unfold rdI
      rw [List.getD_eq_getElem?_getD, List.getElem?_eq_getElem (by omega)]
      rfl
    have hk : Al (A.drop p.1.toNat) (B.drop p.2.toNat) (A.length - (p.1 + 1).toNat + (B.length - (p.2 + 1).toNat) - 2 * ps.length) := by
      rw [hA, hB, e1]
      exact .keep g1
    have hd := al_dels (X := A.drop i.toNat) (Y := B.drop p.2.toNat) (p.1.toNat - i.toNat) (by rw [List.length_drop]; omega) (by rw [List.drop_drop, show i.toNat + (p.1.toNat - i.toNat) = p.1.toNat by omega]; exact hk)
    have hi2 := al_inss (X := A.drop i.toNat) (Y := B.drop j.toNat) (p.2.toNat - j.toNat) (by rw [List.length_drop]; omega) (by rw [List.drop_drop, show j.toNat + (p.2.toNat - j.toNat) = p.2.toNat by omega]; exact hd)
    simp only [List.length_cons]
    refine ⟨?_, by omega, by omega⟩
    have en : A.length - (p.1 + 1).toNat + (B.length - (p.2 + 1).toNat) - 2 * ps.length + (p.1.toNat - i.toNat) + (p.2.toNat - j.toNat) = A.length - i.toNat + (B.length - j.toNat) - 2 * (ps.length + 1) := by omega
    rw [← en]
    exact hi2
theorem chain_lt {la lb : Int} : ∀ (ps : List (Int × Int)) (i j : Int), Chain la lb i j (ps ++ [(la, lb)]) → ∀ q ∈ ps, i ≤ q.1 ∧ j ≤ q.2 ∧ q.1 < la ∧ q.2 < lb
  | [], i, j, _, q, hq => by cases hq
  | p :: ps, i, j, hc, q, hq => by
    obtain ⟨h1, h2, h3, h4, h5⟩ := hc
    have hl : p.1 < la ∧ p.2 < lb := by
      cases ps with
      | nil => obtain ⟨a, b, _⟩ := h5; exact ⟨by omega, by omega⟩
      | cons r rs => obtain ⟨a, b, c, d, _⟩ := h5; exact ⟨by omega, by omega⟩
    rcases List.mem_cons.1 hq with rfl | hq
    · exact ⟨h1, h2, hl.1, hl.2⟩
    · have := chain_lt ps (p.1 + 1) (p.2 + 1) h5 q hq
      omega
/-- The pairs are the most that can be kept. -/
theorem pairs_best (hA : A.length + B.length ≤ 1024) : (∀ q ∈ pairsV A B, rdI A q.1 = rdI B q.2 ∧ 0 ≤ q.1 ∧ 0 ≤ q.2 ∧ q.1 < A.length ∧ q.2 < B.length) ∧ Al A B (A.length + B.length - 2 * (pairsV A B).length) ∧ (pairsV A B).length ≤ A.length ∧ (pairsV A B).length ≤ B.length ∧ ∀ d, Al A B d → A.length + B.length - 2 * (pairsV A B).length ≤ d := by
  have hch := pairs_chain A B
  have hlt := chain_lt _ _ _ hch
  obtain ⟨D0, hD0, hf0⟩ := found_le (d := A.length + B.length) (by omega) (al_all A B)
  classical
  -- the least one
  have hleast : ∃ D, FoundAt A B D ∧ ∀ q, q < D → ¬ FoundAt A B q := by
    have key : ∀ n D, D ≤ n → FoundAt A B D → ∃ D, FoundAt A B D ∧ ∀ q, q < D → ¬ FoundAt A B q := by
      intro n
      induction n with
      | zero => intro D h1 h2; exact ⟨D, h2, fun q hq => by omega⟩
      | succ n ih =>
        intro D h1 h2
        by_cases c : ∃ q, q < D ∧ FoundAt A B q
        · obtain ⟨q, hq, hf⟩ := c
          exact ih q (by omega) hf
        · exact ⟨D, h2, fun q hq hf => c ⟨q, hq, hf⟩⟩
    exact key D0 D0 (Nat.le_refl _) hf0
  obtain ⟨D, hf, hmin⟩ := hleast
  have hDle : D ≤ D0 := by
    rcases Nat.lt_or_ge D0 D with h | h
    · exact absurd hf0 (hmin D0 h)
    · exact h
  have hpv : pairsV A B = (keptB (farV A B D) D (A.length : Int) ((A.length : Int) - (B.length : Int))).reverse := by
    unfold pairsV
    rw [findD_some A B 1025 0 D (by omega) (by omega) hf hmin]
  obtain ⟨k1, k2⟩ := kept_facts (p := []) (F := farV A B D ++ [[]]) (by omega) rfl D _ _ (Nat.le_refl _) (kinv_top (by omega) hf)
  rw [keptB_far A B D [[]] D _ _ (Nat.le_refl _)] at k1 k2
  have hpl : (pairsV A B).length = (keptB (farV A B D) D (A.length : Int) ((A.length : Int) - (B.length : Int))).length := by rw [hpv, List.length_reverse]
  have hm : ∀ q ∈ pairsV A B, rdI A q.1 = rdI B q.2 := fun q hq => k2 q (by rw [hpv] at hq; exact List.mem_reverse.1 hq)
  obtain ⟨a1, a2, a3⟩ := chain_al (A := A) (B := B) (pairsV A B) 0 0 (by omega) (by omega) hch (fun q hq => ⟨hm q hq, (hlt q hq).2.2.1, (hlt q hq).2.2.2⟩)
  simp only [Int.toNat_zero, List.drop_zero, Nat.sub_zero] at a1
  refine ⟨fun q hq => ⟨hm q hq, (hlt q hq).1, (hlt q hq).2.1, (hlt q hq).2.2.1, (hlt q hq).2.2.2⟩, a1, by omega, by omega, fun d hd => ?_⟩
  by_cases c : d ≤ 90000
  · obtain ⟨D2, h2, h3⟩ := found_le c hd
    have : D ≤ D2 := by
      rcases Nat.lt_or_ge D2 D with h | h
      · exact absurd h3 (hmin D2 h)
      · exact h
    omega
  · omega
end
end Go.Proofs.Ytbakllppgekmoaa.Cmp
