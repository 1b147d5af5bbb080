/- Pruned by wip/prune.py. -/
import Derived.Test.YtbakllppgekmoaaQWWords
namespace Go.Proofs.Ytbakllppgekmoaa.Cmp
set_option linter.unusedVariables false
set_option linter.unusedSimpArgs false
abbrev rdI (l : List Int) (i : Int) : Int := l.getD i.toNat 0
def slideN (A B : List Int) : Nat → Int → Int → Int
  | 0, x, _ => x
  | n + 1, x, y => if x < (A.length : Int) ∧ y < (B.length : Int) ∧ rdI A x = rdI B y then slideN A B n (x + 1) (y + 1) else x
def slideV (A B : List Int) (x y : Int) : Int := slideN A B (A.length + 1) x y
theorem slideN_facts (A B : List Int) : ∀ (n : Nat) (x y : Int), 0 ≤ x → x ≤ A.length → y ≤ B.length → x ≤ slideN A B n x y ∧ slideN A B n x y ≤ A.length ∧ slideN A B n x y - x + y ≤ B.length ∧ ∀ i, x ≤ i → i < slideN A B n x y → rdI A i = rdI B (i - x + y)
  | 0, x, y, h0, h1, h2 => by
    simp only [slideN]
    exact ⟨by omega, h1, by omega, fun i a b => by omega⟩
  | n + 1, x, y, h0, h1, h2 => by
    simp only [slideN]
    split
    · rename_i c
      obtain ⟨a, b, c2, d⟩ := slideN_facts A B n (x + 1) (y + 1) (by omega) (by omega) (by omega)
      refine ⟨by omega, b, by omega, fun i e f => ?_⟩
      by_cases hi : i = x
      · subst hi
        rw [show i - i + y = y by omega]
        exact c.2.2
      · have := d i (by omega) f
        rwa [show i - (x + 1) + (y + 1) = i - x + y by omega] at this
    · exact ⟨by omega, h1, by omega, fun i a b => by omega⟩
def startV (F : List (List Int)) (d k : Int) : Int :=
  if d = 0 then 0 else if k = -d then rdI (F.getD (d - 1).toNat []) (k + 1 + d - 1) else if k = d then rdI (F.getD (d - 1).toNat []) (k - 1 + d - 1) + 1
  else if rdI (F.getD (d - 1).toNat []) (k - 1 + d - 1) < rdI (F.getD (d - 1).toNat []) (k + 1 + d - 1) then rdI (F.getD (d - 1).toNat []) (k + 1 + d - 1) else rdI (F.getD (d - 1).toNat []) (k - 1 + d - 1) + 1
def cellV (A B : List Int) (F : List (List Int)) (d k : Int) : Int :=
  if startV F d k > (A.length : Int) ∨ startV F d k - k > (B.length : Int) ∨ startV F d k - k < 0 then -1073741824 else slideV A B (startV F d k) (startV F d k - k)
def rowP (A B : List Int) (F : List (List Int)) (d j : Nat) : List Int := (List.range (2 * d + 1)).map fun i => if i % 2 = 0 ∧ i < 2 * j then cellV A B F (d : Int) ((i : Int) - d) else 0
theorem rowP_len (A B : List Int) (F : List (List Int)) (d j : Nat) : (rowP A B F d j).length = 2 * d + 1 := by simp [rowP]
theorem rowP_zero (A B : List Int) (F : List (List Int)) (d : Nat) : rowP A B F d 0 = List.replicate (2 * d + 1) 0 := by
  apply List.ext_getElem?
  intro i
  unfold rowP
  rw [List.getElem?_map, List.getElem?_replicate]
  by_cases h : i < 2 * d + 1
  · rw [List.getElem?_range h, if_pos h]
    simp
  · rw [if_neg h, List.getElem?_eq_none (by simp; omega)]
    rfl
theorem rowP_at (A B : List Int) (F : List (List Int)) (d j i : Nat) (h : i < 2 * d + 1) : (rowP A B F d j).getD i 0 = if i % 2 = 0 ∧ i < 2 * j then cellV A B F (d : Int) ((i : Int) - d) else 0 := by
  rw [List.getD_eq_getElem?_getD]
  unfold rowP
  rw [List.getElem?_map, List.getElem?_range h]
  rfl
theorem rowP_set (A B : List Int) (F : List (List Int)) (d j : Nat) (h : j ≤ d) : (rowP A B F d j).set (2 * j) (cellV A B F (d : Int) (2 * (j : Int) - d)) = rowP A B F d (j + 1) := by
  apply List.ext_getElem?
  intro i
  by_cases hi : i < 2 * d + 1
  · rw [List.getElem?_set]
    by_cases e : 2 * j = i
    · subst e
      rw [if_pos rfl, if_pos (by rw [rowP_len]; exact hi)]
      unfold rowP
      rw [List.getElem?_map, List.getElem?_range hi]
      show some _ = some _
      dsimp only
      rw [if_pos ⟨by omega, by omega⟩, show ((2 * j : Nat) : Int) = 2 * (j : Int) by omega]
    · rw [if_neg e]
      unfold rowP
      rw [List.getElem?_map, List.getElem?_map, List.getElem?_range hi]
      show some _ = some _
      dsimp only
      by_cases c : i % 2 = 0 ∧ i < 2 * j
      · rw [if_pos c, if_pos ⟨c.1, by omega⟩]
      · rw [if_neg c, if_neg (by omega)]
  · rw [List.getElem?_eq_none (by rw [List.length_set, rowP_len]; omega), List.getElem?_eq_none (by rw [rowP_len]; omega)]
def farV (A B : List Int) : Nat → List (List Int)
  | 0 => []
  | d + 1 => farV A B d ++ [rowP A B (farV A B d) d (d + 1)]
theorem far_len (A B : List Int) : ∀ d, (farV A B d).length = d
  | 0 => rfl
  | d + 1 => by simp [farV, far_len A B d]
theorem far_get (A B : List Int) : ∀ (D i : Nat) (l : List (List Int)), i < D → (farV A B D ++ l).getD i [] = rowP A B (farV A B i) i (i + 1)
  | 0, i, l, h => by omega
  | D + 1, i, l, h => by
    have hl := far_len A B D
    simp only [farV, List.append_assoc]
    by_cases e : i = D
    · subst e
      rw [List.getD_eq_getElem?_getD, List.getElem?_append_right (by omega), hl, Nat.sub_self]
      rfl
    · exact far_get A B D i _ (by omega)
theorem start_far (A B : List Int) (D : Nat) (l : List (List Int)) (d : Nat) (k : Int) (h : d ≤ D) : startV (farV A B D ++ l) d k = startV (farV A B d) d k := by
  unfold startV
  by_cases h0 : (d : Int) = 0
  · rw [if_pos h0, if_pos h0]
  · have e : (farV A B D ++ l).getD ((d : Int) - 1).toNat [] = (farV A B d).getD ((d : Int) - 1).toNat [] := by
      have e2 := far_get A B d ((d : Int) - 1).toNat [] (by omega)
      rw [List.append_nil] at e2
      rw [e2, far_get A B D _ l (by omega)]
    rw [e]
/-- Rows as they should be. -/
def FOK (m : Int) (F : List (List Int)) : Prop := ∀ i : Nat, i < F.length → (F.getD i []).length = 2 * i + 1 ∧ ∀ j : Nat, (F.getD i []).getD j 0 = -1073741824 ∨ (0 ≤ (F.getD i []).getD j 0 ∧ (F.getD i []).getD j 0 ≤ m)
theorem start_val {m : Int} {F : List (List Int)} {d : Nat} {k : Int} (hF : FOK m F) (hd : d ≤ F.length) (hm : 0 ≤ m) : (startV F d k = -1073741824 ∨ startV F d k = -1073741823) ∨ (0 ≤ startV F d k ∧ startV F d k ≤ m + 1) := by
  unfold startV
  by_cases h0 : (d : Int) = 0
  · rw [if_pos h0]; omega
  · rw [if_neg h0]
    obtain ⟨_, hv⟩ := hF ((d : Int) - 1).toNat (by omega)
    have h1 := hv (k + 1 + (d : Int) - 1).toNat
    have h2 := hv (k - 1 + (d : Int) - 1).toNat
    unfold rdI
    repeat' split
    all_goals omega
theorem cell_val {A B : List Int} {F : List (List Int)} {d : Nat} {k : Int} (hF : FOK A.length F) (hd : d ≤ F.length) (hk : -1000000 ≤ k) : cellV A B F d k = -1073741824 ∨ (0 ≤ startV F d k ∧ startV F d k ≤ cellV A B F d k ∧ cellV A B F d k ≤ A.length ∧ 0 ≤ startV F d k - k ∧ cellV A B F d k - k ≤ B.length ∧ startV F d k ≤ A.length ∧
    ∀ i, startV F d k ≤ i → i < cellV A B F d k → rdI A i = rdI B (i - k)) := by
  have h := start_val (k := k) hF hd (by omega)
  unfold cellV
  split
  · exact .inl rfl
  · rename_i c
    right
    obtain ⟨a, b, e, f⟩ := slideN_facts A B (A.length + 1) (startV F d k) (startV F d k - k) (by omega) (by omega) (by omega)
    refine ⟨by omega, a, b, by omega, ?_, by omega, fun i h1 h2 => ?_⟩
    · unfold slideV; omega
    · have := f i h1 h2
      rwa [show i - startV F d k + (startV F d k - k) = i - k by omega] at this
theorem far_ok' (A B : List Int) : ∀ D, D ≤ 100000 → ∀ i, i ≤ D → FOK A.length (farV A B i)
  | 0, _, i, hi => fun q h => by
    obtain rfl : i = 0 := by omega
    simp [farV] at h
  | D + 1, hD, n, hn => by
    have ih := far_ok' A B D (by omega)
    by_cases hnD : n ≤ D
    · exact ih n hnD
    · obtain rfl : n = D + 1 := by omega
      intro i h
      rw [far_len] at h
      have e := far_get A B (D + 1) i [] h
      rw [List.append_nil] at e
      rw [e]
      refine ⟨rowP_len .., fun j => ?_⟩
      have ihi := ih i (by omega)
      by_cases hj : j < 2 * i + 1
      · rw [rowP_at _ _ _ _ _ _ hj]
        split
        · rcases cell_val (B := B) (k := (j : Int) - i) ihi (by rw [far_len]; exact Nat.le_refl _) (by omega) with h | ⟨h1, h2, h3, _⟩
          · exact .inl h
          · exact .inr ⟨by omega, h3⟩
        · exact .inr ⟨by omega, by omega⟩
      · right
        rw [List.getD_eq_getElem?_getD, List.getElem?_eq_none (by rw [rowP_len]; omega)]
        exact ⟨by show (0 : Int) ≤ 0; omega, by show (0 : Int) ≤ _; omega⟩
theorem far_ok (A B : List Int) (D : Nat) (h : D ≤ 100000) : FOK A.length (farV A B D) := far_ok' A B D h D (Nat.le_refl _)
/-- With so many steps both texts' ends are reached. -/
def FoundK (A B : List Int) (d : Nat) (j : Nat) : Prop := (A.length : Int) ≤ cellV A B (farV A B d) d (2 * (j : Int) - d) ∧ (B.length : Int) ≤ cellV A B (farV A B d) d (2 * (j : Int) - d) - (2 * (j : Int) - d)
def FoundAt (A B : List Int) (d : Nat) : Prop := ∃ j, j ≤ d ∧ FoundK A B d j
def RunPost (A B : List Int) (most : Int) (D : Nat) (ok : Bool) (F : List (List Int)) : Prop :=
  (ok = true ∧ (D : Int) ≤ most ∧ (∃ p, F = farV A B D ++ [p]) ∧ FoundAt A B D ∧ ∀ d, d < D → ¬ FoundAt A B d) ∨ (ok = false ∧ D = 0 ∧ ∀ d : Nat, (d : Int) ≤ most → ¬ FoundAt A B d)
def dnV (k lo : Int) : Nat → List (Int × Int)
  | 0 => []
  | n + 1 => (lo + n, lo + n - k) :: dnV k lo n
def goesUp (F : List (List Int)) (d k : Int) : Prop := k = -d ∨ (k ≠ d ∧ rdI (F.getD (d - 1).toNat []) (k - 1 + d - 1) < rdI (F.getD (d - 1).toNat []) (k + 1 + d - 1))
instance (F : List (List Int)) (d k : Int) : Decidable (goesUp F d k) := by unfold goesUp; infer_instance
def keptB (F : List (List Int)) : Nat → Int → Int → List (Int × Int)
  | 0, x, k => dnV k (startV F 0 k) (x - startV F 0 k).toNat
  | d + 1, x, k => dnV k (startV F (d + 1 : Nat) k) (x - startV F (d + 1 : Nat) k).toNat ++
      (if goesUp F (d + 1 : Nat) k then keptB F d (rdI (F.getD d []) (k + 1 + (d + 1 : Nat) - 1)) (k + 1) else keptB F d (rdI (F.getD d []) (k - 1 + (d + 1 : Nat) - 1)) (k - 1))
/-- What holds on the way back: the cell is one that was reached. -/
structure KInv (A B : List Int) (d : Nat) (x k : Int) : Prop where
  lo : -(d : Int) ≤ k
  hi : k ≤ d
  par : (k + d) % 2 = 0
  cell : x = cellV A B (farV A B d) d k
  ok : 0 ≤ x
theorem kinv_val {A B : List Int} {d : Nat} {x k : Int} (hd : d ≤ 100000) (h : KInv A B d x k) : 0 ≤ startV (farV A B d) d k ∧ startV (farV A B d) d k ≤ x ∧ x ≤ A.length ∧ 0 ≤ startV (farV A B d) d k - k ∧ x - k ≤ B.length ∧ ∀ i, startV (farV A B d) d k ≤ i → i < x → rdI A i = rdI B (i - k) := by
  obtain ⟨h1, h2, h3, h4, h5⟩ := h
  rcases cell_val (A := A) (B := B) (d := d) (k := k) (far_ok A B d hd) (by rw [far_len]; exact Nat.le_refl _) (by omega) with h | ⟨a, b, c, e, f, g, i⟩
  · omega
  · rw [← h4] at b c f i
    exact ⟨a, b, c, e, f, i⟩
theorem kinv_top {A B : List Int} {d : Nat} (hd : d ≤ 100000) (h : FoundAt A B d) : KInv A B d A.length ((A.length : Int) - B.length) := by
  obtain ⟨j, hj, h1, h2⟩ := h
  rcases cell_val (A := A) (B := B) (d := d) (k := 2 * (j : Int) - d) (far_ok A B d hd) (by rw [far_len]; exact Nat.le_refl _) (by omega) with h | ⟨a, b, c, e, f, g, i⟩
  · omega
  · have ek : (A.length : Int) - B.length = 2 * (j : Int) - d := by omega
    rw [ek]
    exact ⟨by omega, by omega, by omega, by omega, by omega⟩
theorem kinv_next {A B : List Int} {d : Nat} {x k : Int} (hd : d + 1 ≤ 100000) (h : KInv A B (d + 1) x k) :
    (goesUp (farV A B (d + 1)) (d + 1 : Nat) k → KInv A B d (rdI ((farV A B (d + 1)).getD d []) (k + 1 + (d + 1 : Nat) - 1)) (k + 1) ∧ startV (farV A B (d + 1)) (d + 1 : Nat) k = rdI ((farV A B (d + 1)).getD d []) (k + 1 + (d + 1 : Nat) - 1)) ∧
    (¬ goesUp (farV A B (d + 1)) (d + 1 : Nat) k → KInv A B d (rdI ((farV A B (d + 1)).getD d []) (k - 1 + (d + 1 : Nat) - 1)) (k - 1) ∧ startV (farV A B (d + 1)) (d + 1 : Nat) k = rdI ((farV A B (d + 1)).getD d []) (k - 1 + (d + 1 : Nat) - 1) + 1) := by
  obtain ⟨v1, _⟩ := kinv_val hd h
  obtain ⟨h1, h2, h3, h4, h5⟩ := h
  have e := far_get A B (d + 1) d [] (by omega)
  rw [List.append_nil] at e
  have hv := (far_ok A B (d + 1) hd d (by rw [far_len]; omega)).2
  have hs : startV (farV A B (d + 1)) (d + 1 : Nat) k = if goesUp (farV A B (d + 1)) (d + 1 : Nat) k then rdI ((farV A B (d + 1)).getD d []) (k + 1 + (d + 1 : Nat) - 1) else rdI ((farV A B (d + 1)).getD d []) (k - 1 + (d + 1 : Nat) - 1) + 1 := by
    have et : (((d + 1 : Nat) : Int) - 1).toNat = d := by omega
    by_cases g : goesUp (farV A B (d + 1)) (d + 1 : Nat) k
    · rw [if_pos g]
      unfold goesUp at g
      rw [et] at g
      unfold startV
      rw [if_neg (by omega), et]
      rcases g with g | ⟨g1, g2⟩
      · rw [if_pos g]
      · by_cases c1 : k = -((d + 1 : Nat) : Int)
        · rw [if_pos c1]
        · rw [if_neg c1, if_neg g1, if_pos g2]
    · rw [if_neg g]
      unfold goesUp at g
      rw [et] at g
      unfold startV
      rw [if_neg (by omega), et, if_neg (fun h => g (.inl h))]
      by_cases c2 : k = ((d + 1 : Nat) : Int)
      · rw [if_pos c2]
      · rw [if_neg c2, if_neg (fun h => g (.inr ⟨c2, h⟩))]
  constructor
  · intro g
    rw [if_pos g] at hs
    refine ⟨?_, hs⟩
    have hk : k + 1 ≤ d := by
      unfold goesUp at g
      omega
    have ea : rdI ((farV A B (d + 1)).getD d []) (k + 1 + (d + 1 : Nat) - 1) = cellV A B (farV A B d) d (k + 1) := by
      rw [e]
      unfold rdI
      rw [rowP_at _ _ _ _ _ _ (by omega), if_pos ⟨by omega, by omega⟩, show (((k + 1 + (d + 1 : Nat) - 1).toNat : Nat) : Int) - d = k + 1 by omega]
    exact ⟨by omega, by omega, by omega, ea, by rw [hs] at v1; exact v1⟩
  · intro g
    rw [if_neg g] at hs
    refine ⟨?_, hs⟩
    have hk : -(d : Int) ≤ k - 1 := by
      unfold goesUp at g
      omega
    have ea : rdI ((farV A B (d + 1)).getD d []) (k - 1 + (d + 1 : Nat) - 1) = cellV A B (farV A B d) d (k - 1) := by
      rw [e]
      unfold rdI
      rw [rowP_at _ _ _ _ _ _ (by omega), if_pos ⟨by omega, by omega⟩, show (((k - 1 + (d + 1 : Nat) - 1).toNat : Nat) : Int) - d = k - 1 by omega]
    refine ⟨by omega, by omega, by omega, ea, ?_⟩
    rcases hv (k - 1 + (d + 1 : Nat) - 1).toNat with hq | hq
    · have : rdI ((farV A B (d + 1)).getD d []) (k - 1 + (d + 1 : Nat) - 1) = -1073741824 := hq
      omega
    · exact hq.1
def restV (F : List (List Int)) (d : Nat) (k : Int) : List (Int × Int) := match d with
  | 0 => []
  | d + 1 => if goesUp F (d + 1 : Nat) k then keptB F d (rdI (F.getD d []) (k + 1 + (d + 1 : Nat) - 1)) (k + 1) else keptB F d (rdI (F.getD d []) (k - 1 + (d + 1 : Nat) - 1)) (k - 1)
theorem keptB_eq (F : List (List Int)) (d : Nat) (x k : Int) : keptB F d x k = dnV k (startV F d k) (x - startV F d k).toNat ++ restV F d k := by
  cases d with
  | zero => simp [keptB, restV]
  | succ d => rfl
section
variable {A B : List Int} {F : List (List Int)} {D d : Nat} {x k : Int} {p : List Int}
theorem goesUp_far (hF : F = farV A B D ++ [p]) (h1 : 1 ≤ d) (hd : d ≤ D) : goesUp F d k ↔ goesUp (farV A B d) d k := by
  have e : F.getD ((d : Int) - 1).toNat [] = (farV A B d).getD ((d : Int) - 1).toNat [] := by
    have e2 := far_get A B d ((d : Int) - 1).toNat [] (by omega)
    rw [List.append_nil] at e2
    rw [e2, hF, far_get A B D _ [p] (by omega)]
  unfold goesUp
  rw [e]
theorem kinv_up (hF : F = farV A B D ++ [p]) (hD : D ≤ 90000) (h1 : 1 ≤ d) (hd : d ≤ D) (h : KInv A B d x k) (hg : goesUp F d k) :
    KInv A B (d - 1) (rdI (F.getD ((d : Int) - 1).toNat []) (k + 1 + d - 1)) (k + 1) ∧ restV F d k = keptB F (d - 1) (rdI (F.getD ((d : Int) - 1).toNat []) (k + 1 + d - 1)) (k + 1) ∧ startV F d k = rdI (F.getD ((d : Int) - 1).toNat []) (k + 1 + d - 1) := by
  have hsf := start_far A B D [p] d k hd
  rw [← hF] at hsf
  obtain ⟨d, rfl⟩ : ∃ q, d = q + 1 := ⟨d - 1, by omega⟩
  have e : F.getD d [] = (farV A B (d + 1)).getD d [] := by
    have e2 := far_get A B (d + 1) d [] (by omega)
    rw [List.append_nil] at e2
    rw [e2, hF, far_get A B D _ [p] (by omega)]
  have et : (((d + 1 : Nat) : Int) - 1).toNat = d := by omega
  rw [et, Nat.add_sub_cancel]
  have hn := (kinv_next (by omega) h).1 ((goesUp_far hF h1 hd).1 hg)
  refine ⟨?_, if_pos hg, ?_⟩
  · rw [e]; exact hn.1
  · rw [e, hsf]; exact hn.2
theorem kinv_dn (hF : F = farV A B D ++ [p]) (hD : D ≤ 90000) (h1 : 1 ≤ d) (hd : d ≤ D) (h : KInv A B d x k) (hg : ¬ goesUp F d k) :
    KInv A B (d - 1) (rdI (F.getD ((d : Int) - 1).toNat []) (k - 1 + d - 1)) (k - 1) ∧ restV F d k = keptB F (d - 1) (rdI (F.getD ((d : Int) - 1).toNat []) (k - 1 + d - 1)) (k - 1) ∧ startV F d k = rdI (F.getD ((d : Int) - 1).toNat []) (k - 1 + d - 1) + 1 := by
  have hsf := start_far A B D [p] d k hd
  rw [← hF] at hsf
  obtain ⟨d, rfl⟩ : ∃ q, d = q + 1 := ⟨d - 1, by omega⟩
  have e : F.getD d [] = (farV A B (d + 1)).getD d [] := by
    have e2 := far_get A B (d + 1) d [] (by omega)
    rw [List.append_nil] at e2
    rw [e2, hF, far_get A B D _ [p] (by omega)]
  have et : (((d + 1 : Nat) : Int) - 1).toNat = d := by omega
  rw [et, Nat.add_sub_cancel]
  have hn := (kinv_next (by omega) h).2 (fun z => hg ((goesUp_far hF h1 hd).2 z))
  refine ⟨?_, if_neg hg, ?_⟩
  · rw [e]; exact hn.1
  · rw [e, hsf]; exact hn.2
theorem kinv_at (hF : F = farV A B D ++ [p]) (hD : D ≤ 90000) (hd : d ≤ D) (h : KInv A B d x k) : 0 ≤ startV F d k ∧ startV F d k ≤ x ∧ x ≤ A.length ∧ 0 ≤ startV F d k - k ∧ x - k ≤ B.length := by
  rw [hF, start_far A B D [p] d k hd]
  obtain ⟨a, b, c, e, f, _⟩ := kinv_val (by omega) h
  exact ⟨a, b, c, e, f⟩
theorem far_okp (hF : F = farV A B D ++ [p]) (hD : D ≤ 90000) (i : Nat) (hi : i < D) : (F.getD i []).length = 2 * i + 1 ∧ ∀ j : Nat, (F.getD i []).getD j 0 = -1073741824 ∨ (0 ≤ (F.getD i []).getD j 0 ∧ (F.getD i []).getD j 0 ≤ A.length) := by
  have h := far_ok A B D (by omega) i (by rw [far_len]; exact hi)
  have e2 := far_get A B D i [] hi
  rw [List.append_nil] at e2
  rw [e2] at h
  rw [hF, far_get A B D i [p] hi]
  exact h
end
def revP {α : Type} (z : α) (T : List α) (i : Nat) : List α := (List.range T.length).map fun q => if q < i ∨ T.length - 1 - q < i then T.getD (T.length - 1 - q) z else T.getD q z
theorem revP_len {α : Type} (z : α) (T : List α) (i : Nat) : (revP z T i).length = T.length := by simp [revP]
theorem revP_at {α : Type} (z : α) (T : List α) (i q : Nat) (h : q < T.length) : (revP z T i).getD q z = if q < i ∨ T.length - 1 - q < i then T.getD (T.length - 1 - q) z else T.getD q z := by
  rw [List.getD_eq_getElem?_getD]
  unfold revP
  rw [List.getElem?_map, List.getElem?_range h]
  rfl
theorem ext_getD {α : Type} (z : α) {L M : List α} (hl : L.length = M.length) (h : ∀ q, q < L.length → L.getD q z = M.getD q z) : L = M := by
  apply List.ext_getElem hl
  intro q h1 h2
  have := h q h1
  rwa [List.getD_eq_getElem?_getD, List.getD_eq_getElem?_getD, List.getElem?_eq_getElem h1, List.getElem?_eq_getElem h2] at this
theorem revP_zero {α : Type} (z : α) (T : List α) : revP z T 0 = T := ext_getD z (revP_len z T 0) fun q hq => by
  rw [revP_len] at hq
  rw [revP_at z T 0 q hq, if_neg (by omega)]
theorem getD_set {α : Type} (z : α) (L : List α) (i q : Nat) (v : α) (hq : q < L.length) : (L.set i v).getD q z = if i = q then v else L.getD q z := by
  rw [List.getD_eq_getElem?_getD, List.getElem?_set]
  split
  · rename_i h
    subst h
    rw [if_pos hq]
    rfl
  · rw [List.getD_eq_getElem?_getD]
theorem revP_step {α : Type} (z : α) (T : List α) (i j : Nat) (h : i < j) (hj : j + i + 1 = T.length) : ((revP z T i).set i ((revP z T i).getD j z)).set j ((revP z T i).getD i z) = revP z T (i + 1) := by
  refine ext_getD z (by simp [revP_len]) fun q hq => ?_
  simp only [List.length_set, revP_len] at hq
  rw [getD_set z _ _ _ _ (by simp only [List.length_set, revP_len]; exact hq), getD_set z _ _ _ _ (by simp only [revP_len]; exact hq), revP_at z T (i + 1) q hq, revP_at z T i q hq, revP_at z T i i (by omega), revP_at z T i j (by omega)]
  by_cases c1 : j = q
  · subst c1
    rw [if_pos rfl, if_neg (by omega), if_pos (by omega)]
    congr 1
    omega
  · rw [if_neg c1]
    by_cases c2 : i = q
    · subst c2
      rw [if_pos rfl, if_neg (by omega), if_pos (by omega)]
      congr 1
      omega
    · rw [if_neg c2]
      by_cases c3 : q < i ∨ T.length - 1 - q < i
      · rw [if_pos c3, if_pos (by omega)]
      · rw [if_neg c3, if_neg (by omega)]
theorem revP_end {α : Type} (z : α) (T : List α) (i : Nat) (h : T.length ≤ 2 * i + 1) : revP z T i = T.reverse := by
  refine ext_getD z (by simp [revP_len]) fun q hq => ?_
  rw [revP_len] at hq
  rw [revP_at z T i q hq, List.getD_eq_getElem?_getD (l := T.reverse), List.getElem?_reverse hq, ← List.getD_eq_getElem?_getD]
  by_cases c : q < i ∨ T.length - 1 - q < i
  · rw [if_pos c]
  · rw [if_neg c]
    congr 1
    omega
end Go.Proofs.Ytbakllppgekmoaa.Cmp
