/- Pruned by wip/prune.py. -/
import Derived.Test.YtemgnkloloaeoaaQPureLeast
import Derived.Test.YtemgnkloloaeoaaQPAllx12
set_option linter.unusedVariables false
set_option linter.unusedSimpArgs false
namespace Go.Proofs.Ytemgnkloloaeoaa.Pure
open Go.RowKit Go.Proofs.Ytemgnkloloaeoaa.PAll Go.Proofs.YtemgnkloloaeoaaW.PrintWords Go.Proofs.YtemgnkloloaeoaaW.PrintLast Go.Proofs.YtemgnkloloaeoaaW.PrintMore Go.Proofs.Ytemgnkloloaeoaa.Given
theorem copyp_l (x : List Page) (hx : Few x) : ∀ (n i : Nat), i + n = x.length → ∀ k, n + 60 ≤ k → diff_Copy.l0 k (x.take i) x (x.length : Int) (i : Int) = some x := by
  have hl := hx.1
  intro n
  induction n with
  | zero =>
    intro i hi k hk
    obtain ⟨k, rfl⟩ : ∃ m, k = m + 1 := ⟨k - 1, by omega⟩
    simp only [diff_Copy.l0]
    rw [if_neg (by omega), List.take_of_length_le (by omega)]
  | succ n ih =>
    intro i hi k hk
    obtain ⟨k, rfl⟩ : ∃ m, k = m + 1 := ⟨k - 1, by omega⟩
    simp only [diff_Copy.l0]
    have hlt : (x.take i).length ≤ 20 := by rw [List.length_take]; omega
    have e : rd_T31 x (i : Int) = x[i] := by unfold rd_T31; simp [List.getD, show i < x.length by omega]
    rw [if_pos (by omega), if_pos (by omega), if_pos (by omega), copied_val _ (few_at hx i (by omega) (by omega)) k (by omega), bind_s, if_pos (by omega), w_id (by omega) (by omega), show ((i : Int) + 1) = ((i + 1 : Nat) : Int) by omega]
    have e2 : ([⟨pgs x (i : Int)⟩] : List Page) = [x[i]] := by show [(⟨(rd_T31 x (i : Int)).f0⟩ : Page)] = _; rw [e]
    rw [e2, ← List.take_succ_eq_append_getElem (by omega)]
    exact ih (i + 1) (by omega) k (by omega)
theorem copyp_val (x : List Page) (hx : Few x) : diff_Copy.f 100 x = some x := by
  have hl := hx.1
  have h := copyp_l x hx x.length 0 (by omega) 100 (by omega)
  simpa [diff_Copy.f] using h
/-- Can a region be? -/
def fitsB (x : List Page) (r : Region) (last now : Int) : Bool :=
  if r.f0 ≤ last then false
  else if r.f1 = 1 then decide (r.f0 < (x.length : Int) ∧ 0 ≤ r.f2 ∧ 0 ≤ r.f3 ∧ r.f2 ≤ ((pgs x r.f0).length : Int) ∧ r.f3 ≤ ((pgs x r.f0).length : Int) - r.f2)
  else if r.f1 = 2 then decide ((x.length : Int) ≤ r.f0 ∧ r.f0 = now ∧ r.f2 = 0 ∧ r.f3 = 0)
  else if r.f1 = 3 then decide (r.f0 < (x.length : Int) ∧ r.f2 = 0 ∧ r.f3 = ((pgs x r.f0).length : Int) ∧ r.f4.length = 0)
  else false
/-- Are just the pages from one up to another one told to be gone? -/
def rowB : List Region → Int → Int → Bool
  | [], f, t => f == t
  | r :: l, f, t => if r.f1 = 3 then (if r.f0 = f then rowB l (f + 1) t else false) else rowB l f t
theorem row_l (l : List Region) (hl : l.length ≤ 1000) (t : Int) : ∀ (n i : Nat) (f : Int), i + n = l.length → 0 ≤ f → f + n ≤ 100000 → ∀ k, n + 1 ≤ k → diff_row.l0 k f t l (l.length : Int) (i : Int) = some (rowB (l.drop i) f t) := by
  intro n
  induction n with
  | zero =>
    intro i f hi h0 h1 k hk
    obtain ⟨k, rfl⟩ : ∃ m, k = m + 1 := ⟨k - 1, by omega⟩
    simp only [diff_row.l0]
    rw [if_neg (by omega), List.drop_eq_nil_of_le (by omega)]
    rfl
  | succ n ih =>
    intro i f hi h0 h1 k hk
    obtain ⟨k, rfl⟩ : ∃ m, k = m + 1 := ⟨k - 1, by omega⟩
    have hil : i < l.length := by omega
    have e : rd_T34 l (i : Int) = l[i] := by unfold rd_T34; simp [List.getD, hil]
    simp only [diff_row.l0]
    rw [if_pos (by omega), if_pos (by omega), if_pos (by omega), e, List.drop_eq_getElem_cons hil]
    simp only [rowB]
    rw [w_id (x := f + 1) (by omega) (by omega), w_id (x := (i : Int) + 1) (by omega) (by omega), show ((i : Int) + 1) = ((i + 1 : Nat) : Int) by omega, ih (i + 1) (f + 1) (by omega) (by omega) (by omega) k (by omega), ih (i + 1) f (by omega) (by omega) (by omega) k (by omega)]
    split <;> rename_i h2
    · split <;> rfl
    · rfl
theorem row_val (l : List Region) (hl : l.length ≤ 1000) (f t : Int) (h0 : 0 ≤ f) (h1 : f ≤ 1000) : diff_row.f 2000 l f t = some (rowB l f t) := by
  have h := row_l l hl t l.length 0 f (by omega) h0 (by omega) 2000 (by omega)
  simpa [diff_row.f] using h
/-- Where a patch is. -/
structure PSt where
  out : List Page
  last : Int
  gone : Bool
def changed (X : List Line) (r : Region) : List Line := X.take r.f2.toNat ++ r.f4 ++ X.drop (r.f2 + r.f3).toNat
def pstep (x : List Page) (s : PSt) (r : Region) : Option PSt :=
  if fitsB x r s.last (s.out.length : Int) = false ∨ (s.gone = true ∧ r.f1 ≠ 3) then none
  else if r.f1 = 1 then some ⟨s.out.set r.f0.toNat ⟨changed (s.out.getD r.f0.toNat z31).f0 r⟩, r.f0, s.gone⟩
  else if r.f1 = 2 then some ⟨s.out ++ [⟨r.f4⟩], r.f0, s.gone⟩
  else if s.gone = true then some ⟨s.out, r.f0, true⟩ else some ⟨s.out.take r.f0.toNat, r.f0, true⟩
def pfold (x : List Page) (rs : List Region) : Nat → Option PSt
  | 0 => some ⟨x, -1, false⟩
  | k + 1 => (pfold x rs k).bind fun s => pstep x s (rs.getD k z34)
def pfin (x : List Page) (rs : List Region) (s : PSt) : List Page × Int :=
  if (s.gone = true ∧ s.last ≠ (x.length : Int) - 1) ∨ (s.gone = true ∧ rowB rs (s.out.length : Int) (x.length : Int) = false) then ([], 140) else (s.out, 0)
def patchV (x : List Page) (rs : List Region) : List Page × Int := match pfold x rs rs.length with
  | none => ([], 140)
  | some s => pfin x rs s
theorem pfold_none {x : List Page} {rs : List Region} {k : Nat} (h : pfold x rs k = none) : ∀ m, pfold x rs (k + m) = none
  | 0 => h
  | m + 1 => by
    show (pfold x rs (k + m)).bind _ = none
    rw [pfold_none h m]
    rfl
theorem patch_none {x : List Page} {rs : List Region} {k : Nat} (hk : k ≤ rs.length) (h : pfold x rs k = none) : patchV x rs = ([], 140) := by
  have := pfold_none h (rs.length - k)
  rw [show k + (rs.length - k) = rs.length by omega] at this
  unfold patchV
  rw [this]
theorem fits_facts {x : List Page} {r : Region} {last now : Int} (h : fitsB x r last now = true) : last < r.f0 ∧ (r.f1 = 1 → r.f0 < (x.length : Int) ∧ 0 ≤ r.f2 ∧ 0 ≤ r.f3 ∧ r.f2 + r.f3 ≤ ((pgs x r.f0).length : Int)) ∧ (r.f1 = 2 → (x.length : Int) ≤ r.f0 ∧ r.f0 = now) ∧ (r.f1 = 3 → r.f0 < (x.length : Int)) ∧ (r.f1 = 1 ∨ r.f1 = 2 ∨ r.f1 = 3) := by
  unfold fitsB at h
  split at h
  · cases h
  split at h
  · have := of_decide_eq_true h; exact ⟨by omega, fun _ => by omega, fun _ => by omega, fun _ => by omega, by omega⟩
  split at h
  · have := of_decide_eq_true h; exact ⟨by omega, fun _ => by omega, fun _ => by omega, fun _ => by omega, by omega⟩
  split at h
  · have := of_decide_eq_true h; exact ⟨by omega, fun _ => by omega, fun _ => by omega, fun _ => by omega, by omega⟩
  · cases h
/-- What holds between two regions. -/
structure PInv (x : List Page) (k : Nat) (s : PSt) : Prop where
  last0 : -1 ≤ s.last
  len : s.out.length ≤ x.length + k
  more : s.gone = false → x.length ≤ s.out.length
  same : s.gone = false → ∀ j : Nat, s.last < j → j < x.length → s.out.getD j z31 = x.getD j z31
theorem pinv_start (x : List Page) : PInv x 0 ⟨x, -1, false⟩ := ⟨by simp, by simp, fun _ => Nat.le_refl _, fun _ j _ _ => rfl⟩
theorem pinv_step {x : List Page} {k : Nat} {s s' : PSt} {r : Region} (h : PInv x k s) (hs : pstep x s r = some s') : PInv x (k + 1) s' := by
  obtain ⟨h1, h2, h3, h4⟩ := h
  unfold pstep at hs
  split at hs
  · cases hs
  rename_i hf
  have hf1 : fitsB x r s.last (s.out.length : Int) = true := by
    cases hq : fitsB x r s.last (s.out.length : Int) with
    | true => rfl
    | false => exact absurd (.inl hq) hf
  have hlt : s.last < r.f0 := by
    unfold fitsB at hf1
    split at hf1
    · cases hf1
    · omega
  split at hs
  · injection hs with hs
    subst hs
    refine ⟨by show -1 ≤ r.f0; omega, by simp only [List.length_set]; omega, fun hg => by simp only [List.length_set]; exact h3 hg, fun hg j hj hjx => ?_⟩
    show (s.out.set r.f0.toNat _).getD j _ = _
    rw [List.getD_eq_getElem?_getD, List.getElem?_set_ne (by have : r.f0 < j := hj; omega), ← List.getD_eq_getElem?_getD]
    exact h4 hg j (by have : r.f0 < j := hj; omega) hjx
  split at hs
  · injection hs with hs
    subst hs
    refine ⟨by show -1 ≤ r.f0; omega, by simp only [List.length_append, List.length_cons, List.length_nil]; omega, fun hg => by have := h3 hg; simp only [List.length_append]; omega, fun hg j hj hjx => ?_⟩
    have := h3 hg
    show (s.out ++ _).getD j _ = _
    rw [List.getD_eq_getElem?_getD, List.getElem?_append_left (by omega), ← List.getD_eq_getElem?_getD]
    exact h4 hg j (by have : r.f0 < j := hj; omega) hjx
  split at hs
  · injection hs with hs
    subst hs
    exact ⟨by show -1 ≤ r.f0; omega, by show s.out.length ≤ _; omega, fun hg => (by cases hg), fun hg => (by cases hg)⟩
  · injection hs with hs
    subst hs
    exact ⟨by show -1 ≤ r.f0; omega, by simp only [List.length_take]; omega, fun hg => (by cases hg), fun hg => (by cases hg)⟩
end Go.Proofs.Ytemgnkloloaeoaa.Pure
