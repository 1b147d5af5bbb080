/- Pruned by wip/prune.py. -/
import Derived.Test.YtmlkajmlhmfdgaaQSxKinds
namespace Go.Proofs.Ytmlkajmlhmfdgaa.Runs
open Go Go.RowKit Go.Proofs.YtmlkajmlhmfdgaaW.PrintWords Go.Proofs.Ytmlkajmlhmfdgaa.Kinds
set_option linter.unusedVariables false
set_option linter.unusedSimpArgs false
abbrev Rn := S50
/-- One byte more at the end. -/
def snocR (L : List Rn) (s : Int) : List Rn :=
  match L.getLast? with
  | some r => if r.f1 = s then L.dropLast ++ [⟨r.f0 + 1, r.f1⟩] else L ++ [⟨1, s⟩]
  | none => [⟨1, s⟩]
def runsOf (σ : List Int) : List Rn := σ.foldl snocR []
theorem runsOf_snoc (σ : List Int) (s : Int) : runsOf (σ ++ [s]) = snocR (runsOf σ) s := by simp [runsOf]
theorem runsOf_nil : runsOf [] = [] := rfl
/-- Bytes of one style at the end. -/
def putL (L : List Rn) (n : Nat) (s : Int) : List Rn :=
  if n = 0 then L else
  match L.getLast? with
  | some r => if r.f1 = s then L.dropLast ++ [⟨r.f0 + n, r.f1⟩] else L ++ [⟨n, s⟩]
  | none => [⟨n, s⟩]
theorem putL_succ (L : List Rn) (n : Nat) (s : Int) : snocR (putL L n s) s = putL L (n + 1) s := by
  by_cases hn : n = 0
  · subst hn
    simp [snocR, putL]
  · unfold putL
    simp only [if_neg hn, if_neg (show ¬ n + 1 = 0 by omega)]
    cases h : L.getLast? with
    | none => simp [snocR]
    | some r =>
      by_cases hs : r.f1 = s
      · simp [snocR, hs, Int.add_assoc]
      · simp [snocR, hs]
/-- By what stands at the end. -/
theorem snoc_ind {P : List Int → Prop} (h0 : P []) (h1 : ∀ σ s, P σ → P (σ ++ [s])) : ∀ σ, P σ := by
  intro σ
  obtain ⟨τ, rfl⟩ : ∃ τ, σ = τ.reverse := ⟨σ.reverse, by simp⟩
  induction τ with
  | nil => exact h0
  | cons s τ ih => rw [List.reverse_cons]; exact h1 _ _ ih
theorem runsOf_rep (σ : List Int) (n : Nat) (s : Int) : runsOf (σ ++ List.replicate n s) = putL (runsOf σ) n s := by
  induction n with
  | zero => simp [putL]
  | succ n ih =>
    rw [List.replicate_succ', ← List.append_assoc, runsOf_snoc, ih, putL_succ]
def lenR (L : List Rn) : Int := (L.map (·.f0)).sum
theorem lenR_snoc (L : List Rn) (s : Int) : lenR (snocR L s) = lenR L + 1 := by
  unfold snocR
  cases h : L.getLast? with
  | none => have : L = [] := List.getLast?_eq_none_iff.1 h; subst this; simp [lenR]
  | some r =>
    have e : L = L.dropLast ++ [r] := by
      obtain ⟨ys, rfl⟩ := List.getLast?_eq_some_iff.1 h
      simp
    simp only
    split
    · rw [e]; simp [lenR]; omega
    · simp [lenR]
theorem lenR_runs (σ : List Int) : lenR (runsOf σ) = σ.length := by
  induction σ using snoc_ind with
  | h0 => rfl
  | h1 σ s ih => rw [runsOf_snoc, lenR_snoc, ih]; simp
theorem pos_snoc {L : List Rn} (h : ∀ r ∈ L, 1 ≤ r.f0) (s : Int) : ∀ r ∈ snocR L s, 1 ≤ r.f0 := by
  unfold snocR
  cases hl : L.getLast? with
  | none => intro r hr; simp at hr; subst hr; simp
  | some q =>
    have hq : q ∈ L := List.mem_of_getLast? hl
    simp only
    split
    · intro r hr
      rcases List.mem_append.1 hr with hr | hr
      · exact h r (List.dropLast_subset _ hr)
      · rw [List.mem_singleton.1 hr]; have := h q hq; simp; omega
    · intro r hr
      rcases List.mem_append.1 hr with hr | hr
      · exact h r hr
      · rw [List.mem_singleton.1 hr]; simp
theorem pos_runs (σ : List Int) : ∀ r ∈ runsOf σ, 1 ≤ r.f0 := by
  induction σ using snoc_ind with
  | h0 => intro r hr; cases hr
  | h1 σ s ih => rw [runsOf_snoc]; exact pos_snoc ih s
/-- The bytes that runs tell. -/
def expand (L : List Rn) : List Int := L.flatMap fun r => List.replicate r.f0.toNat r.f1
theorem len_le {L : List Rn} (h : ∀ r ∈ L, 1 ≤ r.f0) : (L.length : Int) ≤ lenR L := by
  induction L with
  | nil => simp [lenR]
  | cons r L ih =>
    have h1 := h r List.mem_cons_self
    have h2 := ih (fun q hq => h q (List.mem_cons_of_mem _ hq))
    simp only [lenR, List.map_cons, List.sum_cons, List.length_cons] at h2 ⊢
    omega
theorem mem_lenR {L : List Rn} (h : ∀ r ∈ L, 1 ≤ r.f0) {r : Rn} (hr : r ∈ L) : r.f0 ≤ lenR L := by
  induction L with
  | nil => cases hr
  | cons q L ih =>
    have h1 := h q List.mem_cons_self
    have h3 := len_le (fun q hq => h q (List.mem_cons_of_mem _ hq) : ∀ r ∈ L, 1 ≤ r.f0)
    simp only [lenR, List.map_cons, List.sum_cons] at h3 ⊢
    rcases List.mem_cons.1 hr with rfl | hr
    · omega
    · have := ih (fun q hq => h q (List.mem_cons_of_mem _ hq)) hr
      simp only [lenR] at this
      omega
theorem getD_mem {L : List Rn} {k : Nat} (hk : k < L.length) (z : Rn) : L.getD k z ∈ L := by
  simp [List.getD, hk]
theorem last_getD {L : List Rn} (hL : 0 < L.length) (z : Rn) : L.getLast? = some (L.getD (L.length - 1) z) := by
  rw [List.getLast?_eq_getElem?]
  simp [List.getD, show L.length - 1 < L.length by omega]
theorem set_last {L : List Rn} (hL : 0 < L.length) (q : Rn) : L.set (L.length - 1) q = L.dropLast ++ [q] := by
  apply List.ext_getElem?
  intro i
  rw [List.getElem?_set, List.getElem?_append]
  simp only [List.length_dropLast]
  by_cases h : L.length - 1 = i
  · subst h; simp; omega
  · rw [if_neg h]
    by_cases h2 : i < L.length - 1
    · rw [if_pos h2, List.getElem?_dropLast, if_pos h2]
    · rw [if_neg h2, List.getElem?_eq_none (by omega), List.getElem?_eq_none (by simp; omega)]
/-- Where run number k begins. -/
def posR (L : List Rn) (k : Nat) : Nat := (expand (L.take k)).length
theorem take_expand (L : List Rn) (k : Nat) : (expand L).take (posR L k) = expand (L.take k) := by
  have e : expand L = expand (L.take k) ++ expand (L.drop k) := by
    unfold expand
    rw [← List.flatMap_append, List.take_append_drop]
  unfold posR
  rw [e, List.take_append_of_le_length (Nat.le_refl _), List.take_length]
theorem expand_take_succ (L : List Rn) (k : Nat) (hk : k < L.length) (z : Rn) : expand (L.take (k + 1)) = expand (L.take k) ++ List.replicate (L.getD k z).f0.toNat (L.getD k z).f1 := by
  rw [List.take_succ_eq_append_getElem hk]
  unfold expand
  rw [List.flatMap_append]
  simp [List.getD, hk]
theorem posR_le (L : List Rn) (k : Nat) : posR L k ≤ (expand L).length := by
  unfold posR
  rw [← take_expand]
  simp only [List.length_take]
  exact Nat.min_le_right _ _
/-- What of a part lies in the first bytes. -/
def part (σ : List Int) (a b : Nat) : List Int := (σ.take b).drop a
end Go.Proofs.Ytmlkajmlhmfdgaa.Runs
