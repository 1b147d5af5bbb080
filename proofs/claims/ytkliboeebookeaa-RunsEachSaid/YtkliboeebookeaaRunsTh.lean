/- Runs of styles: plain laws. A list of styles byte by byte, and its runs. -/
import Derived.Test.YtkliboeebookeaaSxKinds
namespace Go.Proofs.Ytkliboeebookeaa.Runs
open Go Go.RowKit Go.Proofs.YtkliboeebookeaaW.PrintWords Go.Proofs.Ytkliboeebookeaa.Kinds
set_option linter.unusedVariables false
set_option linter.unusedSimpArgs false
abbrev Rn := S66
/-- One byte more at the end. -/
def snocR (L : List Rn) (s : Int) : List Rn :=
  match L.getLast? with
  | some r => if r.f1 = s then L.dropLast ++ [⟨r.f0 + 1, r.f1⟩] else L ++ [⟨1, s⟩]
  | none => [⟨1, s⟩]
def runsOf (σ : List Int) : List Rn := σ.foldl snocR []
theorem runsOf_snoc (σ : List Int) (s : Int) : runsOf (σ ++ [s]) = snocR (runsOf σ) s := by simp [runsOf]
theorem runsOf_nil : runsOf [] = [] := rfl
/-- Bytes of one style at the end. -/
def putL (L : List Rn) (n : Nat) (s : Int) : List Rn :=
  if n = 0 then L else
  match L.getLast? with
  | some r => if r.f1 = s then L.dropLast ++ [⟨r.f0 + n, r.f1⟩] else L ++ [⟨n, s⟩]
  | none => [⟨n, s⟩]
theorem putL_succ (L : List Rn) (n : Nat) (s : Int) : snocR (putL L n s) s = putL L (n + 1) s := by
  by_cases hn : n = 0
  · subst hn
    simp [snocR, putL]
  · unfold putL
    simp only [if_neg hn, if_neg (show ¬ n + 1 = 0 by omega)]
    cases h : L.getLast? with
    | none => simp [snocR]
    | some r =>
      by_cases hs : r.f1 = s
      · simp [snocR, hs, Int.add_assoc]
      · simp [snocR, hs]
/-- By what stands at the end. -/
theorem snoc_ind {P : List Int → Prop} (h0 : P []) (h1 : ∀ σ s, P σ → P (σ ++ [s])) : ∀ σ, P σ := by
  intro σ
  obtain ⟨τ, rfl⟩ : ∃ τ, σ = τ.reverse := ⟨σ.reverse, by simp⟩
  induction τ with
  | nil => exact h0
  | cons s τ ih => rw [List.reverse_cons]; exact h1 _ _ ih
theorem runsOf_rep (σ : List Int) (n : Nat) (s : Int) : runsOf (σ ++ List.replicate n s) = putL (runsOf σ) n s := by
  induction n with
  | zero => simp [putL]
  | succ n ih =>
    rw [List.replicate_succ', ← List.append_assoc, runsOf_snoc, ih, putL_succ]
def lenR (L : List Rn) : Int := (L.map (·.f0)).sum
theorem lenR_snoc (L : List Rn) (s : Int) : lenR (snocR L s) = lenR L + 1 := by
  unfold snocR
  cases h : L.getLast? with
  | none => have : L = [] := List.getLast?_eq_none_iff.1 h; subst this; simp [lenR]
  | some r =>
    have e : L = L.dropLast ++ [r] := by
      obtain ⟨ys, rfl⟩ := List.getLast?_eq_some_iff.1 h
      simp
    simp only
    split
    · rw [e]; simp [lenR]; omega
    · simp [lenR]
theorem lenR_runs (σ : List Int) : lenR (runsOf σ) = σ.length := by
  induction σ using snoc_ind with
  | h0 => rfl
  | h1 σ s ih => rw [runsOf_snoc, lenR_snoc, ih]; simp
theorem pos_snoc {L : List Rn} (h : ∀ r ∈ L, 1 ≤ r.f0) (s : Int) : ∀ r ∈ snocR L s, 1 ≤ r.f0 := by
  unfold snocR
  cases hl : L.getLast? with
  | none => intro r hr; simp at hr; subst hr; simp
  | some q =>
    have hq : q ∈ L := List.mem_of_getLast? hl
    simp only
    split
    · intro r hr
      rcases List.mem_append.1 hr with hr | hr
      · exact h r (List.dropLast_subset _ hr)
      · rw [List.mem_singleton.1 hr]; have := h q hq; simp; omega
    · intro r hr
      rcases List.mem_append.1 hr with hr | hr
      · exact h r hr
      · rw [List.mem_singleton.1 hr]; simp
theorem pos_runs (σ : List Int) : ∀ r ∈ runsOf σ, 1 ≤ r.f0 := by
  induction σ using snoc_ind with
  | h0 => intro r hr; cases hr
  | h1 σ s ih => rw [runsOf_snoc]; exact pos_snoc ih s
/-- The bytes that runs tell. -/
def expand (L : List Rn) : List Int := L.flatMap fun r => List.replicate r.f0.toNat r.f1
theorem expand_snoc {L : List Rn} (h : ∀ r ∈ L, 1 ≤ r.f0) (s : Int) : expand (snocR L s) = expand L ++ [s] := by
  unfold snocR
  cases hl : L.getLast? with
  | none => have : L = [] := List.getLast?_eq_none_iff.1 hl; subst this; simp [expand]
  | some q =>
    have hq := h q (List.mem_of_getLast? hl)
    obtain ⟨ys, rfl⟩ := List.getLast?_eq_some_iff.1 hl
    simp only
    split
    · rename_i e
      simp only [List.dropLast_concat, expand, List.flatMap_append, List.flatMap_cons, List.flatMap_nil, List.append_nil]
      rw [show (q.f0 + 1).toNat = q.f0.toNat + 1 by omega, List.replicate_succ', List.append_assoc, e]
    · simp [expand]
theorem expand_runs (σ : List Int) : expand (runsOf σ) = σ := by
  induction σ using snoc_ind with
  | h0 => rfl
  | h1 σ s ih => rw [runsOf_snoc, expand_snoc (pos_runs σ), ih]
theorem expand_len {L : List Rn} (h : ∀ r ∈ L, 1 ≤ r.f0) : ((expand L).length : Int) = lenR L := by
  induction L with
  | nil => rfl
  | cons r L ih =>
    have h1 := h r List.mem_cons_self
    have h2 := ih (fun q hq => h q (List.mem_cons_of_mem _ hq))
    have e : (expand (r :: L)).length = r.f0.toNat + (expand L).length := by simp [expand]
    rw [e]
    simp only [lenR, List.map_cons, List.sum_cons] at h2 ⊢
    omega
theorem len_le {L : List Rn} (h : ∀ r ∈ L, 1 ≤ r.f0) : (L.length : Int) ≤ lenR L := by
  induction L with
  | nil => simp [lenR]
  | cons r L ih =>
    have h1 := h r List.mem_cons_self
    have h2 := ih (fun q hq => h q (List.mem_cons_of_mem _ hq))
    simp only [lenR, List.map_cons, List.sum_cons, List.length_cons] at h2 ⊢
    omega
theorem runs_len (σ : List Int) : (runsOf σ).length ≤ σ.length := by
  have := len_le (pos_runs σ)
  rw [lenR_runs] at this
  omega
theorem mem_lenR {L : List Rn} (h : ∀ r ∈ L, 1 ≤ r.f0) {r : Rn} (hr : r ∈ L) : r.f0 ≤ lenR L := by
  induction L with
  | nil => cases hr
  | cons q L ih =>
    have h1 := h q List.mem_cons_self
    have h3 := len_le (fun q hq => h q (List.mem_cons_of_mem _ hq) : ∀ r ∈ L, 1 ≤ r.f0)
    simp only [lenR, List.map_cons, List.sum_cons] at h3 ⊢
    rcases List.mem_cons.1 hr with rfl | hr
    · omega
    · have := ih (fun q hq => h q (List.mem_cons_of_mem _ hq)) hr
      simp only [lenR] at this
      omega
theorem getD_mem {L : List Rn} {k : Nat} (hk : k < L.length) (z : Rn) : L.getD k z ∈ L := by
  simp [List.getD, hk]
theorem last_getD {L : List Rn} (hL : 0 < L.length) (z : Rn) : L.getLast? = some (L.getD (L.length - 1) z) := by
  rw [List.getLast?_eq_getElem?]
  simp [List.getD, show L.length - 1 < L.length by omega]
theorem set_last {L : List Rn} (hL : 0 < L.length) (q : Rn) : L.set (L.length - 1) q = L.dropLast ++ [q] := by
  apply List.ext_getElem?
  intro i
  rw [List.getElem?_set, List.getElem?_append]
  simp only [List.length_dropLast]
  by_cases h : L.length - 1 = i
  · subst h; simp; omega
  · rw [if_neg h]
    by_cases h2 : i < L.length - 1
    · rw [if_pos h2, List.getElem?_dropLast, if_pos h2]
    · rw [if_neg h2, List.getElem?_eq_none (by omega), List.getElem?_eq_none (by simp; omega)]
/-- Where run number k begins. -/
def posR (L : List Rn) (k : Nat) : Nat := (expand (L.take k)).length
theorem take_expand (L : List Rn) (k : Nat) : (expand L).take (posR L k) = expand (L.take k) := by
  have e : expand L = expand (L.take k) ++ expand (L.drop k) := by
    unfold expand
    rw [← List.flatMap_append, List.take_append_drop]
  unfold posR
  rw [e, List.take_append_of_le_length (Nat.le_refl _), List.take_length]
theorem expand_take_succ (L : List Rn) (k : Nat) (hk : k < L.length) (z : Rn) : expand (L.take (k + 1)) = expand (L.take k) ++ List.replicate (L.getD k z).f0.toNat (L.getD k z).f1 := by
  rw [List.take_succ_eq_append_getElem hk]
  unfold expand
  rw [List.flatMap_append]
  simp [List.getD, hk]
theorem posR_succ (L : List Rn) (k : Nat) (hk : k < L.length) (z : Rn) : posR L (k + 1) = posR L k + (L.getD k z).f0.toNat := by
  unfold posR
  rw [expand_take_succ L k hk z]
  simp
theorem posR_le (L : List Rn) (k : Nat) : posR L k ≤ (expand L).length := by
  unfold posR
  rw [← take_expand]
  simp only [List.length_take]
  exact Nat.min_le_right _ _
/-- What of a part lies in the first bytes. -/
def part (σ : List Int) (a b : Nat) : List Int := (σ.take b).drop a
theorem part_next (σ τ : List Int) (a b m : Nat) (n : Nat) (s : Int) (h : (σ.drop m).take n = List.replicate n s) (hn : n ≤ σ.length - m) :
    part σ a (min b (m + n)) = part σ a (min b m) ++ List.replicate (min b (m + n) - max a m) s := by
  unfold part
  rcases Nat.le_total b m with hb | hb
  · rw [Nat.min_eq_left hb, Nat.min_eq_left (by omega), show b - max a m = 0 by omega]; simp
  · rw [Nat.min_eq_right hb]
    have e : σ.take (min b (m + n)) = σ.take m ++ List.replicate (min b (m + n) - m) s := by
      have e1 : σ.take (min b (m + n)) = σ.take m ++ (σ.drop m).take (min b (m + n) - m) := by
        rw [← List.take_append_drop m (σ.take (min b (m + n))), List.take_take, Nat.min_eq_left (by omega), List.drop_take]
      rw [e1]
      congr 1
      have e2 : (σ.drop m).take (min b (m + n) - m) = ((σ.drop m).take n).take (min b (m + n) - m) := by
        rw [List.take_take]
        congr 1
        omega
      rw [e2, h, List.take_replicate]
      congr 1
      omega
    rw [e, List.drop_append]
    congr 1
    rw [List.drop_replicate, List.length_take]
    congr 1
    omega
theorem run_at (σ : List Int) (k : Nat) (hk : k < (runsOf σ).length) (z : Rn) : (σ.drop (posR (runsOf σ) k)).take ((runsOf σ).getD k z).f0.toNat = List.replicate ((runsOf σ).getD k z).f0.toNat ((runsOf σ).getD k z).f1 := by
  have h1 := take_expand (runsOf σ) (k + 1)
  rw [expand_take_succ _ k hk z, ← take_expand, expand_runs, posR_succ _ k hk z] at h1
  have hle := posR_le (runsOf σ) k
  rw [expand_runs] at hle
  generalize posR (runsOf σ) k = p at *
  have h2 := congrArg (List.drop p) h1
  have e1 : (σ.take p).length = p := by rw [List.length_take]; omega
  rw [List.drop_take, Nat.add_sub_cancel_left, List.drop_append, List.drop_eq_nil_of_le (Nat.le_of_eq e1), e1, Nat.sub_self, List.drop_zero, List.nil_append] at h2
  exact h2
theorem run_fits (σ : List Int) (k : Nat) (hk : k < (runsOf σ).length) (z : Rn) : posR (runsOf σ) k + ((runsOf σ).getD k z).f0.toNat ≤ σ.length ∧ 1 ≤ ((runsOf σ).getD k z).f0 := by
  have h1 := posR_le (runsOf σ) (k + 1)
  rw [expand_runs, posR_succ _ k hk z] at h1
  exact ⟨h1, pos_runs σ _ (getD_mem hk z)⟩
theorem posR_all (σ : List Int) : posR (runsOf σ) (runsOf σ).length = σ.length := by unfold posR; rw [List.take_length, expand_runs]
theorem part_all (σ : List Int) (a b : Nat) : part σ a (min b σ.length) = part σ a b := by
  unfold part
  congr 1
  rw [← List.take_take, List.take_length]
theorem run_style (σ : List Int) (k : Nat) (hk : k < (runsOf σ).length) (z : Rn) (m : Nat) (h1 : posR (runsOf σ) k ≤ m) (h2 : m < posR (runsOf σ) k + ((runsOf σ).getD k z).f0.toNat) : σ.getD m 0 = ((runsOf σ).getD k z).f1 := by
  have h3 := run_at σ k hk z
  have h4 := congrArg (fun l => l[m - posR (runsOf σ) k]?) h3
  simp only [List.getElem?_take, List.getElem?_drop, List.getElem?_replicate] at h4
  rw [if_pos (by omega), if_pos (by omega), show posR (runsOf σ) k + (m - posR (runsOf σ) k) = m by omega] at h4
  rw [List.getD_eq_getElem?_getD, h4]
  rfl
theorem posR_zero (L : List Rn) : posR L 0 = 0 := rfl
end Go.Proofs.Ytkliboeebookeaa.Runs
