/- Pruned by wip/prune.py. -/
import Derived.Test.YtbakllppgekmoaaQCmpText
namespace Go.Proofs.Ytbakllppgekmoaa.Cmp
open Go Go.RowKit Go.Proofs.Ytbakllppgekmoaa.Given Go.Proofs.Ytbakllppgekmoaa.Kinds
set_option linter.unusedVariables false
set_option linter.unusedSimpArgs false
def foundB (A B : List Int) (d : Nat) : Bool := (List.range (d + 1)).any fun j => decide ((A.length : Int) ≤ cellV A B (farV A B d) d (2 * (j : Int) - d)) && decide ((B.length : Int) ≤ cellV A B (farV A B d) d (2 * (j : Int) - d) - (2 * (j : Int) - d))
theorem foundB_iff (A B : List Int) (d : Nat) : foundB A B d = true ↔ FoundAt A B d := by
  unfold foundB FoundAt FoundK
  rw [List.any_eq_true]
  constructor
  · rintro ⟨j, h1, h2⟩
    rw [List.mem_range] at h1
    rw [Bool.and_eq_true, decide_eq_true_eq, decide_eq_true_eq] at h2
    exact ⟨j, by omega, h2⟩
  · rintro ⟨j, h1, h2⟩
    exact ⟨j, List.mem_range.2 (by omega), by rw [Bool.and_eq_true, decide_eq_true_eq, decide_eq_true_eq]; exact h2⟩
def findD (A B : List Int) : Nat → Nat → Option Nat
  | 0, _ => none
  | n + 1, d => if foundB A B d = true then some d else findD A B n (d + 1)
theorem findD_some (A B : List Int) : ∀ (n d D : Nat), d ≤ D → D < d + n → FoundAt A B D → (∀ q, q < D → ¬ FoundAt A B q) → findD A B n d = some D
  | 0, d, D, h1, h2, _, _ => by omega
  | n + 1, d, D, h1, h2, h3, h4 => by
    simp only [findD]
    by_cases e : d = D
    · subst e
      rw [if_pos ((foundB_iff A B d).2 h3)]
    · rw [if_neg (fun z => h4 d (by omega) ((foundB_iff A B d).1 z))]
      exact findD_some A B n (d + 1) D (by omega) (by omega) h3 h4
theorem findD_none (A B : List Int) : ∀ (n d : Nat), (∀ q, q < d + n → ¬ FoundAt A B q) → findD A B n d = none
  | 0, d, _ => rfl
  | n + 1, d, h => by
    simp only [findD]
    rw [if_neg (fun z => h d (by omega) ((foundB_iff A B d).1 z))]
    exact findD_none A B n (d + 1) (fun q hq => h q (by omega))
theorem keptB_far (A B : List Int) (D : Nat) (l : List (List Int)) : ∀ (d : Nat) (x k : Int), d ≤ D → keptB (farV A B D ++ l) d x k = keptB (farV A B D) d x k
  | 0, x, k, h => by
    have h1 := start_far A B D l 0 k h
    have h2 := start_far A B D [] 0 k h
    rw [List.append_nil] at h2
    have e : startV (farV A B D ++ l) 0 k = startV (farV A B D) 0 k := h1.trans h2.symm
    simp only [keptB, e]
  | d + 1, x, k, h => by
    have h1 := start_far A B D l (d + 1) k h
    have h2 := start_far A B D [] (d + 1) k h
    rw [List.append_nil] at h2
    have e : startV (farV A B D ++ l) (d + 1 : Nat) k = startV (farV A B D) (d + 1 : Nat) k := h1.trans h2.symm
    have g1 := far_get A B D d l (by omega)
    have g2 := far_get A B D d [] (by omega)
    rw [List.append_nil] at g2
    have eg : (farV A B D ++ l).getD d [] = (farV A B D).getD d [] := g1.trans g2.symm
    have egu : goesUp (farV A B D ++ l) (d + 1 : Nat) k ↔ goesUp (farV A B D) (d + 1 : Nat) k := by
      unfold goesUp
      rw [show (((d + 1 : Nat) : Int) - 1).toNat = d by omega, eg]
    simp only [keptB, e, eg]
    rw [keptB_far A B D l d _ _ (by omega), keptB_far A B D l d _ _ (by omega)]
    by_cases c : goesUp (farV A B D) (d + 1 : Nat) k
    · rw [if_pos c, if_pos (egu.2 c)]
    · rw [if_neg c, if_neg (fun z => c (egu.1 z))]
def pairsV (A B : List Int) : List (Int × Int) := match findD A B 1025 0 with
  | some D => (keptB (farV A B D) D (A.length : Int) ((A.length : Int) - (B.length : Int))).reverse
  | none => []
theorem pairs_run {A B : List Int} {D : Nat} {F : List (List Int)} (h : RunPost A B 1024 D true F) : (keptB F D (A.length : Int) ((A.length : Int) - (B.length : Int))).reverse = pairsV A B ∧ FoundAt A B D ∧ D ≤ 1024 ∧ ∃ p, F = farV A B D ++ [p] := by
  rcases h with ⟨_, h1, ⟨p, h2⟩, h3, h4⟩ | ⟨h, _⟩
  · refine ⟨?_, h3, by omega, p, h2⟩
    unfold pairsV
    rw [findD_some A B 1025 0 D (by omega) (by omega) h3 h4, h2, keptB_far A B D [p] D _ _ (Nat.le_refl _)]
  · cases h
theorem pairs_not {A B : List Int} {D : Nat} {F : List (List Int)} (h : RunPost A B 1024 D false F) : pairsV A B = [] := by
  rcases h with ⟨h, _⟩ | ⟨_, _, h⟩
  · cases h
  · unfold pairsV
    rw [findD_none A B 1025 0 (fun q hq => h q (by omega))]
def Chain (la lb : Int) : Int → Int → List (Int × Int) → Prop
  | _, _, [] => True
  | i, j, p :: ps => i ≤ p.1 ∧ j ≤ p.2 ∧ p.1 ≤ la ∧ p.2 ≤ lb ∧ Chain la lb (p.1 + 1) (p.2 + 1) ps
theorem chain_low {la lb : Int} : ∀ {l : List (Int × Int)} {i j i' j' : Int}, i' ≤ i → j' ≤ j → Chain la lb i j l → Chain la lb i' j' l
  | [], _, _, _, _, _, _, _ => trivial
  | p :: ps, i, j, i', j', h1, h2, h => ⟨by have := h.1; omega, by have := h.2.1; omega, h.2.2⟩
theorem chain_dn {la lb k lo : Int} : ∀ (n : Nat) (T : List (Int × Int)), lo + n ≤ la → lo + n - k ≤ lb → Chain la lb (lo + n) (lo + n - k) T → Chain la lb lo (lo - k) ((dnV k lo n).reverse ++ T)
  | 0, T, h1, h2, h => by
    simp only [dnV, List.reverse_nil, List.nil_append]
    rwa [show lo + ((0 : Nat) : Int) = lo by omega] at h
  | n + 1, T, h1, h2, h => by
    simp only [dnV, List.reverse_cons, List.append_assoc]
    refine chain_dn n _ (by omega) (by omega) ⟨by show lo + n ≤ lo + n; omega, by show lo + n - k ≤ lo + n - k; omega, by show lo + n ≤ la; omega, by show lo + n - k ≤ lb; omega, ?_⟩
    show Chain la lb (lo + n + 1) (lo + n - k + 1) T
    rwa [show lo + ((n + 1 : Nat) : Int) = lo + n + 1 by omega, show lo + (n : Int) + 1 - k = lo + n - k + 1 by omega] at h
theorem chain_kept {A B : List Int} {D : Nat} (hD : D ≤ 90000) : ∀ (d : Nat) (x k : Int) (T : List (Int × Int)), d ≤ D → KInv A B d x k → Chain A.length B.length x (x - k) T → Chain A.length B.length 0 0 ((keptB (farV A B D) d x k).reverse ++ T)
  | d, x, k, T, hd, hk, hT => by
    have hsf := start_far A B D [] d k hd
    rw [List.append_nil] at hsf
    obtain ⟨a, b, c, e, f, _⟩ := kinv_val (by omega) hk
    rw [← hsf] at a b e
    rw [keptB_eq, List.reverse_append, List.append_assoc]
    have h1 : Chain A.length B.length (startV (farV A B D) d k) (startV (farV A B D) d k - k) ((dnV k (startV (farV A B D) d k) (x - startV (farV A B D) d k).toNat).reverse ++ T) := by
      refine chain_dn _ _ (by omega) (by omega) ?_
      rwa [show startV (farV A B D) d k + (((x - startV (farV A B D) d k).toNat : Nat) : Int) = x by omega]
    cases d with
    | zero => exact chain_low (by omega) (by omega) h1
    | succ d =>
      have hF : farV A B D ++ [[]] = farV A B D ++ [([] : List Int)] := rfl
      by_cases g : goesUp (farV A B D ++ [([] : List Int)]) (d + 1 : Nat) k
      · obtain ⟨k1, k2, k3⟩ := kinv_up (p := []) rfl hD (by omega) hd hk g
        have ee : restV (farV A B D ++ [([] : List Int)]) (d + 1) k = restV (farV A B D) (d + 1) k := by
          have q1 := keptB_far A B D [([] : List Int)] (d + 1) x k hd
          rw [keptB_eq, keptB_eq] at q1
          have q2 := start_far A B D [([] : List Int)] (d + 1) k hd
          rw [← hsf] at q2
          rw [q2] at q1
          exact List.append_cancel_left q1
        rw [← ee, k2, keptB_far A B D [([] : List Int)] _ _ _ (by omega)]
        refine chain_kept hD d _ _ _ (by omega) k1 (chain_low ?_ ?_ h1)
        · have q2 := start_far A B D [([] : List Int)] (d + 1) k hd
          rw [← hsf, k3] at q2
          omega
        · have q2 := start_far A B D [([] : List Int)] (d + 1) k hd
          rw [← hsf, k3] at q2
          omega
      · obtain ⟨k1, k2, k3⟩ := kinv_dn (p := []) rfl hD (by omega) hd hk g
        have ee : restV (farV A B D ++ [([] : List Int)]) (d + 1) k = restV (farV A B D) (d + 1) k := by
          have q1 := keptB_far A B D [([] : List Int)] (d + 1) x k hd
          rw [keptB_eq, keptB_eq] at q1
          have q2 := start_far A B D [([] : List Int)] (d + 1) k hd
          rw [← hsf] at q2
          rw [q2] at q1
          exact List.append_cancel_left q1
        rw [← ee, k2, keptB_far A B D [([] : List Int)] _ _ _ (by omega)]
        refine chain_kept hD d _ _ _ (by omega) k1 (chain_low ?_ ?_ h1)
        · have q2 := start_far A B D [([] : List Int)] (d + 1) k hd
          rw [← hsf, k3] at q2
          omega
        · have q2 := start_far A B D [([] : List Int)] (d + 1) k hd
          rw [← hsf, k3] at q2
          omega
theorem pairs_chain (A B : List Int) : Chain A.length B.length 0 0 (pairsV A B ++ [((A.length : Int), (B.length : Int))]) := by
  have hlast : Chain A.length B.length A.length ((A.length : Int) - ((A.length : Int) - B.length)) [((A.length : Int), (B.length : Int))] := ⟨Int.le_refl _, by show (A.length : Int) - ((A.length : Int) - B.length) ≤ B.length; omega, Int.le_refl _, Int.le_refl _, trivial⟩
  unfold pairsV
  cases hq : findD A B 1025 0 with
  | none => exact ⟨by show (0 : Int) ≤ (A.length : Int); omega, by show (0 : Int) ≤ (B.length : Int); omega, Int.le_refl _, Int.le_refl _, trivial⟩
  | some D =>
    have hf : ∀ n d, findD A B n d = some D → FoundAt A B D ∧ D < d + n := by
      intro n
      induction n with
      | zero => intro d h; cases h
      | succ n ih =>
        intro d h
        simp only [findD] at h
        split at h
        · rename_i c
          injection h with h
          subst h
          exact ⟨(foundB_iff A B d).1 c, by omega⟩
        · have := ih (d + 1) h
          exact ⟨this.1, by omega⟩
    obtain ⟨h1, h2⟩ := hf _ _ hq
    exact chain_kept (by omega) D _ _ _ (Nat.le_refl _) (kinv_top (by omega) h1) hlast
def postN (X Y : List Int) (f : Int) : Nat → Int → Int
  | 0, e => e
  | n + 1, e => if e < (X.length : Int) - f ∧ e < (Y.length : Int) - f ∧ rdI X ((X.length : Int) - 1 - e) = rdI Y ((Y.length : Int) - 1 - e) then postN X Y f n (e + 1) else e
theorem postN_facts (X Y : List Int) (f : Int) : ∀ (n : Nat) (e : Int), e ≤ (X.length : Int) - f → e ≤ (Y.length : Int) - f → e ≤ postN X Y f n e ∧ postN X Y f n e ≤ (X.length : Int) - f ∧ postN X Y f n e ≤ (Y.length : Int) - f
  | 0, e, h1, h2 => ⟨Int.le_refl _, h1, h2⟩
  | n + 1, e, h1, h2 => by
    simp only [postN]
    split
    · obtain ⟨a, b, c⟩ := postN_facts X Y f n (e + 1) (by omega) (by omega)
      exact ⟨by omega, b, c⟩
    · exact ⟨Int.le_refl _, h1, h2⟩
def preV (X Y : List Int) : Int := slideV X Y 0 0
def postV (X Y : List Int) : Int := postN X Y (preV X Y) (X.length + 1) 0
def midX (X Y : List Int) : List Int := (X.take ((X.length : Int) - postV X Y).toNat).drop (preV X Y).toNat
def midY (X Y : List Int) : List Int := (Y.take ((Y.length : Int) - postV X Y).toNat).drop (preV X Y).toNat
theorem ends_facts (X Y : List Int) : 0 ≤ preV X Y ∧ preV X Y ≤ X.length ∧ preV X Y ≤ Y.length ∧ 0 ≤ postV X Y ∧ postV X Y ≤ (X.length : Int) - preV X Y ∧ postV X Y ≤ (Y.length : Int) - preV X Y := by
  obtain ⟨a, b, c, _⟩ := slideN_facts X Y (X.length + 1) 0 0 (by omega) (by omega) (by omega)
  have e : preV X Y = slideN X Y (X.length + 1) 0 0 := rfl
  rw [← e] at a b c
  obtain ⟨d, f, g⟩ := postN_facts X Y (preV X Y) (X.length + 1) 0 (by omega) (by omega)
  exact ⟨a, b, by omega, d, f, g⟩
theorem chain_len {la lb : Int} : ∀ {l : List (Int × Int)} {i j : Int}, i ≤ la + 1 → Chain la lb i j l → (l.length : Int) ≤ la + 1 - i
  | [], i, j, h, _ => by show ((0 : Nat) : Int) ≤ _; omega
  | p :: ps, i, j, h, hc => by
    obtain ⟨h1, h2, h3, h4, h5⟩ := hc
    have := chain_len (l := ps) (by omega) h5
    simp only [List.length_cons]
    omega
theorem pairs_len (A B : List Int) : (pairsV A B).length ≤ A.length := by
  have := chain_len (by omega) (pairs_chain A B)
  simp only [List.length_append, List.length_cons, List.length_nil] at this
  omega
theorem mid_len (X Y : List Int) : ((midX X Y).length : Int) = X.length - postV X Y - preV X Y ∧ ((midY X Y).length : Int) = Y.length - postV X Y - preV X Y := by
  obtain ⟨a, b, c, d, e, f⟩ := ends_facts X Y
  unfold midX midY
  simp only [List.length_drop, List.length_take]
  omega
def editsV (ax bys : List Int) (b : ByteArray) (f : Int) : List (Int × Int) → Int → Int → List Edit
  | [], _, _ => []
  | p :: ps, i, j => (if p.1 > i ∨ p.2 > j then [⟨rdI ax (f + i), rdI ax (f + p.1), b.extract (rdI bys (f + j)).toNat (rdI bys (f + p.2)).toNat⟩] else []) ++ editsV ax bys b f ps (p.1 + 1) (p.2 + 1)
def betweenV (X Y ax bys : List Int) (b : ByteArray) : List Edit := editsV ax bys b (preV X Y) (pairsV (midX X Y) (midY X Y) ++ [(((midX X Y).length : Int), ((midY X Y).length : Int))]) 0 0
def diffV (a b : ByteArray) : List Edit := betweenV (lettersV a) (lettersV b) (atsV a) (atsV b) b
end Go.Proofs.Ytbakllppgekmoaa.Cmp
