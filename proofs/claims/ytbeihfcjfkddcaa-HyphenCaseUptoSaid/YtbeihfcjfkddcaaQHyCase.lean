/- Pruned by wip/prune.py. -/
import Derived.Test.YtbeihfcjfkddcaaQHyBack
namespace Go.Proofs.Ytbeihfcjfkddcaa.Hy
open Go Go.RowKit Go.Proofs.YtbeihfcjfkddcaaW.PrintWords Go.Proofs.Ytbeihfcjfkddcaa.Given Go.Proofs.Ytbeihfcjfkddcaa.Rn Go.Proofs.Ytbeihfcjfkddcaa.Sx
set_option linter.unusedVariables false
set_option linter.unusedSimpArgs false
def upB (b : Int) : Int := if 97 ≤ b ∧ b ≤ 122 then b - 32 else b
def UpAt (s : ByteArray) (i : Nat) (o : List Int) : Prop := o.length = (bytesOf s).length ∧ (∀ j, j < i → o.getD j 0 = upB ((bytesOf s).getD j 0)) ∧ ∀ j, i ≤ j → o.getD j 0 = (bytesOf s).getD j 0
theorem up_zero (s : ByteArray) : UpAt s 0 (bytesOf s) := ⟨rfl, fun j hj => absurd hj (Nat.not_lt_zero _), fun _ _ => rfl⟩
theorem up_set {s : ByteArray} {i : Nat} {o : List Int} (h : UpAt s i o) (hi : i < o.length) (h1 : 97 ≤ o.getD i 0) (h2 : o.getD i 0 ≤ 122) : UpAt s (i + 1) (o.set i (o.getD i 0 - 32)) := by
  obtain ⟨a, b, c⟩ := h
  have e := c i (Nat.le_refl _)
  refine ⟨by rw [List.length_set]; exact a, fun j hj => ?_, fun j hj => ?_⟩
  · rcases Nat.lt_or_ge j o.length with d | d
    · rw [set_get _ _ _ _ d]
      by_cases f : j = i
      · rw [if_pos f, f, ← e]; unfold upB; rw [if_pos ⟨h1, h2⟩]
      · rw [if_neg f]; exact b j (by omega)
    · omega
  · rcases Nat.lt_or_ge j o.length with d | d
    · rw [set_get _ _ _ _ d, if_neg (by omega)]; exact c j (by omega)
    · rw [← c j (by omega)]
      simp [List.getD_eq_getElem?_getD, List.getElem?_set, show i ≠ j by omega]
theorem up_skip {s : ByteArray} {i : Nat} {o : List Int} (h : UpAt s i o) (h1 : ¬ (97 ≤ o.getD i 0 ∧ o.getD i 0 ≤ 122)) : UpAt s (i + 1) o := by
  obtain ⟨a, b, c⟩ := h
  have e := c i (Nat.le_refl _)
  refine ⟨a, fun j hj => ?_, fun j hj => c j (by omega)⟩
  rcases Nat.lt_succ_iff_lt_or_eq.1 hj with f | rfl
  · exact b j f
  · rw [e] at h1 ⊢; unfold upB; rw [if_neg h1]
theorem up_end {s : ByteArray} {i : Nat} {o : List Int} (h : UpAt s i o) (hi : (bytesOf s).length ≤ i) : o = (bytesOf s).map upB := by
  obtain ⟨a, b, c⟩ := h
  refine ext_get0 (by rw [a, List.length_map]) (fun q hq => ?_)
  rw [b q (by omega)]
  rw [a] at hq
  rw [List.getD_eq_getElem?_getD, List.getD_eq_getElem?_getD, List.getElem?_map, List.getElem?_eq_getElem hq]
  rfl
theorem byte_bd (s : ByteArray) (i : Nat) : 0 ≤ (bytesOf s).getD i 0 ∧ (bytesOf s).getD i 0 ≤ 255 := by
  have e := rd_bytesOf s (i : Int)
  have h := bt_nonneg s (i : Int)
  rw [← e] at h
  unfold rd at h
  simpa using h
theorem up_bd {s : ByteArray} {i : Nat} {o : List Int} (h : UpAt s i o) : 0 ≤ o.getD i 0 ∧ o.getD i 0 ≤ 255 := by
  rw [h.2.2 i (Nat.le_refl _)]
  exact byte_bd s i
def upT (s : ByteArray) : ByteArray := strOfNums ((bytesOf s).map upB)
theorem upB_bd {b : Int} (h : 0 ≤ b ∧ b ≤ 255) : 0 ≤ upB b ∧ upB b < 256 := by unfold upB; split <;> omega
theorem up_bt (s : ByteArray) (i : Int) (h0 : 0 ≤ i) (hi : i < s.size) : bt (upT s) i = upB (bt s i) := by
  have hb : ∀ x ∈ (bytesOf s).map upB, 0 ≤ x ∧ x < 256 := fun x hx => by
    obtain ⟨y, hy, rfl⟩ := List.mem_map.1 hx
    obtain ⟨j, hj, rfl⟩ := List.getElem_of_mem hy
    have := byte_bd s j
    rw [List.getD_eq_getElem?_getD, List.getElem?_eq_getElem hj] at this
    exact upB_bd this
  have hl := bytesOf_length s
  have e := bt_sn hb (j := i.toNat) (by rw [List.length_map]; omega)
  rw [Int.toNat_of_nonneg h0] at e
  have e2 := rd_bytesOf s i
  unfold rd at e2
  unfold upT
  rw [e, ← e2, List.getD_eq_getElem?_getD, List.getElem?_map, List.getD_eq_getElem?_getD]
  have h2 : i.toNat < (bytesOf s).length := by omega
  rw [List.getElem?_eq_getElem h2]
  simp only [Option.map_some, Option.getD_some]
theorem up_size (s : ByteArray) : (upT s).size = s.size := by unfold upT; rw [sn_size, List.length_map, bytesOf_length]
def upR (r : Int) : Int := if 97 ≤ r ∧ r ≤ 122 then r - 32 else r
theorem up_read (s : ByteArray) (p : Int) (h0 : 0 ≤ p) (h1 : p < s.size) : readV (upT s) p = if 0 < (readV s p).2 then (upR (readV s p).1, (readV s p).2) else (-1, 0) := by
  have z := up_size s
  have q0 := bt_nonneg s p
  have e0 := up_bt s p h0 h1
  have q1 := bt_nonneg s (p + 1)
  have q2 := bt_nonneg s (p + 2)
  have q3 := bt_nonneg s (p + 3)
  by_cases c1 : bt s p < 128
  · unfold readV
    rw [if_pos c1, if_pos (by rw [e0]; unfold upB; split <;> omega), e0]
    show _ = if (0 : Int) < 1 then _ else _
    rw [if_pos (by decide)]
    rfl
  · have u0 : bt (upT s) p = bt s p := by rw [e0]; unfold upB; rw [if_neg (by omega)]
    have big : ∀ j : Int, p + j < s.size → 0 ≤ p + j → 128 ≤ bt s (p + j) → bt (upT s) (p + j) = bt s (p + j) := fun j g1 g2 g3 => by rw [up_bt s _ g2 g1]; unfold upB; rw [if_neg (by omega)]
    have sml : ∀ j : Int, p + j < s.size → 0 ≤ p + j → bt s (p + j) < 128 → bt (upT s) (p + j) < 128 := fun j g1 g2 g3 => by rw [up_bt s _ g2 g1]; unfold upB; split <;> omega
    have d2 : (p + 2 ≤ (upT s).size ∧ m2 (bt (upT s) p) (bt (upT s) (p + 1))) ↔ (p + 2 ≤ s.size ∧ m2 (bt s p) (bt s (p + 1))) := by
      rw [z, u0]
      refine and_congr_right (fun g => ?_)
      unfold m2
      by_cases g1 : 128 ≤ bt s (p + 1)
      · rw [big 1 (by omega) (by omega) g1]
      · have := sml 1 (by omega) (by omega) (by omega); omega
    have d3 : (p + 3 ≤ (upT s).size ∧ m3 (bt (upT s) p) (bt (upT s) (p + 1)) (bt (upT s) (p + 2))) ↔ (p + 3 ≤ s.size ∧ m3 (bt s p) (bt s (p + 1)) (bt s (p + 2))) := by
      rw [z, u0]
      refine and_congr_right (fun g => ?_)
      unfold m3
      by_cases g1 : 128 ≤ bt s (p + 1)
      · rw [big 1 (by omega) (by omega) g1]
        by_cases g2 : 128 ≤ bt s (p + 2)
        · rw [big 2 (by omega) (by omega) g2]
        · have := sml 2 (by omega) (by omega) (by omega); omega
      · have := sml 1 (by omega) (by omega) (by omega); omega
    have d4 : (p + 4 ≤ (upT s).size ∧ m4 (bt (upT s) p) (bt (upT s) (p + 1)) (bt (upT s) (p + 2)) (bt (upT s) (p + 3))) ↔ (p + 4 ≤ s.size ∧ m4 (bt s p) (bt s (p + 1)) (bt s (p + 2)) (bt s (p + 3))) := by
      rw [z, u0]
      refine and_congr_right (fun g => ?_)
      unfold m4
      by_cases g1 : 128 ≤ bt s (p + 1)
      · rw [big 1 (by omega) (by omega) g1]
        by_cases g2 : 128 ≤ bt s (p + 2)
        · rw [big 2 (by omega) (by omega) g2]
          by_cases g3 : 128 ≤ bt s (p + 3)
          · rw [big 3 (by omega) (by omega) g3]
          · have := sml 3 (by omega) (by omega) (by omega); omega
        · have := sml 2 (by omega) (by omega) (by omega); omega
      · have := sml 1 (by omega) (by omega) (by omega); omega
    unfold readV
    rw [if_neg c1, if_neg (by rw [u0]; exact c1)]
    by_cases f2 : p + 2 ≤ s.size ∧ m2 (bt s p) (bt s (p + 1))
    · rw [if_pos f2, if_pos (d2.2 f2), u0, big 1 (by omega) (by omega) (by have := f2.2; unfold m2 at this; omega)]
      show _ = if (0 : Int) < 2 then _ else _
      rw [if_pos (by decide)]
      have := f2.2
      unfold m2 at this
      show (v2 _ _, (2 : Int)) = (upR (v2 _ _), 2)
      unfold upR v2
      rw [if_neg (by omega)]
    rw [if_neg f2, if_neg (fun g => f2 (d2.1 g))]
    by_cases f3 : p + 3 ≤ s.size ∧ m3 (bt s p) (bt s (p + 1)) (bt s (p + 2))
    · have g := f3.2
      unfold m3 at g
      rw [if_pos f3, if_pos (d3.2 f3), u0, big 1 (by omega) (by omega) (by omega), big 2 (by omega) (by omega) (by omega)]
      show _ = if (0 : Int) < 3 then _ else _
      rw [if_pos (by decide)]
      show (v3 _ _ _, (3 : Int)) = (upR (v3 _ _ _), 3)
      unfold upR v3
      rw [if_neg (by omega)]
    rw [if_neg f3, if_neg (fun g => f3 (d3.1 g))]
    by_cases f4 : p + 4 ≤ s.size ∧ m4 (bt s p) (bt s (p + 1)) (bt s (p + 2)) (bt s (p + 3))
    · have g := f4.2
      unfold m4 at g
      rw [if_pos f4, if_pos (d4.2 f4), u0, big 1 (by omega) (by omega) (by omega), big 2 (by omega) (by omega) (by omega), big 3 (by omega) (by omega) (by omega)]
      show _ = if (0 : Int) < 4 then _ else _
      rw [if_pos (by decide)]
      show (v4 _ _ _ _, (4 : Int)) = (upR (v4 _ _ _ _), 4)
      unfold upR v4
      rw [if_neg (by omega)]
    · rw [if_neg f4, if_neg (fun g => f4 (d4.1 g))]
      show _ = if (0 : Int) < 0 then _ else _
      rw [if_neg (by decide)]
theorem up_refGo (s : ByteArray) : ∀ (k : Nat) (p : Int), 0 ≤ p → p ≤ s.size → refGo (upT s) k p = ((refGo s k p).1.map (fun x => (x.1, upR x.2)), (refGo s k p).2)
  | 0, p, _, _ => rfl
  | k + 1, p, h0, h1 => by
    simp only [refGo]
    rw [up_size]
    by_cases c : p < (s.size : Int)
    · have hb := read_bounds s p h0 c
      rw [if_pos c, if_pos c]
      by_cases d : (readV s p).2 = 0
      · have e : readV (upT s) p = (-1, 0) := by rw [up_read s p h0 c, if_neg (by omega)]
        rw [if_pos d, e, if_pos rfl]; rfl
      · have e : readV (upT s) p = (upR (readV s p).1, (readV s p).2) := by rw [up_read s p h0 c, if_pos (by omega)]
        rw [if_neg d, e, if_neg d, up_refGo s k _ (by omega) (by omega)]
        rfl
    · rw [if_neg c, if_neg c]; rfl
theorem up_refV (s : ByteArray) : refV (upT s) = ((refV s).1.map (fun x => (x.1, upR x.2)), (refV s).2) := by
  unfold refV
  rw [up_size]
  exact up_refGo s _ 0 (by omega) (by omega)
theorem up_runes (s : ByteArray) : runesL (upT s) = (runesL s).map upR := by
  unfold runesL
  rw [up_refV, List.map_map, List.map_map]
  rfl
theorem up_bad (s : ByteArray) : badV (upT s) = badV s := by rw [bad_refV, bad_refV, up_refV]
theorem up_low (r : Int) : lowV (upR r) = lowV r := by
  have h1 := lowV_eq r
  have h2 := lowV_eq (upR r)
  unfold upR at *
  split at h2 <;> rename_i c
  · rw [if_pos c]; omega
  · rw [if_neg c]
theorem up_let (r : Int) : LetP (upR r) ↔ LetP r := by
  unfold LetP
  rw [up_low]
  unfold upR
  split
  · have h1 := lowV_eq r
    unfold Sp
    omega
  · exact Iff.rfl
theorem up_points (T : List Nd) (kn : ByteArray → Option (List Int)) (lf rt : Int) (s : ByteArray) : pointsV T kn lf rt (upT s) = pointsV T kn lf rt s := by
  unfold pointsV
  rw [up_size, up_bad, up_runes]
  have e1 : (∀ r ∈ (runesL s).map upR, LetP r) ↔ ∀ r ∈ runesL s, LetP r := by
    constructor
    · intro h r hr; exact (up_let r).1 (h _ (List.mem_map.2 ⟨r, hr, rfl⟩))
    · intro h r hr
      obtain ⟨x, hx, rfl⟩ := List.mem_map.1 hr
      exact (up_let x).2 (h x hx)
  have e2 : ((runesL s).map upR).map lowV = (runesL s).map lowV := by
    rw [List.map_map]
    exact List.map_congr_left (fun r _ => up_low r)
  rw [e2]
  split
  · rfl
  · by_cases c : ∀ r ∈ runesL s, LetP r
    · rw [if_pos c, if_pos (e1.2 c)]
    · rw [if_neg c, if_neg (fun g => c (e1.1 g))]
end Go.Proofs.Ytbeihfcjfkddcaa.Hy
