/- Pruned by wip/prune.py. -/
import Derived.Test.YtbeihfcjfkddcaaQRunesV
namespace Go.Proofs.Ytbeihfcjfkddcaa.Rn
open Go Go.RowKit Go.Proofs.YtbeihfcjfkddcaaW.PrintWords Go.Proofs.YtbeihfcjfkddcaaW.PrintMore Go.Proofs.Ytbeihfcjfkddcaa.Given
set_option linter.unusedVariables false
set_option linter.unusedSimpArgs false
def m2 (c b : Int) : Prop := 194 ≤ c ∧ c ≤ 223 ∧ 128 ≤ b ∧ b ≤ 191
def m3 (c b d : Int) : Prop := 224 ≤ c ∧ c ≤ 239 ∧ (c = 224 → 160 ≤ b) ∧ (c = 237 → b ≤ 159) ∧ 128 ≤ b ∧ b ≤ 191 ∧ 128 ≤ d ∧ d ≤ 191
def m4 (c b d e : Int) : Prop := 240 ≤ c ∧ c ≤ 244 ∧ (c = 240 → 144 ≤ b) ∧ (c = 244 → b ≤ 143) ∧ 128 ≤ b ∧ b ≤ 191 ∧ 128 ≤ d ∧ d ≤ 191 ∧ 128 ≤ e ∧ e ≤ 191
instance (c b : Int) : Decidable (m2 c b) := by unfold m2; infer_instance
instance (c b d : Int) : Decidable (m3 c b d) := by unfold m3; infer_instance
instance (c b d e : Int) : Decidable (m4 c b d e) := by unfold m4; infer_instance
def v2 (c b : Int) : Int := c % 32 * 64 + b % 64
def v3 (c b d : Int) : Int := (c % 16 * 64 + b % 64) * 64 + d % 64
def v4 (c b d e : Int) : Int := ((c % 8 * 64 + b % 64) * 64 + d % 64) * 64 + e % 64
/-- A rune's bytes. -/
def bytesV (r : Int) : List Int :=
  if r < 0 ∨ 1114111 < r ∨ (55296 ≤ r ∧ r ≤ 57343) then [] else if r < 128 then [r] else if r < 2048 then [192 + r / 64, 128 + r % 64]
  else if r < 65536 then [224 + r / 4096, 128 + r / 64 % 64, 128 + r % 64] else [240 + r / 262144, 128 + r / 4096 % 64, 128 + r / 64 % 64, 128 + r % 64]
def bytesAt (s : ByteArray) : Nat → Int → List Int
  | 0, _ => []
  | n + 1, p => bt s p :: bytesAt s n (p + 1)
theorem bytesAt_len (s : ByteArray) : ∀ (n : Nat) (p : Int), (bytesAt s n p).length = n
  | 0, _ => rfl
  | n + 1, p => by simp [bytesAt, bytesAt_len s n]
theorem b1 (c : Int) (h : 0 ≤ c) (h' : c ≤ 255) : (bytesV c = [c]) ↔ c < 128 := by
  unfold bytesV
  rw [if_neg (by omega)]
  repeat' split
  all_goals simp
  all_goals omega
theorem b2 (c b : Int) (h : 0 ≤ c) (h' : c ≤ 255) (g : 0 ≤ b) (g' : b ≤ 255) : (bytesV (v2 c b) = [c, b]) ↔ m2 c b := by
  unfold bytesV m2 v2
  repeat' split
  all_goals simp
  all_goals omega
theorem b3 (c b d : Int) (h : 0 ≤ c) (h' : c ≤ 255) (g : 0 ≤ b) (g' : b ≤ 255) (f : 0 ≤ d) (f' : d ≤ 255) : (bytesV (v3 c b d) = [c, b, d]) ↔ m3 c b d := by
  unfold bytesV m3 v3
  repeat' split
  all_goals simp
  all_goals omega
theorem b4 (c b d e : Int) (h : 0 ≤ c) (h' : c ≤ 255) (g : 0 ≤ b) (g' : b ≤ 255) (f : 0 ≤ d) (f' : d ≤ 255) (i : 0 ≤ e) (i' : e ≤ 255) : (bytesV (v4 c b d e) = [c, b, d, e]) ↔ m4 c b d e := by
  unfold bytesV m4 v4
  repeat' split
  all_goals simp
  all_goals omega
/-- The rune at a place, and its bytes' number; -1 and 0: none. -/
def readV (s : ByteArray) (p : Int) : Int × Int :=
  if bt s p < 128 then (bt s p, 1)
  else if p + 2 ≤ s.size ∧ m2 (bt s p) (bt s (p + 1)) then (v2 (bt s p) (bt s (p + 1)), 2)
  else if p + 3 ≤ s.size ∧ m3 (bt s p) (bt s (p + 1)) (bt s (p + 2)) then (v3 (bt s p) (bt s (p + 1)) (bt s (p + 2)), 3)
  else if p + 4 ≤ s.size ∧ m4 (bt s p) (bt s (p + 1)) (bt s (p + 2)) (bt s (p + 3)) then (v4 (bt s p) (bt s (p + 1)) (bt s (p + 2)) (bt s (p + 3)), 4)
  else (-1, 0)
theorem cont_iff (s : ByteArray) (n lo hi : Int) : cont s n lo hi = true ↔ n < s.size ∧ lo ≤ bt s n ∧ bt s n ≤ hi := by
  unfold cont; simp
theorem readV_snd (s : ByteArray) (p : Int) : (readV s p).2 = if bt s p < 128 then 1 else if p + 2 ≤ s.size ∧ m2 (bt s p) (bt s (p + 1)) then 2
    else if p + 3 ≤ s.size ∧ m3 (bt s p) (bt s (p + 1)) (bt s (p + 2)) then 3 else if p + 4 ≤ s.size ∧ m4 (bt s p) (bt s (p + 1)) (bt s (p + 2)) (bt s (p + 3)) then 4 else 0 := by
  unfold readV
  by_cases c1 : bt s p < 128
  · rw [if_pos c1, if_pos c1]
  rw [if_neg c1, if_neg c1]
  by_cases c2 : p + 2 ≤ s.size ∧ m2 (bt s p) (bt s (p + 1))
  · rw [if_pos c2, if_pos c2]
  rw [if_neg c2, if_neg c2]
  by_cases c3 : p + 3 ≤ s.size ∧ m3 (bt s p) (bt s (p + 1)) (bt s (p + 2))
  · rw [if_pos c3, if_pos c3]
  rw [if_neg c3, if_neg c3]
  by_cases c4 : p + 4 ≤ s.size ∧ m4 (bt s p) (bt s (p + 1)) (bt s (p + 2)) (bt s (p + 3))
  · rw [if_pos c4, if_pos c4]
  rw [if_neg c4, if_neg c4]
/-- What the program finds is what the document finds. -/
theorem size_read (s : ByteArray) (p : Int) (h0 : 0 ≤ p) (h1 : p < s.size) : sizeV s p = (readV s p).2 := by
  have hb := bt_nonneg s p
  rw [readV_snd]
  unfold sizeV
  rw [if_neg (by omega), if_neg (by omega)]
  simp only [sizeGo, cont_iff]
  rw [show p + 1 + 1 = p + 2 by omega, show p + 2 + 1 = p + 3 by omega, show p + 3 + 1 = p + 4 by omega]
  unfold m2 m3 m4
  repeat' split
  all_goals first
    | rfl
    | omega
theorem get_bt (s : ByteArray) (i : Nat) : ((s.get! i).toNat : Int) = bt s i := by
  unfold bt
  simp only [Int.toNat_natCast]
  split
  · rename_i h
    have e : s.get! i = s[i]'h := get_at s i h
    rw [e]
  · rename_i h
    simp [ByteArray.get!, h]
    rfl
theorem valid_iff (r : Int) : Utf8.valid r = true ↔ (0 ≤ r ∧ r < 55296) ∨ (57344 ≤ r ∧ r ≤ 1114111) := by
  unfold Utf8.valid
  rw [Bool.or_eq_true, Bool.and_eq_true, Bool.and_eq_true, decide_eq_true_eq, decide_eq_true_eq, decide_eq_true_eq, decide_eq_true_eq]
def okR (r : Nat) : Prop := r < 55296 ∨ (57344 ≤ r ∧ r ≤ 1114111)
instance (r : Nat) : Decidable (okR r) := by unfold okR; infer_instance
def decP (c b d e n p : Nat) : Nat × Nat :=
  if c < 128 then (c, 1)
  else if c / 32 = 6 ∧ p + 1 < n ∧ b / 64 = 2 then (if 128 ≤ c % 32 * 64 + b % 64 then (c % 32 * 64 + b % 64, 2) else (65533, 1))
  else if c / 16 = 14 ∧ p + 1 < n ∧ b / 64 = 2 ∧ p + 2 < n ∧ d / 64 = 2 then
    (if 2048 ≤ c % 16 * 4096 + b % 64 * 64 + d % 64 ∧ okR (c % 16 * 4096 + b % 64 * 64 + d % 64) then (c % 16 * 4096 + b % 64 * 64 + d % 64, 3) else (65533, 1))
  else if c / 8 = 30 ∧ p + 1 < n ∧ b / 64 = 2 ∧ p + 2 < n ∧ d / 64 = 2 ∧ p + 3 < n ∧ e / 64 = 2 then
    (if 65536 ≤ c % 8 * 262144 + b % 64 * 4096 + d % 64 * 64 + e % 64 ∧ okR (c % 8 * 262144 + b % 64 * 4096 + d % 64 * 64 + e % 64) then (c % 8 * 262144 + b % 64 * 4096 + d % 64 * 64 + e % 64, 4) else (65533, 1))
  else (65533, 1)
theorem valid_ok (r : Nat) : (Utf8.valid (r : Int) = true) = okR r := by
  rw [eq_iff_iff, valid_iff]; unfold okR; omega
theorem decode_dec (s : ByteArray) (p : Nat) : Utf8.decode s p = decP (s.get! p).toNat (s.get! (p + 1)).toNat (s.get! (p + 2)).toNat (s.get! (p + 3)).toNat s.size p := by
  unfold Utf8.decode decP
  simp only [Nat.add_zero, Bool.and_eq_true, decide_eq_true_eq, beq_iff_eq, valid_ok, Utf8.runeError, and_assoc, ge_iff_le]
theorem dec_no (c b d e n p : Nat) (hc : c < 256) (hb : b < 256) (hd : d < 256) (he : e < 256) (k1 : ¬ c < 128) (k2 : ¬ ((p : Int) + 2 ≤ n ∧ m2 c b)) (k3 : ¬ ((p : Int) + 3 ≤ n ∧ m3 c b d))
    (k4 : ¬ ((p : Int) + 4 ≤ n ∧ m4 c b d e)) : decP c b d e n p = (65533, 1) := by
  unfold decP
  rw [if_neg k1]
  by_cases a2 : c / 32 = 6 ∧ p + 1 < n ∧ b / 64 = 2
  · rw [if_pos a2, if_neg]
    intro h
    apply k2
    unfold m2
    omega
  rw [if_neg a2]
  by_cases a3 : c / 16 = 14 ∧ p + 1 < n ∧ b / 64 = 2 ∧ p + 2 < n ∧ d / 64 = 2
  · rw [if_pos a3, if_neg]
    rintro ⟨h, h'⟩
    apply k3
    unfold m3
    unfold okR at h'
    refine ⟨by omega, by omega, by omega, fun _ => by omega, fun _ => by omega, by omega, by omega, by omega, by omega⟩
  rw [if_neg a3]
  by_cases a4 : c / 8 = 30 ∧ p + 1 < n ∧ b / 64 = 2 ∧ p + 2 < n ∧ d / 64 = 2 ∧ p + 3 < n ∧ e / 64 = 2
  · rw [if_pos a4, if_neg]
    rintro ⟨h, h'⟩
    apply k4
    unfold m4
    unfold okR at h'
    refine ⟨by omega, by omega, by omega, fun _ => by omega, fun _ => by omega, by omega, by omega, by omega, by omega, by omega, by omega⟩
  rw [if_neg a4]
theorem dec_2 (c b d e n p : Nat) (hc : c < 256) (hb : b < 256) (l : (p : Int) + 2 ≤ n) (k : m2 c b) : decP c b d e n p = ((v2 c b).toNat, 2) := by
  unfold m2 at k
  unfold decP v2
  rw [if_neg (by omega), if_pos (by omega), if_pos (by omega)]
  simp only [Prod.mk.injEq, and_true]
  omega
theorem dec_3 (c b d e n p : Nat) (hc : c < 256) (hb : b < 256) (hd : d < 256) (l : (p : Int) + 3 ≤ n) (k : m3 c b d) : decP c b d e n p = ((v3 c b d).toNat, 3) := by
  unfold m3 at k
  unfold decP v3
  rw [if_neg (by omega), if_neg (by omega), if_pos (by omega), if_pos (by unfold okR; omega)]
  simp only [Prod.mk.injEq, and_true]
  omega
theorem dec_4 (c b d e n p : Nat) (hc : c < 256) (hb : b < 256) (hd : d < 256) (he : e < 256) (l : (p : Int) + 4 ≤ n) (k : m4 c b d e) : decP c b d e n p = ((v4 c b d e).toNat, 4) := by
  unfold m4 at k
  unfold decP v4
  rw [if_neg (by omega), if_neg (by omega), if_neg (by omega), if_pos (by omega), if_pos (by unfold okR; omega)]
  simp only [Prod.mk.injEq, and_true]
  omega
/-- 'range' over a text reads what the document reads, where a rune begins; else one byte as U+FFFD. -/
theorem decode_read (s : ByteArray) (p : Nat) : Utf8.decode s p = if (readV s p).2 = 0 then (65533, 1) else ((readV s p).1.toNat, (readV s p).2.toNat) := by
  have e0 : bt s (p : Int) = ((s.get! p).toNat : Int) := (get_bt s p).symm
  have e1 : bt s ((p : Int) + 1) = ((s.get! (p + 1)).toNat : Int) := (get_bt s (p + 1)).symm
  have e2 : bt s ((p : Int) + 2) = ((s.get! (p + 2)).toNat : Int) := (get_bt s (p + 2)).symm
  have e3 : bt s ((p : Int) + 3) = ((s.get! (p + 3)).toNat : Int) := (get_bt s (p + 3)).symm
  have h0 := (s.get! p).toNat_lt
  have h1 := (s.get! (p + 1)).toNat_lt
  have h2 := (s.get! (p + 2)).toNat_lt
  have h3 := (s.get! (p + 3)).toNat_lt
  rw [decode_dec]
  unfold readV
  rw [e0, e1, e2, e3]
  by_cases c1 : ((s.get! p).toNat : Int) < 128
  · rw [if_pos c1, if_neg (by simp)]
    unfold decP
    rw [if_pos (by omega)]
    simp
  rw [if_neg c1]
  by_cases k2 : (p : Int) + 2 ≤ s.size ∧ m2 (s.get! p).toNat (s.get! (p + 1)).toNat
  · rw [if_pos k2, if_neg (by simp)]
    exact dec_2 _ _ _ _ _ _ h0 h1 k2.1 k2.2
  rw [if_neg k2]
  by_cases k3 : (p : Int) + 3 ≤ s.size ∧ m3 (s.get! p).toNat (s.get! (p + 1)).toNat (s.get! (p + 2)).toNat
  · rw [if_pos k3, if_neg (by simp)]
    exact dec_3 _ _ _ _ _ _ h0 h1 h2 k3.1 k3.2
  rw [if_neg k3]
  by_cases k4 : (p : Int) + 4 ≤ s.size ∧ m4 (s.get! p).toNat (s.get! (p + 1)).toNat (s.get! (p + 2)).toNat (s.get! (p + 3)).toNat
  · rw [if_pos k4, if_neg (by simp)]
    exact dec_4 _ _ _ _ _ _ h0 h1 h2 h3 k4.1 k4.2
  rw [if_neg k4, if_pos rfl]
  exact dec_no _ _ _ _ _ _ h0 h1 h2 h3 (by omega) k2 k3 k4
/-- The places and runes from a place on; the first wrong byte, or -1. -/
def refGo (s : ByteArray) : Nat → Int → List (Int × Int) × Int
  | 0, _ => ([], -1)
  | k + 1, p => if p < (s.size : Int) then (if (readV s p).2 = 0 then ([], p) else ((p, (readV s p).1) :: (refGo s k (p + (readV s p).2)).1, (refGo s k (p + (readV s p).2)).2)) else ([], -1)
/-- A parse from a place to another one. -/
inductive Par (s : ByteArray) : Int → List (Int × Int) → Int → Prop where
  | nil (p : Int) : Par s p [] p
  | cons {p e : Int} {l : List (Int × Int)} (h0 : 0 ≤ p) (h1 : p < s.size) (hk : 0 < (readV s p).2) (h : Par s (p + (readV s p).2) l e) : Par s p ((p, (readV s p).1) :: l) e
theorem read_bounds (s : ByteArray) (p : Int) (h0 : 0 ≤ p) (h1 : p < s.size) : 0 ≤ (readV s p).2 ∧ (readV s p).2 ≤ 4 ∧ p + (readV s p).2 ≤ s.size := by
  have h := sizeV_bounds s p h0 (by omega)
  rw [size_read s p h0 h1] at h
  exact h
theorem refGo_bad (s : ByteArray) : ∀ (k : Nat) (p : Int), 0 ≤ p → p ≤ s.size → badGo s k p = (refGo s k p).2
  | 0, _, _, _ => rfl
  | k + 1, p, h0, h1 => by
    simp only [badGo, refGo]
    by_cases e : p = (s.size : Int)
    · rw [if_pos e, if_neg (by omega)]
    rw [if_neg e, size_read s p h0 (by omega), if_pos (show p < (s.size : Int) by omega)]
    by_cases z : (readV s p).2 = 0
    · rw [if_pos z, if_pos z]
    rw [if_neg z, if_neg z]
    have := read_bounds s p h0 (by omega)
    exact refGo_bad s k _ (by omega) (by omega)
theorem refGo_two (s : ByteArray) : ∀ (k : Nat) (p : Int), 0 ≤ p → p ≤ s.size → (refGo s k p).2 = -1 ∨ (p ≤ (refGo s k p).2 ∧ (refGo s k p).2 < s.size)
  | 0, _, _, _ => .inl rfl
  | k + 1, p, h0, h1 => by
    simp only [refGo]
    by_cases e : p < (s.size : Int)
    · rw [if_pos e]
      by_cases z : (readV s p).2 = 0
      · rw [if_pos z]; exact .inr ⟨Int.le_refl _, e⟩
      rw [if_neg z]
      have hb := read_bounds s p h0 e
      rcases refGo_two s k (p + (readV s p).2) (by omega) (by omega) with h | ⟨h, h'⟩
      · exact .inl h
      · exact .inr ⟨by omega, h'⟩
    · rw [if_neg e]; exact .inl rfl
theorem ref_par (s : ByteArray) : ∀ (k : Nat) (p : Int), 0 ≤ p → p ≤ s.size → (s.size : Int) < p + k → (refGo s k p).2 = -1 → Par s p (refGo s k p).1 s.size
  | 0, p, _, _, h, _ => by omega
  | k + 1, p, h0, h1, h, hb => by
    simp only [refGo] at hb ⊢
    by_cases e : p < (s.size : Int)
    · rw [if_pos e] at hb ⊢
      by_cases z : (readV s p).2 = 0
      · rw [if_pos z] at hb; simp only at hb; omega
      rw [if_neg z] at hb ⊢
      have hr := read_bounds s p h0 e
      exact .cons h0 e (by omega) (ref_par s k _ (by omega) (by omega) (by omega) hb)
    · rw [if_neg e]
      have : p = s.size := by omega
      rw [this]
      exact .nil _
theorem par_le {s : ByteArray} {p e : Int} {l : List (Int × Int)} (h : Par s p l e) : p ≤ e ∧ p + l.length ≤ e := by
  induction h with
  | nil => simp
  | cons h0 h1 hk _ ih => simp only [List.length_cons]; omega
/-- A rune's first byte is none within a rune; its others are. -/
def inside (c : Int) : Bool := decide (128 ≤ c) && decide (c ≤ 191)
def refV (s : ByteArray) : List (Int × Int) × Int := refGo s (s.size + 1) 0
theorem bad_ref (s : ByteArray) : badV s = (refV s).2 := refGo_bad s _ 0 (by omega) (by omega)
/-- A text is right, and has these runes; or it has a first wrong byte. -/
theorem right_or (s : ByteArray) : ((refV s).2 = -1 ∧ Par s 0 (refV s).1 s.size) ∨ (0 ≤ (refV s).2 ∧ (refV s).2 < s.size) := by
  rcases refGo_two s (s.size + 1) 0 (by omega) (by omega) with h | h
  · exact .inl ⟨h, ref_par s _ 0 (by omega) (by omega) (by omega) h⟩
  · exact .inr h
theorem bad_or (s : ByteArray) : (badV s = -1 ∧ Par s 0 (refV s).1 s.size) ∨ (0 ≤ badV s ∧ badV s < s.size) := by rw [bad_ref]; exact right_or s
def BeginsP (s : ByteArray) (p : Int) (l : List Int) : Prop := l ≠ [] ∧ p + (l.length : Int) ≤ s.size ∧ ∀ i, i < l.length → bt s (p + (i : Int)) = l.getD i 0
instance (s : ByteArray) (p : Int) (l : List Int) : Decidable (BeginsP s p l) := by unfold BeginsP; infer_instance
theorem bytesAt_getD (s : ByteArray) : ∀ (n : Nat) (p : Int) (i : Nat), i < n → (bytesAt s n p).getD i 0 = bt s (p + (i : Int))
  | n + 1, p, 0, _ => by simp [bytesAt]
  | n + 1, p, i + 1, h => by
    simp only [bytesAt, List.getD_cons_succ]
    rw [bytesAt_getD s n (p + 1) i (by omega), show p + 1 + (i : Int) = p + ((i + 1 : Nat) : Int) by omega]
theorem ext_get0 {L M : List Int} (hl : L.length = M.length) (h : ∀ q, q < L.length → L.getD q 0 = M.getD q 0) : L = M := by
  apply List.ext_getElem hl
  intro q h1 h2
  have := h q h1
  rwa [List.getD_eq_getElem?_getD, List.getD_eq_getElem?_getD, List.getElem?_eq_getElem h1, List.getElem?_eq_getElem h2] at this
def Hit (s : ByteArray) (p X : Int) (k : Nat) : Prop := ((bytesV X).length : Int) = (k : Int) ∧ BeginsP s p (bytesV X)
theorem hit_iff (s : ByteArray) (p X : Int) (k : Nat) (hk : 0 < k) : Hit s p X k ↔ p + (k : Int) ≤ s.size ∧ bytesV X = bytesAt s k p := by
  constructor
  · rintro ⟨h1, h2, h3, h4⟩
    have hl : (bytesV X).length = k := by omega
    refine ⟨by rw [← hl]; exact h3, ext_get0 (by rw [hl, bytesAt_len]) fun q hq => ?_⟩
    rw [bytesAt_getD s k p q (by omega), h4 q hq]
  · rintro ⟨h1, h2⟩
    have hl : (bytesV X).length = k := by rw [h2, bytesAt_len]
    refine ⟨by omega, fun e => by rw [e] at hl; simp at hl; omega, by rw [hl]; exact h1, fun i hi => ?_⟩
    rw [h2, bytesAt_getD s k p i (by omega)]
section
variable (s : ByteArray) (p : Int)
theorem hit1 (h : p + 1 ≤ s.size) : Hit s p (bt s p) 1 ↔ bt s p < 128 := by
  have hb := bt_nonneg s p
  rw [hit_iff _ _ _ _ (by omega), ← b1 _ hb.1 hb.2]
  exact ⟨fun z => z.2, fun z => ⟨h, z⟩⟩
theorem hit2 : Hit s p (v2 (bt s p) (bt s (p + 1))) 2 ↔ p + 2 ≤ s.size ∧ m2 (bt s p) (bt s (p + 1)) := by
  have hb := bt_nonneg s p
  have hb1 := bt_nonneg s (p + 1)
  rw [hit_iff _ _ _ _ (by omega), ← b2 _ _ hb.1 hb.2 hb1.1 hb1.2]
  rfl
theorem hit3 : Hit s p (v3 (bt s p) (bt s (p + 1)) (bt s (p + 2))) 3 ↔ p + 3 ≤ s.size ∧ m3 (bt s p) (bt s (p + 1)) (bt s (p + 2)) := by
  have hb := bt_nonneg s p
  have hb1 := bt_nonneg s (p + 1)
  have hb2 := bt_nonneg s (p + 2)
  rw [hit_iff _ _ _ _ (by omega), ← b3 _ _ _ hb.1 hb.2 hb1.1 hb1.2 hb2.1 hb2.2]
  simp only [bytesAt]
  rw [show p + 1 + 1 = p + 2 by omega]
  rfl
theorem hit4 : Hit s p (v4 (bt s p) (bt s (p + 1)) (bt s (p + 2)) (bt s (p + 3))) 4 ↔ p + 4 ≤ s.size ∧ m4 (bt s p) (bt s (p + 1)) (bt s (p + 2)) (bt s (p + 3)) := by
  have hb := bt_nonneg s p
  have hb1 := bt_nonneg s (p + 1)
  have hb2 := bt_nonneg s (p + 2)
  have hb3 := bt_nonneg s (p + 3)
  rw [hit_iff _ _ _ _ (by omega), ← b4 _ _ _ _ hb.1 hb.2 hb1.1 hb1.2 hb2.1 hb2.2 hb3.1 hb3.2]
  simp only [bytesAt]
  rw [show p + 1 + 1 = p + 2 by omega, show p + 2 + 1 = p + 3 by omega]
  rfl
theorem read_is1 (h : p + 1 ≤ s.size) (y : Hit s p (bt s p) 1) : readV s p = (bt s p, 1) := by
  unfold readV
  rw [if_pos ((hit1 s p h).1 y)]
theorem read_is2 (h : p + 1 ≤ s.size) (n1 : ¬ Hit s p (bt s p) 1) (y : Hit s p (v2 (bt s p) (bt s (p + 1))) 2) : readV s p = (v2 (bt s p) (bt s (p + 1)), 2) := by
  unfold readV
  rw [if_neg (fun z => n1 ((hit1 s p h).2 z)), if_pos ((hit2 s p).1 y)]
theorem read_is3 (h : p + 1 ≤ s.size) (n1 : ¬ Hit s p (bt s p) 1) (n2 : ¬ Hit s p (v2 (bt s p) (bt s (p + 1))) 2) (y : Hit s p (v3 (bt s p) (bt s (p + 1)) (bt s (p + 2))) 3) : readV s p = (v3 (bt s p) (bt s (p + 1)) (bt s (p + 2)), 3) := by
  unfold readV
  rw [if_neg (fun z => n1 ((hit1 s p h).2 z)), if_neg (fun z => n2 ((hit2 s p).2 z)), if_pos ((hit3 s p).1 y)]
theorem read_is4 (h : p + 1 ≤ s.size) (n1 : ¬ Hit s p (bt s p) 1) (n2 : ¬ Hit s p (v2 (bt s p) (bt s (p + 1))) 2) (n3 : ¬ Hit s p (v3 (bt s p) (bt s (p + 1)) (bt s (p + 2))) 3) (y : Hit s p (v4 (bt s p) (bt s (p + 1)) (bt s (p + 2)) (bt s (p + 3))) 4) : readV s p = (v4 (bt s p) (bt s (p + 1)) (bt s (p + 2)) (bt s (p + 3)), 4) := by
  unfold readV
  rw [if_neg (fun z => n1 ((hit1 s p h).2 z)), if_neg (fun z => n2 ((hit2 s p).2 z)), if_neg (fun z => n3 ((hit3 s p).2 z)), if_pos ((hit4 s p).1 y)]
theorem read_no (h : p + 1 ≤ s.size) (n1 : ¬ Hit s p (bt s p) 1) (n2 : ¬ Hit s p (v2 (bt s p) (bt s (p + 1))) 2) (n3 : ¬ Hit s p (v3 (bt s p) (bt s (p + 1)) (bt s (p + 2))) 3) (n4 : ¬ Hit s p (v4 (bt s p) (bt s (p + 1)) (bt s (p + 2)) (bt s (p + 3))) 4) : readV s p = (-1, 0) := by
  unfold readV
  rw [if_neg (fun z => n1 ((hit1 s p h).2 z)), if_neg (fun z => n2 ((hit2 s p).2 z)), if_neg (fun z => n3 ((hit3 s p).2 z)), if_neg (fun z => n4 ((hit4 s p).2 z))]
theorem hit_room {X : Int} {k : Nat} (h : ¬ p + (k : Int) ≤ s.size) : ¬ Hit s p X k := fun z => by
  have h1 := z.1
  have h2 := z.2.2.1
  omega
end
def vkV (s : ByteArray) (p : Int) (k : Nat) : Int := if k = 1 then bt s p else if k = 2 then v2 (bt s p) (bt s (p + 1)) else if k = 3 then v3 (bt s p) (bt s (p + 1)) (bt s (p + 2)) else v4 (bt s p) (bt s (p + 1)) (bt s (p + 2)) (bt s (p + 3))
theorem read_first {s : ByteArray} {p : Int} (h : p + 1 ≤ s.size) {k : Nat} (h1 : 1 ≤ k) (h4 : k ≤ 4) (no : ∀ j, 1 ≤ j → j < k → ¬ Hit s p (vkV s p j) j) (y : Hit s p (vkV s p k) k) : readV s p = (vkV s p k, (k : Int)) := by
  have hk : k = 1 ∨ k = 2 ∨ k = 3 ∨ k = 4 := by omega
  rcases hk with rfl | rfl | rfl | rfl
  · exact read_is1 s p h y
  · exact read_is2 s p h (no 1 (by omega) (by omega)) y
  · exact read_is3 s p h (no 1 (by omega) (by omega)) (no 2 (by omega) (by omega)) y
  · exact read_is4 s p h (no 1 (by omega) (by omega)) (no 2 (by omega) (by omega)) (no 3 (by omega) (by omega)) y
theorem read_none {s : ByteArray} {p : Int} (h : p + 1 ≤ s.size) {k : Nat} (no : ∀ j, 1 ≤ j → j < k → ¬ Hit s p (vkV s p j) j) (y : ¬ (k ≤ 4 ∧ p + (k : Int) ≤ s.size)) : readV s p = (-1, 0) := by
  have hn : ∀ j, 1 ≤ j → j ≤ 4 → ¬ Hit s p (vkV s p j) j := fun j h1 h4 => by
    by_cases c : j < k
    · exact no j h1 c
    · exact hit_room s p (by omega)
  exact read_no s p h (hn 1 (by omega) (by omega)) (hn 2 (by omega) (by omega)) (hn 3 (by omega) (by omega)) (hn 4 (by omega) (by omega))
def runesL (s : ByteArray) : List Int := (refV s).1.map (·.2)
def placesL (s : ByteArray) : List Int := (refV s).1.map (·.1)
def BetweenP (s : ByteArray) (a : Int) : Prop := a ∈ placesL s ∨ a = (s.size : Int)
instance (s : ByteArray) (a : Int) : Decidable (BetweenP s a) := by unfold BetweenP; infer_instance
theorem map_snoc2 (l : List (Int × Int)) (p r : Int) : l.map (·.2) ++ [r] = (l ++ [(p, r)]).map (·.2) := by simp
theorem map_snoc1 (l : List (Int × Int)) (p r : Int) : l.map (·.1) ++ [p] = (l ++ [(p, r)]).map (·.1) := by simp
theorem refV_room (s : ByteArray) : (refV s).1.length ≤ s.size := by
  have key : ∀ (k : Nat) (p : Int), 0 ≤ p → p ≤ s.size → p + ((refGo s k p).1.length : Int) ≤ s.size := by
    intro k
    induction k with
    | zero => intro p h0 h1; simp only [refGo, List.length_nil]; omega
    | succ k ih =>
      intro p h0 h1
      simp only [refGo]
      split
      · rename_i hp
        split
        · simp only [List.length_nil]; omega
        · have hr := read_bounds s p h0 hp
          have := ih (p + (readV s p).2) (by omega) (by omega)
          simp only [List.length_cons]; omega
      · simp only [List.length_nil]; omega
  have := key (s.size + 1) 0 (by omega) (by omega)
  unfold refV
  omega
theorem bytes_le (r : Int) : (bytesV r).length ≤ 4 := by
  unfold bytesV
  repeat' split
  all_goals simp
end Go.Proofs.Ytbeihfcjfkddcaa.Rn
