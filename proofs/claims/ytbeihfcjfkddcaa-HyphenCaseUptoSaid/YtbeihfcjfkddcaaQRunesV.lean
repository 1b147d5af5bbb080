/- Pruned by wip/prune.py. -/
import Derived.Test.YtbeihfcjfkddcaaQWWords
import Derived.Test.YtbeihfcjfkddcaaQWAll
import Derived.Laws.RangeAny
namespace Go.Proofs.Ytbeihfcjfkddcaa.Given
open Go.RowKit Go.Proofs.YtbeihfcjfkddcaaW.PrintWords Go.Proofs.YtbeihfcjfkddcaaW.PrintMore
def cont (s : ByteArray) (n lo hi : Int) : Bool := decide (n < (s.size : Int)) && (decide (lo ≤ bt s n) && decide (bt s n ≤ hi))
def sizeGo (s : ByteArray) (b : Int) : Nat → Int → Int → Int → Int
  | 0, n, _, _ => n - b
  | k + 1, n, lo, hi => if cont s n lo hi = true then sizeGo s b k (n + 1) 128 191 else 0
def sizeV (s : ByteArray) (b : Int) : Int :=
  if b < 0 then 0 else if (s.size : Int) ≤ b then 0 else if bt s b < 128 then 1 else if bt s b < 194 then 0 else if 244 < bt s b then 0
  else if bt s b < 224 then sizeGo s b 1 (b + 1) 128 191
  else if bt s b < 240 then sizeGo s b 2 (b + 1) (if bt s b = 224 then 160 else 128) (if bt s b = 237 then 159 else 191)
  else sizeGo s b 3 (b + 1) (if bt s b = 240 then 144 else 128) (if bt s b = 244 then 143 else 191)
theorem bt_nonneg (s : ByteArray) (i : Int) : 0 ≤ bt s i ∧ bt s i ≤ 255 := by
  unfold bt
  split
  · rename_i h; have := (s[i.toNat]'h).toNat_lt; omega
  · omega
theorem sizeGo_bounds (s : ByteArray) (b : Int) : ∀ (k : Nat) (n lo hi : Int), b < n → n ≤ (s.size : Int) →
    sizeGo s b k n lo hi = 0 ∨ (sizeGo s b k n lo hi = n - b + k ∧ n + k ≤ s.size)
  | 0, n, lo, hi, h1, h2 => by right; simp only [sizeGo]; omega
  | k + 1, n, lo, hi, h1, h2 => by
    simp only [sizeGo]
    by_cases c : cont s n lo hi = true
    · rw [if_pos c]
      have hn : n < (s.size : Int) := by unfold cont at c; simp at c; exact c.1
      rcases sizeGo_bounds s b k (n + 1) 128 191 (by omega) (by omega) with h | ⟨h, h'⟩
      · exact .inl h
      · right; constructor
        · rw [h]; omega
        · omega
    · rw [if_neg c]; exact .inl rfl
/-- A rune's bytes lie in the text; there are at most four. -/
theorem sizeV_bounds (s : ByteArray) (p : Int) (h0 : 0 ≤ p) (h1 : p ≤ s.size) : 0 ≤ sizeV s p ∧ sizeV s p ≤ 4 ∧ p + sizeV s p ≤ s.size := by
  unfold sizeV
  have hn : ¬ p < 0 := by omega
  rw [if_neg hn]
  by_cases e : (s.size : Int) ≤ p
  · rw [if_pos e]; omega
  rw [if_neg e]
  repeat' split
  all_goals first
    | omega
    | (rcases sizeGo_bounds s p 1 (p + 1) _ _ (by omega) (by omega) with h | ⟨h, h'⟩ <;> rw [h] <;> omega)
    | (rcases sizeGo_bounds s p 2 (p + 1) _ _ (by omega) (by omega) with h | ⟨h, h'⟩ <;> rw [h] <;> omega)
    | (rcases sizeGo_bounds s p 3 (p + 1) _ _ (by omega) (by omega) with h | ⟨h, h'⟩ <;> rw [h] <;> omega)
/-- The first wrong byte, from a place on. -/
def badGo (s : ByteArray) : Nat → Int → Int
  | 0, _ => -1
  | k + 1, p => if p = (s.size : Int) then -1 else if sizeV s p = 0 then p else badGo s k (p + sizeV s p)
def badV (s : ByteArray) : Int := badGo s (s.size + 1) 0
end Go.Proofs.Ytbeihfcjfkddcaa.Given
