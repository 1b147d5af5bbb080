/- Pruned by wip/prune.py. -/
import Derived.Test.YtbeihfcjfkddcaaQSxMap
import Derived.Test.YtbeihfcjfkddcaaQRunesParts
import Derived.IntWalk
namespace Go.Proofs.Ytbeihfcjfkddcaa.Sx
theorem w8 {x : Int} (h : 0 ≤ x ∧ x ≤ 255) : IntKind.u8.wrap x = x := IntWalk.u8_in x h
end Go.Proofs.Ytbeihfcjfkddcaa.Sx
namespace Go.Proofs.Ytbeihfcjfkddcaa.Hy
open Go Go.RowKit Go.Proofs.YtbeihfcjfkddcaaW.PrintWords Go.Proofs.Ytbeihfcjfkddcaa.Given Go.Proofs.Ytbeihfcjfkddcaa.Rn Go.Proofs.Ytbeihfcjfkddcaa.Sx
set_option linter.unusedVariables false
set_option linter.unusedSimpArgs false
theorem low_bits (r : Int) (h : 0 ≤ r) : Go.bits .or .u8 128 (Go.bits .and .u8 (IntKind.wrap .u8 r) 63) = 128 + r % 64 := by
  have e : IntKind.wrap .u8 r = r % 256 := by rw [IntKind.wrap_u8]
  rw [e]
  have : ∀ n : Nat, n < 256 → Go.bits .or .u8 128 (Go.bits .and .u8 (n : Int) 63) = 128 + (n : Int) % 64 := by decide +kernel
  have g := this (r % 256).toNat (by omega)
  rw [Int.toNat_of_nonneg (by omega)] at g
  rw [g]; omega
theorem or192 (c : Int) (h : 0 ≤ c) (h' : c < 32) : Go.bits .or .u8 192 c = 192 + c := by
  have : ∀ n : Nat, n < 32 → Go.bits .or .u8 192 (n : Int) = 192 + (n : Int) := by decide +kernel
  have g := this c.toNat (by omega)
  rwa [Int.toNat_of_nonneg h] at g
theorem or224 (c : Int) (h : 0 ≤ c) (h' : c < 16) : Go.bits .or .u8 224 c = 224 + c := by
  have : ∀ n : Nat, n < 16 → Go.bits .or .u8 224 (n : Int) = 224 + (n : Int) := by decide +kernel
  have g := this c.toNat (by omega)
  rwa [Int.toNat_of_nonneg h] at g
theorem or240 (c : Int) (h : 0 ≤ c) (h' : c < 8) : Go.bits .or .u8 240 c = 240 + c := by
  have : ∀ n : Nat, n < 8 → Go.bits .or .u8 240 (n : Int) = 240 + (n : Int) := by decide +kernel
  have g := this c.toNat (by omega)
  rwa [Int.toNat_of_nonneg h] at g
def lowV (r : Int) : Int := if 65 ≤ r ∧ r ≤ 90 then r + 32 else r
def Sp (r : Int) : Prop := r = 32 ∨ r = 9 ∨ r = 160 ∨ r = 8239 ∨ r = 173 ∨ r = 8203 ∨ r = 8288 ∨ r = 65279 ∨ r = 45 ∨ r = 8208 ∨ r = 8232 ∨ r = 10
instance (r : Int) : Decidable (Sp r) := by unfold Sp; infer_instance
def LetP (r : Int) : Prop := (97 ≤ lowV r ∧ lowV r ≤ 122) ∨ (192 ≤ r ∧ r ≠ 215 ∧ r ≠ 247 ∧ ¬ Sp r)
instance (r : Int) : Decidable (LetP r) := by unfold LetP; infer_instance
theorem lowV_eq (r : Int) : (65 ≤ r ∧ r ≤ 90 ∧ lowV r = r + 32) ∨ (¬ (65 ≤ r ∧ r ≤ 90) ∧ lowV r = r) := by
  unfold lowV
  split <;> omega
theorem lowV_bd (r : Int) : r ≤ lowV r ∧ lowV r ≤ r + 32 ∧ (lowV r = r ∨ lowV r ≤ 122) ∧ (r < 0 → lowV r = r) := by
  unfold lowV
  split <;> omega
theorem read_bytes (s : ByteArray) (p : Int) (h : 0 < (readV s p).2) : bytesV (readV s p).1 = bytesAt s (readV s p).2.toNat p := by
  have q0 := bt_nonneg s p
  have q1 := bt_nonneg s (p + 1)
  have q2 := bt_nonneg s (p + 2)
  have q3 := bt_nonneg s (p + 3)
  have e2 : p + 1 + 1 = p + 2 := by omega
  have e3 : p + 2 + 1 = p + 3 := by omega
  unfold readV at h ⊢
  split
  · rename_i c; exact (b1 _ q0.1 q0.2).2 c
  split
  · rename_i c; show bytesV (v2 _ _) = [bt s p, bt s (p + 1)]; exact (b2 _ _ q0.1 q0.2 q1.1 q1.2).2 c.2
  split
  · rename_i c; show bytesV (v3 _ _ _) = [bt s p, bt s (p + 1), bt s (p + 1 + 1)]; rw [e2]; exact (b3 _ _ _ q0.1 q0.2 q1.1 q1.2 q2.1 q2.2).2 c.2
  split
  · rename_i c; show bytesV (v4 _ _ _ _) = [bt s p, bt s (p + 1), bt s (p + 1 + 1), bt s (p + 1 + 1 + 1)]; rw [e2, e3]; exact (b4 _ _ _ _ q0.1 q0.2 q1.1 q1.2 q2.1 q2.2 q3.1 q3.2).2 c.2
  · rename_i k1 k2 k3 k4
    rw [if_neg k1, if_neg k2, if_neg k3, if_neg k4] at h
    exact absurd h (by decide)
theorem bytesV_ok {r : Int} (h : bytesV r ≠ []) : 0 ≤ r ∧ r ≤ 1114111 ∧ ¬ (55296 ≤ r ∧ r ≤ 57343) := by
  unfold bytesV at h
  split at h
  · exact absurd rfl h
  · omega
theorem par_next {s : ByteArray} {p : Nat} {rest : List (Int × Int)} (h : Par s p rest s.size) (hp : p < s.size) : ∃ (r : Int) (l : List (Int × Int)), rest = ((p : Int), r) :: l ∧ (0 ≤ r ∧ r ≤ 1114111 ∧ ¬ (55296 ≤ r ∧ r ≤ 57343)) ∧ (((Utf8.decode s p).1 : Nat) : Int) = r ∧ 1 ≤ (Utf8.decode s p).2 ∧ p + (Utf8.decode s p).2 ≤ s.size ∧ Par s ((p + (Utf8.decode s p).2 : Nat) : Int) l s.size ∧ bytesV r = bytesAt s (Utf8.decode s p).2 p := by
  generalize hq : (p : Int) = q at h
  cases h with
  | nil => omega
  | @cons _ _ l h0 h1 hk h =>
    subst hq
    have hb := read_bytes s p hk
    have hbd := read_bounds s p h0 h1
    have hd := decode_read s p
    rw [if_neg (by omega)] at hd
    have hne : bytesV (readV s p).1 ≠ [] := by
      rw [hb]
      intro z
      have := congrArg List.length z
      rw [bytesAt_len] at this
      simp at this
      omega
    have hok := bytesV_ok hne
    refine ⟨_, l, rfl, hok, ?_, ?_, ?_, ?_, ?_⟩
    · rw [hd]; exact Int.toNat_of_nonneg hok.1
    · rw [hd]; show 1 ≤ (readV s p).2.toNat; omega
    · rw [hd]; show p + (readV s p).2.toNat ≤ _; omega
    · rw [hd]
      show Par s ((p + (readV s p).2.toNat : Nat) : Int) l s.size
      rw [show ((p + (readV s p).2.toNat : Nat) : Int) = (p : Int) + (readV s p).2 by omega]
      exact h
    · rw [hd]; exact hb
theorem par_stop {s : ByteArray} {p : Nat} {rest : List (Int × Int)} (h : Par s p rest s.size) (hp : ¬ p < s.size) : rest = [] := by
  generalize hq : (p : Int) = q at h
  cases h with
  | nil => rfl
  | cons h0 h1 hk h => omega
theorem bad_par {s : ByteArray} (h : badV s < 0) : Par s 0 (refV s).1 s.size := (bad_or s).elim (fun z => z.2) (fun z => by omega)
theorem bad_refV (s : ByteArray) : badV s = (refV s).2 := bad_ref s
theorem drop_get {α : Type} (l : List α) (z : α) {i : Nat} (h : i < l.length) : l.drop i = l.getD i z :: l.drop (i + 1) := by
  rw [List.drop_eq_getElem_cons h, List.getD_eq_getElem?_getD, List.getElem?_eq_getElem h]; rfl
end Go.Proofs.Ytbeihfcjfkddcaa.Hy
