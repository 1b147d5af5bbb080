/- Bits of bytes as sums: what '&' and '|' give where a rune is written or read. -/
import Derived.Laws.BitsLemmas
import Derived.Laws.BitsAllLaws
namespace Go.Proofs.Ytbbnhameafolgaa.Given
open Go

theorem or_small : ∀ m : Nat, m < 64 → 128 ||| m = 128 + m := by decide
theorem and_63 (a : Int) (h0 : 0 ≤ a) (h1 : a < 256) : bits .and .u8 a 63 = a % 64 := by
  rw [u8_and a 63 h0 h1 (by omega) (by omega)]
  have e : a.toNat &&& (63 : Int).toNat = a.toNat % 64 := Nat.and_two_pow_sub_one_eq_mod a.toNat 6
  rw [e]
  omega
theorem low_bits (x : Int) : Go.bits .or .u8 128 (Go.bits .and .u8 (x % 256) 63) = 128 + x % 64 := by
  rw [and_63 _ (by omega) (by omega), u8_or 128 _ (by omega) (by omega) (by omega) (by omega)]
  have e := or_small (x % 256 % 64).toNat (by omega)
  show ((((128 : Nat) ||| (x % 256 % 64).toNat : Nat)) : Int) = _
  rw [e]
  omega
end Go.Proofs.Ytbbnhameafolgaa.Given
