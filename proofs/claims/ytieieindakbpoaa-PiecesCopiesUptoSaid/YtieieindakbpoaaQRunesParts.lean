/- Pruned by wip/prune.py. -/
import Derived.Test.YtieieindakbpoaaQRunesPure
namespace Go.Proofs.Ytieieindakbpoaa.Rn
open Go Go.RowKit Go.Proofs.YtieieindakbpoaaW.PrintWords Go.Proofs.YtieieindakbpoaaW.PrintMore Go.Proofs.Ytieieindakbpoaa.Given
set_option linter.unusedVariables false
set_option linter.unusedSimpArgs false
theorem bt_append_left (s t : ByteArray) (i : Int) (h0 : 0 ≤ i) (h : i < s.size) : bt (s ++ t) i = bt s i := by
  unfold bt
  rw [dif_pos (by rw [ByteArray.size_append]; omega), dif_pos (by omega), ByteArray.getElem_append_left (by omega)]
theorem bt_append_right (s t : ByteArray) (i : Int) (h0 : 0 ≤ i) : bt (s ++ t) (i + s.size) = bt t i := by
  unfold bt
  by_cases h : i.toNat < t.size
  · rw [dif_pos (by rw [ByteArray.size_append]; omega), dif_pos h, ByteArray.getElem_append_right (by omega)]
    congr 3
    omega
  · rw [dif_neg (by rw [ByteArray.size_append]; omega), dif_neg h]
theorem bt_extract (s : ByteArray) (a b : Nat) (i : Int) (h0 : 0 ≤ i) (h : i + a < b) (hb : b ≤ s.size) : bt (s.extract a b) i = bt s (i + a) := by
  unfold bt
  rw [dif_pos (by rw [ByteArray.size_extract]; omega), dif_pos (by omega), ByteArray.getElem_extract]
  congr 3
  omega
end Go.Proofs.Ytieieindakbpoaa.Rn
