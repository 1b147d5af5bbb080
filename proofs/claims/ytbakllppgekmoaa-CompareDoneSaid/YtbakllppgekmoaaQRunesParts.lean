/- Pruned by wip/prune.py. -/
import Derived.Test.YtbakllppgekmoaaQRunesPure
namespace Go.Proofs.Ytbakllppgekmoaa.Rn
open Go Go.RowKit Go.Proofs.YtbakllppgekmoaaW.PrintWords Go.Proofs.YtbakllppgekmoaaW.PrintMore Go.Proofs.Ytbakllppgekmoaa.Given
set_option linter.unusedVariables false
set_option linter.unusedSimpArgs false
theorem bt_append_left (s t : ByteArray) (i : Int) (h0 : 0 ≤ i) (h : i < s.size) : bt (s ++ t) i = bt s i := by
  unfold bt
  rw [dif_pos (by rw [ByteArray.size_append]; omega), dif_pos (by omega), ByteArray.getElem_append_left (by omega)]
theorem bt_append_right (s t : ByteArray) (i : Int) (h0 : 0 ≤ i) : bt (s ++ t) (i + s.size) = bt t i := by
  unfold bt
  by_cases h : i.toNat < t.size
  · rw [dif_pos (by rw [ByteArray.size_append]; omega), dif_pos h, ByteArray.getElem_append_right (by omega)]
    congr 3
    omega
  · rw [dif_neg (by rw [ByteArray.size_append]; omega), dif_neg h]
theorem bt_extract (s : ByteArray) (a b : Nat) (i : Int) (h0 : 0 ≤ i) (h : i + a < b) (hb : b ≤ s.size) : bt (s.extract a b) i = bt s (i + a) := by
  unfold bt
  rw [dif_pos (by rw [ByteArray.size_extract]; omega), dif_pos (by omega), ByteArray.getElem_extract]
  congr 3
  omega
theorem right_par {s : ByteArray} (h : (refV s).2 < 0) : Par s 0 (refV s).1 s.size := by
  rcases right_or s with z | z
  · exact z.2
  · omega
theorem between_or {s : ByteArray} {a : Int} (h : BetweenP s a) : a = (s.size : Int) ∨ ∃ x ∈ (refV s).1, x.1 = a := by
  rcases h with h | h
  · obtain ⟨x, h1, h2⟩ := List.mem_map.1 h
    exact .inr ⟨x, h1, h2⟩
  · exact .inl h
end Go.Proofs.Ytbakllppgekmoaa.Rn
