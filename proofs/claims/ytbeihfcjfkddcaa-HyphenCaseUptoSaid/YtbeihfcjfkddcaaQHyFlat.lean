/- Pruned by wip/prune.py. -/
import Derived.Test.YtbeihfcjfkddcaaQHyRef
namespace Go.Proofs.Ytbeihfcjfkddcaa.Hy
open Go Go.RowKit Go.Proofs.YtbeihfcjfkddcaaW.PrintWords Go.Proofs.Ytbeihfcjfkddcaa.Given Go.Proofs.Ytbeihfcjfkddcaa.Rn Go.Proofs.Ytbeihfcjfkddcaa.Sx
set_option linter.unusedVariables false
set_option linter.unusedSimpArgs false
theorem sn_size (a : List Int) : (strOfNums a).size = a.length := by
  unfold strOfNums
  show (a.map _).toArray.size = _
  simp
theorem bt_sn {M : List Int} (h : ∀ x ∈ M, 0 ≤ x ∧ x < 256) {j : Nat} (hj : j < M.length) : bt (strOfNums M) j = M.getD j 0 := by
  have hs : (j : Int).toNat < (strOfNums M).data.size := by have := sn_size M; show _ < (strOfNums M).size; omega
  unfold bt
  rw [dif_pos (by simpa using hs)]
  have h1 := h M[j] (List.getElem_mem hj)
  have e : (strOfNums M).data[(j : Int).toNat]'hs = UInt8.ofNat (M[j].toNat) := by simp [strOfNums]
  rw [List.getD_eq_getElem?_getD, List.getElem?_eq_getElem hj, Option.getD_some]
  show (((strOfNums M).data[(j : Int).toNat]'hs).toNat : Int) = _
  rw [e, UInt8.toNat_ofNat']
  omega
end Go.Proofs.Ytbeihfcjfkddcaa.Hy
