/- Pruned by wip/prune.py. -/
import Derived.Test.YtemgnkloloaeoaaQDiffLib
import Derived.Test.YtemgnkloloaeoaaQPurePatch
namespace Go.Proofs.Ytemgnkloloaeoaa.Lib
open Go Go.RowKit Go.Proofs.YtemgnkloloaeoaaW.PrintWords Go.Proofs.Ytemgnkloloaeoaa.PAll Go.Proofs.Ytemgnkloloaeoaa.Pure
set_option linter.unusedVariables false
set_option linter.unusedSimpArgs false
theorem getD_map (Ps : List PG) (p : Nat) : (Ps.map (·.1)).getD p z31 = (Ps.getD p zP).1 := by
  simp only [List.getD_eq_getElem?_getD, List.getElem?_map]
  cases Ps[p]? <;> rfl
theorem changed_map {R1 R2 : List LN} {X : List S39} {r : S34} (h1 : R1.map (·.1) = X) (h2 : R2.map (·.1) = r.f4) : ((([] : List LN) ++ (R1.take r.f2.toNat).drop 0) ++ R2 ++ (R1.take R1.length).drop (r.f2 + r.f3).toNat).map (·.1) = changed X r := by
  unfold changed
  rw [List.take_length]
  simp only [List.nil_append, List.drop_zero, List.map_append, List.map_take, List.map_drop, h1, h2]
section
variable {x : List Page} {s : PSt} {r : Region} {Ps : List PG} {Ln : List LN} {B : Option Addr} {c : Nat}
theorem nx_changed (hout : Ps.map (·.1) = s.out) (hf : fitsB x r s.last (s.out.length : Int) = true) (hg : ¬ (s.gone = true ∧ r.f1 ≠ 3)) (hk : r.f1 = 1) (hL : Ln.map (·.1) = changed (Ps.getD r.f0.toNat zP).1.f0 r) :
    pstep x s r = some ⟨(Ps.set r.f0.toNat (⟨Ln.map (·.1)⟩, ⟨B, Ln.length, c⟩)).map (·.1), r.f0, s.gone⟩ := by
  unfold pstep
  rw [if_neg (by rw [hf]; rintro (h | h); cases h; exact hg h), if_pos hk, List.map_set, hout, hL, ← getD_map, hout]
theorem nx_added (hout : Ps.map (·.1) = s.out) (hf : fitsB x r s.last (s.out.length : Int) = true) (hg : ¬ (s.gone = true ∧ r.f1 ≠ 3)) (hk : r.f1 = 2) (hL : Ln.map (·.1) = r.f4) :
    pstep x s r = some ⟨(Ps ++ [((⟨Ln.map (·.1)⟩ : S31), (⟨B, Ln.length, c⟩ : Hd))]).map (·.1), r.f0, s.gone⟩ := by
  unfold pstep
  rw [if_neg (by rw [hf]; rintro (h | h); cases h; exact hg h), if_neg (by omega), if_pos hk, List.map_append, hout, hL]
  rfl
theorem nx_gone {n p : Nat} (hout : (Ps.take n).map (·.1) = s.out) (hf : fitsB x r s.last (s.out.length : Int) = true) (hk : r.f1 = 3) (hg : s.gone = false) (hp : p = r.f0.toNat) (hpn : p ≤ n) :
    pstep x s r = some ⟨(Ps.take p).map (·.1), r.f0, true⟩ := by
  unfold pstep
  rw [if_neg (by rw [hf]; rintro (h | h); cases h; exact h.2 hk), if_neg (by omega), if_neg (by omega), if_neg (by rw [hg]; simp), ← hout, ← List.map_take, List.take_take, Nat.min_eq_left (by omega), hp]
theorem nx_went (hf : fitsB x r s.last (s.out.length : Int) = true) (hk : r.f1 = 3) (hg : s.gone = true) : pstep x s r = some ⟨s.out, r.f0, true⟩ := by
  unfold pstep
  rw [if_neg (by rw [hf]; rintro (h | h); cases h; exact h.2 hk), if_neg (by omega), if_neg (by omega), if_pos hg]
theorem nx_none (h : fitsB x r s.last (s.out.length : Int) = false ∨ (s.gone = true ∧ r.f1 ≠ 3)) : pstep x s r = none := by
  unfold pstep
  rw [if_pos h]
theorem patch_at {rs : List Region} {k : Nat} (hk : ¬ k < rs.length) (hkl : k ≤ rs.length) (h : pfold x rs k = some s) : patchV x rs = pfin x rs s := by
  unfold patchV
  rw [show rs.length = k by omega, h]
end
end Go.Proofs.Ytemgnkloloaeoaa.Lib
