/- Pruned by wip/prune.py. -/
import Derived.Test.YtemgnkloloaeoaaQSxMem
namespace Go.Proofs.Ytemgnkloloaeoaa.Sx
open Go Go.RowKit Go.Proofs.YtemgnkloloaeoaaW.PrintWords
set_option linter.unusedVariables false
set_option linter.unusedSimpArgs false
section
variable {P : Program} {ops : Array Oper} {Q : Exit → Act → World → Prop} {n : Nat} {f : List (Nat × Value)} {w w0 : World} {F0 : Nat → Prop} {cs : List HP} {rest : List Oper} {dn : Nat} {ty : TypeId} {ps : String} {af : Array Edge} {g : Option (Nat × Bool)} {α : Type}
theorem C_some {d : Kd α} {A : Option Addr} {m : Nat} {xs : List α} (h : d.C w A m xs) {k : Nat} (hk : k < xs.length) : ∃ ad, A = some ad := by
  obtain ⟨h1, _, h3⟩ := h
  obtain ⟨ad, e, _⟩ := h3 (by omega)
  exact ⟨ad, e⟩
theorem C_cells {d : Kd α} {ad : Addr} {m : Nat} {xs : List α} (h : d.C w (some ad) m xs) {z : α} {k : Nat} (hk : k < xs.length) : ∃ cl, cl.length = d.sz ∧ d.K w (xs.getD k z) cl ∧ ∀ j u, cl[j]? = some u → w.cell? (ad.add (k * d.sz + j)) = some u := by
  obtain ⟨h1, _, h3⟩ := h
  obtain ⟨ad', e, hc⟩ := h3 (by omega)
  injection e with e
  subst e
  have e2 : xs.getD k z = xs[k] := by simp [List.getD, hk]
  rw [e2]
  exact hc k _ (List.getElem?_eq_getElem hk)
theorem ov_indexAddrN {t : Nat} {x i : Operand} (ad : Addr) (len cap e sz : Nat) (k : Nat) {kd : IntKind} {ix : Int} (hx : ev f x = some (.slice (some ad) len cap)) (hi : ev f i = some (.int kd ix)) (ht : elemSz P t = some (e, sz)) (hk : ix = (k : Int)) (hlt : k < len) : OV P n f w (.indexAddr t x i) (.pointer (some (ad.add (k * sz)))) := by
  subst hk
  exact ov_indexAddr ad (ad.add (k * sz)) len cap e sz kd k hx hi ht (by omega) (by omega) (by rw [Int.toNat_natCast])
end
end Go.Proofs.Ytemgnkloloaeoaa.Sx
