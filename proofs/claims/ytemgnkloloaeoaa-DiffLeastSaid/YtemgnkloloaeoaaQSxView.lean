/- Pruned by wip/prune.py. -/
import Derived.Test.YtemgnkloloaeoaaQSxDraw
import Derived.Laws.Slices
namespace Go.Proofs.Ytemgnkloloaeoaa.Sx
open Go Go.RowKit Go.Proofs.YtemgnkloloaeoaaW.PrintWords
set_option linter.unusedVariables false
set_option linter.unusedSimpArgs false
section
variable {P : Program} {n : Nat} {f : List (Nat × Value)} {w w0 v0 : World} {F0 : Nat → Prop} {cs : List HP} {α : Type}
/-- What came in: below v0's size nothing is written. -/
def RO (v0 w0 : World) (F0 : Nat → Prop) : Prop := Below v0.heap.size v0 w0 ∧ ∀ k, F0 k → v0.heap.size ≤ k
theorem ro_self (w : World) : RO w w (fun _ => False) := ⟨Below.refl _ _, fun _ h => h.elim⟩
theorem ro_below (hv : RO v0 w0 F0) (h : St w0 F0 cs w) : Below v0.heap.size v0 w := by
  obtain ⟨hb, hf⟩ := hv
  obtain ⟨h1, h2, h3, h4, F, _, _, _, h5⟩ := h
  refine hb.trans ⟨h1, h2, h3, h4, fun k hk => h5 k (Nat.lt_of_lt_of_le hk hb.size) (fun e => ?_)⟩
  have := hf k e
  omega
theorem ro_C {d : Kd α} {A : Option Addr} {m : Nat} {L : List α} (hv : RO v0 w0 F0) (h : St w0 F0 cs w) (hC : d.C v0 A m L) : d.C w A m L := Kd.C_below hC (ro_below hv h)
theorem ro_cell {ad : Addr} {u : Value} (hv : RO v0 w0 F0) (h : St w0 F0 cs w) (hc : v0.cell? ad = some u) : w.cell? ad = some u := pw_cell_below (ro_below hv h) hc
end
end Go.Proofs.Ytemgnkloloaeoaa.Sx
