/- Pruned by wip/prune.py. -/
import Derived.Test.YtbakllppgekmoaaQSxJoin
import Derived.LoopN
import Derived.ScopeJumps
import Derived.Scope
import Derived.Laws.Entries
namespace Go.Proofs.Ytbakllppgekmoaa.Sx
open Go Go.RowKit Go.Proofs.YtbakllppgekmoaaW.PrintWords
set_option linter.unusedVariables false
set_option linter.unusedSimpArgs false
section
variable {P : Program} {Q : Exit → Act → World → Prop} {n : Nat} {f : List (Nat × Value)} {w : World}
def WR (P : Program) (c : Code) (Q : Exit → Act → World → Prop) (k n : Nat) (f : List (Nat × Value)) (w : World) : Prop := ∀ a, Fr n f a → Code.rounds P c Q k a w
theorem wc_rounds {c : Code} (k : Nat) (h : WR P c Q k n f w) : WC P (.loop c) Q n f w := fun a fa => wp_loop_rounds k (h a fa)
theorem wr_step {c : Code} {k : Nat} (h : WC P c (Exit.then (Code.rounds P c Q k) Q) n f w) : WR P c Q (k + 1) n f w := fun a fa => h a fa
theorem qn_round {c : Code} {k : Nat} (h : WR P c Q k n f w) : QN (Exit.then (Code.rounds P c Q k) Q) .normal n f w := fun a fa => h a fa
variable {t : Nat} {kd yk : IntKind} {p q : Int}
theorem binR_shl {r : Int} (h0 : 0 ≤ q) (h1 : q ≤ kd.bits) (h : kd.wrap (p * 2 ^ q.toNat) = r) : binR P .shl t (.int kd p) (.int yk q) (.int kd r) := fun X Y w => by
  rw [eqGuard_shl, binOp_shl, shift_shl kd yk p q h0 h1, h]
  rfl
end
theorem byteAt_bt (s : ByteArray) (k : Nat) : byteAt s k = bt s (k : Int) := by
  unfold byteAt bt
  rw [Int.toNat_natCast]
  split
  · rename_i h
    rw [List.getD_eq_getElem?_getD, Array.getElem?_toList, Array.getElem?_eq_getElem (show k < s.data.size from h)]
    rfl
  · rename_i h
    rw [List.getD_eq_getElem?_getD, Array.getElem?_toList, Array.getElem?_eq_none (show s.data.size ≤ k from Nat.le_of_not_lt h)]
    rfl
theorem ov_indexbt {P : Program} {n : Nat} {f : List (Nat × Value)} {w : World} {t : Nat} {x i : Operand} (s : ByteArray) (ix : Int) {kd : IntKind} (hx : ev f x = some (.string s)) (hi : ev f i = some (.int kd ix)) (ht : P.underlying t = some .string) (h0 : 0 ≤ ix) (h1 : ix < s.size) :
    OV P n f w (.index t x i) (.int .u8 (bt s ix)) := by
  have e : bt s ix = byteAt s ix.toNat := by rw [byteAt_bt, show ((ix.toNat : Nat) : Int) = ix by omega]
  rw [e]
  exact ov_indexs s ix.toNat hx hi ht (by omega) (by omega)
end Go.Proofs.Ytbakllppgekmoaa.Sx
