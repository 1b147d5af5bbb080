/- Pruned by wip/prune.py. -/
import Derived.Test.YtbeihfcjfkddcaaQSxJoin
import Derived.LoopN
import Derived.ScopeJumps
import Derived.Scope
import Derived.Laws.Entries
namespace Go.Proofs.Ytbeihfcjfkddcaa.Sx
open Go Go.RowKit Go.Proofs.YtbeihfcjfkddcaaW.PrintWords
set_option linter.unusedVariables false
set_option linter.unusedSimpArgs false
section
variable {P : Program} {Q : Exit → Act → World → Prop} {n : Nat} {f : List (Nat × Value)} {w : World}
def WR (P : Program) (c : Code) (Q : Exit → Act → World → Prop) (k n : Nat) (f : List (Nat × Value)) (w : World) : Prop := ∀ a, Fr n f a → Code.rounds P c Q k a w
theorem wc_rounds {c : Code} (k : Nat) (h : WR P c Q k n f w) : WC P (.loop c) Q n f w := fun a fa => wp_loop_rounds k (h a fa)
theorem wr_step {c : Code} {k : Nat} (h : WC P c (Exit.then (Code.rounds P c Q k) Q) n f w) : WR P c Q (k + 1) n f w := fun a fa => h a fa
theorem qn_round {c : Code} {k : Nat} (h : WR P c Q k n f w) : QN (Exit.then (Code.rounds P c Q k) Q) .normal n f w := fun a fa => h a fa
theorem least {p : Nat → Prop} (n : Nat) (h : p n) : ∃ m, p m ∧ ∀ k, p k → m ≤ k := by
  induction n using Nat.strongRecOn with
  | _ n ih =>
    by_cases e : ∃ k, k < n ∧ p k
    · obtain ⟨k, hk, hp⟩ := e
      exact ih k hk hp
    · exact ⟨n, h, fun k hp => Nat.le_of_not_lt fun hk => e ⟨k, hk, hp⟩⟩
theorem wp_scope_ghost {a : Act} {c rest : Code} (l : Nat) (J : Nat → Act → World → Prop) (hf : findLabel c l = some rest)
    (first : ∀ Z : Act → World → Prop, (∀ n a' w', J n a' w' → Z a' w') → c.wp P (Exit.jump l Z Q) a w)
    (pass : ∀ n a w, J n a w → ∀ Z : Act → World → Prop, (∀ m a' w', m < n → J m a' w' → Z a' w') → rest.wp P (Exit.jump l Z Q) a w) : (Code.scope c).wp P Q a w := by
  classical
  let μ : Act → World → Nat := fun a w => if h : ∃ n, J n a w then (least (p := fun n => J n a w) h.choose h.choose_spec).choose else 0
  have hμ : ∀ n a w, J n a w → J (μ a w) a w ∧ μ a w ≤ n := fun n a w hJ => by
    have h : ∃ n, J n a w := ⟨n, hJ⟩
    have e : μ a w = (least (p := fun n => J n a w) h.choose h.choose_spec).choose := dif_pos h
    rw [e]
    exact ⟨(least (p := fun n => J n a w) h.choose h.choose_spec).choose_spec.1, (least (p := fun n => J n a w) h.choose h.choose_spec).choose_spec.2 n hJ⟩
  refine wp_scope_jumps l (fun a w => ∃ n, J n a w) μ hf (first _ fun n a' w' h => ⟨n, h⟩) ?_
  rintro a w ⟨n, hJ⟩
  exact pass (μ a w) a w (hμ n a w hJ).1 _ fun m a' w' hm h => ⟨⟨m, h⟩, Nat.lt_of_le_of_lt (hμ m a' w' h).2 hm⟩
theorem wc_scope {X : Type} {c b : Code} (l : Nat) (hf : findLabel c l = some (Code.skip.seq b)) (fx : X → List (Nat × Value)) (J : X → World → Prop) (m : X → Nat)
    (body : ∀ x w (Z : Act → World → Prop), J x w → (∀ x' a' w', m x' < m x → Fr n (fx x') a' → J x' w' → Z a' w') → WC P b (Exit.jump l Z Q) n (fx x) w)
    (first : ∀ Z : Act → World → Prop, (∀ x w, J x w → WC P b (Exit.jump l Z Q) n (fx x) w) → WC P c (Exit.jump l Z Q) n f w) : WC P (.scope c) Q n f w := fun a fa => by
  refine wp_scope_ghost l (fun k a w => ∃ x, m x = k ∧ Fr n (fx x) a ∧ J x w) hf ?_ ?_
  · intro Z hZ
    exact first Z (fun x w hJ => body x w Z hJ fun x' a' w' _ fr hJ' => hZ (m x') a' w' ⟨x', rfl, fr, hJ'⟩) a fa
  · rintro k a w ⟨x, rfl, fr, hJ⟩ Z hZ
    exact wp_seq (wp_skip (body x w Z hJ (fun x' a' w' hlt fr hJ' => hZ (m x') a' w' hlt ⟨x', rfl, fr, hJ'⟩) a fr))
theorem wc_goto {l : Nat} (h : QN Q (.goto l) n f w) : WC P (.goto l) Q n f w := fun a fa => wp_goto (h a fa)
theorem qn_jump {X : Type} {fx : X → List (Nat × Value)} {J : X → World → Prop} {m : X → Nat} {x : X} {l : Nat} {Z : Act → World → Prop} (hZ : ∀ x' a' w', m x' < m x → Fr n (fx x') a' → J x' w' → Z a' w') (x' : X) (hm : m x' < m x) (hs : SubL f (fx x')) (hJ : J x' w) : QN (Exit.jump l Z Q) (.goto l) n f w :=
  fun a fa => ⟨rfl, hZ x' a w hm (fa.sub hs) hJ⟩
theorem qn_jump_ret {l : Nat} {Z : Act → World → Prop} (h : QN Q .ret n f w) : QN (Exit.jump l Z Q) .ret n f w := h
variable {t : Nat} {kd yk : IntKind} {p q : Int}
theorem binR_shl {r : Int} (h0 : 0 ≤ q) (h1 : q ≤ kd.bits) (h : kd.wrap (p * 2 ^ q.toNat) = r) : binR P .shl t (.int kd p) (.int yk q) (.int kd r) := fun X Y w => by
  rw [eqGuard_shl, binOp_shl, shift_shl kd yk p q h0 h1, h]
  rfl
theorem binR_shr {r : Int} (h0 : 0 ≤ q) (h1 : q ≤ kd.bits) (h : p / 2 ^ q.toNat = r) : binR P .shr t (.int kd p) (.int yk q) (.int kd r) := fun X Y w => by
  have e : binOp .shr t (.int kd p) (.int yk q) = Op.shift .shr kd p yk q := rfl
  have e2 : eqGuard .shr t X Y (.int kd p) (.int yk q) = pure () := rfl
  rw [e2, e, shift_shr kd yk p q h0 h1, h]
  rfl
theorem binR_and {r : Int} (h : Go.bits .and kd p q = r) : binR P .and t (.int kd p) (.int kd q) (.int kd r) := fun X Y w => by
  subst h
  simp [eqGuard, binOp_and, Result.andThen, Go.bits, Op.intBits]
theorem binR_or {r : Int} (h : Go.bits .or kd p q = r) : binR P .or t (.int kd p) (.int kd q) (.int kd r) := fun X Y w => by
  subst h
  simp [eqGuard, binOp_or, Result.andThen, Go.bits, Op.intBits]
end
theorem byteAt_bt (s : ByteArray) (k : Nat) : byteAt s k = bt s (k : Int) := by
  unfold byteAt bt
  rw [Int.toNat_natCast]
  split
  · rename_i h
    rw [List.getD_eq_getElem?_getD, Array.getElem?_toList, Array.getElem?_eq_getElem (show k < s.data.size from h)]
    rfl
  · rename_i h
    rw [List.getD_eq_getElem?_getD, Array.getElem?_toList, Array.getElem?_eq_none (show s.data.size ≤ k from Nat.le_of_not_lt h)]
    rfl
theorem ov_indexbt {P : Program} {n : Nat} {f : List (Nat × Value)} {w : World} {t : Nat} {x i : Operand} (s : ByteArray) (ix : Int) {kd : IntKind} (hx : ev f x = some (.string s)) (hi : ev f i = some (.int kd ix)) (ht : P.underlying t = some .string) (h0 : 0 ≤ ix) (h1 : ix < s.size) :
    OV P n f w (.index t x i) (.int .u8 (bt s ix)) := by
  have e : bt s ix = byteAt s ix.toNat := by rw [byteAt_bt, show ((ix.toNat : Nat) : Int) = ix by omega]
  rw [e]
  exact ov_indexs s ix.toNat hx hi ht (by omega) (by omega)
end Go.Proofs.Ytbeihfcjfkddcaa.Sx
