/- Pruned by wip/prune.py. -/
import Derived.Test.YtieieindakbpoaaQPcTx
namespace Go.Proofs.Ytieieindakbpoaa.Pc
open Go Go.Lib Go.RowKit Go.Proofs.YtieieindakbpoaaW.PrintWords Go.Proofs.Ytieieindakbpoaa.Kinds Go.Proofs.Ytieieindakbpoaa.Given Go.Proofs.Ytieieindakbpoaa.Rn Go.Proofs.Ytieieindakbpoaa.Sx AT
set_option linter.unusedVariables false
set_option linter.unusedSimpArgs false
section
variable {P : Program} {n : Nat} {f : List (Nat × Value)} {w w0 : World} {F0 : Nat → Prop} {cs : List HP} {Φ : World → Prop}
theorem add_zero (A : Option Addr) (s : Nat) : A.map (·.add (0 * s)) = A := by
  cases A with
  | none => rfl
  | some a => simp [Addr.add]
/-- x[:k:k] -/
theorem ov_slice3 {t e sz : Nat} {x y z : Operand} (A : Option Addr) (len cap k : Nat) {kI : Int} (hx : ev f x = some (.slice A len cap)) (hy : ev f y = some (.int .i64 kI)) (hz : ev f z = some (.int .i64 kI)) (hk : kI = (k : Int)) (ht : elemSz P t = some (e, sz)) (h2 : k ≤ cap) :
    OV P n f w (.slice t x none (some y) (some z)) (.slice A k k) := fun a fa dst ty ps af g => by
  subst hk
  unfold elemSz at ht
  split at ht
  · rename_i e' hu
    cases hinf : P.info? e' with
    | none => rw [hinf] at ht; simp at ht
    | some inf =>
      rw [hinf] at ht
      simp only [Option.map_some, Option.some.injEq, Prod.mk.injEq] at ht
      obtain ⟨rfl, rfl⟩ := ht
      have e1 : (Instr.sliceBounds true len cap none (some (.int .i64 (k : Int))) (some (.int .i64 (k : Int)))).run P w = .ok (0, k, k) w := by
        simp only [Instr.sliceBounds, Sem.run_bind, Sem.run_pure, Result.andThen]
        rw [run_sliceBound w .i64 _ _ _ (by omega) (by omega)]
        simp only [Int.toNat_natCast, Result.andThen]
        rw [run_sliceBound w .i64 _ _ _ (by omega) (by omega)]
        simp [Result.andThen]
      have e2 : (if k = 0 then A else A.map (·.add (0 * inf.size))) = A := by rw [add_zero]; split <;> rfl
      simp only [execOp, ev_eval fa hx, ev_eval fa hy, ev_eval fa hz, Option.map_none, Option.map_some, Instr.sliceAt, Instr.slice, Sem.run_bind, run_underlying hu, Result.andThen, e1, Sx.run_sizeOf hinf, Sem.run_pure, e2, Nat.sub_zero]
  · cases ht
/-- Bytes that are written no more. -/
theorem lib_row {e c : Nat} {A : Option Addr} {L : List Int} (h : St w0 F0 (row (Kd.int .u8) e A c L :: lib Φ :: cs) w) : St w0 F0 (lib (fun W => Φ W ∧ (Kd.int .u8).C W A L.length L) :: cs) w := by
  refine st_imp (st_star h) fun F hF => ?_
  obtain ⟨G1, i1, hr, hS⟩ := hF
  intro W' hW
  refine ⟨hS W' fun k hk hl => hW k hk.1 hl, ?_⟩
  have hm := isC_row (Kd.int .u8) e A c L w G1 hr
  have := (row (Kd.int .u8) e A c L).move (w1 := W') (fun k hk2 => by
    obtain ⟨hG, o, ho, hoc⟩ := hk2
    exact hW k (i1 k hG) (Array.getElem?_eq_some_iff.1 ho).1) hm
  exact (Kd.R_reads' this).2.2
theorem rowl_share {e c : Nat} {A : Option Addr} {L : List Int} (h : St w0 F0 (rowl Φ e A c L :: lib Φ :: cs) w) : ∃ Φ2 : World → Prop, (∀ W, Φ2 W → Φ W) ∧ (∀ W, Φ2 W → (Kd.int .u8).C W A L.length L) ∧ St w0 F0 (lib Φ2 :: cs) w := by
  rcases rowl_cases h with h | ⟨h1, h2, h3⟩
  · exact ⟨_, fun W hW => hW.1, fun W hW => hW.2, lib_row h⟩
  · exact ⟨Φ, fun W hW => hW, h2, h3⟩
end
end Go.Proofs.Ytieieindakbpoaa.Pc
