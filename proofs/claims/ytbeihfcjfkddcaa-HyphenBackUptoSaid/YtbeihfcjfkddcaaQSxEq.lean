/- Pruned by wip/prune.py. -/
import Derived.Test.YtbeihfcjfkddcaaQSxView
import Derived.Laws.StructEq
namespace Go.Proofs.Ytbeihfcjfkddcaa.Sx
open Go Go.RowKit Go.Proofs.YtbeihfcjfkddcaaW.PrintWords
set_option linter.unusedVariables false
set_option linter.unusedSimpArgs false
section
variable {P : Program} {w : World}
theorem en_shift {w0 : World} {F0 : Nat → Prop} {R cs2 : List HP} {Q : World → Prop} (hr : ∀ cs w, St w0 F0 (cs ++ R) w → Q w) : ∀ cs w, St w0 F0 (cs ++ (cs2 ++ R)) w → Q w := fun cs w h => hr (cs ++ cs2) w (by rw [List.append_assoc]; exact h)
/-- An array type's length, its element type and its size in cells. -/
def arrSz (P : Program) (t : Nat) : Option (Nat × Nat × Nat) :=
  match P.underlying t with
  | some (.array n e) => (P.info? e).map fun i => (n, e, i.size)
  | _ => none
theorem ov_indexAddrA {n : Nat} {f : List (Nat × Value)} {t : Nat} {x i : Operand} (ad : Addr) (k : Nat) (ad' : Addr) {len e sz : Nat} {kd : IntKind} (hx : ev f x = some (.pointer (some ad))) (hi : ev f i = some (.int kd (k : Nat))) (ht : arrSz P t = some (len, e, sz)) (hk : k < len) (ha : ad.add (k * sz) = ad') : OV P n f w (.indexAddr t x i) (.pointer (some ad')) := fun a fa dst ty ps af g => by
  unfold arrSz at ht
  split at ht
  · rename_i n' e' hu
    obtain ⟨inf, hinf, hz⟩ := Option.map_eq_some_iff.1 ht
    simp only [Prod.mk.injEq] at hz
    obtain ⟨rfl, rfl, rfl⟩ := hz
    have e1 : (underlying t).run P w = .ok (.array n' e') w := run_underlying hu w
    have h0 : (0 : Int) ≤ (k : Int) ∧ (k : Int) < (n' : Int) := ⟨by omega, by omega⟩
    simp only [execOp, ev_eval fa hx, ev_eval fa hi, Instr.indexAt, Sem.run_bind, asIntOf, Sem.run_pure, Result.andThen, e1, Instr.sureAddr, run_sizeOf hinf, if_pos h0, Sem.run_ite, Int.toNat_natCast, ha]
  · cases ht
theorem mkInt (k : IntKind) (x : Int) {w : World} {b : Nat} {ok : Nat → Prop} : (Kd.int k).M w b ok x [.int k x] := rfl
theorem mkStr (x : ByteArray) {w : World} {b : Nat} {ok : Nat → Prop} : Kd.string.M w b ok x [.string x] := rfl
end
end Go.Proofs.Ytbeihfcjfkddcaa.Sx
