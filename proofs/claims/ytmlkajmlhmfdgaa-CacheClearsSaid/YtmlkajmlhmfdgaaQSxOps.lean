/- Pruned by wip/prune.py. -/
import Derived.Test.YtmlkajmlhmfdgaaQSxCore
import Derived.Deep.Slices
namespace Go.Proofs.Ytmlkajmlhmfdgaa.Sx
open Go Go.RowKit
set_option linter.unusedVariables false
set_option linter.unusedSimpArgs false
def fieldOff (P : Program) (s j : Nat) : Option Nat :=
  match P.underlying s with
  | some (.struct fs) => match fs[j]? with
    | some fl => match P.info? fl.type with
      | some i => if i.size = 0 then none else some fl.offset
      | none => none
    | none => none
  | _ => none
/-- A slice type's element type and its size in cells. -/
def elemSz (P : Program) (t : Nat) : Option (Nat × Nat) :=
  match P.underlying t with
  | some (.slice e) => (P.info? e).map fun i => (e, i.size)
  | _ => none
/-- One cell, or so many. -/
def shapeOf (P : Program) (t : Nat) : Option (Bool × Nat) :=
  match P.underlying t with
  | some (.struct _) => (P.info? t).map fun i => (true, i.size)
  | some (.array _ _) => (P.info? t).map fun i => (true, i.size)
  | some _ => (P.info? t).map fun i => (false, i.size)
  | none => none
def zeroOf (P : Program) (t : Nat) : Option Value := (P.info? t).bind (·.zero)
section
variable {P : Program} {ops : Array Oper} {Q : Exit → Act → World → Prop} {n : Nat} {f : List (Nat × Value)} {w : World} {rest : List Oper} {d : Nat} {ty : TypeId} {ps : String} {af : Array Edge} {g : Option (Nat × Bool)}
/-- An operation that leaves memory alone comes to a value. -/
def OV (P : Program) (n : Nat) (f : List (Nat × Value)) (w : World) (op : Op) (v : Value) : Prop := ∀ a, Fr n f a → ∀ dst ty ps af g, (execOp a.eval ⟨dst, op, ty, ps, af, g⟩).run P w = .ok (.value v) w
theorem wl_v {op : Op} {v : Value} (hw : gw ops f g = some true) (hn : Nat.blt d n = true) (h : OV P n f w op v) (k : WL P ops Q n rest ((d, v) :: f) w) : WL P ops Q n (⟨some d, op, ty, ps, af, g⟩ :: rest) f w :=
  wl_step v w hw hn (fun a fa => h a fa _ _ _ _ _) k
theorem run_sizeOf {t : Nat} {i : TypeInfo} (h : P.info? t = some i) : (sizeOf t).run P w = .ok i.size w := by
  simp [sizeOf, typeInfo, h, Result.andThen]
theorem run_zeroV {t : Nat} {v : Value} (h : zeroOf P t = some v) : (zeroValue t).run P w = .ok v w := by
  unfold zeroOf at h
  obtain ⟨i, h1, h2⟩ := Option.bind_eq_some_iff.1 h
  simp [zeroValue, typeInfo, h1, h2, Result.andThen]
theorem ov_move {x : Operand} (v : Value) (hx : ev f x = some v) : OV P n f w (.move x) (v) := fun a fa dst ty ps af g => by simp [execOp, ev_eval fa hx]
theorem ov_assign {x : Operand} (v : Value) (hx : ev f x = some v) : OV P n f w (.assign x) (v) := fun a fa dst ty ps af g => by simp [execOp, ev_eval fa hx]
theorem ov_pick_true {c x y : Operand} (v : Value) (hc : ev f c = some (.bool true)) (hx : ev f x = some v) : OV P n f w (.pick c x y) (v) := fun a fa dst ty ps af g => by simp [execOp, ev_eval fa hx, ev_eval fa hc, asBool, Result.andThen]
theorem ov_pick_false {c x y : Operand} (v : Value) (hc : ev f c = some (.bool false)) (hx : ev f y = some v) : OV P n f w (.pick c x y) (v) := fun a fa dst ty ps af g => by simp [execOp, ev_eval fa hx, ev_eval fa hc, asBool, Result.andThen]
theorem ov_extract {x : Operand} {i : Nat} (vs : List Value) (v : Value) (hx : ev f x = some (.tuple vs.toArray)) (hv : vs[i]? = some v) : OV P n f w (.extract x i) (v) := fun a fa dst ty ps af g => by simp [execOp, ev_eval fa hx, Instr.extract, hv, Result.andThen]
theorem ov_nilCheck {x : Operand} (ad : Addr) (hx : ev f x = some (.pointer (some ad))) : OV P n f w (.nilCheck x) (.pointer (some ad)) := fun a fa dst ty ps af g => by simp [execOp, ev_eval fa hx]
theorem ov_fieldAddr {s j : Nat} {x : Operand} (ad ad' : Addr) (off : Nat) (hx : ev f x = some (.pointer (some ad))) (ho : fieldOff P s j = some off) (ha : ad.add off = ad') : OV P n f w (.fieldAddr s x j) (.pointer (some ad')) := fun a fa dst ty ps af g => by
    unfold fieldOff at ho
    split at ho
    · rename_i fs hu
      split at ho
      · rename_i fl hfl
        split at ho
        · rename_i i hi
          by_cases hz : i.size = 0
          · rw [if_pos hz] at ho; cases ho
          · rw [if_neg hz] at ho
            injection ho with ho
            have e2 : (fieldPlace ad fl).run P w = .ok ad' w := by
              simp [fieldPlace, run_sizeOf hi, Result.andThen, hz, ho, ha]
            simp only [execOp, ev_eval fa hx, Instr.fieldAt, Sem.run_bind, run_underlying hu, Result.andThen, hfl, Instr.sureAddr, Sem.run_pure, e2]
        · cases ho
      · cases ho
    · cases ho
theorem ov_indexAddr {t : Nat} {x i : Operand} (ad ad' : Addr) (len cap e sz : Nat) (k : IntKind) (ix : Int) (hx : ev f x = some (.slice (some ad) len cap)) (hi : ev f i = some (.int k ix)) (ht : elemSz P t = some (e, sz))
    (h0 : 0 ≤ ix) (h1 : ix < len) (ha : ad.add (ix.toNat * sz) = ad') : OV P n f w (.indexAddr t x i) (.pointer (some ad')) := fun a fa dst ty ps af g => by
    unfold elemSz at ht
    split at ht
    · rename_i e' hu
      cases hinf : P.info? e' with
      | none => rw [hinf] at ht; simp at ht
      | some inf =>
        rw [hinf] at ht
        simp only [Option.map_some, Option.some.injEq, Prod.mk.injEq] at ht
        obtain ⟨rfl, rfl⟩ := ht
        have e1 : (underlying t).run P w = .ok (.slice e') w := run_underlying hu w
        simp only [execOp, ev_eval fa hx, ev_eval fa hi, Instr.indexAt, Sem.run_bind, asIntOf, Sem.run_pure, Result.andThen, e1, run_sizeOf hinf, if_pos (And.intro h0 h1), Sem.run_ite, ha]
    · cases ht
theorem ov_len {t : Nat} {x : Operand} (A : Option Addr) (len cap e sz : Nat) (hx : ev f x = some (.slice A len cap)) (ht : elemSz P t = some (e, sz)) : OV P n f w (.call { callee := .builtin .len, args := #[x], argTypes := #[t] }) (.int .i64 len) := fun a fa dst ty ps af g => by
    unfold elemSz at ht
    split at ht
    · rename_i e' hu
      simp [execOp, resolve, invoke, builtin, Builtin.len_, ev_eval fa hx, run_underlying hu, Result.andThen, goInt]
    · cases ht
theorem ov_lens {t : Nat} {x : Operand} (s : ByteArray) (hx : ev f x = some (.string s)) (ht : P.underlying t = some .string) : OV P n f w (.call { callee := .builtin .len, args := #[x], argTypes := #[t] }) (.int .i64 s.size) := fun a fa dst ty ps af g => by
    simp [execOp, resolve, invoke, builtin, Builtin.len_, ev_eval fa hx, run_underlying ht, Result.andThen, goInt]
def binR (P : Program) (op : BinOp) (t : Nat) (x y v : Value) : Prop := ∀ (X Y : Operand) (w : World), (do eqGuard op t X Y x y; binOp op t x y : Sem Value).run P w = .ok v w
theorem ov_bin {op : BinOp} {t u : Nat} {x y : Operand} {p q : Value} (v : Value) (hx : ev f x = some p) (hy : ev f y = some q) (hr : binR P op t p q v) : OV P n f w (.binOp op t x y u) (v) := fun a fa dst ty ps af g => by
    have := hr x y w
    simp only [execOp, ev_eval fa hx, ev_eval fa hy]
    simp only [Sem.run_bind] at this ⊢
    rw [this]
    rfl
variable {t : Nat} {kd : IntKind} {p q : Int}
theorem binR_add {r : Int} (h : kd.wrap (p + q) = r) : binR P .add t (.int kd p) (.int kd q) (.int kd r) := fun X Y w => by simp [eqGuard, binOp, Op.intArith, h, Result.andThen]
theorem binR_sub {r : Int} (h : kd.wrap (p - q) = r) : binR P .sub t (.int kd p) (.int kd q) (.int kd r) := fun X Y w => by simp [eqGuard, binOp, Op.intArith, h, Result.andThen]
theorem binR_mul {r : Int} (h : kd.wrap (p * q) = r) : binR P .mul t (.int kd p) (.int kd q) (.int kd r) := fun X Y w => by simp [eqGuard, binOp, Op.intArith, h, Result.andThen]
theorem binR_lss : binR P .lss t (.int kd p) (.int kd q) (.bool (decide (p < q))) := fun X Y w => by simp [eqGuard, binOp, Op.intCmp, Result.andThen]
theorem binR_leq : binR P .leq t (.int kd p) (.int kd q) (.bool (decide (p ≤ q))) := fun X Y w => by simp [eqGuard, binOp, Op.intCmp, Result.andThen]
theorem binR_gtr : binR P .gtr t (.int kd p) (.int kd q) (.bool (decide (q < p))) := fun X Y w => by simp [eqGuard, binOp, Op.intCmp, Result.andThen]
theorem binR_geq : binR P .geq t (.int kd p) (.int kd q) (.bool (decide (q ≤ p))) := fun X Y w => by simp [eqGuard, binOp, Op.intCmp, Result.andThen]
theorem binR_eql : binR P .eql t (.int kd p) (.int kd q) (.bool (decide (p = q))) := fun X Y w => by
  have e : (p == q) = decide (p = q) := by rw [Bool.eq_iff_iff]; simp
  simp [eqGuard, binOp, Op.intCmp, Result.andThen, e]
theorem binR_neq : binR P .neq t (.int kd p) (.int kd q) (.bool (decide (p ≠ q))) := fun X Y w => by
  have e : (p != q) = decide (p ≠ q) := by rw [Bool.eq_iff_iff]; simp
  simp [eqGuard, binOp, Op.intCmp, Result.andThen, e]
theorem run_equal_bool {a b : Bool} (ht : P.underlying t = some .bool) (w : World) : (Op.equal t (.bool a) (.bool b)).run P w = .ok (a == b) w := by
  have key : ∀ m, (Op.equalIn (m + 1) t (.bool a) (.bool b)).run P w = .ok (a == b) w := fun m => by simp [Op.equalIn, run_underlying ht, Result.andThen]
  exact key 9999
theorem binR_neb {a b : Bool} (ht : P.underlying t = some .bool) : binR P .neq t (.bool a) (.bool b) (.bool (decide (a ≠ b))) := fun X Y w => by
  have e : (!(a == b)) = decide (a ≠ b) := by rw [Bool.eq_iff_iff]; simp
  simp only [eqGuard, binOp, Sem.run_bind, Sem.run_pure, run_equal_bool ht, Result.andThen, e]
  rfl
theorem str_eq (a b : ByteArray) : (a.toList == b.toList) = decide (a = b) := by
  rw [Bool.eq_iff_iff]
  simp only [beq_iff_eq, decide_eq_true_eq]
  constructor
  · intro h
    rw [ByteArray.toList_eq, ByteArray.toList_eq] at h
    cases a; cases b
    congr 1
    exact Array.toList_inj.1 h
  · rintro rfl; rfl
theorem binR_eqs {a b : ByteArray} : binR P .eql t (.string a) (.string b) (.bool (decide (a = b))) := fun X Y w => by
  simp only [eqGuard, binOp, Op.stringOp, str_eq, Sem.run_bind, Sem.run_ite, Sem.run_pure]
  simp [Result.andThen]
theorem run_equal_nil {a : Option Addr} {e : Nat} (ht : P.underlying t = some (.pointer e)) (w : World) : (Op.equal t (.pointer a) (.pointer none)).run P w = .ok (decide (a = none)) w := by
  have key : ∀ m, (Op.equalIn (m + 1) t (.pointer a) (.pointer none)).run P w = .ok (decide (a = none)) w := fun m => by cases a <;> simp [Op.equalIn, run_underlying ht, Result.andThen]
  exact key 9999
theorem binR_eqnil {a : Option Addr} {e : Nat} (ht : P.underlying t = some (.pointer e)) : binR P .eql t (.pointer a) (.pointer none) (.bool (decide (a = none))) := fun X Y w => by
  simp only [eqGuard, binOp, Sem.run_bind, Sem.run_pure, run_equal_nil ht, Result.andThen]
  rfl
theorem binR_nenil {a : Option Addr} {e : Nat} (ht : P.underlying t = some (.pointer e)) : binR P .neq t (.pointer a) (.pointer none) (.bool (decide (a ≠ none))) := fun X Y w => by
  have e : (!decide (a = none)) = decide (a ≠ none) := by rw [Bool.eq_iff_iff]; simp
  simp only [eqGuard, binOp, Sem.run_bind, Sem.run_pure, run_equal_nil ht, Result.andThen, e]
  rfl
theorem w64 {x : Int} (h : -9223372036854775808 ≤ x ∧ x ≤ 9223372036854775807) : IntKind.i64.wrap x = x := IntWalk.i64_in x h
theorem ov_not {x : Operand} (b : Bool) (c : Prop) [Decidable c] (hx : ev f x = some (.bool b)) (hb : (!b) = decide c) : OV P n f w (.unOp .not t x) (.bool (decide c)) := fun a fa dst ty ps af g => by simp [execOp, ev_eval fa hx, Op.unary, Result.andThen, hb]
theorem ov_notb {x : Operand} (b : Bool) (hx : ev f x = some (.bool b)) : OV P n f w (.unOp .not t x) (.bool (!b)) := fun a fa dst ty ps af g => by simp [execOp, ev_eval fa hx, Op.unary, Result.andThen]
theorem ov_convint {s t : Nat} {x : Operand} {k k' : IntKind} {p : Int} {ds : TypeDesc} (r : Int) (hx : ev f x = some (.int k p)) (hs : P.underlying s = some ds) (ht : P.underlying t = some (.int k')) (hr : k'.wrap p = r) : OV P n f w (.convert s t x) (.int k' r) := fun a fa dst ty ps af g => by
    simp only [execOp, ev_eval fa hx, convert, Sem.run_bind, run_underlying hs, run_underlying ht, Result.andThen, Conv.intToInt, Sem.run_pure, hr]
end
end Go.Proofs.Ytmlkajmlhmfdgaa.Sx
