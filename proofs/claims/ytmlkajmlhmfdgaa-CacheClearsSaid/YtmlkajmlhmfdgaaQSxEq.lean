/- Pruned by wip/prune.py. -/
import Derived.Test.YtmlkajmlhmfdgaaQSxView
import Derived.Laws.StructEq
namespace Go.Proofs.Ytmlkajmlhmfdgaa.Sx
open Go Go.RowKit Go.Proofs.YtmlkajmlhmfdgaaW.PrintWords
set_option linter.unusedVariables false
set_option linter.unusedSimpArgs false
def scalEq (P : Program) (t : Nat) : Value → Value → Option Bool
  | .int k a, .int k' b => match P.underlying t, decide (k = k') with
    | some (.int _), true => some (a == b)
    | _, _ => none
  | .bool a, .bool b => match P.underlying t with
    | some .bool => some (a == b)
    | _ => none
  | .string a, .string b => match P.underlying t with
    | some .string => some (decide (a = b))
    | _ => none
  | _, _ => none
def fieldsEq (P : Program) (xs ys : List Value) : List Field → Option Bool
  | [] => some true
  | f :: fs => match decide (f.name ≠ "_"), shapeOf P f.type, xs[f.offset]?, ys[f.offset]? with
    | true, some (false, 1), some u, some v => match scalEq P f.type u v, fieldsEq P xs ys fs with
      | some b, some c => some (b && c)
      | _, _ => none
    | _, _, _, _ => none
section
variable {P : Program} {w : World}
theorem run_scalEq {d t : Nat} {u v : Value} {b : Bool} (h : scalEq P t u v = some b) : (Op.equalIn (d + 1) t u v).run P w = .ok b w := by
  unfold scalEq at h
  split at h
  · split at h
    · rename_i h1 h2; injection h with h; subst h; obtain rfl := of_decide_eq_true h2; exact run_equalIn_int w d t _ _ _ _ h1
    · cases h
  · split at h
    · rename_i h1; injection h with h; subst h; exact run_equalIn_bool' w d t _ _ h1
    · cases h
  · split at h
    · rename_i h1; injection h with h; subst h; rw [run_equalIn_string w d t _ _ h1, str_eq]
    · cases h
  · cases h
theorem run_fieldsEq {d : Nat} {xs ys : List Value} : ∀ {fs : List Field} {b : Bool}, fieldsEq P xs ys fs = some b → (Op.eqFields (d + 1) xs.toArray ys.toArray fs).run P w = .ok b w
  | [], b, h => by injection h with h; subst h; simp [Op.eqFields]
  | f :: fs, b, h => by
    unfold fieldsEq at h
    split at h
    · rename_i u v h1 h2 h3 h4
      split at h
      · rename_i b1 c1 h5 h6
        injection h with h; subst h
        have e := (shape_one (w := w) h2).1
        have hn : f.name ≠ "_" := by simpa using h1
        have p1 : (Go.part f.type xs.toArray f.offset).run P w = .ok u w := by simp [Go.part, e, Result.andThen, h3]
        have p2 : (Go.part f.type ys.toArray f.offset).run P w = .ok v w := by simp [Go.part, e, Result.andThen, h4]
        simp only [Op.eqFields, if_pos hn, Sem.run_bind, p1, p2, Result.andThen, run_scalEq h5, Sem.run_ite]
        cases b1 with
        | false => simp
        | true => simpa using run_fieldsEq h6
      · cases h
    · cases h
theorem binR_eqS {t : Nat} {xs ys : List Value} (b : Bool) (c : Prop) [Decidable c] (ht : P.underlying t = some (.struct (P.fieldsOf t))) (hp : (P.stoodInHeld t || P.eqGuardType P.depth t) = false) (hb : fieldsEq P xs ys (P.fieldsOf t).toList = some b) (hc : b = decide c) :
    binR P .eql t (.agg xs.toArray) (.agg ys.toArray) (.bool (decide c)) := fun X Y w => by
  obtain ⟨h1, h2⟩ := Bool.or_eq_false_iff.1 hp
  have e1 := run_eqGuard_agg (P := P) w .eql t X Y xs.toArray ys.toArray h2
  have e2 := run_eql_struct (P := P) w t xs.toArray ys.toArray
  rw [run_equalIn_struct w 9999 t _ _ ht h1, run_fieldsEq (d := 9998) hb] at e2
  simp only [Sem.run_bind, e1, Result.andThen, e2, hc]
theorem binR_neS {t : Nat} {xs ys : List Value} (b : Bool) (c : Prop) [Decidable c] (ht : P.underlying t = some (.struct (P.fieldsOf t))) (hp : (P.stoodInHeld t || P.eqGuardType P.depth t) = false) (hb : fieldsEq P xs ys (P.fieldsOf t).toList = some b) (hc : (!b) = decide c) :
    binR P .neq t (.agg xs.toArray) (.agg ys.toArray) (.bool (decide c)) := fun X Y w => by
  obtain ⟨h1, h2⟩ := Bool.or_eq_false_iff.1 hp
  have e1 := run_eqGuard_agg (P := P) w .neq t X Y xs.toArray ys.toArray h2
  have e2 := run_neq_struct (P := P) w t xs.toArray ys.toArray
  rw [run_equalIn_struct w 9999 t _ _ ht h1, run_fieldsEq (d := 9998) hb] at e2
  simp only [Sem.run_bind, e1, Result.andThen, e2, hc]
theorem en_shift {w0 : World} {F0 : Nat → Prop} {R cs2 : List HP} {Q : World → Prop} (hr : ∀ cs w, St w0 F0 (cs ++ R) w → Q w) : ∀ cs w, St w0 F0 (cs ++ (cs2 ++ R)) w → Q w := fun cs w h => hr (cs ++ cs2) w (by rw [List.append_assoc]; exact h)
theorem mkInt (k : IntKind) (x : Int) {w : World} {b : Nat} {ok : Nat → Prop} : (Kd.int k).M w b ok x [.int k x] := rfl
end
end Go.Proofs.Ytmlkajmlhmfdgaa.Sx
