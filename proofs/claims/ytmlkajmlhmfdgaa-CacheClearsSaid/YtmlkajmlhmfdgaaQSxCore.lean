/- Pruned by wip/prune.py. -/
import Derived.WalkKit
import Derived.Deep.LoopGhost
import Derived.Orders
namespace Go.Proofs.Ytmlkajmlhmfdgaa.Sx
open Go Go.RowKit
set_option linter.unusedVariables false
set_option linter.unusedSimpArgs false
def look : List (Nat × Value) → Nat → Option Value
  | [], _ => none
  | (k, v) :: r, x => cond (Nat.beq k x) (some v) (look r x)
theorem look_cons (k : Nat) (v : Value) (r : List (Nat × Value)) (x : Nat) : look ((k, v) :: r) x = if k = x then some v else look r x := by
  show cond (Nat.beq k x) _ _ = _
  by_cases h : k = x
  · subst h; simp
  · rw [if_neg h]
    have : Nat.beq k x = false := by
      cases hb : Nat.beq k x with
      | false => rfl
      | true => exact absurd (Nat.eq_of_beq_eq_true hb) h
    rw [this]; rfl
structure Fr (n : Nat) (f : List (Nat × Value)) (a : Act) : Prop where
  defers : a.defers = []
  size : a.tmps.size = n
  get : ∀ k v, look f k = some v → a.tmps[k]? = some v
def ev (f : List (Nat × Value)) : Operand → Option Value
  | .tmp t => look f t
  | .const v => some v
  | .global g => some (.pointer (some ⟨g, 0, none⟩))
  | .func g => some (.func (.func g) #[] #[])
theorem ev_eval {n : Nat} {f : List (Nat × Value)} {a : Act} (fa : Fr n f a) {x : Operand} {v : Value} (h : ev f x = some v) : a.eval x = v := by
  cases x with
  | tmp t =>
    have := fa.get t v h
    simp [Act.eval, Array.getD_eq_getD_getElem?, this]
  | const u => simpa [ev, Act.eval] using h
  | global g => simpa [ev, Act.eval] using h
  | func g => simpa [ev, Act.eval] using h
def evs (f : List (Nat × Value)) : List Operand → Option (List Value)
  | [] => some []
  | x :: r => match ev f x, evs f r with
    | some v, some vs => some (v :: vs)
    | _, _ => none
theorem evs_eval {n : Nat} {f : List (Nat × Value)} {a : Act} (fa : Fr n f a) : ∀ {xs : List Operand} {vs : List Value}, evs f xs = some vs → xs.map a.eval = vs
  | [], vs, h => by simpa [evs] using h
  | x :: r, vs, h => by
    simp only [evs] at h
    cases hx : ev f x with
    | none => rw [hx] at h; simp at h
    | some v =>
      cases hr : evs f r with
      | none => rw [hx, hr] at h; simp at h
      | some us =>
        rw [hx, hr] at h
        injection h with h
        subst h
        simp [ev_eval fa hx, evs_eval fa hr]
theorem Fr.put {n : Nat} {f : List (Nat × Value)} {a : Act} (fa : Fr n f a) {d : Nat} (hd : d < n) (v : Value) : Fr n ((d, v) :: f) (a.put (some d) v) := by
  refine ⟨fa.defers, by simp [Act.put, fa.size], fun k u h => ?_⟩
  rw [look_cons] at h
  simp only [Act.put]
  by_cases e : d = k
  · subst e
    rw [if_pos rfl] at h
    injection h with h
    subst h
    exact Array.getElem?_setIfInBounds_self_of_lt (by rw [fa.size]; exact hd)
  · rw [if_neg e] at h
    rw [Array.getElem?_setIfInBounds_ne e]
    exact fa.get k u h
/-- Less is told. -/
def SubL (f : List (Nat × Value)) : List (Nat × Value) → Prop
  | [] => True
  | (k, v) :: r => look f k = some v ∧ SubL f r
theorem SubL.look {f : List (Nat × Value)} : ∀ {g : List (Nat × Value)}, SubL f g → ∀ k v, Sx.look g k = some v → Sx.look f k = some v
  | [], _, k, v, h => by simp [Sx.look] at h
  | (j, u) :: r, hs, k, v, h => by
    rw [look_cons] at h
    by_cases e : j = k
    · subst e; rw [if_pos rfl] at h; injection h with h; subst h; exact hs.1
    · rw [if_neg e] at h; exact hs.2.look k v h
theorem Fr.sub {n : Nat} {f g : List (Nat × Value)} {a : Act} (fa : Fr n f a) (h : SubL f g) : Fr n g a := ⟨fa.defers, fa.size, fun k v e => fa.get k v (h.look k v e)⟩
def boolOf : Value → Option Bool
  | .bool b => some b
  | _ => none
/-- Is an operation with such a guard wanted? -/
def gw (ops : Array Oper) (f : List (Nat × Value)) : Option (Nat × Bool) → Option Bool
  | none => some true
  | some (j, want) => match (ops[j]?).bind (·.dst) with
    | none => none
    | some d => match look f d with
      | none => none
      | some v => some (boolOf v == some want)
theorem gw_wanted {n : Nat} {ops : Array Oper} {f : List (Nat × Value)} {a : Act} (fa : Fr n f a) {o : Oper} {b : Bool} (h : gw ops f o.guard = some b) : Region.wanted o (yielded ops a.tmps) = b := by
  unfold Region.wanted
  cases hg : o.guard with
  | none => rw [hg] at h; simpa [gw] using h
  | some p =>
    obtain ⟨j, want⟩ := p
    rw [hg] at h
    simp only [gw] at h
    cases hd : (ops[j]?).bind (·.dst) with
    | none => rw [hd] at h; simp at h
    | some d =>
      rw [hd] at h
      simp only at h
      cases hl : look f d with
      | none => rw [hl] at h; simp at h
      | some u =>
        rw [hl] at h
        have hget := fa.get d u hl
        have hy : yielded ops a.tmps j = boolOf u := by
          unfold yielded
          rw [hd]
          simp only [Option.bind_some, hget]
          cases u <;> rfl
        show (yielded ops a.tmps j == some want) = b
        rw [hy]
        simpa using h
section
variable {P : Program} {ops : Array Oper} {Q : Exit → Act → World → Prop} {n : Nat} {f : List (Nat × Value)} {w : World} {rest : List Oper}
def WL (P : Program) (ops : Array Oper) (Q : Exit → Act → World → Prop) (n : Nat) (l : List Oper) (f : List (Nat × Value)) (w : World) : Prop := ∀ a, Fr n f a → wpList P ops Q l a w
def WC (P : Program) (c : Code) (Q : Exit → Act → World → Prop) (n : Nat) (f : List (Nat × Value)) (w : World) : Prop := ∀ a, Fr n f a → c.wp P Q a w
def QN (Q : Exit → Act → World → Prop) (e : Exit) (n : Nat) (f : List (Nat × Value)) (w : World) : Prop := ∀ a, Fr n f a → Q e a w
theorem wl_op {o : Oper} (hw : gw ops f o.guard = some true) (h : ∀ a, Fr n f a → ∀ K : Act → World → Prop, (∀ a w, wpList P ops Q rest a w → K a w) → o.wp P a w K Q) : WL P ops Q n (o :: rest) f w := by
  intro a fa
  unfold wpList
  rw [if_pos (gw_wanted fa hw)]
  exact .inl (h a fa _ fun _ _ h => h)
theorem wl_step {d : Nat} {op : Op} {ty : TypeId} {ps : String} {af : Array Edge} {g : Option (Nat × Bool)} (v : Value) (w' : World) (hw : gw ops f g = some true) (hn : Nat.blt d n = true)
    (hrun : ∀ a, Fr n f a → (execOp a.eval ⟨some d, op, ty, ps, af, g⟩).run P w = .ok (.value v) w') (k : WL P ops Q n rest ((d, v) :: f) w') : WL P ops Q n (⟨some d, op, ty, ps, af, g⟩ :: rest) f w :=
  wl_op hw fun a fa K hK => by
    unfold Oper.wp
    rw [hrun a fa]
    exact hK _ _ (k _ (fa.put (by simpa [Nat.blt_eq] using hn) v))
theorem wl_step_none {op : Op} {ty : TypeId} {ps : String} {af : Array Edge} {g : Option (Nat × Bool)} (v : Value) (w' : World) (hw : gw ops f g = some true)
    (hrun : ∀ a, Fr n f a → (execOp a.eval ⟨none, op, ty, ps, af, g⟩).run P w = .ok (.value v) w') (k : WL P ops Q n rest f w') : WL P ops Q n (⟨none, op, ty, ps, af, g⟩ :: rest) f w :=
  wl_op hw fun a fa K hK => by
    unfold Oper.wp
    rw [hrun a fa]
    exact hK _ _ (k _ fa)
theorem wl_unit {op : Op} {ty : TypeId} {ps : String} {af : Array Edge} {g : Option (Nat × Bool)} (w' : World) (hw : gw ops f g = some true)
    (hrun : ∀ a, Fr n f a → (execOp a.eval ⟨none, op, ty, ps, af, g⟩).run P w = .ok .skip w') (k : WL P ops Q n rest f w') : WL P ops Q n (⟨none, op, ty, ps, af, g⟩ :: rest) f w :=
  wl_op hw fun a fa K hK => by
    unfold Oper.wp
    rw [hrun a fa]
    exact hK _ _ (k _ fa)
theorem wl_skip {d : Nat} {op : Op} {ty : TypeId} {ps : String} {af : Array Edge} {g : Option (Nat × Bool)} (hw : gw ops f g = some false) (hn : Nat.blt d n = true) (k : WL P ops Q n rest ((d, undef) :: f) w) :
    WL P ops Q n (⟨some d, op, ty, ps, af, g⟩ :: rest) f w := by
  intro a fa
  unfold wpList
  rw [if_neg (by rw [gw_wanted fa hw]; simp)]
  exact k _ (fa.put (by simpa [Nat.blt_eq] using hn) undef)
/-- A function of the program's own. -/
def Ent (P : Program) (fid : FuncId) : Prop := ∃ fn, P.funcs[fid]? = some fn ∧ (fn.name == "runtime.NumGoroutine") = false ∧ fn.body.isNone = false
theorem run_enter {fid : FuncId} (h : Ent P fid) (args : Array Value) : (callFunc fid args).run P w = .ok (.enter fid args) w := by
  obtain ⟨fn, h1, h2, h3⟩ := h
  have hb : fn.body ≠ none := fun e => by rw [e] at h3; cases h3
  have hn : ¬ fn.name = "runtime.NumGoroutine" := fun e => by rw [e] at h2; simp at h2
  simp [callFunc, program, Sem.run, h1, Result.andThen, if_neg hb, if_neg hn]
/-- A call of a function with a body. -/
theorem wl_call {d : Nat} {fid : FuncId} {args : Array Operand} {tys : Array TypeId} {ty : TypeId} {ps : String} {af : Array Edge} {g : Option (Nat × Bool)} (vs : List Value) (hw : gw ops f g = some true) (hn : Nat.blt d n = true)
    (hargs : evs f args.toList = some vs) (hb : Ent P fid) {R : Ending → World → Prop} (hc : Calls P fid vs.toArray w R) (k : ∀ e w', R e w' → ∃ v, e = .returned v ∧ WL P ops Q n rest ((d, v) :: f) w') :
    WL P ops Q n (⟨some d, .call { callee := .value (.func fid), args := args, argTypes := tys }, ty, ps, af, g⟩ :: rest) f w :=
  wl_op hw fun a fa K hK => by
    have ha : #[] ++ args.map a.eval ++ #[] = vs.toArray := by
      rw [← evs_eval fa hargs, ← List.map_toArray]
      simp
    unfold Oper.wp
    rw [execOp_call_go, ha, run_enter hb]
    refine hc.mono fun e w' hR => ?_
    obtain ⟨v, rfl, hk⟩ := k e w' hR
    exact hK _ _ (hk _ (fa.put (by simpa [Nat.blt_eq] using hn) v))
/-- A bool's two cases. -/
theorem wl_split {l : List Oper} (d : Nat) {c : Prop} [Decidable c] (hd : look f d = some (.bool (decide c))) (ht : c → WL P ops Q n l ((d, .bool true) :: f) w) (hf : ¬c → WL P ops Q n l ((d, .bool false) :: f) w) : WL P ops Q n l f w := by
  intro a fa
  by_cases h : c
  · refine ht h a ⟨fa.defers, fa.size, fun k v e => ?_⟩
    rw [look_cons] at e
    by_cases e2 : d = k
    · subst e2; rw [if_pos rfl] at e; injection e with e; subst e
      have := fa.get d _ hd
      rwa [decide_eq_true h] at this
    · rw [if_neg e2] at e; exact fa.get k v e
  · refine hf h a ⟨fa.defers, fa.size, fun k v e => ?_⟩
    rw [look_cons] at e
    by_cases e2 : d = k
    · subst e2; rw [if_pos rfl] at e; injection e with e; subst e
      have := fa.get d _ hd
      rwa [decide_eq_false h] at this
    · rw [if_neg e2] at e; exact fa.get k v e
theorem wl_nil (h : QN Q .normal n f w) : WL P ops Q n [] f w := h
theorem wc_region {id : Nat} {l : List Oper} (h : WL P l.toArray Q n l f w) : WC P (.region id l.toArray false) Q n f w := fun a fa => wp_region_lit (h a fa)
theorem wc_seq {c1 c2 : Code} (h : WC P c1 (Exit.then (c2.wp P Q) Q) n f w) : WC P (c1.seq c2) Q n f w := fun a fa => wp_seq (h a fa)
theorem wc_block {id : Nat} {c : Code} (h : WC P c (Exit.inBlock id Q) n f w) : WC P (.block id c) Q n f w := fun a fa => wp_block (h a fa)
theorem wc_cond {x : Operand} {c1 c2 : Code} {c : Prop} [Decidable c] (hx : ev f x = some (.bool (decide c))) (ht : c → WC P c1 Q n f w) (hf : ¬c → WC P c2 Q n f w) : WC P (.cond x c1 c2) Q n f w := fun a fa => by
  by_cases h : c
  · exact wp_cond_true (by rw [ev_eval fa hx, decide_eq_true h]) (ht h a fa)
  · exact wp_cond_false (by rw [ev_eval fa hx, decide_eq_false h]) (hf h a fa)
theorem wc_condb {x : Operand} {c1 c2 : Code} {b : Bool} (hx : ev f x = some (.bool b)) (ht : b = true → WC P c1 Q n f w) (hf : b = false → WC P c2 Q n f w) : WC P (.cond x c1 c2) Q n f w := fun a fa => by
  cases b with
  | true => exact wp_cond_true (ev_eval fa hx) (ht rfl a fa)
  | false => exact wp_cond_false (ev_eval fa hx) (hf rfl a fa)
theorem wc_cond_true {x : Operand} {c1 c2 : Code} (hx : ev f x = some (.bool true)) (h : WC P c1 Q n f w) : WC P (.cond x c1 c2) Q n f w := fun a fa => wp_cond_true (ev_eval fa hx) (h a fa)
theorem wc_cond_false {x : Operand} {c1 c2 : Code} (hx : ev f x = some (.bool false)) (h : WC P c2 Q n f w) : WC P (.cond x c1 c2) Q n f w := fun a fa => wp_cond_false (ev_eval fa hx) (h a fa)
theorem wc_skip (h : QN Q .normal n f w) : WC P .skip Q n f w := fun a fa => wp_skip (h a fa)
theorem wc_exit {id : Nat} (h : QN Q (.exit id) n f w) : WC P (.exit id) Q n f w := fun a fa => wp_exit (h a fa)
theorem wc_ret (h : QN Q .ret n f w) : WC P .ret Q n f w := fun a fa => wp_ret (h a fa)
theorem qn_then {c2 : Code} (h : WC P c2 Q n f w) : QN (Exit.then (c2.wp P Q) Q) .normal n f w := h
theorem qn_then_exit {K : Act → World → Prop} {id : Nat} (h : QN Q (.exit id) n f w) : QN (Exit.then K Q) (.exit id) n f w := h
theorem qn_then_ret {K : Act → World → Prop} (h : QN Q .ret n f w) : QN (Exit.then K Q) .ret n f w := h
theorem qn_block_normal {id : Nat} (h : QN Q .normal n f w) : QN (Exit.inBlock id Q) .normal n f w := h
theorem qn_block_ret {id : Nat} (h : QN Q .ret n f w) : QN (Exit.inBlock id Q) .ret n f w := h
theorem qn_block_exit {id : Nat} (h : QN Q .normal n f w) : QN (Exit.inBlock id Q) (.exit id) n f w := fun a fa => by
  show (if id = id then _ else _)
  rw [if_pos rfl]
  exact h a fa
/-- What a round hands on. -/
def Next {X : Type} (n : Nat) (fx : X → List (Nat × Value)) (J : X → World → Prop) (m : X → Nat) (x : X) (a : Act) (w : World) : Prop := ∃ x', m x' < m x ∧ Fr n (fx x') a ∧ J x' w
theorem wc_loop {X : Type} {c : Code} (fx : X → List (Nat × Value)) (J : X → World → Prop) (m : X → Nat) (x0 : X) (hs : SubL f (fx x0)) (h0 : J x0 w)
    (hr : ∀ x w, J x w → WC P c (Exit.then (Next n fx J m x) Q) n (fx x) w) : WC P (.loop c) Q n f w := fun a fa => by
  refine wp_loop_ghost (fun k a w => ∃ x, m x = k ∧ Fr n (fx x) a ∧ J x w) (m x0) ⟨x0, rfl, fa.sub hs, h0⟩ ?_
  rintro k a w ⟨x, rfl, fx', hJ⟩
  refine wp_mono (hr x w hJ a fx') fun e a' w' hq => ?_
  cases e with
  | normal =>
    obtain ⟨x', h1, h2, h3⟩ := hq
    exact ⟨m x', h1, x', rfl, h2, h3⟩
  | exit id => exact hq
  | goto l => exact hq
  | ret => exact hq
  | panic ch => exact hq
  | outgrown => exact hq
theorem qn_next {X : Type} {fx : X → List (Nat × Value)} {J : X → World → Prop} {m : X → Nat} {x : X} (x' : X) (hm : m x' < m x) (hs : SubL f (fx x')) (hJ : J x' w) : QN (Exit.then (Next n fx J m x) Q) .normal n f w :=
  fun a fa => ⟨x', hm, fa.sub hs, hJ⟩
def argsF : Nat → List Value → List (Nat × Value)
  | _, [] => []
  | i, v :: r => (i, v) :: argsF (i + 1) r
theorem look_argsF : ∀ (l : List Value) (i k : Nat) (v : Value), look (argsF i l) k = some v → i ≤ k ∧ l[k - i]? = some v
  | [], i, k, v, h => by simp [argsF, look] at h
  | u :: r, i, k, v, h => by
    simp only [argsF] at h
    rw [look_cons] at h
    by_cases e : i = k
    · subst e; rw [if_pos rfl] at h; exact ⟨Nat.le_refl _, by simpa using h⟩
    · rw [if_neg e] at h
      obtain ⟨h1, h2⟩ := look_argsF r (i + 1) k v h
      refine ⟨by omega, ?_⟩
      rw [show k - i = (k - (i + 1)) + 1 by omega]
      simpa using h2
theorem calls_fn {fid : FuncId} {fn : Func} {c : Code} {vs : List Value} {R : Ending → World → Prop} (hf : P.funcs[fid]? = some fn) (hb : fn.body = some c) (hn : fn.ntmps = n) (hl : Nat.ble vs.length n = true)
    (h : WC P c (bodyPost P fn R) n (argsF 0 vs) w) : Calls P fid vs.toArray w R := by
  refine calls_of_wp hf hb (h _ ⟨rfl, ?_, fun k v e => ?_⟩)
  · have := Nat.le_of_ble_eq_true hl
    simp [hn]
    omega
  · obtain ⟨_, h2⟩ := look_argsF vs 0 k v e
    simp only [Nat.sub_zero] at h2
    have hk : k < vs.length := by
      rcases Nat.lt_or_ge k vs.length with h | h
      · exact h
      · rw [List.getElem?_eq_none h] at h2; cases h2
    show (vs.toArray ++ _)[k]? = some v
    rw [Array.getElem?_append_left (by simpa using hk)]
    simpa using h2
/-- What a result variable holds. -/
def RV (P : Program) (w : World) (f : List (Nat × Value)) : ResultVar → Value → Prop
  | .tmp t, v => look f t = some v
  | .cell t ty, v => ∃ ad, look f t = some (.pointer (some ad)) ∧ (loadVar ty ad).run P w = .ok v w
def RVs (P : Program) (w : World) (f : List (Nat × Value)) : List ResultVar → List Value → Prop
  | [], [] => True
  | r :: rs, v :: vs => RV P w f r v ∧ RVs P w f rs vs
  | _, _ => False
theorem run_mapM_rv {a : Act} (fa : Fr n f a) : ∀ (rs : List ResultVar) (vs : List Value), RVs P w f rs vs →
    (rs.mapM (fun | .tmp t => pure (a.tmps.getD t undef) | .cell x t => do loadVar t (← asAddr (a.tmps.getD x undef)) : ResultVar → Sem Value)).run P w = .ok vs w
  | [], [], _ => by simp
  | [], _ :: _, h => h.elim
  | _ :: _, [], h => h.elim
  | r :: rs, v :: vs, h => by
    have ih := run_mapM_rv fa rs vs h.2
    rw [List.mapM_cons]
    cases r with
    | tmp t =>
      have hv := fa.get t v h.1
      have hv' : a.tmps.getD t undef = v := by simp [Array.getD_eq_getD_getElem?, hv]
      simp only [Sem.run_bind, Sem.run_pure, Result.andThen, hv', ih]
    | cell t ty =>
      obtain ⟨ad, h1, h2⟩ := h.1
      have hv := fa.get t _ h1
      have hv' : a.tmps.getD t undef = .pointer (some ad) := by simp [Array.getD_eq_getD_getElem?, hv]
      have e1 : (asAddr (a.tmps.getD t undef)).run P w = .ok ad w := by rw [hv']; rfl
      simp only [Sem.run_bind, e1, Sem.run_pure, Result.andThen, h2, ih]
def retv : List Value → Value
  | [v] => v
  | vs => .tuple vs.toArray
theorem run_results {fn : Func} {a : Act} (fa : Fr n f a) {vs : List Value} (h : RVs P w f fn.results.toList vs) :
    (results fn a.tmps).run P w = .ok (retv vs) w := by
  have h1 := run_mapM_rv fa _ _ h
  obtain ⟨rs, hrs⟩ : ∃ rs, fn.results = List.toArray rs := ⟨fn.results.toList, by simp⟩
  unfold results
  rw [hrs] at h1 ⊢
  rw [List.mapM_toArray]
  simp only [map_eq_pure_bind, Sem.run_bind]
  erw [h1]
  simp only [Result.andThen, Sem.run_pure]
  unfold retv
  match vs with
  | [] => simp
  | [v] => simp
  | v :: u :: r => simp
theorem qn_ret {fn : Func} {R : Ending → World → Prop} (vs : List Value) (hv : RVs P w f fn.results.toList vs) (hR : R (.returned (retv vs)) w) : QN (bodyPost P fn R) .ret n f w :=
  fun a fa => ⟨fa.defers, _, run_results fa hv, hR⟩
theorem qn_end {fn : Func} {R : Ending → World → Prop} (vs : List Value) (hv : RVs P w f fn.results.toList vs) (hR : R (.returned (retv vs)) w) : QN (bodyPost P fn R) .normal n f w :=
  fun a fa => ⟨fa.defers, _, run_results fa hv, hR⟩
end
end Go.Proofs.Ytmlkajmlhmfdgaa.Sx
