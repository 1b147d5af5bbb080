/- Pruned by wip/prune.py. -/
import Derived.Test.YtieieindakbpoaaQSxGlue
import Derived.RangeFuncFrom
import Derived.RangeFuncLeaves
import Derived.RangeFuncCalls
import Derived.OrdersIn
import Derived.TacticsIn
import Derived.LoopNIn
namespace Go.Proofs.Ytieieindakbpoaa.Sx
open Go Go.RowKit Go.Proofs.YtieieindakbpoaaW.PrintWords
set_option linter.unusedVariables false
set_option linter.unusedSimpArgs false
/-- A fence that lets all in. -/
structure Lax (F : Fence) : Prop where
  fn : ∀ f, F.fn f
  depth : F.depth = none
  calls : ∀ {n : Nat} {P : Program} {f : FuncId} {args : Array Value} {w : World} {R : Ending → World → Prop}, Calls P f args w R → CallsIn F n P f args w R
  rows : ∀ {n : Nat} {P : Program} {row : String} {args : Array Value} {w : World} {R : Value → World → Prop}, Rows P row args w R → RowsIn F n P row args w R
theorem rows_wide {n : Nat} {P : Program} {row : String} {args : Array Value} {w : World} {R : Value → World → Prop} (h : Rows P row args w R) : RowsIn Fence.wide n P row args w R :=
  fun c cs _ => let ⟨v, w', r, s⟩ := h c cs; ⟨v, w', r, stepsIn_wide.2 s⟩
theorem lax_wide : Lax Fence.wide := ⟨fun _ => trivial, rfl, fun h => callsIn_wide.2 h, rows_wide⟩
theorem lax_round (l : Nat) : Lax (Fence.wide.inRound l) := ⟨fun _ => trivial, rfl, fun h => CallsIn.inRound l (callsIn_wide.2 h), fun h => (rows_wide h : RowsIn Fence.wide _ _ _ _ _ _)⟩
def shift (ds : List Deferred) (a : Act) : Act := { a with defers := a.defers ++ ds }
def Qup (ds : List Deferred) (Q : Exit → Act → World → Prop) : Exit → Act → World → Prop := fun e a w => ∃ a0, a = shift ds a0 ∧ Q e a0 w
theorem shift_put (ds : List Deferred) (a : Act) (d : Option Tmp) (v : Value) : (shift ds a).put d v = shift ds (a.put d v) := by cases d <;> rfl
theorem shift_eval (ds : List Deferred) (a : Act) : (shift ds a).eval = a.eval := by
  funext x
  cases x <;> rfl
def NG (Q : Exit → Act → World → Prop) : Prop := ∀ a w, ¬ Q .outgrown a w
section
variable {P : Program} {F : Fence} {m : Nat} {ds : List Deferred} {Q : Exit → Act → World → Prop} {ops : Array Oper}
theorem oper_in (hF : Lax F) {o : Oper} {a : Act} {w : World} {K K' : Act → World → Prop} (hd : ∀ c, o.op ≠ .defer c) (hK : ∀ a w, K a w → K' (shift ds a) w) (h : o.wp P a w K Q) : o.wpIn F m P (shift ds a) w K' (Qup ds Q) := by
  unfold Oper.wp at h
  unfold Oper.wpIn
  refine ⟨fun f _ => hF.fn f, ?_⟩
  rw [shift_eval, Oper.semAt_eq _ _ _ hd]
  have hdep : F.depth.isSome = true → 1 ≤ m := fun hs => by rw [hF.depth] at hs; cases hs
  generalize (execOp a.eval o).run P w = r at h
  cases r with
  | ok x w' =>
    cases x <;> simp only [Oper.upon] at h <;> simp only [Oper.uponIn, shift_put]
    case value v => exact hK _ _ h
    case skip => exact hK _ _ h
    case defer d =>
      have h2 := hK _ _ h
      rw [← shift_put] at h2
      exact h2
    case enter f args =>
      refine ⟨hdep, hF.calls (h.mono fun e w'' he => ?_)⟩
      cases e with
      | returned v => exact hK _ _ he
      | panicked c => exact ⟨a, rfl, he⟩
      | outgrown => obtain ⟨a1, w1, h1⟩ := he; exact ⟨_, w1, a1, rfl, h1⟩
    case row row args =>
      refine ⟨hdep, hF.rows ?_⟩
      intro c cs
      obtain ⟨v, w', r, s⟩ := h c cs
      exact ⟨v, w', hK _ _ r, s⟩
    all_goals exact h.elim
  | halt x w' =>
    cases x <;> simp only [Oper.upon] at h <;> simp only [Oper.uponIn]
    case panic v => exact ⟨a, rfl, h⟩
    all_goals exact h.elim
def noDefer (l : List Oper) : Bool := l.all fun o => match o.op with | .defer _ => false | _ => true
theorem noDefer_at {l : List Oper} (h : noDefer l = true) : ∀ o ∈ l, ∀ c, o.op ≠ .defer c := by
  intro o ho c e
  have := List.all_eq_true.1 h o ho
  rw [e] at this
  cases this
theorem list_in (hF : Lax F) (hng : NG Q) : ∀ (l : List Oper), (∀ o ∈ l, ∀ c, o.op ≠ .defer c) → ∀ a w, wpList P ops Q l a w → wpListIn F m P ops (Qup ds Q) l (shift ds a) w
  | [], _, a, w, h => ⟨a, rfl, h⟩
  | o :: rest, hd, a, w, h => by
    have ih := list_in hF hng rest (fun x hx => hd x (List.mem_cons_of_mem _ hx))
    unfold wpList at h
    unfold wpListIn
    by_cases hw : Region.wanted o (yielded ops a.tmps) = true
    · rw [if_pos hw] at h
      have hw2 : Region.wanted o (yielded ops (shift ds a).tmps) = true := hw
      rw [if_pos hw2]
      rcases h with h | ⟨_, a1, w1, h1⟩
      · exact oper_in hF (hd o List.mem_cons_self) ih h
      · exact (hng _ _ h1).elim
    · rw [if_neg hw] at h
      have hw2 : ¬ Region.wanted o (yielded ops (shift ds a).tmps) = true := hw
      rw [if_neg hw2, shift_put]
      exact ⟨fun f _ => hF.fn f, ih _ _ h⟩
theorem any_in (hF : Lax F) (hng : NG Q) (hd : ∀ (i : Nat) (o : Oper), ops[i]? = some o → ∀ c, o.op ≠ .defer c) : ∀ (fuel : Nat) (listed : Array Bool) (a : Act) (w : World), wpAny P .any ops Q fuel listed a w → wpAnyIn F m P .any ops (Qup ds Q) fuel listed (shift ds a) w
  | 0, listed, a, w, h => ⟨h.1, a, rfl, h.2⟩
  | fuel + 1, listed, a, w, h => by
    refine ⟨fun hr => ⟨a, rfl, h.1 hr⟩, fun i hi => ?_⟩
    have h2 := h.2 i hi
    have ih := any_in hF hng hd fuel (listed.setIfInBounds i true)
    unfold wpOp at h2
    unfold wpOpIn
    cases ho : ops[i]? with
    | none => rw [ho] at h2; exact ih _ _ h2
    | some o =>
      rw [ho] at h2
      simp only at h2 ⊢
      by_cases hw : Region.wanted o (yielded ops a.tmps) = true
      · rw [if_pos hw] at h2
        have hw2 : Region.wanted o (yielded ops (shift ds a).tmps) = true := hw
        rw [if_pos hw2]
        rcases h2 with h2 | ⟨_, a1, w1, h1⟩
        · exact oper_in hF (hd i o ho) ih h2
        · exact (hng _ _ h1).elim
      · rw [if_neg hw] at h2
        have hw2 : ¬ Region.wanted o (yielded ops (shift ds a).tmps) = true := hw
        rw [if_neg hw2, shift_put]
        exact ⟨fun f _ => hF.fn f, ih _ _ h2⟩
def WCI (F : Fence) (m : Nat) (ds : List Deferred) (P : Program) (c : Code) (Q : Exit → Act → World → Prop) (n : Nat) (f : List (Nat × Value)) (w : World) : Prop := ∀ a, Fr n f a → c.wpIn F m P (Qup ds Q) (shift ds a) w
variable {n : Nat} {f : List (Nat × Value)} {w : World}
theorem ci_region {id : Nat} {l : List Oper} (hF : Lax F) (hng : NG Q) (hd : noDefer l = true) (h : WL P l.toArray Q n l f w) : WCI F m ds P (.region id l.toArray false) Q n f w :=
  fun a fa => wpIn_region_lit (list_in hF hng l (noDefer_at hd) _ _ (h a fa))
theorem ci_seq {c1 c2 : Code} (h : WCI F m ds P c1 (Exit.then (fun a w => c2.wpIn F m P (Qup ds Q) (shift ds a) w) Q) n f w) : WCI F m ds P (c1.seq c2) Q n f w :=
  fun a fa => wpIn_seq (wpIn_mono (h a fa) fun e a w ⟨a0, ha, hq⟩ => by subst ha; cases e <;> first | exact hq | exact ⟨_, rfl, hq⟩)
theorem ci_block {id : Nat} {c : Code} (h : WCI F m ds P c (Exit.inBlock id Q) n f w) : WCI F m ds P (.block id c) Q n f w :=
  fun a fa => wpIn_block (wpIn_mono (h a fa) fun e a w ⟨a0, ha, hq⟩ => by
    subst ha
    cases e with
    | exit id' =>
      simp only [Exit.inBlock] at hq ⊢
      split at hq <;> rename_i hid
      · rw [if_pos hid]; exact ⟨_, rfl, hq⟩
      · rw [if_neg hid]; exact ⟨_, rfl, hq⟩
    | normal => exact ⟨_, rfl, hq⟩
    | goto _ => exact ⟨_, rfl, hq⟩
    | ret => exact ⟨_, rfl, hq⟩
    | panic _ => exact ⟨_, rfl, hq⟩
    | outgrown => exact ⟨_, rfl, hq⟩)
theorem ci_ret (h : QN Q .ret n f w) : WCI F m ds P .ret Q n f w := fun a fa => wpIn_ret ⟨a, rfl, h a fa⟩
theorem qi_then {c2 : Code} (h : WCI F m ds P c2 Q n f w) : QN (Exit.then (fun a w => c2.wpIn F m P (Qup ds Q) (shift ds a) w) Q) .normal n f w := h
end
end Go.Proofs.Ytieieindakbpoaa.Sx
