/- Pruned by wip/prune.py. -/
import Derived.Test.YtieieindakbpoaaQSxRanged
import Derived.Test.YtieieindakbpoaaQSxBytes
import Derived.Laws.MakeOwn
namespace Go.Proofs.Ytieieindakbpoaa.Sx
open Go Go.Lib Go.RowKit Go.Proofs.YtieieindakbpoaaW.PrintWords
set_option linter.unusedVariables false
set_option linter.unusedSimpArgs false
/-- An iterator's contract: what it gives is known to come as Nx says. -/
def SeqX {α : Type} (P : Program) (g : Nat) (lb : Array Value) (encs : α → Array Value) (Kp : World → World → Prop) (S Sp : List α → Prop) (Nx : List α → α → Prop) (w : World) : Prop :=
  ∀ (l : Nat) (J Jx : List α → World → Prop) (W : World), Below w.heap.size w W → AbidesFrom W.heap.size J → AbidesFrom W.heap.size Jx →
    (∀ pre x W1, J pre W1 → Nx pre x → YieldAt Fence.wide 0 P l (encs x) W1 fun e W' =>
      (e = .returned (.bool true) ∧ J (pre ++ [x]) W' ∧ Kp W1 W') ∨ (e = .returned (.bool false) ∧ Jx (pre ++ [x]) W')) →
    J [] W →
    CallsIn Fence.wide 1 P g (#[.func (.yield l) #[] #[]] ++ lb) W fun e W' => (∃ v, e = .returned v) ∧ ((∃ xs, S xs ∧ J xs W') ∨ (∃ pre, Sp pre ∧ Jx pre W'))
theorem wc_range1 {α : Type} {P : Program} {n : Nat} {f : List (Nat × Value)} {w w0 : World} {F0 : Nat → Prop} {g : Operand} {p : Tmp} {assign body : Code} {Q : Exit → Act → World → Prop} (gs : Gs) (cv : List α → List (List Value)) (cx : Code → List α → List (List Value)) (rest : List HP) {gf : Nat} {lb : Array Value}
    {e1 : α → Value} {S Sp : List α → Prop} {Nx : List α → α → Prop} (Jn : List α → Prop) (Jx : Code → List α → Prop)
    (h : St w0 F0 (pcs gs (cv []) ++ rest) w) (hcl : ∀ s, (cv s).length = gs.length) (hxl : ∀ c s, (cx c s).length = gs.length)
    (hg : ev f g = some (.func (.func gf) #[] lb)) (hent : Ent P gf) (hp : Nat.blt p n = true)
    (hseq : SeqX P gf lb (fun x => #[e1 x]) (KC gs) S Sp Nx w) (h0 : Jn [])
    (hround : ∀ (l D : Nat) (oR oB od : Obj) (pre : List α) (x : α) (W : World) (Qm Qr : Exit → Act → World → Prop), NG Qm → NG Qr → NP Qm → NP Qr → Jn pre → Nx pre x →
      (∀ cs w2, St W (FX gs l D) cs w2 → KC gs w w2) →
      (∀ ff W1 cs, St W (FX gs l D) (obj l oR :: cs) W1 → (∀ W2, St W (FX gs l D) (obj l oB :: cs) W2 → WCI (Fence.wide.inRound l) 0 [] P body Qr n ff W2) → QN Qm .normal n ff W1) →
      (∀ ff W3, Jn (pre ++ [x]) → St W (FX gs l D) (obj l oB :: obj D od :: pcs gs (cv (pre ++ [x]))) W3 → QN Qr .normal n ff W3) →
      (∀ ff W3, Jx .ret (pre ++ [x]) → St W (FX gs l D) (obj l oB :: obj D od :: pcs gs (cx .ret (pre ++ [x]))) W3 → QN Qr .ret n ff W3) →
      (∀ id ff W3, Jx (.exit id) (pre ++ [x]) → St W (FX gs l D) (obj l oB :: obj D od :: pcs gs (cx (.exit id) (pre ++ [x]))) W3 → QN Qr (.exit id) n ff W3) →
      St W (FX gs l D) (obj l oR :: obj D od :: pcs gs (cv pre)) W →
      WCI (Fence.wide.inRound l) 0 [] P assign Qm n ((p, e1 x) :: f) W)
    (hdone : ∀ D xs W, S xs → Jn xs → St w0 F0 (obj D (.deferred (some [])) :: (pcs gs (cv xs) ++ rest)) W → QN (QD [mark D] Q) .normal n f W)
    (hret : ∀ D pre W, Sp pre → Jx .ret pre → St w0 F0 (obj D (.deferred (some [])) :: (pcs gs (cx .ret pre) ++ rest)) W → QN (QD [mark D] Q) .ret n f W)
    (hexit : ∀ id D pre W, Sp pre → Jx (.exit id) pre → St w0 F0 (obj D (.deferred (some [])) :: (pcs gs (cx (.exit id) pre) ++ rest)) W → QN (QD [mark D] Q) (.exit id) n f W) :
    WC P (.rangeFunc g #[p] assign body) Q n f w := by
  intro a fa
  refine (wpIn_wide (n := 2)).1 (wpIn_rangeFunc ?_)
  intro fn _
  obtain ⟨hnd, hi0⟩ := inv_start h (hcl [])
  obtain ⟨rec, hrec⟩ : ∃ rec : LoopState → Option Code → Loop, rec = fun st pe => { state := st, pending := pe, fn, tmps := a.tmps, params := #[p], assign, body, defers := w.heap.size } := ⟨_, rfl⟩
  obtain ⟨W1, hW1⟩ : ∃ W1, (w.alloc (.deferred (some []))).alloc (.loop (rec .ready none)) = W1 := ⟨_, rfl⟩
  have hL1 : W1.heap[w.heap.size + 1]? = some (.loop (rec .ready none)) := by
    rw [← hW1]; have := World.alloc_heap_new (w.alloc (.deferred (some []))) (.loop (rec .ready none)); rwa [World.size_alloc] at this
  have hK1 : W1.heap[w.heap.size]? = some (.deferred (some [])) := by
    rw [← hW1]; exact (Below.heap_alloc _ _ _ (by simp)).trans (World.alloc_heap_new w _)
  have hI1 : Inv w gs (cv []) W1 := by rw [← hW1]; exact inv_grown (inv_grown hi0 (World.grownBy_alloc w _ none) (fun r e => by cases e)) (World.grownBy_alloc _ _ none) (fun r e => by cases e)
  have hb1 : Below w.heap.size w W1 := by
    rw [← hW1]; exact ((Below.refl _ w).alloc (Nat.le_refl _) _).alloc (by simp) _
  have hfin : ∀ (W : World) (vs : List (List Value)) (o : Obj) (o' : Obj), Inv w gs vs W → W.heap[w.heap.size + 1]? = some o → o.isCells = false → Inv w gs vs (W.putObj (w.heap.size + 1) o') := fun W vs o o' hi hl ho =>
    inv_grown hi (grownBy_putObj' W (w.heap.size + 1) o') (fun r e => by cases e; exact ⟨by omega, o, hl, ho⟩)
  refine ⟨w.heap.size + 1, [mark w.heap.size], W1, { target := .fn (.func gf) lb, args := #[.func (.yield (w.heap.size + 1)) #[] #[]] }, W1, gf, #[.func (.yield (w.heap.size + 1)) #[] #[]] ++ lb, W1, ?_, ?_, fun _ _ => trivial, ?_, fun _ => by decide, ?_⟩
  · rw [← hW1, hrec]; exact run_enterLoop_outer _ _ _ _ _
  · simp only [resolve, ev_eval fa hg]
    simp [go_sem]
  · simp [invoke, go_sem, run_enter hent]
  have hnw : ∀ {A : World} {row : Option Nat}, (∀ r, row = some r → W1.heap.size ≤ r ∧ ∃ o : Obj, A.heap[r]? = some o ∧ o.isWalk = true) → (∀ r, row = some r → w.heap.size ≤ r ∧ ∃ o : Obj, A.heap[r]? = some o ∧ o.isCells = false) :=
    fun hr r e => by obtain ⟨hB, o, ho, hw⟩ := hr r e; exact ⟨Nat.le_trans hb1.size hB, o, ho, Obj.not_cells_of_walk hw⟩
  refine CallsIn.mono (hseq (w.heap.size + 1)
    (fun pre W => Jn pre ∧ Inv w gs (cv pre) W ∧ W.heap[w.heap.size + 1]? = some (.loop (rec .ready none)) ∧ W.heap[w.heap.size]? = some (.deferred (some [])))
    (fun pre W => ∃ c, (c = .ret ∨ ∃ id, c = .exit id) ∧ Jx c pre ∧ Inv w gs (cx c pre) W ∧ W.heap[w.heap.size + 1]? = some (.loop (rec .done (some c))) ∧ W.heap[w.heap.size]? = some (.deferred (some [])))
    W1 hb1
    (fun s A B row hs hg' hr => ⟨hs.1, inv_grown hs.2.1 hg' (hnw hr), (grownBy_keeps hg' (fun r e => (hr r e).2) hs.2.2.1 rfl).trans hs.2.2.1, (grownBy_keeps hg' (fun r e => (hr r e).2) hs.2.2.2 rfl).trans hs.2.2.2⟩)
    (fun s A B row hs hg' hr => by
      obtain ⟨c, hc, hx, hi, hl, hk⟩ := hs
      exact ⟨c, hc, hx, inv_grown hi hg' (hnw hr), (grownBy_keeps hg' (fun r e => (hr r e).2) hl rfl).trans hl, (grownBy_keeps hg' (fun r e => (hr r e).2) hk rfl).trans hk⟩)
    ?_ ⟨h0, hI1, hL1, hK1⟩) ?_
  · -- one round
    rintro pre x W ⟨hj, hi, hl, hk⟩ hlen
    have hy := run_yield (P := P) (args := #[e1 x]) hl (by rw [hrec]; rfl)
    rw [hrec] at hy
    refine ⟨fn, _, assign, body, hy, roundIn_of_wpIn trivial ?_⟩
    have fin : ∀ (jump : Option Code) (W3 : World), W3.heap[w.heap.size + 1]? = some (.loop { rec .ready none with state := .busy }) →
        (Instr.endRound (w.heap.size + 1) jump).run P W3 = .ok (.bool jump.isNone) (W3.putObj (w.heap.size + 1) (.loop (rec (if jump.isNone then .ready else .done) jump))) := fun jump W3 hl3 => by
      have := run_endRound (P := P) jump hl3
      rw [hrec] at this ⊢
      exact this
    have own : ∀ (jump : Option Code) (vs : List (List Value)) (W3 : World), vs.length = gs.length → St W (FX gs (w.heap.size + 1) w.heap.size) (obj (w.heap.size + 1) (.loop { rec .ready none with state := .busy }) :: obj w.heap.size (.deferred (some [])) :: pcs gs vs) W3 →
        ∃ W4, (Instr.endRound (w.heap.size + 1) jump).run P W3 = .ok (.bool jump.isNone) W4 ∧ Inv w gs vs W4 ∧ W4.heap[w.heap.size + 1]? = some (.loop (rec (if jump.isNone then .ready else .done) jump)) ∧ W4.heap[w.heap.size]? = some (.deferred (some [])) ∧ KC gs W W4 := fun jump vs W3 hvl hst => by
      obtain ⟨i1, i2, i3, i4⟩ := inv_round hvl hl rfl hk rfl (by omega) (Nat.le_refl _) hi hst
      refine ⟨_, fin jump W3 i2, hfin _ _ _ _ i1 i2 rfl, World.putObj_heap_same (Array.getElem?_eq_some_iff.1 i2).1, (World.putObj_heap_other (by omega)).trans i3, kc_trans i4 (kc_put gs _ i2 rfl)⟩
    have hwk := hround (w.heap.size + 1) w.heap.size (.loop (rec .ready none)) (.loop { rec .ready none with state := .busy }) (.deferred (some [])) pre x W
      (Exit.then (fun a₁ w₁ => ∃ w₂, (Instr.beginRound (w.heap.size + 1)).run P w₁ = .ok () w₂ ∧ body.wpIn (Fence.wide.inRound (w.heap.size + 1)) 0 P (roundPost P (w.heap.size + 1) (fun e W' => (e = .returned (.bool true) ∧ (Jn (pre ++ [x]) ∧ Inv w gs (cv (pre ++ [x])) W' ∧ W'.heap[w.heap.size + 1]? = some (.loop (rec .ready none)) ∧ W'.heap[w.heap.size]? = some (.deferred (some []))) ∧ KC gs W W') ∨
        (e = .returned (.bool false) ∧ ∃ c, (c = .ret ∨ ∃ id, c = .exit id) ∧ Jx c (pre ++ [x]) ∧ Inv w gs (cx c (pre ++ [x])) W' ∧ W'.heap[w.heap.size + 1]? = some (.loop (rec .done (some c))) ∧ W'.heap[w.heap.size]? = some (.deferred (some []))))) a₁ w₂) (fun _ _ _ => False))
      (roundPost P (w.heap.size + 1) (fun e W' => (e = .returned (.bool true) ∧ (Jn (pre ++ [x]) ∧ Inv w gs (cv (pre ++ [x])) W' ∧ W'.heap[w.heap.size + 1]? = some (.loop (rec .ready none)) ∧ W'.heap[w.heap.size]? = some (.deferred (some []))) ∧ KC gs W W') ∨
        (e = .returned (.bool false) ∧ ∃ c, (c = .ret ∨ ∃ id, c = .exit id) ∧ Jx c (pre ++ [x]) ∧ Inv w gs (cx c (pre ++ [x])) W' ∧ W'.heap[w.heap.size + 1]? = some (.loop (rec .done (some c))) ∧ W'.heap[w.heap.size]? = some (.deferred (some [])))))
      (fun _ _ h => h) (fun _ _ h => h) (fun _ _ _ _ h => h) (fun _ _ _ _ h => h) hj hlen (fun cs w2 hst => kc_trans hi.kc (st_kc hl rfl hk rfl hst)) ?_ ?_ ?_ ?_ (base_st hnd hi.at_ hl rfl hk rfl (by omega))
    · have hfr : Fr n ((p, e1 x) :: f) { tmps := ((#[p] : Array Tmp).zip #[e1 x]).foldl (fun t (p, v) => t.setIfInBounds p v) a.tmps, defers := [] } := by
        have h1 : Fr n f { tmps := a.tmps, defers := [] } := ⟨rfl, fa.size, fa.get⟩
        have h2 := h1.put (by simpa [Nat.blt_eq] using hp) (e1 x)
        have e3 : ((#[p] : Array Tmp).zip #[e1 x]).foldl (fun t (p, v) => t.setIfInBounds p v) a.tmps = a.tmps.setIfInBounds p (e1 x) := by simp
        rw [e3]
        exact h2
      exact wpIn_unshift (hwk _ hfr)
    · intro ff W2 cs hst hb a1 fa1
      refine ⟨_, run_beginRound (st_obj (i := 0) hst rfl) (by rw [hrec]), wpIn_unshift (hb _ (st_putobj _ hst) a1 fa1)⟩
    · intro ff W3 hj3 hst a3 fa3
      obtain ⟨W4, g1, g2, g3, g4, g5⟩ := own none _ W3 (hcl _) hst
      exact ⟨_, W4, g1, .inl ⟨rfl, ⟨hj3, g2, g3, g4⟩, g5⟩⟩
    · intro ff W3 hj3 hst a3 fa3
      obtain ⟨W4, g1, g2, g3, g4, g5⟩ := own (some .ret) _ W3 (hxl _ _) hst
      exact ⟨_, W4, g1, .inr ⟨rfl, .ret, .inl rfl, hj3, g2, g3, g4⟩⟩
    · intro id ff W3 hj3 hst a3 fa3
      obtain ⟨W4, g1, g2, g3, g4, g5⟩ := own (some (.exit id)) _ W3 (hxl _ _) hst
      exact ⟨_, W4, g1, .inr ⟨rfl, .exit id, .inr ⟨id, rfl⟩, hj3, g2, g3, g4⟩⟩
  · -- behind the iterator
    have hsh : ({ a with defers := [mark w.heap.size] ++ a.defers } : Act) = shift [mark w.heap.size] a := by unfold shift; rw [fa.defers]; rfl
    rintro e W2 ⟨⟨v, rfl⟩, (⟨xs, hS, hj, hi, hl, hk⟩ | ⟨pre, hSp, c, hc, hx, hi, hl, hk⟩)⟩
    · refine ⟨none, _, by have := run_endLoop (P := P) hl (by rw [hrec]; simp); rw [hrec] at this; exact this, ?_⟩
      show Q .normal { a with defers := [mark w.heap.size] ++ a.defers } _
      rw [hsh]
      exact hdone w.heap.size xs _ hS hj (inv_back h (hcl _) (hfin _ _ _ _ hi hl rfl) ((World.putObj_heap_other (by omega)).trans hk) (Nat.le_refl _)) a fa
    · refine ⟨some c, _, by have := run_endLoop (P := P) hl (by rw [hrec]; simp); rw [hrec] at this; exact this, ?_⟩
      show c.wpIn Fence.wide 2 P Q { a with defers := [mark w.heap.size] ++ a.defers } _
      rw [hsh]
      rcases hc with rfl | ⟨id, rfl⟩
      · exact wpIn_ret (hret w.heap.size pre _ hSp hx (inv_back h (hcl _) (hfin _ _ _ _ hi hl rfl) ((World.putObj_heap_other (by omega)).trans hk) (Nat.le_refl _)) a fa)
      · exact wpIn_exit (hexit id w.heap.size pre _ hSp hx (inv_back h (hcl _) (hfin _ _ _ _ hi hl rfl) ((World.putObj_heap_other (by omega)).trans hk) (Nat.le_refl _)) a fa)
section
variable {P : Program} {F : Fence} {m : Nat} {ds : List Deferred} {Q : Exit → Act → World → Prop} {ops : Array Oper} {n : Nat} {f : List (Nat × Value)} {w : World} {rest : List Oper}
theorem oper_inq (hF : Lax F) {Qx : Exit → Act → World → Prop} (hQ : ∀ e a w, e ≠ .normal → Qx e a w → Q e a w) {o : Oper} {a : Act} {w : World} {K K' : Act → World → Prop} (hd : ∀ c, o.op ≠ .defer c) (hK : ∀ a w, K a w → K' (shift ds a) w) (h : o.wp P a w K Qx) : o.wpIn F m P (shift ds a) w K' (Qup ds Q) := by
  unfold Oper.wp at h
  unfold Oper.wpIn
  refine ⟨fun f _ => hF.fn f, ?_⟩
  rw [shift_eval, Oper.semAt_eq _ _ _ hd]
  have hdep : F.depth.isSome = true → 1 ≤ m := fun hs => by rw [hF.depth] at hs; cases hs
  generalize (execOp a.eval o).run P w = r at h
  cases r with
  | ok x w' =>
    cases x <;> simp only [Oper.upon] at h <;> simp only [Oper.uponIn, shift_put]
    case value v => exact hK _ _ h
    case skip => exact hK _ _ h
    case defer d =>
      have h2 := hK _ _ h
      rw [← shift_put] at h2
      exact h2
    case enter f args =>
      refine ⟨hdep, hF.calls (h.mono fun e w'' he => ?_)⟩
      cases e with
      | returned v => exact hK _ _ he
      | panicked c => exact ⟨a, rfl, hQ _ _ _ (by simp) he⟩
      | outgrown => obtain ⟨a1, w1, h1⟩ := he; exact ⟨_, w1, a1, rfl, hQ _ _ _ (by simp) h1⟩
    case row row args =>
      refine ⟨hdep, hF.rows ?_⟩
      intro c cs
      obtain ⟨v, w', r, s⟩ := h c cs
      exact ⟨v, w', hK _ _ r, s⟩
    all_goals exact h.elim
  | halt x w' =>
    cases x <;> simp only [Oper.upon] at h <;> simp only [Oper.uponIn]
    case panic v => exact ⟨a, rfl, hQ _ _ _ (by simp) h⟩
    all_goals exact h.elim
def Kx (F : Fence) (m : Nat) (ds : List Deferred) (P : Program) (ops : Array Oper) (Q : Exit → Act → World → Prop) (rest : List Oper) : Exit → Act → World → Prop := Exit.then (fun a w => wpListIn F m P ops (Qup ds Q) rest (shift ds a) w) Q
theorem wli_one {o : Oper} (hF : Lax F) (hng : NG Q) (hd : noDefer [o] = true) (h : WL P ops (Kx F m ds P ops Q rest) n [o] f w) : WLI F m ds P ops Q n (o :: rest) f w := fun a fa => by
  have h1 := h a fa
  unfold wpList at h1
  unfold wpListIn
  by_cases hw : Region.wanted o (yielded ops a.tmps) = true
  · rw [if_pos hw] at h1
    have hw2 : Region.wanted o (yielded ops (shift ds a).tmps) = true := hw
    rw [if_pos hw2]
    rcases h1 with h1 | ⟨_, a1, w1, h2⟩
    · exact oper_inq hF (fun e a w he hq => by cases e <;> first | exact absurd rfl he | exact hq) (noDefer_at hd o (by simp)) (fun a w hk => hk) h1
    · exact (hng _ _ h2).elim
  · rw [if_neg hw] at h1
    have hw2 : ¬ Region.wanted o (yielded ops (shift ds a).tmps) = true := hw
    rw [if_neg hw2, shift_put]
    exact ⟨fun f _ => hF.fn f, h1⟩
theorem qn_kx (h : WLI F m ds P ops Q n rest f w) : QN (Kx F m ds P ops Q rest) .normal n f w := fun a fa => h a fa
theorem wli_nil (h : QN Q .normal n f w) : WLI F m ds P ops Q n [] f w := fun a fa => ⟨a, rfl, h a fa⟩
theorem wli_skip {d : Nat} {op : Op} {ty : TypeId} {ps : String} {af : Array Edge} {g : Option (Nat × Bool)} (hF : Lax F) (hw : gw ops f g = some false) (hn : Nat.blt d n = true) (k : WLI F m ds P ops Q n rest ((d, undef) :: f) w) : WLI F m ds P ops Q n (⟨some d, op, ty, ps, af, g⟩ :: rest) f w := fun a fa => by
  have hwt := gw_wanted fa (o := (⟨some d, op, ty, ps, af, g⟩ : Oper)) hw
  unfold wpListIn
  rw [if_neg (by rw [show Region.wanted (⟨some d, op, ty, ps, af, g⟩ : Oper) (yielded ops (shift ds a).tmps) = false from hwt]; simp), shift_put]
  exact ⟨fun f _ => hF.fn f, k _ (fa.put (by simpa [Nat.blt_eq] using hn) undef)⟩
theorem wli_splitb {l : List Oper} (d : Nat) {b : Bool} (hd : look f d = some (.bool b)) (ht : b = true → WLI F m ds P ops Q n l ((d, .bool true) :: f) w) (hf : b = false → WLI F m ds P ops Q n l ((d, .bool false) :: f) w) : WLI F m ds P ops Q n l f w := by
  intro a fa
  cases b with
  | true =>
    refine ht rfl a ⟨fa.defers, fa.size, fun k v e => ?_⟩
    rw [look_cons] at e
    by_cases e2 : d = k
    · subst e2; rw [if_pos rfl] at e; rw [← e] at *; exact fa.get d _ hd
    · rw [if_neg e2] at e; exact fa.get k v e
  | false =>
    refine hf rfl a ⟨fa.defers, fa.size, fun k v e => ?_⟩
    rw [look_cons] at e
    by_cases e2 : d = k
    · subst e2; rw [if_pos rfl] at e; rw [← e] at *; exact fa.get d _ hd
    · rw [if_neg e2] at e; exact fa.get k v e
theorem wli_split {l : List Oper} (d : Nat) {c : Prop} [Decidable c] (hd : look f d = some (.bool (decide c))) (ht : c → WLI F m ds P ops Q n l ((d, .bool true) :: f) w) (hf : ¬c → WLI F m ds P ops Q n l ((d, .bool false) :: f) w) : WLI F m ds P ops Q n l f w :=
  wli_splitb d hd (fun h => ht (of_decide_eq_true h)) (fun h => hf (of_decide_eq_false h))
/-- A call of yield, with a guard. -/
theorem wli_yieldg {d l : Nat} {x : Operand} {args : Array Operand} {tys : Array TypeId} {ty : TypeId} {ps : String} {af : Array Edge} {g : Option (Nat × Bool)} (vs : List Value) {R : Ending → World → Prop} (hF : Lax F) (hw : gw ops f g = some true) (hn : Nat.blt d n = true) (hx : ev f x = some (.func (.yield l) #[] #[])) (hargs : evs f args.toList = some vs)
    (hY : YieldAt F (m - 1) P l vs.toArray w R) (k : ∀ e w', R e w' → ∃ v, e = .returned v ∧ WLI F m ds P ops Q n rest ((d, v) :: f) w') : WLI F m ds P ops Q n (⟨some d, .call { callee := .value x, args := args, argTypes := tys }, ty, ps, af, g⟩ :: rest) f w := fun a fa => by
  obtain ⟨fn, tmps, assign, body, hrun, hround⟩ := hY
  have hwt := gw_wanted fa (o := (⟨some d, .call { callee := .value x, args := args, argTypes := tys }, ty, ps, af, g⟩ : Oper)) hw
  unfold wpListIn
  rw [if_pos (show Region.wanted (⟨some d, .call { callee := .value x, args := args, argTypes := tys }, ty, ps, af, g⟩ : Oper) (yielded ops (shift ds a).tmps) = true from hwt)]
  refine ⟨fun f _ => hF.fn f, ?_⟩
  have hex : (execOp a.eval ⟨some d, .call { callee := .value x, args := args, argTypes := tys }, ty, ps, af, g⟩).run P w = .ok (.round l fn tmps assign body) w := by
    rw [← hrun]
    have ha : args.map a.eval = vs.toArray := by
      rw [← evs_eval fa hargs, ← List.map_toArray]
    simp [execOp, resolve, Deferred.ofValue, ev_eval fa hx, invoke, ha, Result.andThen]
  rw [shift_eval, Oper.semAt_eq _ _ _ (fun c h => by cases h), hex]
  refine ⟨fun hs => (by rw [hF.depth] at hs; cases hs), hround.mono fun e w' hR => ?_⟩
  obtain ⟨v, rfl, hk⟩ := k e w' hR
  show wpListIn F m P ops (Qup ds Q) rest ((shift ds a).put (some d) v) w'
  rw [shift_put]
  exact hk _ (fa.put (by simpa [Nat.blt_eq] using hn) v)
end
section
variable {P : Program} {ops : Array Oper} {Q : Exit → Act → World → Prop} {n : Nat} {f : List (Nat × Value)} {w : World} {fuel : Nat} {listed : Array Bool}
def WY (P : Program) (ops : Array Oper) (Q : Exit → Act → World → Prop) (n fuel : Nat) (listed : Array Bool) (f : List (Nat × Value)) (w : World) : Prop := ∀ a, Fr n f a → wpAny P .any ops Q fuel listed a w
abbrev KY (P : Program) (ops : Array Oper) (Q : Exit → Act → World → Prop) (fuel : Nat) (listed : Array Bool) : Exit → Act → World → Prop := Exit.then (fun a w => wpAny P .any ops Q fuel listed a w) Q
theorem wy_one (i : Nat) {o : Oper} (hi : ops[i]? = some o) (hr : Region.ready .any ops listed = [i]) (h : WL P ops (KY P ops Q fuel (listed.setIfInBounds i true)) n [o] f w) : WY P ops Q n (fuel + 1) listed f w :=
  fun a fa => wpAny_all hr (by simp) fun j hj => by
    rw [List.mem_singleton.1 hj]
    exact wpOp_single hi (h a fa)
theorem wy_two (i j : Nat) {o o2 : Oper} (hi : ops[i]? = some o) (hj : ops[j]? = some o2) (hr : Region.ready .any ops listed = [i, j]) (h : WL P ops (KY P ops Q fuel (listed.setIfInBounds i true)) n [o] f w) (h2 : WL P ops (KY P ops Q fuel (listed.setIfInBounds j true)) n [o2] f w) : WY P ops Q n (fuel + 1) listed f w :=
  fun a fa => wpAny_all hr (by simp) fun k hk => by
    rcases List.mem_cons.1 hk with hk | hk
    · rw [hk]; exact wpOp_single hi (h a fa)
    · rw [List.mem_singleton.1 hk]; exact wpOp_single hj (h2 a fa)
theorem wy_three (i j k : Nat) {o o2 o3 : Oper} (hi : ops[i]? = some o) (hj : ops[j]? = some o2) (hk : ops[k]? = some o3) (hr : Region.ready .any ops listed = [i, j, k]) (h : WL P ops (KY P ops Q fuel (listed.setIfInBounds i true)) n [o] f w) (h2 : WL P ops (KY P ops Q fuel (listed.setIfInBounds j true)) n [o2] f w) (h3 : WL P ops (KY P ops Q fuel (listed.setIfInBounds k true)) n [o3] f w) : WY P ops Q n (fuel + 1) listed f w :=
  fun a fa => wpAny_all hr (by simp) fun m hm => by
    rcases List.mem_cons.1 hm with hm | hm
    · rw [hm]; exact wpOp_single hi (h a fa)
    rcases List.mem_cons.1 hm with hm | hm
    · rw [hm]; exact wpOp_single hj (h2 a fa)
    · rw [List.mem_singleton.1 hm]; exact wpOp_single hk (h3 a fa)
theorem qn_wy {f2 : List (Nat × Value)} (hs : SubL f f2) (k : WY P ops Q n fuel listed f2 w) : QN (KY P ops Q fuel listed) .normal n f w := fun a fa => k a (fa.sub hs)
theorem qn_wyl {l2 : Array Bool} {f2 : List (Nat × Value)} (hl : listed = l2) (hs : SubL f f2) (k : WY P ops Q n fuel l2 f2 w) : QN (KY P ops Q fuel listed) .normal n f w := hl ▸ qn_wy hs k
theorem wy_have (fuel : Nat) (listed : Array Bool) (f : List (Nat × Value)) {fuel0 : Nat} {listed0 : Array Bool} {f0 : List (Nat × Value)} (h1 : WY P ops Q n fuel listed f w) (k : WY P ops Q n fuel listed f w → WY P ops Q n fuel0 listed0 f0 w) : WY P ops Q n fuel0 listed0 f0 w := k h1
theorem wy_start {l2 : Array Bool} (hl : listed = l2) (k : WY P ops Q n fuel l2 f w) : WY P ops Q n fuel listed f w := hl ▸ k
theorem wy_done (hr : Region.ready .any ops listed = []) (h : QN Q .normal n f w) : WY P ops Q n fuel listed f w := fun a fa => by
  cases fuel with
  | zero => exact ⟨hr, h a fa⟩
  | succ m => exact ⟨fun _ => h a fa, by rw [hr]; simp⟩
theorem ci_drawy {F : Fence} {m : Nat} {ds : List Deferred} {id : Nat} {l : List Oper} (hF : Lax F) (hng : NG Q) (hd : noDefer l = true) (hm : P.follows .mixedOrders = true) (h : WY P l.toArray Q n l.length (Array.replicate l.length false) f w.drew) : WCI F m ds P (.region id l.toArray true) Q n f w :=
  fun a fa => wpIn_region_any hm (any_in hF hng (fun i o ho => noDefer_at hd o (List.mem_of_getElem? (by simpa using ho))) _ _ _ _ (h a fa))
end
def obuf (m : Nat) (s : ByteArray) : List Value := strCells s ++ List.replicate (m - s.size) (.int .u8 0)
theorem obuf_len (m : Nat) (s : ByteArray) (h : s.size ≤ m) : (obuf m s).length = m := by
  unfold obuf
  rw [List.length_append, strCells_length, List.length_replicate]
  omega
theorem obuf_nil (m : Nat) : obuf m ByteArray.empty = List.replicate m (.int .u8 0) := rfl
theorem obuf_app (m : Nat) (s t : ByteArray) : (obuf m s).take s.size ++ strCells t ++ (obuf m s).drop (s.size + t.size) = obuf m (s ++ t) := by
  unfold obuf
  have h1 := strCells_length s
  rw [List.take_append_of_le_length (by omega), List.take_of_length_le (by omega), List.drop_append, List.drop_eq_nil_of_le (by omega), List.nil_append, h1, List.drop_replicate]
  have e : strCells (s ++ t) = strCells s ++ strCells t := by unfold strCells; rw [ByteArray.data_append, Array.toList_append, List.map_append]
  rw [e, ByteArray.size_append, show m - s.size - (s.size + t.size - s.size) = m - (s.size + t.size) by omega]
section
variable {P : Program} {ops : Array Oper} {Q : Exit → Act → World → Prop} {n : Nat} {f : List (Nat × Value)} {w w0 : World} {F0 : Nat → Prop} {cs : List HP} {rest : List Oper} {dn : Nat} {ty : TypeId} {ps : String} {af : Array Edge} {g : Option (Nat × Bool)}
/-- make([]byte, 0, m) -/
theorem wl_makecap {e t : Nat} {x y : Operand} (m : Nat) (h : St w0 F0 cs w) (hw : gw ops f g = some true) (hn : Nat.blt dn n = true) (hx : ev f x = some (.int .i64 0)) {my : Int} (hy : ev f y = some (.int .i64 my)) (hm : my = (m : Int)) (ht : P.underlying t = some (.slice e))
    (hinfo : (P.info? e).map (fun i => (i.zero, i.size, i.bytes)) = some (some (.int .u8 0), 1, 1)) (hl : m ≤ 281474976710656)
    (k : ∀ b w', St w0 F0 (blk b (obuf m ByteArray.empty) e :: cs) w' → WL P ops Q n rest ((dn, .slice (some ⟨b, 0, none⟩) 0 m) :: f) w') : WL P ops Q n (⟨some dn, .makeSlice t x y, ty, ps, af, g⟩ :: rest) f w := by
  subst hm
  obtain ⟨inf, hinf, hzz⟩ := Option.map_eq_some_iff.1 hinfo
  simp only [Prod.mk.injEq] at hzz
  obtain ⟨hz0, hz1, hz2⟩ := hzz
  have hr := run_make (P := P) w t e inf (.int .u8 0) ht hinf hz0 .i64 .i64 0 (m : Int) (by omega) (by omega) (by rw [hz2]; omega) (by omega)
  rw [hz1, Nat.mul_one, Int.toNat_natCast] at hr
  have hc : (madeCells (Value.int .u8 0).cells m).toList = obuf m ByteArray.empty := by
    rw [obuf_nil]
    exact toList_madeCells_one (.int .u8 0) m
  have hst := st_alloc h (obuf m ByteArray.empty) e
  have hcells : (obuf m ByteArray.empty).toArray = madeCells (Value.int .u8 0).cells m := by rw [← hc]
  rw [hcells] at hst
  exact wl_step _ _ hw hn (fun a fa => by simp only [execOp, ev_eval fa hx, ev_eval fa hy, Sem.run_bind, hr, Result.andThen]; rfl) (k _ _ hst)
/-- append(s, text...) where there is room -/
theorem wl_appendroom (i : Nat) {e t u b m : Nat} {x y : Operand} (s z : ByteArray) (h : St w0 F0 cs w) (hi : cs[i]? = some (blk b (obuf m s) e)) (hw : gw ops f g = some true) (hn : Nat.blt dn n = true) {ns : Nat} (hx : ev f x = some (.slice (some ⟨b, 0, none⟩) ns m)) (hns : ns = s.size) (hy : ev f y = some (.string z)) (ht : P.underlying t = some (.slice e)) (hu : P.underlying u = some .string)
    (hinfo : (P.info? e).map (·.size) = some 1) (hl : s.size + z.size ≤ m) (k : ∀ w', St w0 F0 (cs.set i (blk b (obuf m (s ++ z)) e)) w' → WL P ops Q n rest ((dn, .slice (some ⟨b, 0, none⟩) (s ++ z).size m) :: f) w') :
    WL P ops Q n (⟨some dn, .call { callee := .builtin .append, args := #[x, y], argTypes := #[t, u] }, ty, ps, af, g⟩ :: rest) f w := by
  subst hns
  obtain ⟨inf, hinf, hz⟩ := Option.map_eq_some_iff.1 hinfo
  obtain ⟨G, g1, ⟨g2, g2'⟩, g3⟩ := st_upd h hi
  have hr := run_append_room_string (P := P) w t u ty e inf ht hu hinf hz b s.size m (obuf m s).toArray g2' z hl (by rw [List.size_toArray, obuf_len m s (by omega)]; exact hl)
  rw [show ((obuf m s).toArray.toList.take s.size ++ strCells z ++ (obuf m s).toArray.toList.drop (s.size + z.size)) = obuf m (s ++ z) from obuf_app m s z] at hr
  have hst := g3 (blk b (obuf m (s ++ z)) e) (w.setRow b (obuf m (s ++ z)).toArray) ⟨rfl, rfl, rfl, by simp [World.setRow], fun k hk hn => by
    have : b ≠ k := fun e => hn (by rw [← e]; exact g2)
    simp [World.setRow, Array.getElem?_modify, this]⟩ ⟨.inl g2, by simp [World.setRow, Array.getElem?_modify, g2']⟩
  rw [← ByteArray.size_append] at hr
  exact wl_step (.slice (some ⟨b, 0, none⟩) (s ++ z).size m) (w.setRow b (obuf m (s ++ z)).toArray) hw hn (fun a fa => by simp only [execOp, resolve, invoke, builtin, ev_eval fa hx, ev_eval fa hy, List.map_toArray, List.map_cons, List.map_nil, Sem.run_bind, Sem.run_pure, Result.andThen]; simp [hr, Result.andThen]) (k _ hst)
theorem obuf_at (m : Nat) (s : ByteArray) (j : Nat) (h : j < s.size) : (obuf m s)[j]? = some (.int .u8 (bt s j)) := by
  have h1 := strCells_length s
  unfold obuf
  rw [List.getElem?_append_left (by omega)]
  unfold strCells bt
  rw [List.getElem?_map, Array.getElem?_toList, Array.getElem?_eq_getElem (show j < s.data.size from h), dif_pos (by simpa using h)]
  rfl
theorem bo_at (s : ByteArray) (j : Nat) (h : j < s.size) : (bytesOf s)[j]? = some (bt s j) := by
  unfold bytesOf bt
  rw [List.getElem?_map, Array.getElem?_toList, Array.getElem?_eq_getElem (show j < s.data.size from h), dif_pos (by simpa using h)]
  rfl
theorem obuf_C {b m e : Nat} {s : ByteArray} {i : Nat} (h : St w0 F0 cs w) (hi : cs[i]? = some (blk b (obuf m s) e)) (hs : s.size ≤ 9223372036854775807) : (Kd.int .u8).C w (some ⟨b, 0, none⟩) s.size (bytesOf s) := by
  refine ⟨bytesOf_length s, hs, fun h0 => ⟨_, rfl, fun j p hj => ?_⟩⟩
  have hjl : j < s.size := by
    rcases Nat.lt_or_ge j s.size with h | h
    · exact h
    · rw [List.getElem?_eq_none (by rw [bytesOf_length]; exact h)] at hj; cases hj
  rw [bo_at s j hjl] at hj
  injection hj with hj
  subst hj
  refine ⟨[.int .u8 (bt s j)], rfl, rfl, fun q u hq => ?_⟩
  cases q with
  | succ q => simp at hq
  | zero =>
    simp at hq
    subst hq
    have e2 : (⟨b, 0, none⟩ : Addr).add (j * (Kd.int .u8).sz + 0) = ⟨b, j, none⟩ := by
      show (⟨b, 0, none⟩ : Addr).add (j * 1 + 0) = _
      rw [Nat.mul_one, Nat.add_zero]
      unfold Addr.add
      split
      · rename_i z; subst z; rfl
      · simp
    rw [e2, blk_cell h hi]
    exact obuf_at m s j hjl
end
end Go.Proofs.Ytieieindakbpoaa.Sx
