/- The walker's rule for 'for x, y := range f { .. }' over an iterator that has its contract. -/
import Derived.Test.YteancplgfjhagaaSxRange
namespace Go.Proofs.Yteancplgfjhagaa.Sx
open Go Go.RowKit Go.Proofs.YteancplgfjhagaaW.PrintWords
set_option linter.unusedVariables false
set_option linter.unusedSimpArgs false
theorem wpIn_unshift {F : Fence} {m : Nat} {P : Program} {c : Code} {Q : Exit → Act → World → Prop} {a : Act} {w : World} (h : c.wpIn F m P (Qup [] Q) (shift [] a) w) : c.wpIn F m P Q a w := by
  have e : ∀ a : Act, shift [] a = a := fun a => by unfold shift; rw [List.append_nil]
  rw [e] at h
  refine wpIn_mono h fun e1 a1 w1 ⟨a0, ha, hq⟩ => ?_
  rw [ha, e]
  exact hq
def NP (Q : Exit → Act → World → Prop) : Prop := ∀ c a a' w, Q (.panic c) a w → Q (.panic c) a' w
/-- The blocks that a round may write, as it sees them. -/
abbrev FX (gs : Gs) (l D : Nat) : Nat → Prop := fun k => k = l ∨ k = D ∨ inG gs k
theorem wc_range2 {α : Type} {P : Program} {n : Nat} {f : List (Nat × Value)} {w w0 : World} {F0 : Nat → Prop} {g : Operand} {p q : Tmp} {assign body : Code} {Q : Exit → Act → World → Prop} (gs : Gs) (cv : List α → List (List Value)) (cx : Code → List α → List (List Value)) (rest : List HP) {gf : Nat} {lb : Array Value}
    {e1 e2 : α → Value} {S Sp : List α → Prop} {N : Nat} (Jn : List α → Prop) (Jx : Code → List α → Prop)
    (h : St w0 F0 (pcs gs (cv []) ++ rest) w) (hcl : ∀ s, (cv s).length = gs.length) (hxl : ∀ c s, (cx c s).length = gs.length)
    (hg : ev f g = some (.func (.func gf) #[] lb)) (hent : Ent P gf) (hp : Nat.blt p n = true) (hq : Nat.blt q n = true)
    (hseq : SeqStopsK Fence.wide 1 P gf lb (fun x => #[e1 x, e2 x]) (KC gs) S Sp N w) (h0 : Jn [])
    (hround : ∀ (l D : Nat) (oR oB od : Obj) (pre : List α) (x : α) (W : World) (Qm Qr : Exit → Act → World → Prop), NG Qm → NG Qr → NP Qm → NP Qr → Jn pre → pre.length < N →
      (∀ cs w2, St W (FX gs l D) cs w2 → KC gs w w2) →
      (∀ ff W1 cs, St W (FX gs l D) (obj l oR :: cs) W1 → (∀ W2, St W (FX gs l D) (obj l oB :: cs) W2 → WCI (Fence.wide.inRound l) 0 [] P body Qr n ff W2) → QN Qm .normal n ff W1) →
      (∀ ff W3, Jn (pre ++ [x]) → St W (FX gs l D) (obj l oB :: obj D od :: pcs gs (cv (pre ++ [x]))) W3 → QN Qr .normal n ff W3) →
      (∀ ff W3, Jx .ret (pre ++ [x]) → St W (FX gs l D) (obj l oB :: obj D od :: pcs gs (cx .ret (pre ++ [x]))) W3 → QN Qr .ret n ff W3) →
      (∀ id ff W3, Jx (.exit id) (pre ++ [x]) → St W (FX gs l D) (obj l oB :: obj D od :: pcs gs (cx (.exit id) (pre ++ [x]))) W3 → QN Qr (.exit id) n ff W3) →
      St W (FX gs l D) (obj l oR :: obj D od :: pcs gs (cv pre)) W →
      WCI (Fence.wide.inRound l) 0 [] P assign Qm n ((q, e2 x) :: (p, e1 x) :: f) W)
    (hdone : ∀ D xs W, S xs → Jn xs → St w0 F0 (obj D (.deferred (some [])) :: (pcs gs (cv xs) ++ rest)) W → QN (QD [mark D] Q) .normal n f W)
    (hret : ∀ D pre W, Sp pre → Jx .ret pre → St w0 F0 (obj D (.deferred (some [])) :: (pcs gs (cx .ret pre) ++ rest)) W → QN (QD [mark D] Q) .ret n f W)
    (hexit : ∀ id D pre W, Sp pre → Jx (.exit id) pre → St w0 F0 (obj D (.deferred (some [])) :: (pcs gs (cx (.exit id) pre) ++ rest)) W → QN (QD [mark D] Q) (.exit id) n f W) :
    WC P (.rangeFunc g #[p, q] assign body) Q n f w := by
  intro a fa
  refine (wpIn_wide (n := 2)).1 (wpIn_rangeFunc ?_)
  intro fn _
  obtain ⟨hnd, hi0⟩ := inv_start h (hcl [])
  obtain ⟨rec, hrec⟩ : ∃ rec : LoopState → Option Code → Loop, rec = fun st pe => { state := st, pending := pe, fn, tmps := a.tmps, params := #[p, q], assign, body, defers := w.heap.size } := ⟨_, rfl⟩
  obtain ⟨W1, hW1⟩ : ∃ W1, (w.alloc (.deferred (some []))).alloc (.loop (rec .ready none)) = W1 := ⟨_, rfl⟩
  have hL1 : W1.heap[w.heap.size + 1]? = some (.loop (rec .ready none)) := by
    rw [← hW1]; have := World.alloc_heap_new (w.alloc (.deferred (some []))) (.loop (rec .ready none)); rwa [World.size_alloc] at this
  have hK1 : W1.heap[w.heap.size]? = some (.deferred (some [])) := by
    rw [← hW1]; exact (Below.heap_alloc _ _ _ (by simp)).trans (World.alloc_heap_new w _)
  have hI1 : Inv w gs (cv []) W1 := by rw [← hW1]; exact inv_grown (inv_grown hi0 (World.grownBy_alloc w _ none) (fun r e => by cases e)) (World.grownBy_alloc _ _ none) (fun r e => by cases e)
  have hb1 : Below w.heap.size w W1 := by
    rw [← hW1]; exact ((Below.refl _ w).alloc (Nat.le_refl _) _).alloc (by simp) _
  have hfin : ∀ (W : World) (vs : List (List Value)) (o : Obj) (o' : Obj), Inv w gs vs W → W.heap[w.heap.size + 1]? = some o → o.isCells = false → Inv w gs vs (W.putObj (w.heap.size + 1) o') := fun W vs o o' hi hl ho =>
    inv_grown hi (grownBy_putObj' W (w.heap.size + 1) o') (fun r e => by cases e; exact ⟨by omega, o, hl, ho⟩)
  refine ⟨w.heap.size + 1, [mark w.heap.size], W1, { target := .fn (.func gf) lb, args := #[.func (.yield (w.heap.size + 1)) #[] #[]] }, W1, gf, #[.func (.yield (w.heap.size + 1)) #[] #[]] ++ lb, W1, ?_, ?_, fun _ _ => trivial, ?_, fun _ => by decide, ?_⟩
  · rw [← hW1, hrec]; exact run_enterLoop_outer _ _ _ _ _
  · simp only [resolve, ev_eval fa hg]
    simp [go_sem]
  · simp [invoke, go_sem, run_enter hent]
  have hnw : ∀ {A : World} {row : Option Nat}, (∀ r, row = some r → W1.heap.size ≤ r ∧ ∃ o : Obj, A.heap[r]? = some o ∧ o.isWalk = true) → (∀ r, row = some r → w.heap.size ≤ r ∧ ∃ o : Obj, A.heap[r]? = some o ∧ o.isCells = false) :=
    fun hr r e => by obtain ⟨hB, o, ho, hw⟩ := hr r e; exact ⟨Nat.le_trans hb1.size hB, o, ho, Obj.not_cells_of_walk hw⟩
  refine CallsIn.mono (hseq (w.heap.size + 1)
    (fun pre W => Jn pre ∧ Inv w gs (cv pre) W ∧ W.heap[w.heap.size + 1]? = some (.loop (rec .ready none)) ∧ W.heap[w.heap.size]? = some (.deferred (some [])))
    (fun pre W => ∃ c, (c = .ret ∨ ∃ id, c = .exit id) ∧ Jx c pre ∧ Inv w gs (cx c pre) W ∧ W.heap[w.heap.size + 1]? = some (.loop (rec .done (some c))) ∧ W.heap[w.heap.size]? = some (.deferred (some [])))
    W1 hb1
    (fun s A B row hs hg' hr => ⟨hs.1, inv_grown hs.2.1 hg' (hnw hr), (grownBy_keeps hg' (fun r e => (hr r e).2) hs.2.2.1 rfl).trans hs.2.2.1, (grownBy_keeps hg' (fun r e => (hr r e).2) hs.2.2.2 rfl).trans hs.2.2.2⟩)
    (fun s A B row hs hg' hr => by
      obtain ⟨c, hc, hx, hi, hl, hk⟩ := hs
      exact ⟨c, hc, hx, inv_grown hi hg' (hnw hr), (grownBy_keeps hg' (fun r e => (hr r e).2) hl rfl).trans hl, (grownBy_keeps hg' (fun r e => (hr r e).2) hk rfl).trans hk⟩)
    ?_ ⟨h0, hI1, hL1, hK1⟩) ?_
  · -- one round
    rintro pre x W ⟨hj, hi, hl, hk⟩ hlen
    have hy := run_yield (P := P) (args := #[e1 x, e2 x]) hl (by rw [hrec]; rfl)
    rw [hrec] at hy
    refine ⟨fn, _, assign, body, hy, roundIn_of_wpIn trivial ?_⟩
    have fin : ∀ (jump : Option Code) (W3 : World), W3.heap[w.heap.size + 1]? = some (.loop { rec .ready none with state := .busy }) →
        (Instr.endRound (w.heap.size + 1) jump).run P W3 = .ok (.bool jump.isNone) (W3.putObj (w.heap.size + 1) (.loop (rec (if jump.isNone then .ready else .done) jump))) := fun jump W3 hl3 => by
      have := run_endRound (P := P) jump hl3
      rw [hrec] at this ⊢
      exact this
    have own : ∀ (jump : Option Code) (vs : List (List Value)) (W3 : World), vs.length = gs.length → St W (FX gs (w.heap.size + 1) w.heap.size) (obj (w.heap.size + 1) (.loop { rec .ready none with state := .busy }) :: obj w.heap.size (.deferred (some [])) :: pcs gs vs) W3 →
        ∃ W4, (Instr.endRound (w.heap.size + 1) jump).run P W3 = .ok (.bool jump.isNone) W4 ∧ Inv w gs vs W4 ∧ W4.heap[w.heap.size + 1]? = some (.loop (rec (if jump.isNone then .ready else .done) jump)) ∧ W4.heap[w.heap.size]? = some (.deferred (some [])) ∧ KC gs W W4 := fun jump vs W3 hvl hst => by
      obtain ⟨i1, i2, i3, i4⟩ := inv_round hvl hl rfl hk rfl (by omega) (Nat.le_refl _) hi hst
      refine ⟨_, fin jump W3 i2, hfin _ _ _ _ i1 i2 rfl, World.putObj_heap_same (Array.getElem?_eq_some_iff.1 i2).1, (World.putObj_heap_other (by omega)).trans i3, kc_trans i4 (kc_put gs _ i2 rfl)⟩
    have hwk := hround (w.heap.size + 1) w.heap.size (.loop (rec .ready none)) (.loop { rec .ready none with state := .busy }) (.deferred (some [])) pre x W
      (Exit.then (fun a₁ w₁ => ∃ w₂, (Instr.beginRound (w.heap.size + 1)).run P w₁ = .ok () w₂ ∧ body.wpIn (Fence.wide.inRound (w.heap.size + 1)) 0 P (roundPost P (w.heap.size + 1) (fun e W' => (e = .returned (.bool true) ∧ (Jn (pre ++ [x]) ∧ Inv w gs (cv (pre ++ [x])) W' ∧ W'.heap[w.heap.size + 1]? = some (.loop (rec .ready none)) ∧ W'.heap[w.heap.size]? = some (.deferred (some []))) ∧ KC gs W W') ∨
        (e = .returned (.bool false) ∧ ∃ c, (c = .ret ∨ ∃ id, c = .exit id) ∧ Jx c (pre ++ [x]) ∧ Inv w gs (cx c (pre ++ [x])) W' ∧ W'.heap[w.heap.size + 1]? = some (.loop (rec .done (some c))) ∧ W'.heap[w.heap.size]? = some (.deferred (some []))))) a₁ w₂) (fun _ _ _ => False))
      (roundPost P (w.heap.size + 1) (fun e W' => (e = .returned (.bool true) ∧ (Jn (pre ++ [x]) ∧ Inv w gs (cv (pre ++ [x])) W' ∧ W'.heap[w.heap.size + 1]? = some (.loop (rec .ready none)) ∧ W'.heap[w.heap.size]? = some (.deferred (some []))) ∧ KC gs W W') ∨
        (e = .returned (.bool false) ∧ ∃ c, (c = .ret ∨ ∃ id, c = .exit id) ∧ Jx c (pre ++ [x]) ∧ Inv w gs (cx c (pre ++ [x])) W' ∧ W'.heap[w.heap.size + 1]? = some (.loop (rec .done (some c))) ∧ W'.heap[w.heap.size]? = some (.deferred (some [])))))
      (fun _ _ h => h) (fun _ _ h => h) (fun _ _ _ _ h => h) (fun _ _ _ _ h => h) hj hlen (fun cs w2 hst => kc_trans hi.kc (st_kc hl rfl hk rfl hst)) ?_ ?_ ?_ ?_ (base_st hnd hi.at_ hl rfl hk rfl (by omega))
    · have hfr : Fr n ((q, e2 x) :: (p, e1 x) :: f) { tmps := ((#[p, q] : Array Tmp).zip #[e1 x, e2 x]).foldl (fun t (p, v) => t.setIfInBounds p v) a.tmps, defers := [] } := by
        have h1 : Fr n f { tmps := a.tmps, defers := [] } := ⟨rfl, fa.size, fa.get⟩
        have h2 := (h1.put (by simpa [Nat.blt_eq] using hp) (e1 x)).put (by simpa [Nat.blt_eq] using hq) (e2 x)
        have e3 : ((#[p, q] : Array Tmp).zip #[e1 x, e2 x]).foldl (fun t (p, v) => t.setIfInBounds p v) a.tmps = (a.tmps.setIfInBounds p (e1 x)).setIfInBounds q (e2 x) := by simp
        rw [e3]
        exact h2
      exact wpIn_unshift (hwk _ hfr)
    · intro ff W2 cs hst hb a1 fa1
      refine ⟨_, run_beginRound (st_obj (i := 0) hst rfl) (by rw [hrec]), wpIn_unshift (hb _ (st_putobj _ hst) a1 fa1)⟩
    · intro ff W3 hj3 hst a3 fa3
      obtain ⟨W4, g1, g2, g3, g4, g5⟩ := own none _ W3 (hcl _) hst
      exact ⟨_, W4, g1, .inl ⟨rfl, ⟨hj3, g2, g3, g4⟩, g5⟩⟩
    · intro ff W3 hj3 hst a3 fa3
      obtain ⟨W4, g1, g2, g3, g4, g5⟩ := own (some .ret) _ W3 (hxl _ _) hst
      exact ⟨_, W4, g1, .inr ⟨rfl, .ret, .inl rfl, hj3, g2, g3, g4⟩⟩
    · intro id ff W3 hj3 hst a3 fa3
      obtain ⟨W4, g1, g2, g3, g4, g5⟩ := own (some (.exit id)) _ W3 (hxl _ _) hst
      exact ⟨_, W4, g1, .inr ⟨rfl, .exit id, .inr ⟨id, rfl⟩, hj3, g2, g3, g4⟩⟩
  · -- behind the iterator
    have hsh : ({ a with defers := [mark w.heap.size] ++ a.defers } : Act) = shift [mark w.heap.size] a := by unfold shift; rw [fa.defers]; rfl
    rintro e W2 ⟨⟨v, rfl⟩, (⟨xs, hS, hj, hi, hl, hk⟩ | ⟨pre, hSp, c, hc, hx, hi, hl, hk⟩)⟩
    · refine ⟨none, _, by have := run_endLoop (P := P) hl (by rw [hrec]; simp); rw [hrec] at this; exact this, ?_⟩
      show Q .normal { a with defers := [mark w.heap.size] ++ a.defers } _
      rw [hsh]
      exact hdone w.heap.size xs _ hS hj (inv_back h (hcl _) (hfin _ _ _ _ hi hl rfl) ((World.putObj_heap_other (by omega)).trans hk) (Nat.le_refl _)) a fa
    · refine ⟨some c, _, by have := run_endLoop (P := P) hl (by rw [hrec]; simp); rw [hrec] at this; exact this, ?_⟩
      show c.wpIn Fence.wide 2 P Q { a with defers := [mark w.heap.size] ++ a.defers } _
      rw [hsh]
      rcases hc with rfl | ⟨id, rfl⟩
      · exact wpIn_ret (hret w.heap.size pre _ hSp hx (inv_back h (hcl _) (hfin _ _ _ _ hi hl rfl) ((World.putObj_heap_other (by omega)).trans hk) (Nat.le_refl _)) a fa)
      · exact wpIn_exit (hexit id w.heap.size pre _ hSp hx (inv_back h (hcl _) (hfin _ _ _ _ hi hl rfl) ((World.putObj_heap_other (by omega)).trans hk) (Nat.le_refl _)) a fa)
end Go.Proofs.Yteancplgfjhagaa.Sx
