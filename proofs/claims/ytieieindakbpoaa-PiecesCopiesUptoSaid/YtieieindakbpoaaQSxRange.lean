/- Pruned by wip/prune.py. -/
import Derived.Test.YtieieindakbpoaaQSxIn
namespace Go.Proofs.Ytieieindakbpoaa.Sx
open Go Go.RowKit Go.Proofs.YtieieindakbpoaaW.PrintWords
set_option linter.unusedVariables false
set_option linter.unusedSimpArgs false
abbrev mark (D : Nat) : Deferred := { target := .collected D, args := #[] }
def QD (ds : List Deferred) (Q : Exit → Act → World → Prop) : Exit → Act → World → Prop := fun e a w => Q e (shift ds a) w
section
variable {P : Program} {n : Nat} {f : List (Nat × Value)} {w : World} {ds : List Deferred} {Q : Exit → Act → World → Prop} {fn : Func} {R : Ending → World → Prop}
theorem calls_fnM {fid : FuncId} {c : Code} {vs : List Value} (hf : P.funcs[fid]? = some fn) (hb : fn.body = some c) (hn : fn.ntmps = n) (hl : Nat.ble vs.length n = true)
    (h : WC P c (bodyPostM Fence.wide 2 P fn R) n (argsF 0 vs) w) : Calls P fid vs.toArray w R := by
  refine (callsIn_wide (n := 2)).1 (callsIn_of_wp_marks hf hb trivial (wpIn_wide.2 (h _ ⟨rfl, ?_, fun k v e => ?_⟩)))
  · have := Nat.le_of_ble_eq_true hl
    simp [hn]
    omega
  · obtain ⟨_, h2⟩ := look_argsF vs 0 k v e
    simp only [Nat.sub_zero] at h2
    have hk : k < vs.length := by
      rcases Nat.lt_or_ge k vs.length with h | h
      · exact h
      · rw [List.getElem?_eq_none h] at h2; cases h2
    show (vs.toArray ++ _)[k]? = some v
    rw [Array.getElem?_append_left (by simpa using hk)]
    simpa using h2
/-- An iterator's contract, from its body. -/
theorem calls_fnI {fid : FuncId} {c : Code} {vs : List Value} (hf : P.funcs[fid]? = some fn) (hb : fn.body = some c) (hn : fn.ntmps = n) (hl : Nat.ble vs.length n = true)
    (h : WCI Fence.wide 1 [] P c (bodyPost P fn R) n (argsF 0 vs) w) : CallsIn Fence.wide 1 P fid vs.toArray w R := by
  refine callsIn_of_wp hf hb trivial ?_
  have h2 := h { tmps := vs.toArray ++ Array.replicate (fn.ntmps - vs.toArray.size) undef, defers := [] } ⟨rfl, ?_, fun k v e => ?_⟩
  · refine wpIn_mono h2 fun e a w ⟨a0, ha, hq⟩ => ?_
    have e0 : a = a0 := by rw [ha]; unfold shift; rw [List.append_nil]
    rw [e0]
    exact hq
  · have := Nat.le_of_ble_eq_true hl
    simp [hn]
    omega
  · obtain ⟨_, h2⟩ := look_argsF vs 0 k v e
    simp only [Nat.sub_zero] at h2
    have hk : k < vs.length := by
      rcases Nat.lt_or_ge k vs.length with h | h
      · exact h
      · rw [List.getElem?_eq_none h] at h2; cases h2
    show (vs.toArray ++ _)[k]? = some v
    rw [Array.getElem?_append_left (by simpa using hk)]
    simpa using h2
theorem qn_retD {D : Nat} (vs : List Value) (hD : w.heap[D]? = some (.deferred (some []))) (hv : RVs P (w.putObj D (.deferred none)) f fn.results.toList vs) (hR : R (.returned (retv vs)) (w.putObj D (.deferred none))) : QN (QD [mark D] (bodyPostM Fence.wide 2 P fn R)) .ret n f w := fun a fa => by
  show LeavesInM Fence.wide 2 P fn a.tmps R (a.defers ++ [mark D]) .returning w
  rw [fa.defers]
  exact ⟨by simp, .inl ⟨D, _, rfl, run_takeDeferred hD, _, run_results fa hv, hR⟩⟩
theorem qd_block_normal {id : Nat} (h : QN (QD ds Q) .normal n f w) : QN (QD ds (Exit.inBlock id Q)) .normal n f w := h
theorem qd_then {c2 : Code} (h : WCI Fence.wide 2 ds P c2 (QD ds Q) n f w) : QN (QD ds (Exit.then (c2.wp P Q) Q)) .normal n f w :=
  fun a fa => wpIn_wide.1 (wpIn_mono (h a fa) fun e a w ⟨a0, ha, hq⟩ => by subst ha; exact hq)
end
section
variable {P : Program} {F : Fence} {m : Nat} {ds : List Deferred} {Q : Exit → Act → World → Prop} {ops : Array Oper} {n : Nat} {f : List (Nat × Value)} {w : World} {rest : List Oper}
theorem ov_makeFunc {fn : Nat} {x : Operand} (v : Value) (hx : ev f x = some v) : OV P n f w (.makeFunc (.func fn) #[] #[x]) (.func (.func fn) #[] #[v]) := fun a fa dst ty ps af g => by simp [execOp, Instr.makeFunc, ev_eval fa hx]
def WLI (F : Fence) (m : Nat) (ds : List Deferred) (P : Program) (ops : Array Oper) (Q : Exit → Act → World → Prop) (n : Nat) (l : List Oper) (f : List (Nat × Value)) (w : World) : Prop := ∀ a, Fr n f a → wpListIn F m P ops (Qup ds Q) l (shift ds a) w
theorem ci_regionI {id : Nat} {l : List Oper} (h : WLI F m ds P l.toArray Q n l f w) : WCI F m ds P (.region id l.toArray false) Q n f w := fun a fa => wpIn_region_lit (h a fa)
end
def IsC (c : HP) : Prop := ∀ w F, c.p w F → c.p w (fun k => F k ∧ ∃ o : Obj, w.heap[k]? = some o ∧ o.isCells = true)
theorem isC_blk (g : Nat) (cells : List Value) (T : Nat) : IsC (blk g cells T) := fun w F h => ⟨⟨h.1, _, h.2, rfl⟩, h.2⟩
theorem isC_row {α : Type} (d : Kd α) (e : Nat) (A : Option Addr) (c : Nat) (L : List α) : IsC (row d e A c L) := fun w F h =>
  Kd.R_mono (Kd.R_bound h) fun k hk => ⟨hk.1, by obtain ⟨_, _, _, q, _, cells, hc⟩ := hk; exact ⟨_, hc, rfl⟩⟩
/-- Any object. -/
def obj (g : Nat) (o : Obj) : HP where
  p := fun w F => F g ∧ w.heap[g]? = some o
  mono := fun hF h => ⟨hF _ h.1, h.2⟩
  bound := fun h => ⟨⟨h.1, (Array.getElem?_eq_some_iff.1 h.2).1⟩, h.2⟩
  move := fun hm h => ⟨h.1, (hm _ h.1).trans h.2⟩
theorem st_obj {w0 w : World} {F0 : Nat → Prop} {cs : List HP} {i g : Nat} {o : Obj} (h : St w0 F0 cs w) (hi : cs[i]? = some (obj g o)) : w.heap[g]? = some o := by
  obtain ⟨G, _, _, hg⟩ := st_get h hi
  exact hg
theorem st_putobj {w0 w : World} {F0 : Nat → Prop} {cs : List HP} {g : Nat} {o : Obj} (o' : Obj) (h : St w0 F0 (obj g o :: cs) w) : St w0 F0 (obj g o' :: cs) (w.putObj g o') := by
  obtain ⟨G, h1, ⟨h2, h3⟩, h4⟩ := st_upd (i := 0) h rfl
  refine h4 (obj g o') _ ⟨rfl, rfl, rfl, by simp, fun k hk hn => World.putObj_heap_other (fun e => hn (by rw [e]; exact h2))⟩ ⟨.inl h2, World.putObj_heap_same (h1 g h2)⟩
theorem rob_cells {w : World} {g : Nat} {cells : List Value} (h : ∀ j, w.cell? ⟨g, j, none⟩ = cells[j]?) (off : Nat) {vs : List Value} (hv : (cells.drop off).take vs.length = vs) : ∀ j v, vs[j]? = some v → w.cell? ((⟨g, off, none⟩ : Addr).add j) = some v := by
  intro j v hj
  have e : (⟨g, off, none⟩ : Addr).add j = ⟨g, off + j, none⟩ := by
    unfold Addr.add
    split
    · rename_i h0; subst h0; rfl
    · rfl
  have hl : j < vs.length := by
    rcases Nat.lt_or_ge j vs.length with h | h
    · exact h
    · rw [List.getElem?_eq_none h] at hj; cases hj
  rw [e, h]
  rw [← hv, List.getElem?_take, if_pos hl, List.getElem?_drop] at hj
  exact hj
theorem below_grown {w w1 : World} (h : Below w.heap.size w w1) : w.grownBy w1 none := ⟨h.os, h.tape, h.output, h.size, fun k hk _ => h.block k hk⟩
abbrev Gs := List (Nat × Nat)
def inG (gs : Gs) (k : Nat) : Prop := k ∈ gs.map (·.1)
def pcs : Gs → List (List Value) → List HP
  | (g, t) :: gs, v :: vs => blk g v t :: pcs gs vs
  | _, _ => []
def At (w : World) : Gs → List (List Value) → Prop
  | (g, t) :: gs, v :: vs => w.heap[g]? = some (.cells v.toArray t (0, 0)) ∧ At w gs vs
  | [], [] => True
  | _, _ => False
theorem at_cells {w : World} : ∀ {gs : Gs} {vs : List (List Value)}, At w gs vs → ∀ k, inG gs k → ∃ o : Obj, w.heap[k]? = some o ∧ o.isCells = true
  | (g, t) :: gs, v :: vs, h, k, hk => by
    simp only [inG, List.map_cons, List.mem_cons] at hk
    rcases hk with rfl | hk
    · exact ⟨_, h.1, rfl⟩
    · exact at_cells h.2 k hk
  | [], [], _, k, hk => by simp [inG] at hk
  | (_ :: _), [], h, _, _ => by simp [At] at h
  | [], (_ :: _), h, _, _ => by simp [At] at h
theorem at_move {w w' : World} : ∀ {gs : Gs} {vs : List (List Value)}, At w gs vs → (∀ k, inG gs k → w'.heap[k]? = w.heap[k]?) → At w' gs vs
  | (g, t) :: gs, v :: vs, h, hm => ⟨(hm g (by simp [inG])).trans h.1, at_move h.2 fun k hk => hm k (by simp only [inG, List.map_cons, List.mem_cons] at hk ⊢; exact .inr hk)⟩
  | [], [], _, _ => trivial
  | (_ :: _), [], h, _ => by simp [At] at h
  | [], (_ :: _), h, _ => by simp [At] at h
theorem at_sep {w : World} : ∀ {gs : Gs} {vs : List (List Value)}, (gs.map (·.1)).Nodup → At w gs vs → Sep (pcs gs vs) w (inG gs)
  | (g, t) :: gs, v :: vs, hn, h => by
    simp only [List.map_cons, List.nodup_cons] at hn
    refine ⟨fun k => k = g, fun k hk => by simp [inG, hk], ⟨rfl, h.1⟩, Sep_mono (fun k hk => ?_) (at_sep hn.2 h.2)⟩
    refine ⟨by simp only [inG, List.map_cons, List.mem_cons]; exact .inr hk, fun e => hn.1 (by rw [← e]; exact hk)⟩
  | [], [], _, _ => trivial
  | (_ :: _), [], _, h => by simp [At] at h
  | [], (_ :: _), _, h => by simp [At] at h
/-- What pieces side by side say of known blocks, and what is left for the others. -/
theorem sep_split {w : World} {rest : List HP} : ∀ {gs : Gs} {vs : List (List Value)} {F : Nat → Prop}, vs.length = gs.length → Sep (pcs gs vs ++ rest) w F → (gs.map (·.1)).Nodup ∧ At w gs vs ∧ (∀ k, inG gs k → F k) ∧ Sep rest w (fun k => F k ∧ ¬ inG gs k)
  | (g, t) :: gs, v :: vs, F, hl, ⟨G, h1, h2, h3⟩ => by
    obtain ⟨i1, i2, i3, i4⟩ := sep_split (gs := gs) (vs := vs) (by simpa using hl) h3
    have hin : ∀ k, inG ((g, t) :: gs) k ↔ k = g ∨ inG gs k := fun k => by simp [inG]
    refine ⟨?_, ⟨h2.2, i2⟩, fun k hk => ?_, Sep_mono (fun k hk => ⟨hk.1.1, fun e => ?_⟩) i4⟩
    · simp only [List.map_cons, List.nodup_cons]
      exact ⟨fun e => (i3 g e).2 h2.1, i1⟩
    · rcases (hin k).1 hk with rfl | hk
      · exact h1 _ h2.1
      · exact (i3 k hk).1
    · rcases (hin k).1 e with rfl | e
      · exact hk.1.2 h2.1
      · exact hk.2 e
  | [], [], F, _, h => ⟨by simp, trivial, fun k hk => by simp [inG] at hk, Sep_mono (fun k hk => ⟨hk, fun e => by simp [inG] at e⟩) h⟩
  | (_ :: _), [], _, h, _ => by simp at h
  | [], (_ :: _), _, h, _ => by simp at h
/-- Cells lie as they lay, but for those known blocks. -/
def KC (gs : Gs) (A B : World) : Prop := A.heap.size ≤ B.heap.size ∧ ∀ (k : Nat) (o : Obj), ¬ inG gs k → A.heap[k]? = some o → o.isCells = true → B.heap[k]? = some o
theorem kc_refl (gs : Gs) (A : World) : KC gs A A := ⟨Nat.le_refl _, fun _ _ _ h _ => h⟩
theorem kc_trans {gs : Gs} {A B C : World} (h : KC gs A B) (h2 : KC gs B C) : KC gs A C := ⟨Nat.le_trans h.1 h2.1, fun k o hn hk hc => h2.2 k o hn (h.2 k o hn hk hc) hc⟩
theorem kc_below {gs : Gs} {A B : World} (h : Below A.heap.size A B) : KC gs A B := ⟨h.size, fun k o _ hk _ => (h.block k (Array.getElem?_eq_some_iff.1 hk).1).trans hk⟩
theorem kc_put (gs : Gs) {W : World} {l : Nat} {o : Obj} (o' : Obj) (hl : W.heap[l]? = some o) (hc : o.isCells = false) : KC gs W (W.putObj l o') := ⟨by simp, fun k o2 _ hk h2 => by
  by_cases e : k = l
  · subst e; rw [hl] at hk; cases hk; rw [hc] at h2; cases h2
  · exact (World.putObj_heap_other e).trans hk⟩
/-- Between two rounds. -/
structure Inv (w : World) (gs : Gs) (vs : List (List Value)) (W : World) : Prop where
  os : W.os = w.os
  tape : W.tape = w.tape
  output : W.output = w.output
  at_ : At W gs vs
  kc : KC gs w W
  low : ∀ k, k < w.heap.size → ¬ inG gs k → W.heap[k]? = w.heap[k]?
theorem inv_grown {w W W' : World} {gs : Gs} {vs : List (List Value)} {row : Option Nat} (h : Inv w gs vs W) (hg : W.grownBy W' row) (hr : ∀ r, row = some r → w.heap.size ≤ r ∧ ∃ o : Obj, W.heap[r]? = some o ∧ o.isCells = false) : Inv w gs vs W' := by
  have keep : ∀ (k : Nat) (o : Obj), W.heap[k]? = some o → o.isCells = true → W'.heap[k]? = some o := fun k o hk ho => by
    refine (hg.block k (Array.getElem?_eq_some_iff.1 hk).1 (fun e => ?_)).trans hk
    obtain ⟨_, o2, h2, h3⟩ := hr k e.symm
    rw [hk] at h2; cases h2; rw [ho] at h3; cases h3
  refine ⟨hg.os.trans h.os, hg.tape.trans h.tape, hg.output.trans h.output, at_move h.at_ fun k hk => ?_, ⟨Nat.le_trans h.kc.1 hg.size, fun k o hn hk hc => keep k o (h.kc.2 k o hn hk hc) hc⟩, fun k hk hn => ?_⟩
  · obtain ⟨o, ho, hc⟩ := at_cells h.at_ k hk
    rw [keep k o ho hc, ho]
  · refine (hg.block k (Nat.lt_of_lt_of_le hk h.kc.1) (fun e => ?_)).trans (h.low k hk hn)
    have := (hr k e.symm).1
    omega
/-- A round begins: its own memory. -/
theorem base_st {W : World} {gs : Gs} {vs : List (List Value)} {l D : Nat} {o d : Obj} (hn : (gs.map (·.1)).Nodup) (ha : At W gs vs) (hl : W.heap[l]? = some o) (ho : o.isCells = false) (hD : W.heap[D]? = some d) (hd : d.isCells = false) (hne : D ≠ l) :
    St W (fun k => k = l ∨ k = D ∨ inG gs k) (obj l o :: obj D d :: pcs gs vs) W := by
  have nc : ∀ k o, W.heap[k]? = some o → o.isCells = false → ¬ inG gs k := fun k o h1 h2 h3 => by
    obtain ⟨o', h4, h5⟩ := at_cells ha k h3
    rw [h1] at h4; cases h4; rw [h2] at h5; cases h5
  refine ⟨rfl, rfl, rfl, Nat.le_refl _, _, ?_, ?_, fun k hk => .inl hk, fun _ _ _ => rfl⟩
  · refine ⟨fun k => k = l, fun k hk => .inl hk, ⟨rfl, hl⟩, fun k => k = D, fun k hk => ⟨.inr (.inl hk), fun e => hne (hk.symm.trans e)⟩, ⟨rfl, hD⟩, Sep_mono (fun k hk => ?_) (at_sep hn ha)⟩
    exact ⟨⟨.inr (.inr hk), fun e => nc l o hl ho (e ▸ hk)⟩, fun e => nc D d hD hd (e ▸ hk)⟩
  · rintro k (rfl | rfl | hk)
    · exact (Array.getElem?_eq_some_iff.1 hl).1
    · exact (Array.getElem?_eq_some_iff.1 hD).1
    · obtain ⟨o', h4, _⟩ := at_cells ha k hk
      exact (Array.getElem?_eq_some_iff.1 h4).1
/-- What a round keeps. -/
theorem st_kc {W W' : World} {gs : Gs} {l D : Nat} {o d : Obj} {cs : List HP} (hl : W.heap[l]? = some o) (ho : o.isCells = false) (hD : W.heap[D]? = some d) (hd : d.isCells = false) (h : St W (fun k => k = l ∨ k = D ∨ inG gs k) cs W') : KC gs W W' := by
  obtain ⟨_, _, _, h4, F, _, _, _, h8⟩ := h
  refine ⟨h4, fun k o2 hn hk hc => (h8 k (Array.getElem?_eq_some_iff.1 hk).1 ?_).trans hk⟩
  rintro (rfl | rfl | e)
  · rw [hl] at hk; cases hk; rw [ho] at hc; cases hc
  · rw [hD] at hk; cases hk; rw [hd] at hc; cases hc
  · exact hn e
theorem inv_round {w W W' : World} {gs : Gs} {vs vs' : List (List Value)} {l D : Nat} {o o' d : Obj} (hlen : vs'.length = gs.length) (hl : W.heap[l]? = some o) (ho : o.isCells = false) (hD : W.heap[D]? = some d) (hd : d.isCells = false) (hwl : w.heap.size ≤ l) (hwD : w.heap.size ≤ D)
    (hi : Inv w gs vs W) (h : St W (fun k => k = l ∨ k = D ∨ inG gs k) (obj l o' :: obj D d :: pcs gs vs') W') : Inv w gs vs' W' ∧ W'.heap[l]? = some o' ∧ W'.heap[D]? = some d ∧ KC gs W W' := by
  have hk := st_kc hl ho hD hd h
  have h1 := st_obj (i := 0) h rfl
  have h2 := st_obj (i := 1) h rfl
  obtain ⟨a1, a2, a3, a4, F, ⟨G, b1, b2, G2, b3, b4, b5⟩, _, _, a8⟩ := h
  have hs := sep_split (gs := gs) (vs := vs') (rest := []) hlen (by rw [List.append_nil]; exact b5)
  refine ⟨⟨a1.trans hi.os, a2.trans hi.tape, a3.trans hi.output, hs.2.1, kc_trans hi.kc hk, fun k hk hn => ?_⟩, h1, h2, hk⟩
  refine (a8 k (Nat.lt_of_lt_of_le hk hi.kc.1) ?_).trans (hi.low k hk hn)
  rintro (rfl | rfl | e)
  · omega
  · omega
  · exact hn e
/-- Behind the range. -/
theorem inv_back {w0 w W : World} {F0 : Nat → Prop} {gs : Gs} {v0 vs : List (List Value)} {rest : List HP} {D : Nat} {d : Obj} (h : St w0 F0 (pcs gs v0 ++ rest) w) (hl0 : v0.length = gs.length) (hi : Inv w gs vs W) (hD : W.heap[D]? = some d) (hwD : w.heap.size ≤ D) :
    St w0 F0 (obj D d :: (pcs gs vs ++ rest)) W := by
  obtain ⟨h1, h2, h3, h4, F, h5, h6, h7, h8⟩ := h
  obtain ⟨s1, s2, s3, s4⟩ := sep_split hl0 h5
  refine ⟨hi.os.trans h1, hi.tape.trans h2, hi.output.trans h3, Nat.le_trans h4 hi.kc.1, fun k => k = D ∨ F k, ?_, ?_, ?_, ?_⟩
  · refine ⟨fun k => k = D, fun k hk => .inl hk, ⟨rfl, hD⟩, ?_⟩
    refine Sep_mono (F := fun k => inG gs k ∨ (F k ∧ ¬ inG gs k)) (fun k hk => ?_) (Sep_append (at_sep s1 hi.at_) (Sep_move (fun k hk => hi.low k (h6 k hk.1) hk.2) s4) (fun k h1 h2 => h2.2 h1))
    have hF : F k := hk.elim (s3 k) (·.1)
    exact ⟨.inr hF, fun e => by have := h6 k hF; omega⟩
  · rintro k (rfl | hk)
    · exact (Array.getElem?_eq_some_iff.1 hD).1
    · exact Nat.lt_of_lt_of_le (h6 k hk) hi.kc.1
  · rintro k (rfl | hk)
    · exact .inr (Nat.le_trans h4 hwD)
    · exact h7 k hk
  · intro k hk hn
    refine (hi.low k (Nat.lt_of_lt_of_le hk h4) (fun e => ?_)).trans (h8 k hk hn)
    rcases h7 k (s3 k e) with e | e
    · exact hn e
    · omega
theorem inv_start {w0 w : World} {F0 : Nat → Prop} {gs : Gs} {vs : List (List Value)} {rest : List HP} (h : St w0 F0 (pcs gs vs ++ rest) w) (hl : vs.length = gs.length) : (gs.map (·.1)).Nodup ∧ Inv w gs vs w := by
  obtain ⟨h1, h2, h3, h4, F, h5, h6, h7, h8⟩ := h
  obtain ⟨s1, s2, s3, s4⟩ := sep_split hl h5
  exact ⟨s1, rfl, rfl, rfl, s2, kc_refl _ _, fun _ _ _ => rfl⟩
/-- What the others say, whatever the body does. -/
theorem stab_get {w0 w : World} {F0 : Nat → Prop} {gs : Gs} {vs : List (List Value)} {rest : List HP} {i : Nat} {c : HP} (h : St w0 F0 (pcs gs vs ++ rest) w) (hl : vs.length = gs.length) (hi : rest[i]? = some c) (hc : IsC c) : ∃ G, c.p w G ∧ ∀ W', KC gs w W' → c.p W' G := by
  obtain ⟨h1, h2, h3, h4, F, h5, h6, h7, h8⟩ := h
  obtain ⟨s1, s2, s3, s4⟩ := sep_split hl h5
  obtain ⟨G, g1, g2⟩ := Sep_get s4 hi
  refine ⟨_, hc w G g2, fun W' hk => c.move (fun k hk2 => ?_) (hc w G g2)⟩
  obtain ⟨hG, o, ho, hoc⟩ := hk2
  rw [hk.2 k o (g1 k hG).2 ho hoc, ho]
theorem stab_blk {w0 w : World} {F0 : Nat → Prop} {gs : Gs} {vs : List (List Value)} {rest : List HP} {i g T : Nat} {cells : List Value} (h : St w0 F0 (pcs gs vs ++ rest) w) (hl : vs.length = gs.length) (hi : rest[i]? = some (blk g cells T)) : ∀ W', KC gs w W' → ∀ j, W'.cell? ⟨g, j, none⟩ = cells[j]? := by
  obtain ⟨G, _, h2⟩ := stab_get h hl hi (isC_blk _ _ _)
  intro W' hk j
  have := (h2 W' hk).2
  simp [World.cell?, this]
end Go.Proofs.Ytieieindakbpoaa.Sx
