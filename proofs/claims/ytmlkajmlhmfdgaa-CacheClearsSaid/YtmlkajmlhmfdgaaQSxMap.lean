/- Pruned by wip/prune.py. -/
import Derived.Test.YtmlkajmlhmfdgaaQSxGlue
import Derived.Test.YtmlkajmlhmfdgaaQSxJoin
import Derived.MapKept
namespace Go.Proofs.Ytmlkajmlhmfdgaa.Sx
open Go Go.RowKit Go.Proofs.YtmlkajmlhmfdgaaW.PrintWords
set_option linter.unusedVariables false
set_option linter.unusedSimpArgs false
structure Hdr where
  A : Option Addr
  n : Nat
  c : Nat
def kHdr : Kd Hdr := Kd.scalar (fun h => .slice h.A h.n h.c) (fun _ => rfl)
theorem flat_hdr : Flat kHdr := fun _ _ _ _ _ _ h => h
/-- A kind of keys that can be told apart at once. -/
structure KeyK (α : Type) [DecidableEq α] where
  enc : α → Value
  td : TypeDesc
  same : ∀ a b, Instr.sameNow td (enc a) (enc b) = some (decide (a = b))
  bits : ∀ a, Instr.sameBits 10000 (enc a) (enc a) = true
  easy : ∀ (P : Program) (t : TypeId) (e : Bool) (a : α) (w : World), P.underlying t = some td → (Instr.checkKey e 10000 t (enc a)).run P w = .ok () w
def keyInt (k : IntKind) : KeyK Int where
  enc := Value.int k
  td := .int k
  same := fun a b => by
    simp only [Instr.sameNow, if_pos rfl]
    congr 1
  bits := fun a => by simp [Instr.sameBits]
  easy := fun P t e a w ht => by
    show (Instr.checkKey e (9999 + 1) t _).run P w = _
    unfold Instr.checkKey
    simp [run_underlying ht, Result.andThen]
section
variable {P : Program} {t : Nat} {n : Nat} {f : List (Nat × Value)} {w : World}
/-- A pair's first value by another term. -/
theorem OV.to {op : Op} {v v' b : Value} (h : OV P n f w op (.tuple #[v, b])) (e : v = v') : OV P n f w op (.tuple #[v', b]) := e ▸ h
end
section
variable {α β : Type} [DecidableEq α]
def lk : List (α × β) → α → Option β
  | [], _ => none
  | p :: l, k => if k = p.1 then some p.2 else lk l k
/-- The first entry of a key, else a new one behind. -/
def upd : List (α × β) → α → β → List (α × β)
  | [], k, v => [(k, v)]
  | p :: l, k, v => if k = p.1 then (k, v) :: l else p :: upd l k v
theorem lk_upd (l : List (α × β)) (k : α) (v : β) (j : α) : lk (upd l k v) j = if j = k then some v else lk l j := by
  induction l with
  | nil => simp [upd, lk]
  | cons p l ih =>
    unfold upd
    by_cases h : k = p.1
    · rw [if_pos h]
      simp only [lk]
      by_cases h2 : j = k
      · rw [if_pos h2, if_pos h2]
      · rw [if_neg h2, if_neg h2, if_neg (fun e => h2 (e.trans h.symm))]
    · rw [if_neg h]
      simp only [lk]
      rw [ih]
      by_cases h2 : j = p.1
      · rw [if_pos h2, if_neg (fun e => h (e.symm.trans h2))]; rw [if_pos h2]
      · rw [if_neg h2]; by_cases h3 : j = k
        · rw [if_pos h3, if_pos h3]
        · rw [if_neg h3, if_neg h3, if_neg h2]
def isMap (K : KeyK α) (E : β → Value) (l : List (α × β)) (es : Array MapEntry) : Prop := es.toList.map (fun e => (e.key, e.val)) = l.map (fun p => (K.enc p.1, E p.2))
/-- That a block is such a map. -/
def MapAt (K : KeyK α) (E : β → Value) (w : World) (g : Nat) (l : List (α × β)) : Prop := ∃ es ck, w.heap[g]? = some (.map es ck) ∧ isMap K E l es
def mapo (K : KeyK α) (E : β → Value) (g : Nat) (l : List (α × β)) : HP where
  p := fun w F => F g ∧ MapAt K E w g l
  mono := fun hF h => ⟨hF _ h.1, h.2⟩
  bound := fun h => ⟨⟨h.1, by obtain ⟨_, es, ck, e, _⟩ := h; exact (Array.getElem?_eq_some_iff.1 e).1⟩, h.2⟩
  move := fun hm h => ⟨h.1, by obtain ⟨h1, es, ck, e, i⟩ := h; exact ⟨es, ck, (hm _ h1).trans e, i⟩⟩
/-- Where a key's first entry is. -/
def ix : List (α × β) → α → Nat → Option (Nat × β)
  | [], _, _ => none
  | p :: l, k, i => if k = p.1 then some (i, p.2) else ix l k (i + 1)
theorem ix_lk (l : List (α × β)) (k : α) : ∀ i, (ix l k i).map (·.2) = lk l k := by
  induction l with
  | nil => intro i; rfl
  | cons p l ih =>
    intro i
    unfold ix lk
    by_cases h : k = p.1
    · rw [if_pos h, if_pos h]; rfl
    · rw [if_neg h, if_neg h]; exact ih _
theorem findNow_ix (K : KeyK α) (E : β → Value) (k : α) : ∀ (l : List (α × β)) (es : List MapEntry) (i : Nat), es.map (fun e => (e.key, e.val)) = l.map (fun p => (K.enc p.1, E p.2)) → Instr.findNow K.td (K.enc k) es i = some ((ix l k i).map (fun p => (p.1, E p.2)))
  | [], es, i, h => by
    cases es with
    | nil => rfl
    | cons e es => simp at h
  | p :: l, es, i, h => by
    cases es with
    | nil => simp at h
    | cons e es =>
      simp only [List.map_cons, List.cons.injEq, Prod.mk.injEq] at h
      obtain ⟨⟨h1, h2⟩, h3⟩ := h
      unfold Instr.findNow ix
      rw [h1, K.same]
      by_cases c : k = p.1
      · rw [if_pos c]
        simp [c, h2]
      · rw [if_neg c]
        simp only [c, decide_false]
        exact findNow_ix K E k l es (i + 1) h3
theorem ix_bound (l : List (α × β)) (k : α) : ∀ i j v, ix l k i = some (j, v) → i ≤ j ∧ j < i + l.length ∧ (l[j - i]?).map (·.1) = some k ∧ upd l k v = l.set (j - i) (k, v) ∧ ∀ u, upd l k u = l.set (j - i) (k, u) := by
  induction l with
  | nil => intro i j v h; cases h
  | cons p l ih =>
    intro i j v h
    unfold ix at h
    by_cases c : k = p.1
    · rw [if_pos c] at h
      injection h with h
      injection h with h1 h2
      subst h1
      refine ⟨Nat.le_refl _, by simp, by simp [c], ?_, fun u => ?_⟩ <;> (unfold upd; rw [if_pos c]; simp)
    · rw [if_neg c] at h
      obtain ⟨a1, a2, a3, a4, a5⟩ := ih _ _ _ h
      have e : j - i = (j - (i + 1)) + 1 := by omega
      refine ⟨by omega, by simp only [List.length_cons]; omega, by rw [e]; simpa using a3, ?_, fun u => ?_⟩ <;> (unfold upd; rw [if_neg c, e, List.set_cons_succ]; first | rw [a4] | rw [a5])
theorem ix_none (l : List (α × β)) (k : α) : ∀ i, ix l k i = none → ∀ u, upd l k u = l ++ [(k, u)] := by
  induction l with
  | nil => intro i _ u; rfl
  | cons p l ih =>
    intro i h u
    unfold ix at h
    by_cases c : k = p.1
    · rw [if_pos c] at h; cases h
    · rw [if_neg c] at h
      unfold upd
      rw [if_neg c, ih _ h]; rfl
theorem isMap_upd {K : KeyK α} {E : β → Value} {l : List (α × β)} {es : Array MapEntry} (h : isMap K E l es) (k : α) (v : β) {i : Nat} {u : β} (hx : ix l k 0 = some (i, u)) : isMap K E (upd l k v) (es.modify i fun e => { e with key := K.enc k, val := E v }) := by
  obtain ⟨_, a2, a3, _, a5⟩ := ix_bound l k 0 i u hx
  rw [a5 v]
  simp only [Nat.sub_zero, Nat.zero_add] at a2 a3 ⊢
  unfold isMap at h ⊢
  have hl : es.toList.length = l.length := by have := congrArg List.length h; simpa using this
  apply List.ext_getElem?
  intro j
  have hj := congrArg (fun z => z[j]?) h
  simp only [List.getElem?_map, Array.getElem?_toList] at hj
  simp only [List.getElem?_map, Array.getElem?_toList, Array.getElem?_modify, List.getElem?_set]
  by_cases e : i = j
  · subst e
    simp only [if_pos trivial, if_pos a2, if_true]
    cases he : es[i]? with
    | none =>
      rw [Array.getElem?_eq_none_iff] at he
      simp at hl
      omega
    | some x => simp
  · simp only [if_neg e]
    exact hj
theorem isMap_push {K : KeyK α} {E : β → Value} {l : List (α × β)} {es : Array MapEntry} (h : isMap K E l es) (k : α) (v : β) (ck : Nat) (hx : ix l k 0 = none) : isMap K E (upd l k v) (es.push { key := K.enc k, val := E v, born := ck }) := by
  rw [ix_none l k 0 hx]
  unfold isMap at h ⊢
  simp [h]
theorem run_findKey {P : Program} {w : World} (K : KeyK α) (E : β → Value) {t : TypeId} {l : List (α × β)} {es : Array MapEntry} (ht : P.underlying t = some K.td) (h : isMap K E l es) (k : α) : (Instr.findKey t (K.enc k) es.toList).run P w = .ok ((ix l k 0).map (fun p => (p.1, E p.2))) w := by
  unfold Instr.findKey
  simp only [Sem.run_bind, run_underlying ht, Result.andThen, findNow_ix K E k l es.toList 0 h, Sem.run_pure]
def lkV (E : β → Value) (z : Value) (l : List (α × β)) (k : α) : Value := match lk l k with
  | some v => E v
  | none => z
variable {P : Program} {n : Nat} {f : List (Nat × Value)} {w : World}
theorem lkH (l : List (α × Hdr)) (k : α) : lkV (fun h_ : Hdr => Value.slice h_.A h_.n h_.c) (.slice none 0 0) l k = .slice ((lk l k).getD ⟨none, 0, 0⟩).A ((lk l k).getD ⟨none, 0, 0⟩).n ((lk l k).getD ⟨none, 0, 0⟩).c := by
  unfold lkV
  cases lk l k <;> rfl
end
section
variable {α β : Type} [DecidableEq α] {P : Program} {ops : Array Oper} {Q : Exit → Act → World → Prop} {n : Nat} {f : List (Nat × Value)} {w w0 : World} {F0 : Nat → Prop} {cs : List HP} {rest : List Oper} {d : Nat} {ty : TypeId} {ps : String} {af : Array Edge} {gd : Option (Nat × Bool)}
theorem wl_makemap {t : Nat} (K : KeyK α) (E : β → Value) (h : St w0 F0 cs w) (hw : gw ops f gd = some true) (hn : Nat.blt d n = true) (k : ∀ g w', St w0 F0 (mapo K E g [] :: cs) w' → WL P ops Q n rest ((d, .map (some g)) :: f) w') : WL P ops Q n (⟨some d, .makeMap t none, ty, ps, af, gd⟩ :: rest) f w :=
  wl_step (.map (some w.heap.size)) (w.alloc (.map #[] 0)) hw hn (fun a fa => by
    simp only [execOp, Option.map, Instr.makeMap, Sem.run_bind, Result.andThen, run_newObj, Sem.run_pure]
    rfl) (k _ _ (st_add h ((Below.refl _ _).alloc (Nat.le_refl _) _) ⟨Nat.le_refl _, #[], 0, by
      show (w.heap.push _)[w.heap.size]? = _
      exact Array.getElem?_push_size, rfl⟩))
theorem mapo_now {i : Nat} {K : KeyK α} {E : β → Value} {g : Nat} {l : List (α × β)} (h : St w0 F0 cs w) (hi : cs[i]? = some (mapo K E g l)) : MapAt K E w g l := by
  obtain ⟨G, _, hg⟩ := st_get h hi
  exact hg.2
theorem run_update {kt et t : Nat} (K : KeyK α) (E : β → Value) {g : Nat} {l : List (α × β)} {es : Array MapEntry} {ck : Nat} (he : w.heap[g]? = some (.map es ck)) (hi : isMap K E l es) (ht : P.underlying t = some (.map kt et)) (hk : P.underlying kt = some K.td) (k : α) (v : β) :
    ∃ es' ck', (Instr.mapUpdate t (.map (some g)) (K.enc k) (E v)).run P w = .ok () { w with heap := w.heap.setIfInBounds g (.map es' ck') } ∧ isMap K E (upd l k v) es' := by
  cases h : ix l k 0 with
  | none =>
    refine ⟨_, ck + 1, ?_, isMap_push hi k v ck h⟩
    simp only [Instr.mapUpdate, Sem.run_bind, run_underlying ht, Result.andThen, MapKept.run_getObj_map he, K.easy P kt _ k w hk, run_findKey K E hk hi, h, Option.map_none]
    exact MapKept.run_setObj_map _ he
  | some p =>
    obtain ⟨i, u⟩ := p
    refine ⟨_, ck, ?_, isMap_upd hi k v h⟩
    obtain ⟨_, a2, a3, _, _⟩ := ix_bound l k 0 i u h
    have hkey : ((es[i]?).map (·.key)).getD (K.enc k) = K.enc k := by
      have hj := congrArg (fun z => z[i]?) hi
      simp only [List.getElem?_map, Array.getElem?_toList] at hj
      simp only [Nat.sub_zero] at a3
      cases hl : l[i]? with
      | none => rw [hl] at a3; cases a3
      | some q =>
        rw [hl] at a3 hj
        injection a3 with a3
        cases hes : es[i]? with
        | none => rfl
        | some x =>
          rw [hes] at hj
          simp only [Option.map_some, Option.some.injEq, Prod.mk.injEq] at hj
          show x.key = _
          rw [hj.1]; exact congrArg K.enc a3
    simp only [Instr.mapUpdate, Sem.run_bind, run_underlying ht, Result.andThen, MapKept.run_getObj_map he, K.easy P kt _ k w hk, run_findKey K E hk hi, h, Option.map_some, hkey, Instr.keyThatStays, K.bits, if_true, Sem.run_pure]
    exact MapKept.run_setObj_map _ he
theorem upd_one (w : World) (g : Nat) (o : Obj) : Upd w { w with heap := w.heap.setIfInBounds g o } (fun k => k = g) :=
  ⟨rfl, rfl, rfl, by simp, fun k hk hn => by
    show (w.heap.setIfInBounds g o)[k]? = _
    exact Array.getElem?_setIfInBounds_ne (fun e => hn e.symm)⟩
theorem wl_mapupdate1 {t kt et : Nat} {x y z : Operand} (i : Nat) (K : KeyK α) (E : β → Value) (g : Nat) (l : List (α × β)) (k : α) (v : β) (h : St w0 F0 cs w) (hi : cs[i]? = some (mapo K E g l)) (hw : gw ops f gd = some true) (hx : ev f x = some (.map (some g))) (hy : ev f y = some (K.enc k)) (hz : ev f z = some (E v)) (ht : P.underlying t = some (.map kt et)) (hk : P.underlying kt = some K.td)
    (kk : ∀ w', St w0 F0 (cs.set i (mapo K E g (upd l k v))) w' → WL P ops Q n rest f w') : WL P ops Q n (⟨none, .mapUpdate t x y z, ty, ps, af, gd⟩ :: rest) f w := by
  obtain ⟨G, g1, ⟨hGg, es, ck, he, hm⟩, g3⟩ := st_upd h hi
  obtain ⟨es', ck', hr, hm'⟩ := run_update K E he hm ht hk k v
  refine wl_unit _ hw (fun a fa => ?_) (kk { w with heap := w.heap.setIfInBounds g (.map es' ck') } (g3 _ _ ?_ ?_))
  · simp [execOp, ev_eval fa hx, ev_eval fa hy, ev_eval fa hz, hr, Result.andThen]
  · have hu := upd_one w g (.map es' ck')
    exact ⟨hu.os, hu.tape, hu.output, hu.size, fun k hk hn => hu.block k hk (fun e => hn (by rw [e]; exact hGg))⟩
  · refine ⟨.inl hGg, es', ck', ?_, hm'⟩
    show (w.heap.setIfInBounds g _)[g]? = _
    rw [Array.getElem?_setIfInBounds_self_of_lt (g1 g hGg)]
end
end Go.Proofs.Ytmlkajmlhmfdgaa.Sx
