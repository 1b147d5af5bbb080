/- Pruned by wip/prune.py. -/
import Derived.Test.YtmlkajmlhmfdgaaQSxMap
import Derived.Test.YtmlkajmlhmfdgaaQSxFlow
import Derived.LaidEqlPtr
namespace Go.Proofs.Ytmlkajmlhmfdgaa.Sx
open Go Go.RowKit Go.Proofs.YtmlkajmlhmfdgaaW.PrintWords
set_option linter.unusedVariables false
set_option linter.unusedSimpArgs false
def pa (o : Option Nat) : Option Addr := o.map fun g => ⟨g, 0, none⟩
theorem pa_none {o : Option Nat} (h : pa o = none) : o = none := by cases o with
  | none => rfl
  | some g => cases h
theorem pa_some {o : Option Nat} (h : ¬ pa o = none) : ∃ g, o = some g := by cases o with
  | none => exact absurd rfl h
  | some g => exact ⟨g, rfl⟩
def up {α : Type} (f : Nat → α) (g : Nat) (v : α) : Nat → α := fun x => if x = g then v else f x
theorem up_self {α : Type} (f : Nat → α) (g : Nat) (v : α) : up f g v g = v := if_pos rfl
theorem up_ne {α : Type} {f : Nat → α} {g x : Nat} {v : α} (h : x ≠ g) : up f g v x = f x := if_neg h
theorem up_val {α : Type} {f : Nat → α} {g x : Nat} {v : α} (h : f x = v) : up f g v x = v := by
  unfold up; split
  · rfl
  · exact h
structure EnK (D : Type) where
  T : Nat
  enc : D → Option Nat → Option Nat → List Value
def EntAt {D : Type} (K : EnK D) (w : World) (g : Nat) (d : D) (l e : Option Nat) : Prop := w.heap[g]? = some (.cells (K.enc d l e).toArray K.T (0, 0))
def ents {D : Type} (K : EnK D) (δ : Nat → Option D) (lt er : Nat → Option Nat) : HP where
  p := fun w F => ∀ g d, δ g = some d → F g ∧ EntAt K w g d (lt g) (er g)
  mono := fun hF h g d e => ⟨hF _ (h g d e).1, (h g d e).2⟩
  bound := fun h g d e => ⟨⟨(h g d e).1, (Array.getElem?_eq_some_iff.1 (h g d e).2).1⟩, (h g d e).2⟩
  move := fun hm h g d e => ⟨(h g d e).1, (hm _ (h g d e).1).trans (h g d e).2⟩
section
variable {D : Type} {K : EnK D} {δ : Nat → Option D} {lt er : Nat → Option Nat} {w0 w : World} {F0 : Nat → Prop} {cs : List HP} {i g : Nat} {d : D} {l e : Option Nat}
theorem ents_now (h : St w0 F0 cs w) (hi : cs[i]? = some (ents K δ lt er)) (hd : δ g = some d) : EntAt K w g d (lt g) (er g) := by
  obtain ⟨G, _, hg⟩ := st_get h hi
  exact (hg g d hd).2
theorem ent_cell (h : EntAt K w g d l e) (j : Nat) : w.cell? ⟨g, j, none⟩ = (K.enc d l e)[j]? := by
  unfold EntAt at h
  simp [World.cell?, h]
theorem ents_at (h : St w0 F0 cs w) (hi : cs[i]? = some (ents K δ lt er)) (hd : δ g = some d) (hl : lt g = l) (he : er g = e) (j : Nat) : w.cell? ⟨g, j, none⟩ = (K.enc d l e)[j]? := by
  subst hl he
  exact ent_cell (ents_now h hi hd) j
theorem ent_obj (h : EntAt K w g d l e) : ∃ c T, w.heap[g]? = some (.cells c T (0, 0)) := ⟨_, _, h⟩
theorem ents_nil (K : EnK D) (lt er : Nat → Option Nat) (h : St w0 F0 cs w) : St w0 F0 (ents K (fun _ => none) lt er :: cs) w := st_free h fun g d e => by cases e
theorem ents_add {b : Nat} {cells : List Value} {T : Nat} (d : D) (l e : Option Nat) (hT : T = K.T) (hc : cells = K.enc d l e) (h : St w0 F0 (blk b cells T :: ents K δ lt er :: cs) w) : δ b = none ∧ St w0 F0 (ents K (up δ b (some d)) (up lt b l) (up er b e) :: cs) w := by
  subst hT hc
  have hd : δ b = none := by
    obtain ⟨_, _, _, _, F, ⟨G, g1, ⟨g2, _⟩, G2, g3, g4, _⟩, _⟩ := h
    cases e : δ b with
    | none => rfl
    | some d' => exact absurd g2 (g3 b (g4 b d' e).1).2
  refine ⟨hd, st_imp (st_star h) ?_⟩
  rintro G ⟨G1, i1, ⟨a1, a2⟩, b2⟩ x d' e'
  by_cases c : x = b
  · subst c
    rw [up_self] at e'
    injection e' with e'
    subst e'
    rw [up_self, up_self]
    exact ⟨i1 _ a1, a2⟩
  · rw [up_ne c] at e'
    rw [up_ne c, up_ne c]
    exact ⟨(b2 x d' e').1.1, (b2 x d' e').2⟩
end
section
variable {D : Type} {K : EnK D} {δ δ' : Nat → Option D} {lt er lt' er' : Nat → Option Nat} {P : Program} {ops : Array Oper} {Q : Exit → Act → World → Prop} {n : Nat} {f : List (Nat × Value)} {w w0 : World} {F0 : Nat → Prop} {cs : List HP} {rest : List Oper} {ty : TypeId} {ps : String} {af : Array Edge} {gd : Option (Nat × Bool)}
theorem wl_storeE {t : Nat} {x y : Operand} (i g off : Nat) (v : Value) (d d' : D) (h : St w0 F0 cs w) (hi : cs[i]? = some (ents K δ lt er)) (hd : δ g = some d) (hw : gw ops f gd = some true) (hx : ev f x = some (.pointer (some ⟨g, off, none⟩))) (hy : ev f y = some v) (hv : v.oneCell' = true) (hz : v.cells = #[v]) (ht : shapeOf P t = some (false, 1))
    (hl : off < (K.enc d (lt g) (er g)).length) (hd' : δ' g = some d') (hc : (K.enc d (lt g) (er g)).set off v = K.enc d' (lt' g) (er' g)) (hr : ∀ x, x ≠ g → δ' x = δ x ∧ lt' x = lt x ∧ er' x = er x)
    (k : ∀ w', St w0 F0 (cs.set i (ents K δ' lt' er')) w' → WL P ops Q n rest f w') : WL P ops Q n (⟨none, .store t x y, ty, ps, af, gd⟩ :: rest) f w := by
  obtain ⟨G, g1, g2, g3⟩ := st_upd h hi
  obtain ⟨hG, he⟩ := g2 g d hd
  have hcell : w.cell? ⟨g, off, none⟩ = some (K.enc d (lt g) (er g))[off] := by rw [ent_cell he, List.getElem?_eq_getElem hl]
  have hfr : w.frozen? ⟨g, off, none⟩ = false := by unfold EntAt at he; simp [World.frozen?, he]
  refine wl_unit (w.setCell ⟨g, off, none⟩ v) hw (fun a fa => ?_) (k _ (g3 _ _ ⟨rfl, rfl, rfl, by simp [World.setCell], fun k hk hn => Below.heap_setCell _ _ _ _ (fun e => hn (by rw [e]; exact hG))⟩ ?_))
  · have e2 : (store ⟨g, off, none⟩ v).run P w = .ok () (w.setCell ⟨g, off, none⟩ v) := by
      rw [run_store P w _ v .plain hv, hcell]
      simp only [hfr, Bool.false_eq_true, if_false]
    have e3 : (storeCells ⟨g, off, none⟩ [v] 0).run P w = .ok () (w.setCell ⟨g, off, none⟩ v) := by
      have ea : (⟨g, off, none⟩ : Addr).add 0 = ⟨g, off, none⟩ := rfl
      simp only [storeCells, Sem.run_bind, ea, e2, Result.andThen]
      rfl
    have h3 : (storeVar t ⟨g, off, none⟩ v).run P w = .ok () (w.setCell ⟨g, off, none⟩ v) := by
      simp only [storeVar, Sem.run_bind, (shape_one (w := w) ht).2, Result.andThen, hz]
      simpa using e3
    simp [execOp, ev_eval fa hx, ev_eval fa hy, Instr.storeAt, Instr.sureAddr, h3, Result.andThen]
  · intro x d1 e1
    by_cases c : x = g
    · subst c
      rw [hd'] at e1
      injection e1 with e1
      subst e1
      refine ⟨.inl hG, ?_⟩
      unfold EntAt at he ⊢
      rw [← hc]
      simp [World.setCell, Array.getElem?_modify, he]
    · obtain ⟨r1, r2, r3⟩ := hr x c
      rw [r1] at e1
      obtain ⟨a1, a2⟩ := g2 x d1 e1
      refine ⟨.inl a1, ?_⟩
      unfold EntAt at a2 ⊢
      rw [r2, r3, ← a2]
      exact Below.heap_setCell _ _ _ _ c
theorem rob_cells {w : World} {g : Nat} {cells : List Value} (h : ∀ j, w.cell? ⟨g, j, none⟩ = cells[j]?) (off : Nat) {vs : List Value} (hv : (cells.drop off).take vs.length = vs) : ∀ j v, vs[j]? = some v → w.cell? ((⟨g, off, none⟩ : Addr).add j) = some v := by
  intro j v hj
  have e : (⟨g, off, none⟩ : Addr).add j = ⟨g, off + j, none⟩ := by
    unfold Addr.add
    split
    · rename_i h0; subst h0; rfl
    · rfl
  have hl : j < vs.length := by
    rcases Nat.lt_or_ge j vs.length with h | h
    · exact h
    · rw [List.getElem?_eq_none h] at hj; cases hj
  rw [e, h]
  rw [← hv, List.getElem?_take, if_pos hl, List.getElem?_drop] at hj
  exact hj
theorem byteAt_bd (s : ByteArray) (k : Nat) : 0 ≤ byteAt s k ∧ byteAt s k ≤ 255 := by unfold byteAt; have := (s.data.toList.getD k 0).toNat_lt; omega
theorem run_equal_ptr {t te sz : Nat} {a b : Nat} {ca cb : Array Value} {ta tb : TypeId} (ht : P.underlying t = some (.pointer te)) (hs : (P.info? te).map (·.size) = some (sz + 1)) (ha : w.heap[a]? = some (.cells ca ta (0, 0))) (hb : w.heap[b]? = some (.cells cb tb (0, 0))) :
    (Op.equal t (.pointer (some ⟨a, 0, none⟩)) (.pointer (some ⟨b, 0, none⟩))).run P w = .ok (decide (a = b)) w := by
  obtain ⟨j, hj, hz⟩ := Option.map_eq_some_iff.1 hs
  have hsz : j.size ≠ 0 := by omega
  have key : ∀ m, (Op.equalIn (m + 1) t (.pointer (some ⟨a, 0, none⟩)) (.pointer (some ⟨b, 0, none⟩))).run P w = .ok (decide (a = b)) w := fun m => by
    by_cases c : a = b
    · subst c
      simp [Op.equalIn, run_underlying ht, sizeOf, typeInfo, hj, hsz, run_sameAddr_same, Result.andThen]
    · have hne : (⟨a, 0, none⟩ : Addr) ≠ ⟨b, 0, none⟩ := fun e => c (by injection e)
      simp [Op.equalIn, run_underlying ht, sizeOf, typeInfo, hj, hsz, run_sameAddr_other w hne ha hb, Result.andThen, c]
  exact key 9999
theorem ov_neptr {t te sz u : Nat} {x y : Operand} (a b : Nat) (hx : ev f x = some (.pointer (some ⟨a, 0, none⟩))) (hy : ev f y = some (.pointer (some ⟨b, 0, none⟩))) (ht : P.underlying t = some (.pointer te)) (hs : (P.info? te).map (·.size) = some (sz + 1)) (ha : ∃ c T, w.heap[a]? = some (.cells c T (0, 0))) (hb : ∃ c T, w.heap[b]? = some (.cells c T (0, 0))) :
    OV P n f w (.binOp .neq t x y u) (.bool (decide (a ≠ b))) := fun ac fa dst ty ps af g => by
  obtain ⟨ca, ta, ha⟩ := ha
  obtain ⟨cb, tb, hb⟩ := hb
  have e : (!decide (a = b)) = decide (a ≠ b) := by rw [Bool.eq_iff_iff]; simp
  simp only [execOp, ev_eval fa hx, ev_eval fa hy, eqGuard, binOp, Sem.run_bind, Sem.run_pure, Bool.not_true, Bool.false_eq_true, if_false, run_equal_ptr ht hs ha hb, Result.andThen, e]
end
def kPtr : Kd Nat := Kd.scalar (fun g => .pointer (some ⟨g, 0, none⟩)) (fun _ => rfl)
theorem flat_ptr : Flat kPtr := fun _ _ _ _ _ _ h => h
theorem kPtr_open {w : World} {x : Nat} {cs : List Value} (h : kPtr.K w x cs) : cs = [.pointer (some ⟨x, 0, none⟩)] := h
theorem kPtr_mkM (w : World) (base : Nat) (ok : Nat → Prop) (x : Nat) : kPtr.M w base ok x [.pointer (some ⟨x, 0, none⟩)] := rfl
def pack (l : List HP) : HP where
  p := fun w F => Sep l w F
  mono := fun hF h => Sep_mono hF h
  bound := fun h => Sep_bound h
  move := fun hm h => Sep_move hm h
open Classical in
theorem sep_append : ∀ (l R : List HP) (w : World) (F : Nat → Prop), Sep (l ++ R) w F → ∃ G, (∀ k, G k → F k) ∧ Sep l w G ∧ Sep R w (fun k => F k ∧ ¬ G k)
  | [], R, w, F, h => ⟨fun _ => False, fun k hk => hk.elim, trivial, Sep_mono (fun k hk => ⟨hk, fun e => e⟩) h⟩
  | a :: l, R, w, F, ⟨G, h1, h2, h3⟩ => by
    obtain ⟨G2, g1, g2, g3⟩ := sep_append l R w _ h3
    refine ⟨fun k => G k ∨ G2 k, fun k hk => hk.elim (h1 k) (fun e => (g1 k e).1), ⟨G, fun k hk => .inl hk, h2, Sep_mono (fun k hk => ⟨.inr hk, (g1 k hk).2⟩) g2⟩, Sep_mono (fun k hk => ⟨hk.1.1, fun e => e.elim hk.1.2 hk.2⟩) g3⟩
theorem st_pack {w0 w : World} {F0 : Nat → Prop} {l R : List HP} (h : St w0 F0 (l ++ R) w) : St w0 F0 (pack l :: R) w := by
  obtain ⟨h1, h2, h3, h4, F, h5, h6, h7, h8⟩ := h
  obtain ⟨G, g1, g2, g3⟩ := sep_append l R w F h5
  exact ⟨h1, h2, h3, h4, F, ⟨G, g1, g2, g3⟩, h6, h7, h8⟩
open Classical in
theorem sep_join : ∀ (l R : List HP) (w : World) (F G : Nat → Prop), (∀ k, G k → F k) → Sep l w G → Sep R w (fun k => F k ∧ ¬ G k) → Sep (l ++ R) w F
  | [], R, w, F, G, _, _, h => Sep_mono (fun k hk => hk.1) h
  | a :: l, R, w, F, G, hGF, ⟨G1, h1, h2, h3⟩, h => by
    refine ⟨G1, fun k hk => hGF k (h1 k hk), h2, sep_join l R w _ (fun k => G k ∧ ¬ G1 k) (fun k hk => ⟨hGF k hk.1, hk.2⟩) h3 (Sep_mono (fun k hk => ⟨⟨hk.1, fun e => hk.2 (h1 k e)⟩, fun e => hk.2 e.1⟩) h)⟩
theorem st_unpack {w0 w : World} {F0 : Nat → Prop} {l R : List HP} (h : St w0 F0 (pack l :: R) w) : St w0 F0 (l ++ R) w := by
  obtain ⟨h1, h2, h3, h4, F, ⟨G, g1, g2, g3⟩, h6, h7, h8⟩ := h
  exact ⟨h1, h2, h3, h4, F, sep_join l R w F G g1 g2 g3, h6, h7, h8⟩
theorem st_pack1 {w0 w : World} {F0 : Nat → Prop} {a : HP} {l R : List HP} (h : St w0 F0 (a :: (l ++ R)) w) : St w0 F0 (a :: pack l :: R) w := by
  obtain ⟨h1, h2, h3, h4, F, ⟨G, g1, g2, g3⟩, h6, h7, h8⟩ := h
  obtain ⟨G2, k1, k2, k3⟩ := sep_append l R w _ g3
  exact ⟨h1, h2, h3, h4, F, ⟨G, g1, g2, G2, k1, k2, k3⟩, h6, h7, h8⟩
theorem st_unpack1 {w0 w : World} {F0 : Nat → Prop} {a : HP} {l R : List HP} (h : St w0 F0 (a :: pack l :: R) w) : St w0 F0 (a :: (l ++ R)) w := by
  obtain ⟨h1, h2, h3, h4, F, ⟨G, g1, g2, G2, k1, k2, k3⟩, h6, h7, h8⟩ := h
  exact ⟨h1, h2, h3, h4, F, ⟨G, g1, g2, sep_join l R w _ G2 k1 k2 k3⟩, h6, h7, h8⟩
theorem front_mid (l R : List HP) (a : HP) : front l.length (l ++ a :: R) = a :: (l ++ R) := by
  induction l with
  | nil => rfl
  | cons x l ih =>
    show (match front l.length (l ++ a :: R) with | [] => [x] | b :: r => b :: x :: r) = _
    rw [ih]; rfl
structure Bk where
  h : Int
  A : Option Addr
  c : Nat
  l : List Nat
def brow (e : Nat) (b : Bk) : HP := row kPtr e b.A b.c b.l
def brows (e : Nat) (B : List Bk) : HP := pack (B.map (brow e))
section
variable {w0 w : World} {F0 : Nat → Prop} {cs : List HP} {i e : Nat} {B : List Bk} {b : Bk}
theorem brows_now (h : St w0 F0 cs w) (hi : cs[i]? = some (brows e B)) (hb : b ∈ B) : b.l.length ≤ b.c ∧ kPtr.C w b.A b.l.length b.l := by
  obtain ⟨G, _, hg⟩ := st_get h hi
  replace hg : Sep (B.map (brow e)) w G := hg
  obtain ⟨j, hj⟩ := List.getElem?_of_mem hb
  obtain ⟨G', _, hr⟩ := Sep_get (i := j) (c := brow e b) hg (by rw [List.getElem?_map, hj]; rfl)
  exact (Kd.R_reads' hr).2
theorem brows_nil (e : Nat) (h : St w0 F0 cs w) : St w0 F0 (brows e [] :: cs) w := st_free h trivial
theorem brows_out (hb : b ∈ B) (h : St w0 F0 (brows e B :: cs) w) : ∃ B', (∀ x, x ∈ B → x = b ∨ x ∈ B') ∧ St w0 F0 (row kPtr e b.A b.c b.l :: brows e B' :: cs) w := by
  obtain ⟨s, t, rfl⟩ := List.append_of_mem hb
  refine ⟨s ++ t, fun x hx => ?_, ?_⟩
  · rcases List.mem_append.1 hx with hx | hx
    · exact .inr (List.mem_append_left _ hx)
    · rcases List.mem_cons.1 hx with rfl | hx
      · exact .inl rfl
      · exact .inr (List.mem_append_right _ hx)
  · have h2 := st_front s.length (st_unpack h)
    rw [List.map_append, List.map_cons, List.append_assoc, List.cons_append] at h2
    have e1 : s.length = (s.map (brow e)).length := by rw [List.length_map]
    rw [e1, front_mid] at h2
    have h3 : St w0 F0 ([brow e b] ++ ((s ++ t).map (brow e) ++ cs)) w := by rw [List.map_append, List.append_assoc]; exact h2
    exact st_pack1 (l := (s ++ t).map (brow e)) h3
theorem brows_in {A : Option Addr} {c : Nat} {l : List Nat} (hh : Int) (h : St w0 F0 (row kPtr e A c l :: brows e B :: cs) w) : St w0 F0 (brows e (⟨hh, A, c, l⟩ :: B) :: cs) w :=
  st_pack (l := (⟨hh, A, c, l⟩ :: B).map (brow e)) (st_unpack1 h)
end
section
variable {α β : Type} [DecidableEq α]
def del : List (α × β) → α → List (α × β)
  | [], _ => []
  | p :: l, k => if k = p.1 then l else p :: del l k
theorem lk_none_of {l : List (α × β)} {k : α} (h : k ∉ l.map (·.1)) : lk l k = none := by
  induction l with
  | nil => rfl
  | cons p l ih =>
    simp only [List.map_cons, List.mem_cons, not_or] at h
    unfold lk
    rw [if_neg h.1, ih h.2]
theorem lk_del {l : List (α × β)} (h : (l.map (·.1)).Nodup) (k j : α) : lk (del l k) j = if j = k then none else lk l j := by
  induction l with
  | nil => simp [del, lk]
  | cons p l ih =>
    simp only [List.map_cons, List.nodup_cons] at h
    unfold del
    by_cases c : k = p.1
    · rw [if_pos c]
      by_cases c2 : j = k
      · rw [if_pos c2, c2, c]
        exact lk_none_of h.1
      · rw [if_neg c2]
        simp only [lk]
        rw [if_neg (fun e => c2 (e.trans c.symm))]
    · rw [if_neg c]
      simp only [lk]
      rw [ih h.2]
      by_cases c2 : j = p.1
      · rw [if_pos c2, if_neg (fun e => c (e.symm.trans c2)), if_pos c2]
      · rw [if_neg c2, if_neg c2]
theorem del_sub (l : List (α × β)) (k : α) : (del l k).Sublist l := by
  induction l with
  | nil => exact List.Sublist.refl _
  | cons p l ih =>
    unfold del
    split
    · exact List.sublist_cons_self _ _
    · exact ih.cons_cons _
theorem del_nodup {l : List (α × β)} (h : (l.map (·.1)).Nodup) (k : α) : ((del l k).map (·.1)).Nodup := List.Nodup.sublist ((del_sub l k).map _) h
theorem upd_keys (l : List (α × β)) (k : α) (v : β) : (upd l k v).map (·.1) = if k ∈ l.map (·.1) then l.map (·.1) else l.map (·.1) ++ [k] := by
  induction l with
  | nil => simp [upd]
  | cons p l ih =>
    unfold upd
    by_cases c : k = p.1
    · rw [if_pos c]; simp [c]
    · rw [if_neg c]
      simp only [List.map_cons, ih, List.mem_cons]
      by_cases c2 : k ∈ l.map (·.1)
      · rw [if_pos c2, if_pos (.inr c2)]
      · rw [if_neg c2, if_neg (fun e => e.elim c c2)]; rfl
theorem upd_nodup {l : List (α × β)} (h : (l.map (·.1)).Nodup) (k : α) (v : β) : ((upd l k v).map (·.1)).Nodup := by
  rw [upd_keys]
  split
  · exact h
  · rename_i c
    rw [List.nodup_append]
    refine ⟨h, by simp, fun a ha b hb e => c ?_⟩
    rw [List.mem_singleton.1 hb] at e
    rw [← e]; exact ha
theorem del_ix (l : List (α × β)) (k : α) : ∀ i j v, ix l k i = some (j, v) → del l k = l.eraseIdx (j - i) := by
  induction l with
  | nil => intro i j v h; cases h
  | cons p l ih =>
    intro i j v h
    unfold ix at h
    unfold del
    by_cases c : k = p.1
    · rw [if_pos c] at h ⊢
      injection h with h
      injection h with h1 h2
      subst h1
      simp
    · rw [if_neg c] at h ⊢
      obtain ⟨a1, _⟩ := ix_bound l k (i + 1) j v h
      rw [ih _ _ _ h, show j - i = (j - (i + 1)) + 1 by omega]
      rfl
theorem del_none (l : List (α × β)) (k : α) : ∀ i, ix l k i = none → del l k = l := by
  induction l with
  | nil => intro i _; rfl
  | cons p l ih =>
    intro i h
    unfold ix at h
    unfold del
    by_cases c : k = p.1
    · rw [if_pos c] at h; cases h
    · rw [if_neg c] at h ⊢
      rw [ih _ h]
theorem map_erase {γ ε : Type} (f : γ → ε) : ∀ (l : List γ) (i : Nat), (l.eraseIdx i).map f = (l.map f).eraseIdx i
  | [], i => by cases i <;> rfl
  | a :: l, 0 => rfl
  | a :: l, i + 1 => by simp [map_erase f l i]
theorem isMap_del {K : KeyK α} {E : β → Value} {l : List (α × β)} {es : Array MapEntry} (h : isMap K E l es) (k : α) {i : Nat} {u : β} (hx : ix l k 0 = some (i, u)) : isMap K E (del l k) (es.eraseIdxIfInBounds i) := by
  rw [del_ix l k 0 i u hx]
  unfold isMap at h ⊢
  rw [Nat.sub_zero]
  have e : (es.eraseIdxIfInBounds i).toList = es.toList.eraseIdx i := by simp
  rw [e, map_erase, h, map_erase]
variable {P : Program} {ops : Array Oper} {Q : Exit → Act → World → Prop} {n : Nat} {f : List (Nat × Value)} {w w0 : World} {F0 : Nat → Prop} {cs : List HP} {rest : List Oper} {ty : TypeId} {ps : String} {af : Array Edge} {gd : Option (Nat × Bool)}
/-- A lookup of the value alone. -/
theorem ov_lookup1 {t kt et : Nat} {x y : Operand} (K : KeyK α) (E : β → Value) (z : Value) (g : Nat) (k : α) (l : List (α × β)) (hx : ev f x = some (.map (some g))) (hy : ev f y = some (K.enc k)) (ht : P.underlying t = some (.map kt et)) (hk : P.underlying kt = some K.td) (hz : zeroOf P et = some z) (hm : MapAt K E w g l) :
    OV P n f w (.lookup t x y false) (lkV E z l k) := fun a fa dst ty ps af gd => by
  obtain ⟨es, ck, he, hi⟩ := hm
  simp only [execOp, ev_eval fa hx, ev_eval fa hy, Instr.lookup, Sem.run_bind, run_underlying ht, Result.andThen, MapKept.run_getObj_map he, Sem.run_pure, K.easy P kt _ k w hk, run_findKey K E hk hi]
  have e := ix_lk l k 0
  cases h : ix l k 0 with
  | none =>
    rw [h] at e
    have e2 : lk l k = none := e.symm
    simp [Result.andThen, run_zeroV hz, lkV, e2]
  | some p =>
    rw [h] at e
    have e2 : lk l k = some p.2 := e.symm
    simp [Result.andThen, lkV, e2]
theorem OV.toV {op : Op} {v v' : Value} (h : OV P n f w op v) (e : v = v') : OV P n f w op v' := e ▸ h
theorem wl_delete {t kt et : Nat} {x y : Operand} (i : Nat) (K : KeyK α) (E : β → Value) (g : Nat) (l : List (α × β)) (k : α) (h : St w0 F0 cs w) (hi : cs[i]? = some (mapo K E g l)) (hw : gw ops f gd = some true) (hx : ev f x = some (.map (some g))) (hy : ev f y = some (K.enc k)) (ht : P.underlying t = some (.map kt et)) (hk : P.underlying kt = some K.td)
    (kk : ∀ w', St w0 F0 (cs.set i (mapo K E g (del l k))) w' → WL P ops Q n rest f w') : WL P ops Q n (⟨none, .call { callee := .builtin .delete, args := #[x, y], argTypes := #[t, kt] }, ty, ps, af, gd⟩ :: rest) f w := by
  obtain ⟨G, g1, ⟨hGg, es, ck, he, hm⟩, g3⟩ := st_upd h hi
  obtain ⟨es', hr, hm'⟩ : ∃ es', (Builtin.delete_ #[t, kt] ty #[.map (some g), K.enc k]).run P w = .ok (.tuple #[]) { w with heap := w.heap.setIfInBounds g (.map es' ck) } ∧ isMap K E (del l k) es' := by
    cases hq : ix l k 0 with
    | none =>
      refine ⟨es, ?_, by rw [del_none l k 0 hq]; exact hm⟩
      simp [Builtin.delete_, run_underlying ht, MapKept.run_getObj_map he, K.easy P kt _ k w hk, run_findKey K E hk hm, hq, MapKept.run_setObj_map _ he, Result.andThen]
    | some p =>
      obtain ⟨j, u⟩ := p
      refine ⟨es.eraseIdxIfInBounds j, ?_, isMap_del hm k hq⟩
      simp [Builtin.delete_, run_underlying ht, MapKept.run_getObj_map he, K.easy P kt _ k w hk, run_findKey K E hk hm, hq, MapKept.run_setObj_map _ he, Result.andThen]
  refine wl_step_none (.tuple #[]) _ hw (fun a fa => ?_) (kk { w with heap := w.heap.setIfInBounds g (.map es' ck) } (g3 _ _ ?_ ?_))
  · simp [execOp, resolve, invoke, builtin, ev_eval fa hx, ev_eval fa hy, hr, Result.andThen]
  · have hu := upd_one w g (.map es' ck)
    exact ⟨hu.os, hu.tape, hu.output, hu.size, fun k hk hn => hu.block k hk (fun e => hn (by rw [e]; exact hGg))⟩
  · refine ⟨.inl hGg, es', ck, ?_, hm'⟩
    show (w.heap.setIfInBounds g _)[g]? = _
    rw [Array.getElem?_setIfInBounds_self_of_lt (g1 g hGg)]
theorem wl_clear {t kt et : Nat} {x : Operand} (i : Nat) (K : KeyK α) (E : β → Value) (g : Nat) (l : List (α × β)) (h : St w0 F0 cs w) (hi : cs[i]? = some (mapo K E g l)) (hw : gw ops f gd = some true) (hx : ev f x = some (.map (some g))) (ht : P.underlying t = some (.map kt et))
    (kk : ∀ w', St w0 F0 (cs.set i (mapo K E g [])) w' → WL P ops Q n rest f w') : WL P ops Q n (⟨none, .call { callee := .builtin .clear, args := #[x], argTypes := #[t] }, ty, ps, af, gd⟩ :: rest) f w := by
  obtain ⟨G, g1, ⟨hGg, es, ck, he, hm⟩, g3⟩ := st_upd h hi
  have hr : (Builtin.clear_ #[t] ty #[.map (some g)]).run P w = .ok (.tuple #[]) { w with heap := w.heap.setIfInBounds g (.map #[] ck) } := by
    simp [Builtin.clear_, run_underlying ht, MapKept.run_getObj_map he, MapKept.run_setObj_map _ he, Result.andThen]
  refine wl_step_none (.tuple #[]) _ hw (fun a fa => ?_) (kk { w with heap := w.heap.setIfInBounds g (.map #[] ck) } (g3 _ _ ?_ ?_))
  · simp [execOp, resolve, invoke, builtin, ev_eval fa hx, hr, Result.andThen]
  · have hu := upd_one w g (.map #[] ck)
    exact ⟨hu.os, hu.tape, hu.output, hu.size, fun k hk hn => hu.block k hk (fun e => hn (by rw [e]; exact hGg))⟩
  · refine ⟨.inl hGg, #[], ck, ?_, rfl⟩
    show (w.heap.setIfInBounds g _)[g]? = _
    rw [Array.getElem?_setIfInBounds_self_of_lt (g1 g hGg)]
end
end Go.Proofs.Ytmlkajmlhmfdgaa.Sx
