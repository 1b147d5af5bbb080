/- Pruned by wip/prune.py. -/
import Derived.Test.YtmlkajmlhmfdgaaQSxMem
namespace Go.Proofs.Ytmlkajmlhmfdgaa.Sx
open Go Go.RowKit Go.Proofs.YtmlkajmlhmfdgaaW.PrintWords
set_option linter.unusedVariables false
set_option linter.unusedSimpArgs false
/-- What is read may stand as made: the kind has no rows inside. -/
def Flat {α : Type} (d : Kd α) : Prop := ∀ w0 w b ok x cs, d.K w0 x cs → d.M w b ok x cs
theorem flat_int (k : IntKind) : Flat (Kd.int k) := fun _ _ _ _ _ _ h => h
theorem flat_string : Flat Kd.string := fun _ _ _ _ _ _ h => h
theorem flat_pair {α β : Type} {d : Kd α} {d' : Kd β} (h : Flat d) (h' : Flat d') : Flat (Kd.pair d d') := fun w0 w b ok x cs ⟨c0, c1, e, h0, h1⟩ => ⟨c0, c1, e, h _ _ _ _ _ _ h0, h' _ _ _ _ _ _ h1⟩
theorem flat_iso {α β : Type} {d : Kd α} (g : β → α) (h : Flat d) : Flat (Kd.iso d g) := fun w0 w b ok x cs hk => h _ _ _ _ _ _ hk
section
variable {P : Program} {ops : Array Oper} {Q : Exit → Act → World → Prop} {n : Nat} {f : List (Nat × Value)} {w w0 : World} {F0 : Nat → Prop} {cs : List HP} {rest : List Oper} {dn : Nat} {ty : TypeId} {ps : String} {af : Array Edge} {g : Option (Nat × Bool)} {α : Type}
theorem wl_of_step {d : Nat} {op : Op} (hw : gw ops f g = some true)
    (h : ∀ a, Fr n f a → Region.wanted (⟨some d, op, ty, ps, af, g⟩ : Oper) (yielded ops a.tmps) = true → ∀ K : Act → World → Prop, (∀ a w, wpList P ops Q rest a w → K a w) →
      if Region.wanted (⟨some d, op, ty, ps, af, g⟩ : Oper) (yielded ops a.tmps) = true then Oper.wp P (⟨some d, op, ty, ps, af, g⟩ : Oper) a w K Q else K (a.put (some d) undef) w) : WL P ops Q n (⟨some d, op, ty, ps, af, g⟩ :: rest) f w :=
  wl_op hw fun a fa K hK => by
    have hwt := gw_wanted fa (o := (⟨some d, op, ty, ps, af, g⟩ : Oper)) hw
    have := h a fa hwt K hK
    rwa [if_pos hwt] at this
/-- append(s, x...) -/
theorem wl_append {d : Kd α} (i : Nat) {e t : Nat} {A : Option Addr} {c : Nat} {L : List α} {s x : Operand} (z : Value) (bytes : Nat) (A2 : Option Addr) (m c2 : Nat) (ys : List α) (fl : Flat d) (h : St w0 F0 cs w) (hi : cs[i]? = some (row d e A c L)) (hw : gw ops f g = some true) (hn : Nat.blt dn n = true)
    {nL : Nat} (hs : ev f s = some (.slice A nL c)) (hx : ev f x = some (.slice A2 m c2)) (hC : d.C w A2 m ys) (ht : P.underlying t = some (.slice e)) (hinfo : (P.info? e).map (fun i => (i.zero, i.size, i.bytes)) = some (some z, d.sz, bytes)) (hz : z.cells.size = d.sz) (hs0 : 0 < d.sz) (hb0 : 0 < bytes)
    (hl : (L.length + m) * bytes ≤ 140737488355328) (hnL : nL = L.length) (k : ∀ A' c' w', St w0 F0 (cs.set i (row d e A' c' (L ++ ys))) w' → WL P ops Q n rest ((dn, .slice A' (L ++ ys).length c') :: f) w') :
    WL P ops Q n (⟨some dn, .call { callee := .builtin .append, args := #[s, x], argTypes := #[t, t] }, ty, ps, af, g⟩ :: rest) f w := by
  subst hnL
  obtain ⟨G, g1, g2, g3⟩ := st_upd h hi
  refine wl_of_step hw fun a fa hwt K hK => ?_
  refine Kd.R_append_rows_step d (Rr := d.K w) (w0 := w) 0 hwt s x t e z bytes rfl ht hinfo hz hs0 hb0 (.slice A L.length c) L ys A2 m c2 (fun k => G k ∨ w.heap.size ≤ k) (fun _ => False) (ev_eval fa hs) (ev_eval fa hx) (Kd.R_mono g2 fun k hk => .inl hk) hC
    (fun p cs hp => fl _ _ _ _ _ _ hp) (fun _ hk => hk.elim) (fun k hk => .inr hk) (Below.refl _ _) (Nat.zero_le _) hl ?_
  intro v1 w1 hR hB hG hat
  obtain ⟨A', c', rfl⟩ := Kd.R_slice hR
  refine hK _ _ (k A' c' w1 (g3 _ _ ⟨hG.os, hG.tape, hG.output, hG.size, fun k hk hn => hG.block k hk (fun e => hn ?_)⟩ hR) _ (fa.put (by simpa [Nat.blt_eq] using hn) _))
  exact g2.1 k e.symm
/-- []T{..}, and the literal ahead of an append -/
theorem wl_lit {d : Kd α} {e t len : Nat} {parts : Array (Nat × Operand)} (vs : List (Nat × Value)) (z : Value) (cells : List Value) (xs : List α) (h : St w0 F0 cs w) (hw : gw ops f g = some true) (hn : Nat.blt dn n = true) (hargs : evs f (parts.toList.map (·.2)) = some (vs.map (·.2))) (hidx : parts.toList.map (·.1) = vs.map (·.1))
    (ht : P.underlying t = some (.slice e)) (hinfo : (P.info? e).map (fun i => (i.zero, i.size)) = some (some z, d.sz)) (hsmall : Nat.ble (len * d.sz) (2 ^ 24) = true) (hz : 0 < d.sz)
    (hfill : Instr.fill (fun i => some (i * d.sz, d.sz)) ((Array.range (len * d.sz)).map (z.cells[· % z.cells.size]!)) vs = some cells.toArray) (hlen : xs.length = len) (hM : ∀ w b ok, Reps (d.M w b ok) d.sz xs cells)
    (k : ∀ A c w', St w0 F0 (row d e A c xs :: cs) w' → WL P ops Q n rest ((dn, .slice A xs.length c) :: f) w') : WL P ops Q n (⟨some dn, .buildSlice t len parts, ty, ps, af, g⟩ :: rest) f w := by
  subst hlen
  obtain ⟨inf, hinf, hzz⟩ := Option.map_eq_some_iff.1 hinfo
  simp only [Prod.mk.injEq] at hzz
  obtain ⟨hz0, hz1⟩ := hzz
  refine wl_of_step hw fun a fa hwt K hK => ?_
  refine Kd.R_lit_step d (w0 := w) 0 e hwt (N := dn) rfl (xs := xs) (inner := cells) (ok := fun k => w.heap.size ≤ k) (okp := fun _ => False) ?_ (hM _ _ _) (fun _ hk => hk.elim) (Nat.le_refl _) (Below.refl _ _) (Nat.zero_le _) ?_ ?_
  · have e1 : (parts.map fun (p : Nat × Operand) => (p.1, a.eval p.2)).toList = vs := by
      rw [Array.toList_map]
      have e2 := evs_eval fa hargs
      apply List.ext_getElem?
      intro j
      have h1 := congrArg (·[j]?) e2
      have h2 := congrArg (·[j]?) hidx
      simp only [List.getElem?_map] at h1 h2 ⊢
      cases hp : parts.toList[j]? with
      | none => rw [hp] at h2; cases hv : vs[j]? with
        | none => rfl
        | some q => rw [hv] at h2; simp at h2
      | some q =>
        rw [hp] at h1 h2
        cases hv : vs[j]? with
        | none => rw [hv] at h2; simp at h2
        | some r =>
          rw [hv] at h1 h2
          simp only [Option.map_some, Option.some.injEq] at h1 h2 ⊢
          rw [h1, h2]
    have hsm : ¬ (xs.length * d.sz > 2 ^ 24) := by have := Nat.le_of_ble_eq_true hsmall; omega
    have hsz : (sizeOf e).run P w = .ok d.sz w := by rw [run_sizeOf hinf, hz1]
    have hzv : (zeroValue e).run P w = .ok z w := run_zeroV (by unfold zeroOf; rw [hinf]; exact hz0)
    have hfe : Instr.fill (fun i => some (i * d.sz, d.sz)) ((Array.range (xs.length * d.sz)).map (z.cells[· % z.cells.size]!)) (parts.map fun (p : Nat × Operand) => (p.1, a.eval p.2)).toList = some cells.toArray := by rw [e1]; exact hfill
    simp only [execOp, Instr.buildSlice, Sem.run_bind, run_underlying ht, Result.andThen, hsz, if_neg hsm, Sem.run_pure]
    by_cases h0 : xs.length * d.sz = 0
    · rw [if_pos h0]
      have e3 : (Array.range (xs.length * d.sz)).map ((#[] : Array Value)[· % (#[] : Array Value).size]!) = (Array.range (xs.length * d.sz)).map (z.cells[· % z.cells.size]!) := by
        rw [h0]; simp
      simp only [Sem.run_pure, Result.andThen, e3, hfe, newRow, Sem.run_bind, run_newObj]
      rfl
    · rw [if_neg h0]
      simp only [Sem.run_bind, hzv, Sem.run_pure, Result.andThen, hfe, newRow, run_newObj]
      rfl
  · have h1 := Nat.le_of_ble_eq_true hsmall
    have h2 : xs.length ≤ xs.length * d.sz := Nat.le_mul_of_pos_right _ hz
    omega
  · intro v1 w1 hR hB hG hat
    obtain ⟨A, c, rfl⟩ := Kd.R_slice hR
    refine hK _ _ (k A c w1 (st_add h ⟨hG.os, hG.tape, hG.output, hG.size, fun k hk => hG.block k hk (by simp)⟩ hR) _ (fa.put (by simpa [Nat.blt_eq] using hn) _))
/-- xs[i].f = v; xs[i] = v -/
theorem wl_storee {d : Kd α} {t : Nat} {x y : Operand} (i : Nat) {e : Nat} {ad0 ad : Addr} {c : Nat} {L : List α} (ix : Int) (j : Nat) (v : Value) (seg : List Value) (z x' : α) (h : St w0 F0 cs w) (hi : cs[i]? = some (row d e (some ad0) c L)) (hw : gw ops f g = some true)
    (hx : ev f x = some (.pointer (some ad))) (had : ad = ad0.add (ix.toNat * d.sz + j)) (hy : ev f y = some v) (hv : v.cells.toList = seg) (h1v : ∀ q ∈ seg, q.oneCell' = true) (ht : (P.info? t).map (·.size) = some seg.length) (h0 : 0 ≤ ix) (h1 : ix < L.length)
    (hj : j + seg.length ≤ d.sz) (hM : ∀ cs, cs.length = d.sz → (∃ w b ok, d.M w b ok (L.getD ix.toNat z) cs) → ∀ w b ok, d.M w b ok x' (cs.take j ++ seg ++ cs.drop (j + seg.length)))
    (k : ∀ w', St w0 F0 (cs.set i (row d e (some ad0) c (L.set ix.toNat x'))) w' → WL P ops Q n rest f w') : WL P ops Q n (⟨none, .store t x y, ty, ps, af, g⟩ :: rest) f w := by
  obtain ⟨G, g1, g2, g3⟩ := st_upd h hi
  have hpos : 0 < L.length := by omega
  obtain ⟨gb, cap, e1, _, hlt, cells, hcells⟩ := Kd.R_form g2 hpos
  injection e1 with e2 _ e3
  injection e2 with e2
  subst e2; subst e3
  obtain ⟨cl, hcl, hcM, hcc, hfr⟩ := Kd.R_elem g2 z ix h0 h1
  obtain ⟨hR, hG⟩ := Kd.R_seg g2 ix h0 h1 hcl hcc hj (okp := fun _ => False) (hM cl hcl ⟨_, _, _, hcM⟩ _ _ _) (fun _ hk => hk.elim)
  have hst := g3 (row d e (some ⟨gb, 0, none⟩) c (L.set ix.toNat x')) (w.setCells gb (ix.toNat * d.sz + j) seg) ⟨hG.os, hG.tape, hG.output, hG.size, fun q hk hn => hG.block q hk (fun e => hn (by injection e with e; rw [e]; exact g2.1 _ rfl))⟩ (by
    show d.R e _ 0 _ (.slice _ (L.set ix.toNat x').length c) _
    rw [List.length_set]
    exact Kd.R_mono hR fun k hk => .inl hk)
  refine wl_unit _ hw (fun a fa => ?_) (k _ hst)
  have had' : ad = ⟨gb, ix.toNat * d.sz + j, none⟩ := by rw [had]; exact add_plain _ _
  have hrun : (Instr.storeAt t (.pointer (some ad)) v).run P w = .ok () (w.setCells gb (ix.toNat * d.sz + j) seg) := by
    rw [had']
    obtain ⟨_, inner, hown, hr⟩ := g2
    rcases hown.2 with ⟨hv', _⟩ | ⟨g', cap', cur, hv', hb, hh, hnc, hcm, hcs, _⟩
    · cases hv'
    injection hv' with ha _ hc
    injection ha with ha
    injection ha with hg'
    subst hg'; subst hc
    refine run_store_run t v seg hh hv ht ?_ h1v
    have h2 : ix.toNat * d.sz + d.sz ≤ L.length * d.sz := by rw [← Nat.succ_mul]; exact Nat.mul_le_mul_right _ (by omega)
    have h3 : L.length * d.sz ≤ c * d.sz := Nat.mul_le_mul_right _ (by omega)
    omega
  simp [execOp, ev_eval fa hx, ev_eval fa hy, hrun, Result.andThen]
theorem C_some {d : Kd α} {A : Option Addr} {m : Nat} {xs : List α} (h : d.C w A m xs) {k : Nat} (hk : k < xs.length) : ∃ ad, A = some ad := by
  obtain ⟨h1, _, h3⟩ := h
  obtain ⟨ad, e, _⟩ := h3 (by omega)
  exact ⟨ad, e⟩
theorem C_cells {d : Kd α} {ad : Addr} {m : Nat} {xs : List α} (h : d.C w (some ad) m xs) {z : α} {k : Nat} (hk : k < xs.length) : ∃ cl, cl.length = d.sz ∧ d.K w (xs.getD k z) cl ∧ ∀ j u, cl[j]? = some u → w.cell? (ad.add (k * d.sz + j)) = some u := by
  obtain ⟨h1, _, h3⟩ := h
  obtain ⟨ad', e, hc⟩ := h3 (by omega)
  injection e with e
  subst e
  have e2 : xs.getD k z = xs[k] := by simp [List.getD, hk]
  rw [e2]
  exact hc k _ (List.getElem?_eq_getElem hk)
theorem ov_indexAddrN {t : Nat} {x i : Operand} (ad : Addr) (len cap e sz : Nat) (k : Nat) {kd : IntKind} {ix : Int} (hx : ev f x = some (.slice (some ad) len cap)) (hi : ev f i = some (.int kd ix)) (ht : elemSz P t = some (e, sz)) (hk : ix = (k : Int)) (hlt : k < len) : OV P n f w (.indexAddr t x i) (.pointer (some (ad.add (k * sz)))) := by
  subst hk
  exact ov_indexAddr ad (ad.add (k * sz)) len cap e sz kd k hx hi ht (by omega) (by omega) (by rw [Int.toNat_natCast])
theorem wl_storeeN {d : Kd α} {t : Nat} {x y : Operand} (i : Nat) {e : Nat} {ad0 ad : Addr} {c : Nat} {L : List α} (kx : Nat) (j : Nat) (v : Value) (seg : List Value) (z x' : α) (h : St w0 F0 cs w) (hi : cs[i]? = some (row d e (some ad0) c L)) (hw : gw ops f g = some true)
    (hx : ev f x = some (.pointer (some ad))) (had : ad = ad0.add (kx * d.sz + j)) (hy : ev f y = some v) (hv : v.cells.toList = seg) (h1v : ∀ q ∈ seg, q.oneCell' = true) (ht : (P.info? t).map (·.size) = some seg.length) (hlt : kx < L.length)
    (hj : j + seg.length ≤ d.sz) (hM : ∀ cs, cs.length = d.sz → (∃ w b ok, d.M w b ok (L.getD kx z) cs) → ∀ w b ok, d.M w b ok x' (cs.take j ++ seg ++ cs.drop (j + seg.length)))
    (k : ∀ w', St w0 F0 (cs.set i (row d e (some ad0) c (L.set kx x'))) w' → WL P ops Q n rest f w') : WL P ops Q n (⟨none, .store t x y, ty, ps, af, g⟩ :: rest) f w :=
  wl_storee i (kx : Int) j v seg z x' h hi hw hx (by rw [Int.toNat_natCast]; exact had) hy hv h1v ht (by omega) (by omega) hj (by rw [Int.toNat_natCast]; exact hM) (by rw [Int.toNat_natCast]; exact k)
theorem ov_build {t : Nat} {parts : Array (Nat × Operand)} (vs : List (Nat × Value)) (cells : List Value) (hargs : evs f (parts.toList.map (·.2)) = some (vs.map (·.2))) (hidx : parts.toList.map (·.1) = vs.map (·.1))
    (hb : P.built t vs = some cells.toArray) : OV P n f w (.build t parts) (.agg cells.toArray) := fun a fa dst ty ps af g => by
    have e1 : (parts.map fun (p : Nat × Operand) => (p.1, a.eval p.2)).toList = vs := by
      rw [Array.toList_map]
      have e2 := evs_eval fa hargs
      apply List.ext_getElem?
      intro j
      have h1 := congrArg (·[j]?) e2
      have h2 := congrArg (·[j]?) hidx
      simp only [List.getElem?_map] at h1 h2 ⊢
      cases hp : parts.toList[j]? with
      | none => rw [hp] at h2; cases hv : vs[j]? with
        | none => rfl
        | some q => rw [hv] at h2; simp at h2
      | some q =>
        rw [hp] at h1 h2
        cases hv : vs[j]? with
        | none => rw [hv] at h2; simp at h2
        | some r =>
          rw [hv] at h1 h2
          simp only [Option.map_some, Option.some.injEq] at h1 h2 ⊢
          rw [h1, h2]
    have := run_build (P := P) w t (parts.map fun (p : Nat × Operand) => (p.1, a.eval p.2)) cells.toArray (by rw [e1]; exact hb)
    simp only [execOp, Sem.run_bind, this, Result.andThen, Sem.run_pure]
end
end Go.Proofs.Ytmlkajmlhmfdgaa.Sx
