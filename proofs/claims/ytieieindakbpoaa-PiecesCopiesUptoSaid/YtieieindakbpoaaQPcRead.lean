/- Pruned by wip/prune.py. -/
import Derived.Test.YtieieindakbpoaaQPcWalk
import Derived.Test.YtieieindakbpoaaQSxView
namespace Go.Proofs.Ytieieindakbpoaa.Pc
open Go Go.Lib Go.RowKit Go.Proofs.YtieieindakbpoaaW.PrintWords Go.Proofs.Ytieieindakbpoaa.Kinds Go.Proofs.Ytieieindakbpoaa.Given Go.Proofs.Ytieieindakbpoaa.Rn Go.Proofs.Ytieieindakbpoaa.Sx AT
set_option linter.unusedVariables false
set_option linter.unusedSimpArgs false
/-- What holds whatever else there is. -/
abbrev En (w0 : World) (F0 : Nat → Prop) (R : List HP) (φ : World → Prop) : Prop := ∀ cs w, St w0 F0 (cs ++ R) w → φ w
section
variable {w0 w : World} {F0 : Nat → Prop} {R cs : List HP} {φ Φ Ψ : World → Prop} {e c : Nat} {A : Option Addr} {L : List Int} {i j : Nat}
theorem en_shift {cs2 : List HP} (h : En w0 F0 R φ) : En w0 F0 (cs2 ++ R) φ := fun cs w hst => h (cs ++ cs2) w (by rw [List.append_assoc]; exact hst)
theorem en_lib (hd : ∀ W, Ψ W → Φ W) (h : ∀ cs w, Φ w → St w0 F0 (cs ++ R) w → φ w) : En w0 F0 ([lib Ψ] ++ R) φ := fun cs w hst =>
  h (cs ++ [lib Ψ]) w (hd w (lib_now (i := cs.length) hst (by simp))) (by rw [List.append_assoc]; exact hst)
def rowl (Φ : World → Prop) (e : Nat) (A : Option Addr) (c : Nat) (L : List Int) : HP := HP.ex fun b : Bool => cond b (row (Kd.int .u8) e A c L) (HP.pure (c = L.length ∧ ∀ W, Φ W → (Kd.int .u8).C W A L.length L))
theorem row_rowl (h : St w0 F0 (row (Kd.int .u8) e A c L :: cs) w) : St w0 F0 (rowl Φ e A c L :: cs) w := st_ex true h
theorem full_rowl (hc : c = L.length) (hC : ∀ W, Φ W → (Kd.int .u8).C W A L.length L) (h : St w0 F0 cs w) : St w0 F0 (rowl Φ e A c L :: cs) w := st_ex false (st_free h ⟨hc, hC⟩)
theorem rowl_cases (h : St w0 F0 (rowl Φ e A c L :: cs) w) : St w0 F0 (row (Kd.int .u8) e A c L :: cs) w ∨ (c = L.length ∧ (∀ W, Φ W → (Kd.int .u8).C W A L.length L) ∧ St w0 F0 cs w) := by
  obtain ⟨b, h⟩ := st_unex h
  cases b with
  | true => exact .inl h
  | false => obtain ⟨⟨h1, h2⟩, h3⟩ := st_pure h; exact .inr ⟨h1, h2, h3⟩
theorem rowl_weak (hs : ∀ W, Ψ W → Φ W) (h : St w0 F0 (rowl Φ e A c L :: cs) w) : St w0 F0 (rowl Ψ e A c L :: cs) w := by
  rcases rowl_cases h with h | ⟨h1, h2, h3⟩
  · exact row_rowl h
  · exact full_rowl h1 (fun W hW => h2 W (hs W hW)) h3
theorem rowl_get (h : St w0 F0 cs w) (hi : cs[i]? = some (rowl Φ e A c L)) : L.length ≤ c ∧ (Φ w → (Kd.int .u8).C w A L.length L) := by
  obtain ⟨G, _, b, hg⟩ := st_get h hi
  cases b with
  | true => have := Kd.R_reads' hg; exact ⟨this.2.1, fun _ => this.2.2⟩
  | false => exact ⟨Nat.le_of_eq hg.1.symm, fun hΦ => hg.2 w hΦ⟩
theorem ft_cell {w : World} {F : Nat → Prop} {a : Addr} {v : Value} (h : Ft φ w F) (hg : ∀ W, φ W → W.cell? a = some v) : F a.block := by
  refine Classical.byContradiction fun hn => ?_
  have h1 := hg w (h w fun _ _ _ => rfl)
  have hl : a.block < w.heap.size := by
    refine Classical.byContradiction fun hn => ?_
    unfold World.cell? at h1
    rw [Array.getElem?_eq_none (by omega)] at h1
    simp at h1
  have h2 := hg (w.putObj a.block (.deferred none)) (h _ fun k hk _ => World.putObj_heap_other (fun e => hn (e ▸ hk)))
  unfold World.cell? at h2
  rw [World.putObj_heap_same hl] at h2
  simp at h2
theorem en_blk {T : Nat} {g : Nat} {cells : List Value} (hi : R[i]? = some (blk g cells T)) : En w0 F0 R (fun w => ∀ j, w.cell? ⟨g, j, none⟩ = cells[j]?) := fun cs w h j => blk_cell h (i := cs.length + i) (by rw [List.getElem?_append_right (by omega)]; simpa using hi) j
theorem en_rowl (hi : R[i]? = some (rowl Φ e A c L)) (hj : R[j]? = some (lib Ψ)) (hs : ∀ W, Ψ W → Φ W) : En w0 F0 R (fun w => (Kd.int .u8).C w A L.length L) := fun cs w h =>
  (rowl_get h (i := cs.length + i) (by rw [List.getElem?_append_right (by omega)]; simpa using hi)).2 (hs w (lib_now (i := cs.length + j) h (by rw [List.getElem?_append_right (by omega)]; simpa using hj)))
theorem en_at {T : AT} (hj : R[j]? = some (lib Ψ)) (hT : ∀ W, Ψ W → At W T) : En w0 F0 R (fun w => At w T) := fun cs w h => hT w (lib_now (i := cs.length + j) h (by rw [List.getElem?_append_right (by omega)]; simpa using hj))
theorem rowl_below (hi : R[i]? = some (rowl Φ e A c L)) : ∀ cs w, Φ w → St w0 F0 (cs ++ R) w → (Kd.int .u8).C w A L.length L := fun cs w hΦ h =>
  (rowl_get h (i := cs.length + i) (by rw [List.getElem?_append_right (by omega)]; simpa using hi)).2 hΦ
theorem stab_cell {gs : Gs} {vs : List (List Value)} {rest : List HP} (h : St w0 F0 (pcs gs vs ++ rest) w) (hl : vs.length = gs.length) (hi : rest[i]? = some (lib φ)) {a : Addr} {v : Value} (hg : ∀ W, φ W → W.cell? a = some v) : ∀ W', KC gs w W' → W'.cell? a = some v := by
  obtain ⟨h1, h2, h3, h4, F, h5, h6, h7, h8⟩ := h
  obtain ⟨s1, s2, s3, s4⟩ := sep_split hl h5
  obtain ⟨G, g1, g2⟩ := Sep_get s4 hi
  intro W' hk
  have hG := ft_cell g2 hg
  have hw := hg w (g2 w fun _ _ _ => rfl)
  have hb : a.block < w.heap.size := by
    refine Classical.byContradiction fun hn => ?_
    unfold World.cell? at hw
    rw [Array.getElem?_eq_none (by omega)] at hw
    simp at hw
  have ho : w.heap[a.block]? = some (w.heap[a.block]'hb) := Array.getElem?_eq_getElem hb
  have hc : (w.heap[a.block]'hb).isCells = true := by
    unfold World.cell? at hw
    rw [ho] at hw
    cases hx : (w.heap[a.block]'hb) <;> rw [hx] at hw <;> first | rfl | simp at hw
  have := hk.2 a.block _ (g1 _ hG).2 ho hc
  unfold World.cell? at hw ⊢
  rw [this]
  rw [ho] at hw
  exact hw
theorem stab_lC {gs : Gs} {vs : List (List Value)} {rest : List HP} (h : St w0 F0 (pcs gs vs ++ rest) w) (hl : vs.length = gs.length) (hi : rest[i]? = some (lib φ)) (hC : ∀ W, φ W → (Kd.int .u8).C W A L.length L) : ∀ W', KC gs w W' → (Kd.int .u8).C W' A L.length L := by
  have hw : φ w := by
    obtain ⟨G, _, g⟩ := st_get (i := (pcs gs vs).length + i) h (by rw [List.getElem?_append_right (by omega)]; simpa using hi)
    exact g w fun _ _ _ => rfl
  intro W' hk
  obtain ⟨c1, c2, c3⟩ := hC w hw
  refine ⟨c1, c2, fun h0 => ?_⟩
  obtain ⟨ad, e1, hc⟩ := c3 h0
  refine ⟨ad, e1, fun q p hq => ?_⟩
  obtain ⟨cl, k1, k2, k3⟩ := hc q p hq
  refine ⟨cl, k1, k2, fun r u hu => stab_cell h hl hi (fun W hW => ?_) W' hk⟩
  obtain ⟨d1, d2, d3⟩ := hC W hW
  obtain ⟨ad2, e2, hc2⟩ := d3 h0
  rw [e1] at e2
  injection e2 with e2
  subst e2
  obtain ⟨cl2, l1, l2, l3⟩ := hc2 q p hq
  have : cl2 = cl := by rw [show cl2 = [_] from l2, show cl = [_] from k2]
  subst this
  exact l3 r u hu
theorem stab_rowl {gs : Gs} {vs : List (List Value)} {rest : List HP} (h : St w0 F0 (pcs gs vs ++ rest) w) (hl : vs.length = gs.length) (hi : rest[i]? = some (rowl Φ e A c L)) (hj : rest[j]? = some (lib Ψ)) (hs : ∀ W, Ψ W → Φ W) : L.length ≤ c ∧ ∀ W', KC gs w W' → (Kd.int .u8).C W' A L.length L := by
  obtain ⟨h1, h2, h3, h4, F, h5, h6, h7, h8⟩ := id h
  obtain ⟨s1, s2, s3, s4⟩ := sep_split hl h5
  obtain ⟨G, g1, b, g2⟩ := Sep_get s4 hi
  cases b with
  | true =>
    have hr := Kd.R_reads' (show (Kd.int .u8).R e w 0 G (.slice A L.length c) L from g2)
    refine ⟨hr.2.1, fun W' hk => ?_⟩
    have hm := isC_row (Kd.int .u8) e A c L w G g2
    have := (row (Kd.int .u8) e A c L).move (w1 := W') (fun k hk2 => by
      obtain ⟨hG, o, ho, hoc⟩ := hk2
      rw [hk.2 k o (g1 k hG).2 ho hoc, ho]) hm
    exact (Kd.R_reads' this).2.2
  | false => exact ⟨Nat.le_of_eq g2.1.symm, stab_lC h hl hj fun W hW => g2.2 W (hs W hW)⟩
end
theorem ht_of_sz {T : AT} (h : 0 < szF (fl T)) : 0 < ht T := by
  cases T with
  | nil => simp [fl, szF] at h
  | nd g l p r => have h1 := ht_nonneg l; have h2 := ht_nonneg r; simp only [ht]; omega
theorem bt_sn {M : List Int} (h : ∀ x ∈ M, 0 ≤ x ∧ x < 256) {j : Nat} (hj : j < M.length) : bt (strOfNums M) j = M.getD j 0 := by
  have hs : (j : Int).toNat < (strOfNums M).data.size := by have := sn_size M; show _ < (strOfNums M).size; omega
  unfold bt
  rw [dif_pos (by simpa using hs)]
  have h1 := h M[j] (List.getElem_mem hj)
  have e : (strOfNums M).data[(j : Int).toNat]'hs = UInt8.ofNat (M[j].toNat) := by simp [strOfNums]
  rw [List.getD_eq_getElem?_getD, List.getElem?_eq_getElem hj, Option.getD_some]
  show (((strOfNums M).data[(j : Int).toNat]'hs).toNat : Int) = _
  rw [e, UInt8.toNat_ofNat']
  omega
section
variable {s0 : ByteArray} {L : List Int}
def Bytes (L : List Int) : Prop := ∀ x ∈ L, 0 ≤ x ∧ x < 256
theorem bt_tx {p : P1} (hb : Bytes L) (h : WfP s0 L p) {k : Int} (h0 : 0 ≤ k) (h1 : k < p.f2) : bt (txP s0 L p) k = (if p.f0 = true then L.getD (p.f1 + k).toNat 0 else bt s0 (p.f1 + k)) := by
  obtain ⟨g0, g1, g2, g3⟩ := h
  unfold txP
  by_cases c : p.f0 = true
  · rw [if_pos c] at g2
    rw [if_pos c, if_pos c]
    have hk : k = ((k.toNat : Nat) : Int) := by omega
    have hl : k.toNat < ((L.take (p.f1 + p.f2).toNat).drop p.f1.toNat).length := by rw [List.length_drop, List.length_take]; omega
    rw [hk, bt_sn (fun x hx => hb x (List.mem_of_mem_take (List.mem_of_mem_drop hx))) hl]
    rw [List.getD_eq_getElem?_getD, List.getD_eq_getElem?_getD, List.getElem?_drop, List.getElem?_take_of_lt (by omega), show p.f1.toNat + k.toNat = (p.f1 + ((k.toNat : Nat) : Int)).toNat by omega]
  · rw [if_neg c] at g2
    rw [if_neg c, if_neg c, bt_extract _ _ _ _ h0 (by omega) (by omega)]
    congr 1
    omega
theorem bt_right (s t : ByteArray) {i : Int} (h : (s.size : Int) ≤ i) : bt (s ++ t) i = bt t (i - s.size) := by
  have := bt_append_right s t (i - s.size) (by omega)
  rwa [Int.sub_add_cancel] at this
theorem bt_nd {l r : List P1} {p : P1} (hl : Wf s0 L l) (hp : WfP s0 L p) {k : Int} (h0 : 0 ≤ k) :
    (k < szF l → bt (cat s0 L (l ++ p :: r)) k = bt (cat s0 L l) k) ∧ (szF l ≤ k → k < szF l + p.f2 → bt (cat s0 L (l ++ p :: r)) k = bt (txP s0 L p) (k - szF l)) ∧ (szF l + p.f2 ≤ k → bt (cat s0 L (l ++ p :: r)) k = bt (cat s0 L r) (k - (szF l + p.f2))) := by
  have e1 := cat_size hl
  have e2 := tx_size hp
  rw [cat_app]
  simp only [cat]
  refine ⟨fun h => bt_append_left _ _ _ h0 (by omega), fun h h2 => ?_, fun h => ?_⟩
  · rw [bt_right _ _ (by omega), e1, bt_append_left _ _ _ (by omega) (by omega)]
  · rw [bt_right _ _ (by omega), e1, bt_right _ _ (by omega), e2]
    congr 1
    omega
end
section
variable {P : Program} {ops : Array Oper} {Q : Exit → Act → World → Prop} {n : Nat} {f : List (Nat × Value)} {w w0 : World} {F0 : Nat → Prop} {cs : List HP} {rest : List Oper} {dn : Nat} {ty : TypeId} {ps : String} {af : Array Edge} {g : Option (Nat × Bool)} {Φ : World → Prop}
/-- append to bytes that may be shared: there is no room then. -/
theorem wl_appendrowl {e t u : Nat} {A : Option Addr} {c : Nat} {L : List Int} {s x : Operand} (y : ByteArray) (h : St w0 F0 (rowl Φ e A c L :: cs) w) (hΦ : Φ w) (hy : 0 < y.size) (hw : gw ops f g = some true) (hn : Nat.blt dn n = true)
    {nL : Nat} (hs : ev f s = some (.slice A nL c)) (hx : ev f x = some (.string y)) (ht : P.underlying t = some (.slice e)) (hu : P.underlying u = some .string) (hinfo : (P.info? e).map (fun i => (i.zero, i.size, i.bytes)) = some (some (.int .u8 0), 1, 1))
    (hl : L.length + y.size ≤ 140737488355328) (hnL : nL = L.length) (k : ∀ A' c' w', St w0 F0 (row (Kd.int .u8) e A' c' (L ++ bytesOf y) :: cs) w' → WL P ops Q n rest ((dn, .slice A' (L ++ bytesOf y).length c') :: f) w') :
    WL P ops Q n (⟨some dn, .call { callee := .builtin .append, args := #[s, x], argTypes := #[t, u] }, ty, ps, af, g⟩ :: rest) f w := by
  rcases rowl_cases h with h | ⟨h1, h2, h3⟩
  · exact wl_appends 0 y h rfl hw hn hs hx ht hu hinfo hl hnL k
  subst hnL
  have hC := h2 w hΦ
  cases A with
  | none =>
    have hL0 : L = [] := by
      rcases Nat.eq_zero_or_pos L.length with h0 | h0
      · exact List.eq_nil_of_length_eq_zero h0
      · obtain ⟨_, e, _⟩ := hC.2.2 h0; cases e
    subst hL0
    subst h1
    exact wl_appends 0 y (st_nilrow (Kd.int .u8) e h3) rfl hw hn hs hx ht hu hinfo hl rfl k
  | some b =>
    subst h1
    obtain ⟨inf, hinf, hzz⟩ := Option.map_eq_some_iff.1 hinfo
    simp only [Prod.mk.injEq] at hzz
    obtain ⟨hz0, hz1, hz2⟩ := hzz
    have hlen : (encs (Value.int .u8) L).length = L.length := by simp [encs]
    have holds : ∀ j v, (encs (Value.int .u8) L)[j]? = some v → w.cell? (b.add j) = some v := fun j v hj => by
      have hjl : j < L.length := by
        rcases Nat.lt_or_ge j L.length with h | h
        · exact h
        · rw [List.getElem?_eq_none (by omega)] at hj; cases hj
      obtain ⟨b2, e2, hc⟩ := hC.2.2 (by omega)
      injection e2 with e2
      subst e2
      obtain ⟨cl, k1, k2, k3⟩ := hc j L[j] (List.getElem?_eq_getElem hjl)
      have k2' : cl = [.int .u8 L[j]] := k2
      subst k2'
      have := k3 0 (.int .u8 L[j]) rfl
      have hv : v = .int .u8 L[j] := by simp [encs, hjl] at hj; exact hj.symm
      rw [hv]
      rw [Nat.add_zero, show (Kd.int .u8).sz = 1 from rfl, Nat.mul_one] at this
      exact this
    obtain ⟨gc, hgc⟩ : ∃ gc, grownCap w (L.length + y.size) L.length e = gc := ⟨_, rfl⟩
    have hr := run_append_grow_string (P := P) w t u ty e inf (.int .u8 0) ht hu hinf hz0 b L.length L.length (encs (Value.int .u8) L) (by rw [hz1, hlen, Nat.mul_one]) holds y (by omega) (by omega) (by rw [hz2]; exact growslice_fits (by omega) (by omega))
    have hge := grownCap_ge w (L.length + y.size) L.length e
    have hcm : grownCap w (L.length + y.size) L.length e ≤ maxLen := grownCap_le_maxLen w _ _ e (by simp only [maxLen]; omega)
    rw [hgc] at hr hge hcm
    have hst := st_alloc (st_drew h3) (((encs (Value.int .u8) L).toArray ++ (strCells y).toArray ++ Builtin.zeroCells (Value.int .u8 0).cells (gc - (L.length + y.size))).toList) e
    rw [Array.toArray_toList] at hst
    have hc : encs (Value.int .u8) (L ++ bytesOf y) = encs (Value.int .u8) L ++ strCells y := by
      simp [encs, bytesOf, strCells, Function.comp_def]
    have hl2 : (L ++ bytesOf y).length = L.length + y.size := by rw [List.length_append, bytesOf_length]
    have hls := strCells_length y
    have hst2 : St w0 F0 (row (Kd.int .u8) e (some ⟨w.heap.size, 0, none⟩) (gc) (L ++ bytesOf y) :: cs) (w.drew.alloc (.cells ((encs (Value.int .u8) L).toArray ++ (strCells y).toArray ++ Builtin.zeroCells (Value.int .u8 0).cells (gc - (L.length + y.size))) e)) := st_imp hst fun G ⟨g1, g2⟩ => by
      refine Kd.R_of_own (enc := Value.int .u8) (v := .slice (some ⟨w.heap.size, 0, none⟩) (L ++ bytesOf y).length (gc)) (xs := L ++ bytesOf y)
        ⟨by rw [hc, List.length_append, hlen, hls, hl2]; omega, .inr ⟨w.heap.size, _, _, rfl, Nat.zero_le _, g2, by omega, hcm, ?_, ?_⟩⟩ (fun k hk => by simp [Value.ownBlock] at hk; rw [← hk]; exact g1)
      · have hz1 : (Value.int IntKind.u8 0).cells.size = 1 := rfl
        simp only [Array.size_append, List.size_toArray, size_zeroCells, hz1, hlen, hls, Array.toArray_toList]
        omega
      · simp only [Array.toList_append, List.append_assoc, Array.toArray_toList]
        rw [hc, hl2, Nat.mul_one, ← List.append_assoc, List.take_append_of_le_length (by rw [List.length_append, hlen, hls]; exact Nat.le_refl _), List.take_of_length_le (by rw [List.length_append, hlen, hls]; exact Nat.le_refl _)]
    obtain ⟨W2, hW2⟩ : ∃ W2, (w.drew.alloc (.cells ((encs (Value.int .u8) L).toArray ++ (strCells y).toArray ++ Builtin.zeroCells (Value.int .u8 0).cells (gc - (L.length + y.size))) e)) = W2 := ⟨_, rfl⟩
    rw [hW2] at hr hst2
    rw [← hl2] at hr
    exact wl_step _ _ hw hn (fun a fa => by simp only [execOp, resolve, invoke, builtin, ev_eval fa hs, ev_eval fa hx, List.map_toArray, List.map_cons, List.map_nil, Sem.run_bind, Sem.run_pure, Result.andThen]; simp [hr, Result.andThen]) (k _ _ _ hst2)
end
end Go.Proofs.Ytieieindakbpoaa.Pc
