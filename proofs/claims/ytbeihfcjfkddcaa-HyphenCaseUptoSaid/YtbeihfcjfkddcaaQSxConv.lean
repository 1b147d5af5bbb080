/- Pruned by wip/prune.py. -/
import Derived.Test.YtbeihfcjfkddcaaQSxBytes
import Derived.Lib.ConvBytes
namespace Go.Proofs.Ytbeihfcjfkddcaa.Sx
open Go Go.Lib Go.RowKit Go.Proofs.YtbeihfcjfkddcaaW.PrintWords
set_option linter.unusedVariables false
set_option linter.unusedSimpArgs false
def cvr (e : Nat) (A : Option Addr) (c : Nat) (L : List Int) : HP where
  p := fun w F => ∃ g cur lo hi, A = some ⟨g, 0, none⟩ ∧ F g ∧ w.heap[g]? = some (.cells cur e (lo, hi)) ∧ L.length ≤ lo ∧ L.length ≤ c ∧ L.length ≤ 9223372036854775807 ∧ ∀ j, j < L.length → cur[j]? = some (.int .u8 (L.getD j 0))
  mono := fun hF ⟨g, cur, lo, hi, h1, h2, h3⟩ => ⟨g, cur, lo, hi, h1, hF _ h2, h3⟩
  bound := fun ⟨g, cur, lo, hi, h1, h2, h3, h4⟩ => ⟨g, cur, lo, hi, h1, ⟨h2, (Array.getElem?_eq_some_iff.1 h3).1⟩, h3, h4⟩
  move := fun hm ⟨g, cur, lo, hi, h1, h2, h3, h4⟩ => ⟨g, cur, lo, hi, h1, h2, (hm _ h2).trans h3, h4⟩
section
variable {w0 w : World} {F0 : Nat → Prop} {cs : List HP} {i : Nat}
theorem cvr_reads {e c : Nat} {A : Option Addr} {L : List Int} (h : St w0 F0 cs w) (hi : cs[i]? = some (cvr e A c L)) : L.length ≤ c ∧ (Kd.int .u8).C w A L.length L := by
  obtain ⟨G, _, g, cur, lo, hi', rfl, _, h3, _, h5, h6, h7⟩ := st_get h hi
  refine ⟨h5, rfl, h6, fun _ => ⟨_, rfl, fun j x hj => ⟨[.int .u8 x], rfl, rfl, fun k u hu => ?_⟩⟩⟩
  cases k with
  | zero =>
    injection hu with hu
    subst hu
    have hl : j < L.length := by
      rcases Nat.lt_or_ge j L.length with z | z
      · exact z
      · rw [List.getElem?_eq_none z] at hj; cases hj
    have h8 := h7 j hl
    rw [List.getD_eq_getElem?_getD, hj] at h8
    show w.cell? ((⟨g, 0, none⟩ : Addr).add (j * 1 + 0)) = _
    rw [Nat.mul_one, Nat.add_zero, add_plain]
    simp only [World.cell?, h3]
    exact h8
  | succ k => cases hu
end
section
variable {P : Program} {ops : Array Oper} {Q : Exit → Act → World → Prop} {n : Nat} {f : List (Nat × Value)} {w w0 : World} {F0 : Nat → Prop} {cs : List HP} {i : Nat} {rest : List Oper} {dn : Nat} {ty : TypeId} {ps : String} {af : Array Edge} {g : Option (Nat × Bool)}
theorem wl_tobytes {src dst e : Nat} {x : Operand} (s : ByteArray) (h : St w0 F0 cs w) (hw : gw ops f g = some true) (hn : Nat.blt dn n = true) (hx : ev f x = some (.string s)) (hs : P.underlying src = some .string) (hd : P.underlying dst = some (.slice e)) (he : P.underlying e = some (.int .u8)) (hz : s.size ≤ 9223372036854775807)
    (k : ∀ A c w', St w0 F0 (cvr e A c (bytesOf s) :: cs) w' → WL P ops Q n rest ((dn, .slice A (bytesOf s).length c) :: f) w') : WL P ops Q n (⟨some dn, .convert src dst x, ty, ps, af, g⟩ :: rest) f w := by
  have hb : Below w.heap.size w (bytesWorld w e s) := ⟨rfl, rfl, rfl, by rw [bytesWorld_size]; omega, fun j hj => bytesWorld_at_old w e s j hj⟩
  have hl := bytesOf_length s
  have hg := grownCap_ge w s.size 0 e
  have hst : St w0 F0 (cvr e (some ⟨w.heap.size, 0, none⟩) (grownCap w s.size 0 e) (bytesOf s) :: cs) (bytesWorld w e s) := by
    refine st_add h hb ⟨w.heap.size, _, _, _, rfl, Nat.le_refl _, bytesWorld_at_new w e s, ?_, by omega, by omega, fun j hj => ?_⟩
    · rw [hl]
      simp only [bytesCells, Array.size_append, Array.size_map, Array.size_replicate]
      show s.size ≤ s.data.size + _
      have : s.data.size = s.size := rfl
      omega
    · have hj' : j < s.data.size := by rw [hl] at hj; exact hj
      have hj2 : j < s.data.toList.length := by rw [Array.length_toList]; exact hj'
      rw [bytesCells, Array.getElem?_append_left (by rw [Array.size_map]; exact hj'), Array.getElem?_map, Array.getElem?_eq_getElem hj']
      simp only [Option.map_some, bytesOf]
      rw [List.getD_eq_getElem?_getD, List.getElem?_map, List.getElem?_eq_getElem hj2]
      simp
  refine wl_step (.slice (some ⟨w.heap.size, 0, none⟩) (bytesOf s).length (grownCap w s.size 0 e)) (bytesWorld w e s) hw hn (fun a fa => ?_) (k _ _ _ hst)
  have hc := Lib.run_convert_string_bytes w src dst e s hs hd he
  simp only [execOp, ev_eval fa hx, Sem.run_bind, Result.andThen, Sem.run_pure, hl]
  rw [hc]
theorem wl_storecv {t : Nat} {x y : Operand} (i : Nat) {e c : Nat} {ad0 : Addr} {L : List Int} (kx : Nat) (v : Int) (h : St w0 F0 cs w) (hi : cs[i]? = some (cvr e (some ad0) c L)) (hw : gw ops f g = some true) (hx : ev f x = some (.pointer (some (ad0.add (kx * 1))))) (hy : ev f y = some (.int .u8 v)) (ht : shapeOf P t = some (false, 1)) (h1 : kx < L.length)
    (k : ∀ w', St w0 F0 (cs.set i (cvr e (some ad0) c (L.set kx v))) w' → WL P ops Q n rest f w') : WL P ops Q n (⟨none, .store t x y, ty, ps, af, g⟩ :: rest) f w := by
  obtain ⟨G, g1, ⟨gb, cur, lo, hi', e1, h2, h3, h4, h5, h6, h7⟩, g3⟩ := st_upd h hi
  injection e1 with e1
  subst e1
  have had : (⟨gb, 0, none⟩ : Addr).add (kx * 1) = ⟨gb, kx, none⟩ := by rw [Nat.mul_one]; exact add_plain _ _
  rw [had] at hx
  have hc : w.cell? ⟨gb, kx, none⟩ = some (.int .u8 (L.getD kx 0)) := by simp only [World.cell?, h3]; exact h7 kx h1
  have hf : w.frozen? ⟨gb, kx, none⟩ = false := by simp only [World.frozen?, h3]; simp; omega
  have hst := g3 (cvr e (some ⟨gb, 0, none⟩) c (L.set kx v)) (w.setCell ⟨gb, kx, none⟩ (.int .u8 v)) ⟨rfl, rfl, rfl, by simp [World.setCell], fun q hq hn => Below.heap_setCell _ _ _ _ (fun e => hn (by rw [e]; exact h2))⟩ (by
    refine ⟨gb, cur.set! kx (.int .u8 v), lo, hi', rfl, .inl h2, ?_, by rw [List.length_set]; exact h4, by rw [List.length_set]; exact h5, by rw [List.length_set]; exact h6, fun j hj => ?_⟩
    · simp [World.setCell, Array.getElem?_modify, h3]
    · rw [List.length_set] at hj
      have hcs : kx < cur.size := by
        have := h7 kx h1
        exact (Array.getElem?_eq_some_iff.1 this).1
      rw [List.getD_eq_getElem?_getD, List.getElem?_set]
      simp only [Array.set!_eq_setIfInBounds, Array.getElem?_setIfInBounds]
      by_cases c2 : kx = j
      · subst c2; simp [h1, hcs]
      · rw [if_neg c2, if_neg c2, ← List.getD_eq_getElem?_getD]; exact h7 j hj)
  refine wl_unit _ hw (fun a fa => ?_) (k _ hst)
  have hr : (store ⟨gb, kx, none⟩ (.int .u8 v)).run P w = .ok () (w.setCell ⟨gb, kx, none⟩ (.int .u8 v)) := by
    rw [run_store P w _ _ .plain rfl, hc]
    simp only [hf, Bool.false_eq_true, if_false]
  have hs : (storeVar t ⟨gb, kx, none⟩ (.int .u8 v)).run P w = .ok () (w.setCell ⟨gb, kx, none⟩ (.int .u8 v)) := by
    simp only [storeVar, Sem.run_bind, (shape_one (w := w) ht).2, Result.andThen]
    simp [storeCells, Value.cells, hr, Result.andThen, Addr.add]
  simp [execOp, ev_eval fa hx, ev_eval fa hy, Instr.storeAt, Instr.sureAddr, hs, Result.andThen]
end
end Go.Proofs.Ytbeihfcjfkddcaa.Sx
