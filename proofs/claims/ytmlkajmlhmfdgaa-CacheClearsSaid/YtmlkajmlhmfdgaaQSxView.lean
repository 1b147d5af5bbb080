/- Pruned by wip/prune.py. -/
import Derived.Test.YtmlkajmlhmfdgaaQSxDraw
import Derived.Laws.Slices
namespace Go.Proofs.Ytmlkajmlhmfdgaa.Sx
open Go Go.RowKit Go.Proofs.YtmlkajmlhmfdgaaW.PrintWords
set_option linter.unusedVariables false
set_option linter.unusedSimpArgs false
section
variable {P : Program} {n : Nat} {f : List (Nat × Value)} {w w0 v0 : World} {F0 : Nat → Prop} {cs : List HP} {α : Type}
/-- A bound that may be left away. -/
def optN (f : List (Nat × Value)) : Option Operand → Nat → Nat → Prop
  | none, k, dflt => k = dflt
  | some x, k, _ => ∃ kd ix, ev f x = some (.int kd ix) ∧ ix = (k : Int)
theorem run_bounds {a : Act} (fa : Fr n f a) (b : Bool) (len cap l h : Nat) {lo hi : Option Operand} (hl : optN f lo l 0) (hh : optN f hi h len) (h1 : l ≤ h) (h2 : h ≤ cap) : (Instr.sliceBounds b len cap (lo.map a.eval) (hi.map a.eval) none).run P w = .ok (l, h, cap) w := by
  cases hi with
  | none =>
    simp only [optN] at hh; subst hh
    cases lo with
    | none => simp only [optN] at hl; subst hl; simp [Instr.sliceBounds, Result.andThen]
    | some x =>
      obtain ⟨kd, ix, hx, rfl⟩ := hl
      simp only [Option.map_some, Option.map_none, ev_eval fa hx, Instr.sliceBounds, Sem.run_bind, Sem.run_pure, Result.andThen]
      rw [run_sliceBound _ kd _ _ _ (by omega) (by omega)]
      simp [Result.andThen]
  | some y =>
    obtain ⟨kd, ix, hy, rfl⟩ := hh
    cases lo with
    | none =>
      simp only [optN] at hl; subst hl
      simp only [Option.map_some, Option.map_none, ev_eval fa hy, Instr.sliceBounds, Sem.run_bind, Sem.run_pure, Result.andThen]
      rw [run_sliceBound _ kd _ _ _ (by omega) (by omega)]
      simp [Result.andThen]
    | some x =>
      obtain ⟨kd', ix, hx, rfl⟩ := hl
      simp only [Option.map_some, ev_eval fa hx, ev_eval fa hy, Instr.sliceBounds, Sem.run_bind, Sem.run_pure, Result.andThen]
      rw [run_sliceBound _ kd _ _ _ (by omega) (by omega)]
      simp only [Int.toNat_natCast, Result.andThen]
      rw [run_sliceBound _ kd' _ _ _ (by omega) (by omega)]
      simp [Result.andThen]
theorem ov_slice {t e sz : Nat} {x : Operand} {lo hi : Option Operand} (A : Option Addr) (len cap l h : Nat) (hx : ev f x = some (.slice A len cap)) (hl : optN f lo l 0) (hh : optN f hi h len) (ht : elemSz P t = some (e, sz)) (h1 : l ≤ h) (h2 : h ≤ cap) {A' : Option Addr} (hA : (if cap = l then A else A.map (·.add (l * sz))) = A') {n' : Nat} (hn : n' = h - l) :
    OV P n f w (.slice t x lo hi none) (.slice A' n' (cap - l)) := fun a fa dst ty ps af g => by
  unfold elemSz at ht
  split at ht
  · rename_i e' hu
    cases hinf : P.info? e' with
    | none => rw [hinf] at ht; simp at ht
    | some inf =>
      rw [hinf] at ht
      simp only [Option.map_some, Option.some.injEq, Prod.mk.injEq] at ht
      obtain ⟨rfl, rfl⟩ := ht
      subst hn
      have e1 := run_bounds (P := P) (w := w) fa true len cap l h hl hh h1 h2
      simp only [execOp, ev_eval fa hx, Option.map_none, Instr.sliceAt, Instr.slice, Sem.run_bind, run_underlying hu, Result.andThen, e1, run_sizeOf hinf, Sem.run_pure, hA]
  · cases ht
/-- The byte at a place. -/
def byteAt (s : ByteArray) (k : Nat) : Int := ((s.data.toList.getD k 0).toNat : Int)
theorem ov_indexs {t : Nat} {x i : Operand} (s : ByteArray) (k : Nat) {kd : IntKind} {ix : Int} (hx : ev f x = some (.string s)) (hi : ev f i = some (.int kd ix)) (ht : P.underlying t = some .string) (hk : ix = (k : Int)) (hlt : k < s.size) :
    OV P n f w (.index t x i) (.int .u8 (byteAt s k)) := fun a fa dst ty ps af g => by
  subst hk
  have hlt' : k < s.data.size := hlt
  have e : (s[k]? : Option UInt8) = some (s.data.toList.getD k 0) := by
    rw [show s[k]? = some s[k] from getElem?_pos s k hlt]
    have e3 : s.data[k]? = some s.data[k] := Array.getElem?_eq_getElem hlt'
    simp only [List.getD_eq_getElem?_getD, Array.getElem?_toList, e3]
    rfl
  simp only [execOp, ev_eval fa hx, ev_eval fa hi, Instr.index, Sem.run_bind, asIntOf, Sem.run_pure, Result.andThen, run_underlying ht, if_pos (Int.natCast_nonneg k), Int.toNat_natCast, e]
  rfl
/-- What came in: below v0's size nothing is written. -/
def RO (v0 w0 : World) (F0 : Nat → Prop) : Prop := Below v0.heap.size v0 w0 ∧ ∀ k, F0 k → v0.heap.size ≤ k
theorem ro_self (w : World) : RO w w (fun _ => False) := ⟨Below.refl _ _, fun _ h => h.elim⟩
theorem ro_below (hv : RO v0 w0 F0) (h : St w0 F0 cs w) : Below v0.heap.size v0 w := by
  obtain ⟨hb, hf⟩ := hv
  obtain ⟨h1, h2, h3, h4, F, _, _, _, h5⟩ := h
  refine hb.trans ⟨h1, h2, h3, h4, fun k hk => h5 k (Nat.lt_of_lt_of_le hk hb.size) (fun e => ?_)⟩
  have := hf k e
  omega
theorem ro_C {d : Kd α} {A : Option Addr} {m : Nat} {L : List α} (hv : RO v0 w0 F0) (h : St w0 F0 cs w) (hC : d.C v0 A m L) : d.C w A m L := Kd.C_below hC (ro_below hv h)
theorem ro_cell {ad : Addr} {u : Value} (hv : RO v0 w0 F0) (h : St w0 F0 cs w) (hc : v0.cell? ad = some u) : w.cell? ad = some u := pw_cell_below (ro_below hv h) hc
/-- A piece behind others. -/
theorem row_reads_at {d : Kd α} {e : Nat} {A : Option Addr} {cp : Nat} {L : List α} {R : List HP} {j : Nat} (hj : R[j]? = some (row d e A cp L)) : ∀ cs w, St w0 F0 (cs ++ R) w → d.C w A L.length L := fun cs w h =>
  (row_reads (i := cs.length + j) h (by rw [List.getElem?_append_right (by omega), Nat.add_sub_cancel_left]; exact hj)).2
theorem mid_C {d : Kd α} {A : Option Addr} {c lo hi : Nat} {L : List α} (h1 : lo ≤ hi) (h2 : hi ≤ L.length) (hc : L.length ≤ c) {A' : Option Addr} (hA : (if c = lo then A else A.map (·.add (lo * d.sz))) = A') (h : d.C w A L.length L) : d.C w A' ((L.take hi).drop lo).length ((L.take hi).drop lo) := hA ▸ Kd.C_mid h h1 h2 hc
end
theorem part_get {cells vs : List Value} (off : Nat) (hv : (cells.drop off).take vs.length = vs) {j : Nat} {u : Value} (hj : vs[j]? = some u) : cells[off + j]? = some u := by
  have hl : j < vs.length := by
    rcases Nat.lt_or_ge j vs.length with h | h
    · exact h
    · rw [List.getElem?_eq_none h] at hj; cases hj
  rw [← hv, List.getElem?_take, if_pos hl, List.getElem?_drop] at hj
  exact hj
end Go.Proofs.Ytmlkajmlhmfdgaa.Sx
