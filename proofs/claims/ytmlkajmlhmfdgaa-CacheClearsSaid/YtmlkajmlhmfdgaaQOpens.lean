/- Pruned by wip/prune.py. -/
import Derived.Test.YtmlkajmlhmfdgaaQWWords
import Derived.OpenShut
import Derived.Deep.Slices
namespace Go.Proofs.Ytmlkajmlhmfdgaa.Opens
open Go.RowKit Go.Deep Go.ChangeShapes Go.WideShapes Go.Proofs.YtmlkajmlhmfdgaaW.PrintWords
set_option linter.unusedVariables false
/-- What reads as type t is of kind d, with what holds of it. -/
def Opens {α : Type} (P : Program) (d : Kd α) (G : α → Prop) (t : TypeId) : Prop :=
  P.cellsOf t = d.sz ∧ ∀ (H : Type) (enc : TypeId × Value → H) (w : World) (fuel : Nat) (cs : List Value) (x : DataW H × List MemPlace),
    DataW.trod enc P w 0 (fun _ => true) true fuel t cs = some x → ∃ a, d.K w a cs ∧ G a
section
variable {P : Program}
theorem opens_int {t : TypeId} {k : IntKind} (ht : P.underlying t = some (.int k)) (hc : P.cellsOf t = 1) : Opens P (Kd.int k) (fun n => (Lit.int k n).wf = true) t := by
  refine ⟨hc, fun H enc w fuel cs x h => ?_⟩
  cases fuel with
  | zero => simp [DataW.trod] at h
  | succ m =>
    unfold DataW.trod at h
    rw [ht] at h
    split at h <;> simp_all
    obtain ⟨⟨e1, e2⟩, _⟩ := h
    rename_i n _ _ _
    exact ⟨_, rfl, by simpa using e2⟩
theorem opens_string {t : TypeId} (ht : P.underlying t = some .string) (hc : P.cellsOf t = 1) : Opens P Kd.string (fun s => s.size ≤ maxLen) t := by
  refine ⟨hc, fun H enc w fuel cs x h => ?_⟩
  cases fuel with
  | zero => simp [DataW.trod] at h
  | succ m =>
    unfold DataW.trod at h
    rw [ht] at h
    split at h <;> simp_all
    exact ⟨_, rfl, h.1⟩
theorem opens_slice {α : Type} {d : Kd α} {G : α → Prop} {t e : TypeId} (ht : P.underlying t = some (.slice e)) (hc : P.cellsOf t = 1) (he : Opens P d G e) :
    Opens P (Kd.slice e d) (fun xs => xs.length ≤ maxLen ∧ ∀ x ∈ xs, G x) t := by
  refine ⟨hc, fun H enc w fuel cs x h => ?_⟩
  rcases open_slice ht h with ⟨rfl, _⟩ | ⟨a, len, cap, m, n, D, Pl, rfl, _, hl, hm, hmm, _, hx⟩
  · exact ⟨[], ⟨none, 0, rfl, Nat.le_refl _, rfl, by simp, fun h => absurd h (Nat.lt_irrefl _)⟩, by simp, fun x hx => by cases hx⟩
  rw [if_pos rfl] at hmm
  subst hmm
  have key : ∀ i, i < len → ∃ p : α × List Value, w.cells? 0 (a.add (i * P.cellsOf e)) (P.cellsOf e) = some p.2 ∧ d.K w p.1 p.2 ∧ G p.1 := fun i hi => by
    obtain ⟨cs', h1, h2⟩ := hx i (by omega)
    obtain ⟨y, h3, h4⟩ := he.2 H enc w n cs' _ h2
    exact ⟨(y, cs'), h1, h3, h4⟩
  by_cases h0 : len = 0
  · subst h0
    exact ⟨[], ⟨some a, m, rfl, Nat.zero_le _, rfl, by simp, fun h => absurd h (Nat.lt_irrefl _)⟩, by simp, fun x hx => by cases hx⟩
  obtain ⟨p0, _⟩ := key 0 (by omega)
  haveI : Inhabited (α × List Value) := ⟨p0⟩
  obtain ⟨f, hf⟩ := choose_lt key
  have hlen : ((List.range len).map fun i => (f i).1).length = len := by simp
  refine ⟨(List.range len).map fun i => (f i).1, ⟨some a, m, by rw [hlen], by rw [hlen]; exact hl, ?_⟩, ?_, ?_⟩
  · rw [hlen]
    refine ⟨hlen, Nat.le_trans (Nat.le_trans hl hm) (by decide), fun _ => ⟨a, rfl, fun j p hj => ?_⟩⟩
    rw [List.getElem?_map] at hj
    have hjl : j < len := by
      rcases Nat.lt_or_ge j len with h | h
      · exact h
      · rw [List.getElem?_eq_none (by simpa using h)] at hj; cases hj
    rw [List.getElem?_eq_getElem (by simpa using hjl)] at hj
    simp at hj
    subst hj
    obtain ⟨g1, g2, g3⟩ := hf j hjl
    obtain ⟨_, g4, g5⟩ := World.cells?_some g1
    refine ⟨(f j).2, by rw [g4, he.1], g2, fun i u hi => ?_⟩
    have hil : i < P.cellsOf e := by
      rcases Nat.lt_or_ge i (P.cellsOf e) with h | h
      · exact h
      · rw [List.getElem?_eq_none (by omega)] at hi; cases hi
    rw [← he.1, ← Deep.add_add, g5 i hil]
    exact hi
  · rw [hlen]; exact Nat.le_trans hl hm
  · intro x hx
    obtain ⟨i, hi, rfl⟩ := List.mem_map.1 hx
    exact (hf i (List.mem_range.1 hi)).2.2
/-- The fields from a place on. -/
def OpensF {α : Type} (P : Program) (d : Kd α) (G : α → Prop) (fs : List Field) (off : Nat) : Prop :=
  ∀ (H : Type) (enc : TypeId × Value → H) (w : World) (fuel : Nat) (cs : List Value) (xs : List (DataW H × List MemPlace)), cs.length = off + d.sz →
    fs.mapM (fun f => DataW.trod enc P w 0 (fun _ => true) true fuel f.type ((cs.drop f.offset).take (P.cellsOf f.type))) = some xs → ∃ a, d.K w a (cs.drop off) ∧ G a
theorem opensF_one {α : Type} {d : Kd α} {G : α → Prop} {f : Field} {off : Nat} (ho : f.offset = off) (h : Opens P d G f.type) : OpensF P d G [f] off := by
  intro H enc w fuel cs xs hl hm
  subst ho
  simp only [List.mapM_cons, List.mapM_nil] at hm
  obtain ⟨x, h1, _⟩ := Option.bind_eq_some_iff.1 hm
  have e : (cs.drop f.offset).take (P.cellsOf f.type) = cs.drop f.offset := List.take_of_length_le (by rw [List.length_drop, h.1]; omega)
  rw [e] at h1
  exact h.2 H enc w fuel _ x h1
theorem opensF_cons {α β : Type} {d : Kd α} {G : α → Prop} {d2 : Kd β} {G2 : β → Prop} {f : Field} {fs : List Field} {off : Nat} (ho : f.offset = off) (h : Opens P d G f.type) (h2 : OpensF P d2 G2 fs (off + d.sz)) :
    OpensF P (Kd.pair d d2) (fun p => G p.1 ∧ G2 p.2) (f :: fs) off := by
  intro H enc w fuel cs xs hl hm
  subst ho
  simp only [List.mapM_cons] at hm
  obtain ⟨x, h1, hm⟩ := Option.bind_eq_some_iff.1 hm
  obtain ⟨ys, h3, _⟩ := Option.bind_eq_some_iff.1 hm
  obtain ⟨a, ka, ga⟩ := h.2 H enc w fuel _ x h1
  obtain ⟨b, kb, gb⟩ := h2 H enc w fuel cs ys (by rw [hl, Kd.pair]; show _ + (d.sz + d2.sz) = _; omega) h3
  refine ⟨(a, b), ⟨_, _, ?_, ka, kb⟩, ga, gb⟩
  rw [h.1, ← List.drop_drop, List.take_append_drop]
theorem opens_struct {α β : Type} {d : Kd α} {G : α → Prop} {t : TypeId} {fs : Array Field} (ht : P.underlying t = some (.struct fs)) (hc : P.cellsOf t = d.sz) (f : β → α) (g : α → β) (hfg : ∀ a, f (g a) = a)
    (h : OpensF P d G fs.toList 0) : Opens P (Kd.iso d f) (fun b => G (f b)) t := by
  refine ⟨hc, fun H enc w fuel cs x hx => ?_⟩
  cases fuel with
  | zero => simp [DataW.trod] at hx
  | succ m =>
    unfold DataW.trod at hx
    rw [ht] at hx
    have hx' : (if cs.length = P.cellsOf t then (fs.toList.mapM fun f => DataW.trod enc P w 0 (fun _ => true) true m f.type ((cs.drop f.offset).take (P.cellsOf f.type))).map fun xs => (DataW.agg (xs.map (·.1)), xs.flatMap (·.2)) else none) = some x := by
      split at hx <;> simp_all
    by_cases hl : cs.length = P.cellsOf t
    · rw [if_pos hl] at hx'
      obtain ⟨ys, hy, _⟩ := Option.map_eq_some_iff.1 hx'
      obtain ⟨a, ka, ga⟩ := h H enc w m cs ys (by rw [hl, hc]; omega) hy
      exact ⟨g a, by show d.K w (f (g a)) cs; rw [hfg]; simpa using ka, by show G (f (g a)); rw [hfg]; exact ga⟩
    · rw [if_neg hl] at hx'; cases hx'
/-- An argument that is a slice. -/
theorem arg_slice {α : Type} {d : Kd α} {G : List α → Prop} {t e : TypeId} {H : Type} {enc : TypeId × Value → H} {w : World} {v : Value} {dd : DataW H} {p : List MemPlace} (ht : P.underlying t = some (.slice e)) (h : Opens P (Kd.slice e d) G t)
    (hv : ∃ a len cap, v = .slice a len cap) (hd : DataW.Trod enc P w 0 (fun _ => true) true t v dd p) : ∃ (A : Option Addr) (c : Nat) (xs : List α), v = .slice A xs.length c ∧ xs.length ≤ c ∧ d.C w A xs.length xs ∧ G xs := by
  obtain ⟨fuel, hf⟩ := hd
  obtain ⟨xs, ⟨A, c, e1, h1, h2⟩, hg⟩ := h.2 H enc w fuel _ _ hf
  obtain ⟨a, len, cap, rfl⟩ := hv
  simp only [Value.cells] at e1
  injection e1 with e1 _
  exact ⟨A, c, xs, e1, h1, h2, hg⟩
end
end Go.Proofs.Ytmlkajmlhmfdgaa.Opens
