/- Pruned by wip/prune.py. -/
import Derived.Test.YtbeihfcjfkddcaaQOpens
import Derived.Test.YtbeihfcjfkddcaaRows
namespace Go.Proofs.Ytbeihfcjfkddcaa.Opens
open Go.RowKit Go.Deep Go.ChangeShapes Go.WideShapes Go.Proofs.YtbeihfcjfkddcaaW.PrintWords
open Go.Proofs.Ytbeihfcjfkddcaa.Rows (uptoBulk uptoBulkAll)
set_option linter.unusedVariables false
/-- What reads as type t is of kind d, with what holds of it and of the reading's bulk. -/
def Opens2 {α : Type} (P : Program) (d : Kd α) (G : α → Nat → Prop) (t : TypeId) : Prop :=
  (∀ a m n, m ≤ n → G a m → G a n) ∧ P.cellsOf t = d.sz ∧ ∀ (H : Type) (enc : TypeId × Value → H) (w : World) (fuel : Nat) (cs : List Value) (x : DataW H × List MemPlace),
    DataW.trod enc P w 0 (fun _ => true) true fuel t cs = some x → ∃ a, d.K w a cs ∧ G a (uptoBulk x.1)
theorem bulk_pos {H : Type} (d : DataW H) : 1 ≤ uptoBulk d := by
  cases d with
  | lit l => cases l <;> simp [uptoBulk]
  | nil => simp [uptoBulk]
  | ptr d => simp [uptoBulk]
  | slice a b => simp [uptoBulk]
  | agg a => simp [uptoBulk]
  | iface n d => simp [uptoBulk]
  | map e => simp [uptoBulk]
  | held h => simp [uptoBulk]
theorem bulk_mem {H : Type} : ∀ {l : List (DataW H)} {x : DataW H}, x ∈ l → uptoBulk x ≤ uptoBulkAll l
  | [], _, h => by cases h
  | y :: l, x, h => by
    simp only [uptoBulkAll]
    rcases List.mem_cons.1 h with rfl | h
    · omega
    · have := bulk_mem h; omega
theorem bulk_len {H : Type} : ∀ (l : List (DataW H)), l.length ≤ uptoBulkAll l
  | [] => Nat.le_refl _
  | y :: l => by have := bulk_len l; have := bulk_pos y; simp only [uptoBulkAll, List.length_cons]; omega
section
variable {P : Program}
theorem opens2_of {α : Type} {d : Kd α} {G : α → Prop} {t : TypeId} (h : Opens P d G t) : Opens2 P d (fun a _ => G a) t := ⟨fun _ _ _ _ h => h, h.1, fun H enc w fuel cs x hx => h.2 H enc w fuel cs x hx⟩
theorem opens2_string {t : TypeId} (ht : P.underlying t = some .string) (hc : P.cellsOf t = 1) : Opens2 P Kd.string (fun s n => s.size ≤ maxLen ∧ s.size ≤ n) t := by
  refine ⟨fun a m n h g => ⟨g.1, Nat.le_trans g.2 h⟩, hc, fun H enc w fuel cs x h => ?_⟩
  cases fuel with
  | zero => simp [DataW.trod] at h
  | succ m =>
    unfold DataW.trod at h
    rw [ht] at h
    split at h <;> simp_all
    rename_i s _ _
    obtain ⟨h1, h2⟩ := h
    refine ⟨_, rfl, h1, ?_⟩
    rw [← h2]
    show _ ≤ uptoBulk (DataW.lit (Lit.string _))
    simp only [uptoBulk]
    rw [Array.length_toList]
    exact Nat.le_succ _
theorem opens2_slice {α : Type} {d : Kd α} {G : α → Nat → Prop} {t e : TypeId} (ht : P.underlying t = some (.slice e)) (hc : P.cellsOf t = 1) (he : Opens2 P d G e) :
    Opens2 P (Kd.slice e d) (fun xs n => xs.length ≤ maxLen ∧ xs.length ≤ n ∧ ∀ x ∈ xs, G x n) t := by
  refine ⟨fun a m n h g => ⟨g.1, Nat.le_trans g.2.1 h, fun x hx => he.1 _ _ _ h (g.2.2 x hx)⟩, hc, fun H enc w fuel cs x h => ?_⟩
  rcases open_slice ht h with ⟨rfl, rfl⟩ | ⟨a, len, cap, m, n, D, Pl, rfl, _, hl, hm, hmm, rfl, hx⟩
  · exact ⟨[], ⟨none, 0, rfl, Nat.le_refl _, rfl, by simp, fun h => absurd h (Nat.lt_irrefl _)⟩, by simp, by simp, fun x hx => by cases hx⟩
  rw [if_pos rfl] at hmm
  subst hmm
  have hD : ∀ i, i < len → uptoBulk (D i) ≤ uptoBulk (DataW.slice ((List.range len).map D) ((List.range (m - len)).map fun j => D (len + j))) := fun i hi => by
    have := bulk_mem (l := (List.range len).map D) (List.mem_map.2 ⟨i, List.mem_range.2 hi, rfl⟩)
    simp only [uptoBulk]
    omega
  have hN : len ≤ uptoBulk (DataW.slice ((List.range len).map D) ((List.range (m - len)).map fun j => D (len + j))) := by
    have := bulk_len ((List.range len).map D)
    simp only [uptoBulk]
    simp only [List.length_map, List.length_range] at this
    omega
  have key : ∀ i, i < len → ∃ p : α × List Value, w.cells? 0 (a.add (i * P.cellsOf e)) (P.cellsOf e) = some p.2 ∧ d.K w p.1 p.2 ∧ G p.1 (uptoBulk (DataW.slice ((List.range len).map D) ((List.range (m - len)).map fun j => D (len + j)))) := fun i hi => by
    obtain ⟨cs', h1, h2⟩ := hx i (by omega)
    obtain ⟨y, h3, h4⟩ := he.2.2 H enc w n cs' _ h2
    exact ⟨(y, cs'), h1, h3, he.1 _ _ _ (hD i hi) h4⟩
  by_cases h0 : len = 0
  · subst h0
    exact ⟨[], ⟨some a, m, rfl, Nat.zero_le _, rfl, by simp, fun h => absurd h (Nat.lt_irrefl _)⟩, by simp, by simp, fun x hx => by cases hx⟩
  obtain ⟨p0, _⟩ := key 0 (by omega)
  haveI : Inhabited (α × List Value) := ⟨p0⟩
  obtain ⟨f, hf⟩ := choose_lt key
  have hlen : ((List.range len).map fun i => (f i).1).length = len := by simp
  refine ⟨(List.range len).map fun i => (f i).1, ⟨some a, m, by rw [hlen], by rw [hlen]; exact hl, ?_⟩, ?_, ?_, ?_⟩
  · rw [hlen]
    refine ⟨hlen, Nat.le_trans (Nat.le_trans hl hm) (by decide), fun _ => ⟨a, rfl, fun j p hj => ?_⟩⟩
    rw [List.getElem?_map] at hj
    have hjl : j < len := by
      rcases Nat.lt_or_ge j len with h | h
      · exact h
      · rw [List.getElem?_eq_none (by simpa using h)] at hj; cases hj
    rw [List.getElem?_eq_getElem (by simpa using hjl)] at hj
    simp at hj
    subst hj
    obtain ⟨g1, g2, g3⟩ := hf j hjl
    obtain ⟨_, g4, g5⟩ := World.cells?_some g1
    refine ⟨(f j).2, by rw [g4, he.2.1], g2, fun i u hi => ?_⟩
    have hil : i < P.cellsOf e := by
      rcases Nat.lt_or_ge i (P.cellsOf e) with h | h
      · exact h
      · rw [List.getElem?_eq_none (by omega)] at hi; cases hi
    rw [← he.2.1, ← Deep.add_add, g5 i hil]
    exact hi
  · rw [hlen]; exact Nat.le_trans hl hm
  · rw [hlen]; exact hN
  · intro x hx
    obtain ⟨i, hi, rfl⟩ := List.mem_map.1 hx
    exact (hf i (List.mem_range.1 hi)).2.2
/-- The fields from a place on. -/
def OpensF2 {α : Type} (P : Program) (d : Kd α) (G : α → Nat → Prop) (fs : List Field) (off : Nat) : Prop :=
  (∀ a m n, m ≤ n → G a m → G a n) ∧ ∀ (H : Type) (enc : TypeId × Value → H) (w : World) (fuel : Nat) (cs : List Value) (xs : List (DataW H × List MemPlace)), cs.length = off + d.sz →
    fs.mapM (fun f => DataW.trod enc P w 0 (fun _ => true) true fuel f.type ((cs.drop f.offset).take (P.cellsOf f.type))) = some xs → ∃ a, d.K w a (cs.drop off) ∧ G a (uptoBulkAll (xs.map (·.1)))
theorem opensF2_one {α : Type} {d : Kd α} {G : α → Nat → Prop} {f : Field} {off : Nat} (ho : f.offset = off) (h : Opens2 P d G f.type) : OpensF2 P d G [f] off := by
  refine ⟨h.1, ?_⟩
  intro H enc w fuel cs xs hl hm
  subst ho
  simp only [List.mapM_cons, List.mapM_nil] at hm
  obtain ⟨x, h1, hm⟩ := Option.bind_eq_some_iff.1 hm
  have e : (cs.drop f.offset).take (P.cellsOf f.type) = cs.drop f.offset := List.take_of_length_le (by rw [List.length_drop, h.2.1]; omega)
  rw [e] at h1
  obtain ⟨a, ka, ga⟩ := h.2.2 H enc w fuel _ x h1
  have hxs : xs = [x] := by simpa using hm.symm
  subst hxs
  refine ⟨a, ka, h.1 _ _ _ ?_ ga⟩
  simp only [List.map_cons, List.map_nil, uptoBulkAll]
  omega
theorem opensF2_cons {α β : Type} {d : Kd α} {G : α → Nat → Prop} {d2 : Kd β} {G2 : β → Nat → Prop} {f : Field} {fs : List Field} {off : Nat} (ho : f.offset = off) (h : Opens2 P d G f.type) (h2 : OpensF2 P d2 G2 fs (off + d.sz)) :
    OpensF2 P (Kd.pair d d2) (fun p n => G p.1 n ∧ G2 p.2 n) (f :: fs) off := by
  refine ⟨fun a m n hmn g => ⟨h.1 _ _ _ hmn g.1, h2.1 _ _ _ hmn g.2⟩, ?_⟩
  intro H enc w fuel cs xs hl hm
  subst ho
  simp only [List.mapM_cons] at hm
  obtain ⟨x, h1, hm⟩ := Option.bind_eq_some_iff.1 hm
  obtain ⟨ys, h3, hm⟩ := Option.bind_eq_some_iff.1 hm
  obtain ⟨a, ka, ga⟩ := h.2.2 H enc w fuel _ x h1
  obtain ⟨b, kb, gb⟩ := h2.2 H enc w fuel cs ys (by rw [hl, Kd.pair]; show _ + (d.sz + d2.sz) = _; omega) h3
  have hxs : xs = x :: ys := by simpa using hm.symm
  subst hxs
  have e : uptoBulkAll ((x :: ys).map (·.1)) = uptoBulk x.1 + uptoBulkAll (ys.map (·.1)) := by simp only [List.map_cons, uptoBulkAll]
  refine ⟨(a, b), ⟨_, _, ?_, ka, kb⟩, h.1 _ _ _ (by rw [e]; omega) ga, h2.1 _ _ _ (by rw [e]; omega) gb⟩
  rw [h.2.1, ← List.drop_drop, List.take_append_drop]
theorem opens2_struct {α β : Type} {d : Kd α} {G : α → Nat → Prop} {t : TypeId} {fs : Array Field} (ht : P.underlying t = some (.struct fs)) (hc : P.cellsOf t = d.sz) (f : β → α) (g : α → β) (hfg : ∀ a, f (g a) = a)
    (h : OpensF2 P d G fs.toList 0) : Opens2 P (Kd.iso d f) (fun b n => G (f b) n) t := by
  refine ⟨fun a m n hmn g => h.1 _ _ _ hmn g, hc, fun H enc w fuel cs x hx => ?_⟩
  cases fuel with
  | zero => simp [DataW.trod] at hx
  | succ m =>
    unfold DataW.trod at hx
    rw [ht] at hx
    have hx' : (if cs.length = P.cellsOf t then (fs.toList.mapM fun f => DataW.trod enc P w 0 (fun _ => true) true m f.type ((cs.drop f.offset).take (P.cellsOf f.type))).map fun xs => (DataW.agg (xs.map (·.1)), xs.flatMap (·.2)) else none) = some x := by
      split at hx <;> simp_all
    by_cases hl : cs.length = P.cellsOf t
    · rw [if_pos hl] at hx'
      obtain ⟨ys, hy, hx2⟩ := Option.map_eq_some_iff.1 hx'
      obtain ⟨a, ka, ga⟩ := h.2 H enc w m cs ys (by rw [hl, hc]; omega) hy
      subst hx2
      refine ⟨g a, by show d.K w (f (g a)) cs; rw [hfg]; simpa using ka, ?_⟩
      show G (f (g a)) _
      rw [hfg]
      refine h.1 _ _ _ ?_ ga
      simp only [uptoBulk]
      omega
    · rw [if_neg hl] at hx'; cases hx'
theorem arg_any2 {α : Type} {d : Kd α} {G : α → Nat → Prop} {t : TypeId} {H : Type} {enc : TypeId × Value → H} {w : World} {v : Value} {dd : DataW H} {p : List MemPlace} (h : Opens2 P d G t)
    (hd : DataW.Trod enc P w 0 (fun _ => true) true t v dd p) : ∃ a, d.K w a v.cells.toList ∧ G a (uptoBulk dd) := by
  obtain ⟨fuel, hf⟩ := hd
  exact h.2.2 H enc w fuel _ _ hf
end
end Go.Proofs.Ytbeihfcjfkddcaa.Opens
