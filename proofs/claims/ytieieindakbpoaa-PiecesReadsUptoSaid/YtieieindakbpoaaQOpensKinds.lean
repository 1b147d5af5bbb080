/- Pruned by wip/prune.py. -/
import Derived.Test.YtieieindakbpoaaQOpens
import Derived.Test.YtieieindakbpoaaProg
import Derived.Test.YtieieindakbpoaaQSxKinds
namespace Go.Proofs.Ytieieindakbpoaa.Opens
open Go.RowKit Go.Deep Go.Proofs.Ytieieindakbpoaa.Kinds Go.Proofs.YtieieindakbpoaaW.PrintWords
set_option linter.unusedVariables false
section
variable {P : Program} {w : World} {H : Type} {enc : TypeId × Value → H}
theorem okWide_array {r : Reach} {base : Nat} {t n e : Nat} {v : Value} (ht : P.underlying t = some (.array n e)) (h : Value.okWide P w r base t v) : ∃ cs, v = .agg cs ∧ cs.size = P.cellsOf t := by
  simp only [Value.okWide, ht] at h
  obtain ⟨cs, h1, h2, _⟩ := h
  exact ⟨cs, h1, h2⟩
theorem arg_ints2 {t e : TypeId} {cs : Array Value} {dd : DataW H} {p : List MemPlace} (ht : P.underlying t = some (.array 2 e)) (he : P.underlying e = some (.int .i64)) (hc : P.cellsOf e = 1) (hs : P.cellsOf t = 2)
    (hd : DataW.Trod enc P w 0 (fun _ => true) true t (.agg cs) dd p) : ∃ i0 i1, cs = #[.int .i64 i0, .int .i64 i1] := by
  obtain ⟨fuel, hf⟩ := hd
  cases fuel with
  | zero => simp [DataW.trod] at hf
  | succ m =>
    unfold DataW.trod at hf
    rw [ht] at hf
    have hf' : (if cs.toList.length = P.cellsOf t then ((List.range 2).mapM fun i => DataW.trod enc P w 0 (fun _ => true) true m e ((cs.toList.drop (i * P.cellsOf e)).take (P.cellsOf e))).map fun xs => (DataW.agg (xs.map (·.1)), xs.flatMap (·.2)) else none) = some (dd, p) := by
      split at hf <;> simp_all [Value.cells]
    by_cases hl : cs.toList.length = P.cellsOf t
    · rw [if_pos hl] at hf'
      obtain ⟨ys, hy, _⟩ := Option.map_eq_some_iff.1 hf'
      rw [show List.range 2 = [0, 1] from rfl] at hy
      simp only [List.mapM_cons, List.mapM_nil] at hy
      obtain ⟨x0, h0, hy⟩ := Option.bind_eq_some_iff.1 hy
      obtain ⟨y1, h1, _⟩ := Option.bind_eq_some_iff.1 hy
      obtain ⟨x1, h1, _⟩ := Option.bind_eq_some_iff.1 h1
      obtain ⟨a0, k0, _⟩ := (opens_int (k := .i64) he hc).2 H enc w m _ _ h0
      obtain ⟨a1, k1, _⟩ := (opens_int (k := .i64) he hc).2 H enc w m _ _ h1
      refine ⟨a0, a1, ?_⟩
      rw [hs] at hl
      rw [hc] at k0 k1
      obtain ⟨l⟩ := cs
      match l, hl with
      | [u, v], _ =>
        have k0 : [u] = [Value.int .i64 a0] := k0
        have k1 : [v] = [Value.int .i64 a1] := k1
        injection k0 with k0 _
        injection k1 with k1 _
        rw [k0, k1]
    · rw [if_neg hl] at hf'; cases hf'
end
end Go.Proofs.Ytieieindakbpoaa.Opens
