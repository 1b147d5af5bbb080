/- Pruned by wip/prune.py. -/
import Derived.Test.YtmlkajmlhmfdgaaQSxEq
namespace Go.Proofs.Ytmlkajmlhmfdgaa.Sx
open Go Go.RowKit Go.Proofs.YtmlkajmlhmfdgaaW.PrintWords
set_option linter.unusedVariables false
theorem Sep_append : ∀ {ps cs : List HP} {w : World} {F1 F : Nat → Prop}, Sep ps w F1 → Sep cs w F → (∀ k, F1 k → F k → False) → Sep (ps ++ cs) w (fun k => F1 k ∨ F k)
  | [], cs, w, F1, F, _, h, _ => Sep_mono (fun k hk => .inr hk) h
  | p :: ps, cs, w, F1, F, ⟨G, g1, g2, g3⟩, h, hd => by
    refine ⟨G, fun k hk => .inl (g1 k hk), g2, ?_⟩
    refine Sep_mono (fun k hk => ?_) (Sep_append g3 h (fun k hk hf => hd k hk.1 hf))
    rcases hk with hk | hk
    · exact ⟨.inl hk.1, hk.2⟩
    · exact ⟨.inr hk, fun e => hd k (g1 k e) hk⟩
/-- A call that only reads what was, and its new pieces. -/
theorem st_glue {w0 w w1 : World} {F0 : Nat → Prop} {ps cs : List HP} (h : St w0 F0 cs w) (h1 : St w (fun _ => False) ps w1) : St w0 F0 (ps ++ cs) w1 := by
  obtain ⟨a1, a2, a3, a4, F, a5, a6, a7, a8⟩ := h
  obtain ⟨b1, b2, b3, b4, F1, b5, b6, b7, b8⟩ := h1
  have hb : ∀ k, k < w.heap.size → w1.heap[k]? = w.heap[k]? := fun k hk => b8 k hk (fun e => e)
  refine ⟨b1.trans a1, b2.trans a2, b3.trans a3, Nat.le_trans a4 b4, fun k => F1 k ∨ F k, Sep_append b5 (Sep_move (fun k hk => hb k (a6 k hk)) a5) (fun k h1 h2 => ?_), fun k hk => hk.elim (b6 k) (fun e => Nat.lt_of_lt_of_le (a6 k e) b4),
    fun k hk => hk.elim (fun e => .inr ?_) (a7 k), fun k hk hn => (hb k (Nat.lt_of_lt_of_le hk a4)).trans (a8 k hk hn)⟩
  · have := (b7 k h1).resolve_left (fun e => e); have := a6 k h2; omega
  · have := (b7 k e).resolve_left (fun e => e); omega
end Go.Proofs.Ytmlkajmlhmfdgaa.Sx
