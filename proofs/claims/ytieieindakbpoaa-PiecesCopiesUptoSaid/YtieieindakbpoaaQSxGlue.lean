/- Pruned by wip/prune.py. -/
import Derived.Test.YtieieindakbpoaaQSxEq
namespace Go.Proofs.Ytieieindakbpoaa.Sx
open Go Go.RowKit Go.Proofs.YtieieindakbpoaaW.PrintWords
set_option linter.unusedVariables false
theorem Sep_append : ∀ {ps cs : List HP} {w : World} {F1 F : Nat → Prop}, Sep ps w F1 → Sep cs w F → (∀ k, F1 k → F k → False) → Sep (ps ++ cs) w (fun k => F1 k ∨ F k)
  | [], cs, w, F1, F, _, h, _ => Sep_mono (fun k hk => .inr hk) h
  | p :: ps, cs, w, F1, F, ⟨G, g1, g2, g3⟩, h, hd => by
    refine ⟨G, fun k hk => .inl (g1 k hk), g2, ?_⟩
    refine Sep_mono (fun k hk => ?_) (Sep_append g3 h (fun k hk hf => hd k hk.1 hf))
    rcases hk with hk | hk
    · exact ⟨.inl hk.1, hk.2⟩
    · exact ⟨.inr hk, fun e => hd k (g1 k e) hk⟩
end Go.Proofs.Ytieieindakbpoaa.Sx
