/- Pruned by wip/prune.py. -/
import Derived.Test.YtbakllppgekmoaaQSxGlue
namespace Go.Proofs.Ytbakllppgekmoaa.Sx
open Go Go.RowKit Go.Proofs.YtbakllppgekmoaaW.PrintWords
set_option linter.unusedVariables false
def Joined {X : Type} (n : Nat) (fx : X → List (Nat × Value)) (J : X → World → Prop) (Q : Exit → Act → World → Prop) (e : Exit) (a : Act) (w : World) : Prop := match e with
  | .normal => ∃ x, Fr n (fx x) a ∧ J x w
  | e' => Q e' a w
section
variable {P : Program} {Q : Exit → Act → World → Prop} {n : Nat} {f : List (Nat × Value)} {w : World}
theorem wc_join {X : Type} {c : Code} (fx : X → List (Nat × Value)) (J : X → World → Prop) (h : WC P c (Joined n fx J Q) n f w) (k : ∀ x w, J x w → QN Q .normal n (fx x) w) : WC P c Q n f w := fun a fa =>
  wp_mono (h a fa) fun e a' w' hq => by
    cases e with
    | normal =>
      obtain ⟨x, h1, h2⟩ := hq
      exact k x w' h2 a' h1
    | _ => exact hq
theorem qn_joined {X : Type} {fx : X → List (Nat × Value)} {J : X → World → Prop} (x : X) (hs : SubL f (fx x)) (hJ : J x w) : QN (Joined n fx J Q) .normal n f w := fun a fa => ⟨x, fa.sub hs, hJ⟩
theorem qn_join_ret {X : Type} {fx : X → List (Nat × Value)} {J : X → World → Prop} (h : QN Q .ret n f w) : QN (Joined n fx J Q) .ret n f w := fun a fa => h a fa
end
/-- What a call made in a world that was taken for the beginning: a piece more. -/
theorem st_rebase {c : HP} {cs : List HP} {w0 w w1 : World} {F0 : Nat → Prop} (h : St w0 F0 cs w) (h2 : St w (fun _ => False) [c] w1) : St w0 F0 (c :: cs) w1 := by
  obtain ⟨h1, h3, h4, h5, F, ⟨G, g1, g2, _⟩, h6, h7, h8⟩ := h2
  have hF : ∀ k, F k → w.heap.size ≤ k := fun k hk => (h7 k hk).elim (fun e => e.elim) id
  exact st_add h ⟨h1, h3, h4, h5, fun k hk => h8 k hk (fun e => e)⟩ (c.mono (fun k hk => hF k (g1 k hk)) g2)
end Go.Proofs.Ytbakllppgekmoaa.Sx
