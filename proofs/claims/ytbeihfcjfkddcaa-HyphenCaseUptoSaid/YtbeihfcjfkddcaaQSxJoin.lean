/- Pruned by wip/prune.py. -/
import Derived.Test.YtbeihfcjfkddcaaQSxGlue
namespace Go.Proofs.Ytbeihfcjfkddcaa.Sx
open Go Go.RowKit Go.Proofs.YtbeihfcjfkddcaaW.PrintWords
set_option linter.unusedVariables false
def Joined {X : Type} (n : Nat) (fx : X → List (Nat × Value)) (J : X → World → Prop) (Q : Exit → Act → World → Prop) (e : Exit) (a : Act) (w : World) : Prop := match e with
  | .normal => ∃ x, Fr n (fx x) a ∧ J x w
  | e' => Q e' a w
section
variable {P : Program} {Q : Exit → Act → World → Prop} {n : Nat} {f : List (Nat × Value)} {w : World}
theorem wc_join {X : Type} {c : Code} (fx : X → List (Nat × Value)) (J : X → World → Prop) (h : WC P c (Joined n fx J Q) n f w) (k : ∀ x w, J x w → QN Q .normal n (fx x) w) : WC P c Q n f w := fun a fa =>
  wp_mono (h a fa) fun e a' w' hq => by
    cases e with
    | normal =>
      obtain ⟨x, h1, h2⟩ := hq
      exact k x w' h2 a' h1
    | _ => exact hq
theorem qn_joined {X : Type} {fx : X → List (Nat × Value)} {J : X → World → Prop} (x : X) (hs : SubL f (fx x)) (hJ : J x w) : QN (Joined n fx J Q) .normal n f w := fun a fa => ⟨x, fa.sub hs, hJ⟩
theorem qn_join_ret {X : Type} {fx : X → List (Nat × Value)} {J : X → World → Prop} (h : QN Q .ret n f w) : QN (Joined n fx J Q) .ret n f w := fun a fa => h a fa
end
end Go.Proofs.Ytbeihfcjfkddcaa.Sx
