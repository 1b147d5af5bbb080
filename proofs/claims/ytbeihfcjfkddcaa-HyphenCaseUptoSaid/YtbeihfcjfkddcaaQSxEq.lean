/- Pruned by wip/prune.py. -/
import Derived.Test.YtbeihfcjfkddcaaQSxView
import Derived.Laws.StructEq
namespace Go.Proofs.Ytbeihfcjfkddcaa.Sx
open Go Go.RowKit Go.Proofs.YtbeihfcjfkddcaaW.PrintWords
set_option linter.unusedVariables false
set_option linter.unusedSimpArgs false
section
variable {P : Program} {w : World}
theorem en_shift {w0 : World} {F0 : Nat → Prop} {R cs2 : List HP} {Q : World → Prop} (hr : ∀ cs w, St w0 F0 (cs ++ R) w → Q w) : ∀ cs w, St w0 F0 (cs ++ (cs2 ++ R)) w → Q w := fun cs w h => hr (cs ++ cs2) w (by rw [List.append_assoc]; exact h)
theorem mkInt (k : IntKind) (x : Int) {w : World} {b : Nat} {ok : Nat → Prop} : (Kd.int k).M w b ok x [.int k x] := rfl
theorem mkStr (x : ByteArray) {w : World} {b : Nat} {ok : Nat → Prop} : Kd.string.M w b ok x [.string x] := rfl
end
end Go.Proofs.Ytbeihfcjfkddcaa.Sx
