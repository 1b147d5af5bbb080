/- Pruned by wip/prune.py. -/
import Derived.Test.YtbeihfcjfkddcaaProg
import Derived.Test.YtbeihfcjfkddcaaQSxGlue
import Derived.Test.YtbeihfcjfkddcaaQSxFlow
import Derived.Test.YtbeihfcjfkddcaaQSxIter
import Derived.Test.YtbeihfcjfkddcaaQSxBytes
import Derived.Test.YtbeihfcjfkddcaaQHyWf
import Derived.Test.YtbeihfcjfkddcaaQSxRunes
import Derived.Test.YtbeihfcjfkddcaaQSxLetter
import Derived.Test.YtbeihfcjfkddcaaQSxText
import Derived.Test.YtbeihfcjfkddcaaQSxHRead
import Derived.Test.YtbeihfcjfkddcaaQSxHRef
import Derived.Test.YtbeihfcjfkddcaaQSxTree
import Derived.Test.YtbeihfcjfkddcaaQSxBook
import Derived.Test.YtbeihfcjfkddcaaQSxPoints
import Derived.Test.YtbeihfcjfkddcaaQHyEq
import Derived.Test.YtbeihfcjfkddcaaQSxRefPts
namespace Go.Proofs.Ytbeihfcjfkddcaa.SM
open Go Go.RowKit Go.Proofs.YtbeihfcjfkddcaaW.PrintWords Go.Proofs.Ytbeihfcjfkddcaa.Hy Go.Proofs.Ytbeihfcjfkddcaa.Given Go.Proofs.Ytbeihfcjfkddcaa.Rn Go.Proofs.Ytbeihfcjfkddcaa.Sx 
set_option linter.unusedVariables false
set_option linter.unusedSimpArgs false
theorem ent31 : Sx.Ent Try.prog 31 := ⟨Try.f31, Try.func31, by kernel_rfl, by kernel_rfl⟩
set_option maxHeartbeats 1000000 in
set_option maxRecDepth 100000 in
theorem Same_calls {w0 w : World} {F0 : Nat → Prop} {R : List Sx.HP} (A : Option Addr) (c : Nat) (a : List Int) (B : Option Addr) (d : Nat) (b : List Int) (hA : ∀ cs w, Sx.St w0 F0 (cs ++ R) w → (Kd.int .i64).C w A a.length a) (hB : ∀ cs w, Sx.St w0 F0 (cs ++ R) w → (Kd.int .i64).C w B b.length b) (hla : a.length ≤ 1000000000000) (h : Sx.St w0 F0 ([] ++ R) w) : Calls Try.prog 14 #[.slice (A) (a.length) (c), .slice (B) (b.length) (d)] w (fun e w1 => e = .returned (.bool (decide (a = b))) ∧ Sx.St w0 F0 R w1) := by
 refine Sx.calls_fn (vs := [.slice (A) (a.length) (c), .slice (B) (b.length) (d)]) Try.func14 rfl Try.ntmps14 rfl ?_
 refine wc_seq ?_
 refine wc_region ?_
 refine wl_v rfl rfl (ov_assign _ rfl) ?_
 refine wl_nil ?_
 refine qn_then ?_
 refine wc_seq ?_
 refine wc_region ?_
 refine wl_v rfl rfl (ov_move _ rfl) ?_
 refine wl_v rfl rfl (ov_move _ rfl) ?_
 refine wl_call _ rfl rfl rfl ent31 (RF.same_calls (R := [] ++ R) (A) (c) a (B) (d) b (Sx.en_shift (cs2 := []) hA) (Sx.en_shift (cs2 := []) hB) (by omega) h) ?_
 rintro e_ w_ ⟨rfl, h⟩
 refine ⟨_, rfl, ?_⟩
 refine wl_v rfl rfl (ov_assign _ rfl) ?_
 refine wl_nil ?_
 refine qn_then ?_
 refine wc_ret ?_
 refine qn_ret [_] ⟨rfl, trivial⟩ ?_
 exact ⟨rfl, h⟩
end Go.Proofs.Ytbeihfcjfkddcaa.SM
