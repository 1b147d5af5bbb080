/- Pruned by wip/prune.py. -/
import Derived.Test.YtbakllppgekmoaaProg
import Derived.Test.YtbakllppgekmoaaQSxGlue
import Derived.Test.YtbakllppgekmoaaQSxFlow
import Derived.Test.YtbakllppgekmoaaQRunesParts
import Derived.Test.YtbakllppgekmoaaQSxRunes
namespace Go.Proofs.Ytbakllppgekmoaa.TX
open Go Go.RowKit Go.Proofs.YtbakllppgekmoaaW.PrintWords Go.Proofs.Ytbakllppgekmoaa.Given Go.Proofs.Ytbakllppgekmoaa.Rn Go.Proofs.Ytbakllppgekmoaa.Sx 
set_option linter.unusedVariables false
set_option linter.unusedSimpArgs false
theorem ent16 : Sx.Ent Try.prog 16 := ⟨Try.f16, Try.func16, by kernel_rfl, by kernel_rfl⟩
theorem ent30 : Sx.Ent Try.prog 30 := ⟨Try.f30, Try.func30, by kernel_rfl, by kernel_rfl⟩
theorem es49 : Sx.elemSz Try.prog 49 = some (3, 1) := by kernel_rfl
set_option maxHeartbeats 4000000 in
set_option maxRecDepth 100000 in
theorem right_calls {w0 w : World} {F0 : Nat → Prop} {R : List Sx.HP} (s : ByteArray)  (h : Sx.St w0 F0 ([] ++ R) w) : Calls Try.prog 14 #[.string (s)] w (fun e w1 => ∃ b_, e = .returned (.bool b_) ∧ (b_ = true → s.size ≤ 300 ∧ (refV s).2 < 0) ∧ Sx.St w0 F0 R w1) := by
 refine Sx.calls_fn (vs := [.string (s)]) Try.func14 rfl Try.ntmps14 rfl ?_
 refine wc_seq ?_
 refine wc_region ?_
 refine wl_v rfl rfl (ov_assign _ rfl) ?_
 refine wl_nil ?_
 refine qn_then ?_
 refine wc_seq ?_
 refine wc_region ?_
 refine wl_v rfl rfl (ov_move _ rfl) ?_
 refine wl_v rfl rfl (ov_lens _ rfl Try.underlying9) ?_
 refine wl_v rfl rfl (ov_bin _ rfl rfl (binR_leq)) ?_
 refine wl_v rfl rfl (ov_move _ rfl) ?_
 refine wl_split 6 rfl (fun c1 => ?_) (fun c1 => ?_)
 ·
  refine wl_v rfl rfl (ov_move _ rfl) ?_
  refine wl_call _ rfl rfl rfl ent16 (RN.Right_calls (R := [] ++ R) s (by omega) h) ?_
  rintro e_ w_ ⟨rfl, h⟩
  refine ⟨_, rfl, ?_⟩
  refine wl_v rfl rfl (ov_pick_true _ rfl rfl) ?_
  refine wl_v rfl rfl (ov_assign _ rfl) ?_
  refine wl_nil ?_
  refine qn_then ?_
  refine wc_ret ?_
  refine qn_ret [_] ⟨rfl, trivial⟩ ?_
  exact ⟨_, rfl, fun z_ => ⟨by omega, of_decide_eq_true z_⟩, h⟩
 ·
  refine wl_skip rfl rfl ?_
  refine wl_skip rfl rfl ?_
  refine wl_v rfl rfl (ov_pick_false _ rfl rfl) ?_
  refine wl_v rfl rfl (ov_assign _ rfl) ?_
  refine wl_nil ?_
  refine qn_then ?_
  refine wc_ret ?_
  refine qn_ret [_] ⟨rfl, trivial⟩ ?_
  exact ⟨_, rfl, fun z_ => (by cases z_), h⟩
end Go.Proofs.Ytbakllppgekmoaa.TX
