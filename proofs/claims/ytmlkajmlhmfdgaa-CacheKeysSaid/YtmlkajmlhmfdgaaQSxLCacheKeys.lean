/- Pruned by wip/prune.py. -/
import Derived.Test.YtmlkajmlhmfdgaaProg
import Derived.Test.YtmlkajmlhmfdgaaQSxGlue
import Derived.Test.YtmlkajmlhmfdgaaQSxArr
import Derived.Test.YtmlkajmlhmfdgaaQSxKinds
import Derived.Test.YtmlkajmlhmfdgaaQRunsTh
import Derived.Test.YtmlkajmlhmfdgaaQSxRunsR
import Derived.Test.YtmlkajmlhmfdgaaQCaP
import Derived.Test.YtmlkajmlhmfdgaaQCaRef
import Derived.Test.YtmlkajmlhmfdgaaQSxCKey
import Derived.Test.YtmlkajmlhmfdgaaQSxRowI
import Derived.Test.YtmlkajmlhmfdgaaQSxCaI
import Derived.Test.YtmlkajmlhmfdgaaQSxKeys
import Derived.Test.YtmlkajmlhmfdgaaQSxRefs
import Derived.Test.YtmlkajmlhmfdgaaQCaAwk
import Derived.Test.YtmlkajmlhmfdgaaQSxPlayed
import Derived.Test.YtmlkajmlhmfdgaaQSxAwake
import Derived.Test.YtmlkajmlhmfdgaaQSxRowS
import Derived.Test.YtmlkajmlhmfdgaaQSxCaS
namespace Go.Proofs.Ytmlkajmlhmfdgaa.L
open Go Go.RowKit Go.Proofs.YtmlkajmlhmfdgaaW.PrintWords Go.Proofs.Ytmlkajmlhmfdgaa.Kinds Go.Proofs.Ytmlkajmlhmfdgaa.Runs Go.Proofs.Ytmlkajmlhmfdgaa.RW Go.Proofs.Ytmlkajmlhmfdgaa.Ca Go.Proofs.Ytmlkajmlhmfdgaa.Sx Go.Proofs.Ytmlkajmlhmfdgaa.RI Go.Proofs.Ytmlkajmlhmfdgaa.CCI Go.Proofs.Ytmlkajmlhmfdgaa.Kinds 
set_option linter.unusedVariables false
set_option linter.unusedSimpArgs false
theorem ent9 : Sx.Ent Try.prog 9 := ⟨Try.f9, Try.func9, by kernel_rfl, by kernel_rfl⟩
theorem sh33 : Sx.shapeOf Try.prog 33 = some (true, 11) := by kernel_rfl
theorem ent15 : Sx.Ent Try.prog 15 := ⟨Try.f15, Try.func15, by kernel_rfl, by kernel_rfl⟩
theorem ent16 : Sx.Ent Try.prog 16 := ⟨Try.f16, Try.func16, by kernel_rfl, by kernel_rfl⟩
theorem ent18 : Sx.Ent Try.prog 18 := ⟨Try.f18, Try.func18, by kernel_rfl, by kernel_rfl⟩
theorem ent17 : Sx.Ent Try.prog 17 := ⟨Try.f17, Try.func17, by kernel_rfl, by kernel_rfl⟩
theorem ent19 : Sx.Ent Try.prog 19 := ⟨Try.f19, Try.func19, by kernel_rfl, by kernel_rfl⟩
set_option maxHeartbeats 400000 in
set_option maxRecDepth 100000 in
theorem CacheKeys_calls {w0 w : World} {F0 : Nat → Prop} {R : List Sx.HP} {v0 : World} (a : S33) (Aa0 : Option Addr) (ca0 : Nat) (b : S33) (Ab0 : Option Addr) (cb0 : Nat) (hv : Sx.RO v0 w0 F0) (hla0 : a.f1.length ≤ ca0) (hCa0 : k50.C v0 Aa0 a.f1.length a.f1) (hlb0 : b.f1.length ≤ cb0) (hCb0 : k50.C v0 Ab0 b.f1.length b.f1) (h : Sx.St w0 F0 ([] ++ R) w) : Calls Try.prog 4 #[.agg #[.string ((a).f0), .slice (Aa0) (((a).f1).length) (ca0), .int .i64 ((a).f2), .int .i64 ((a).f3), .int .i64 (((a).f4).f0), .int .i64 (((a).f4).f1), .int .i64 (((a).f4).f2), .int .i64 (((a).f4).f3), .int .i64 (((a).f4).f4), .int .i64 (((a).f4).f5), .int .i64 (((a).f4).f6)], .agg #[.string ((b).f0), .slice (Ab0) (((b).f1).length) (cb0), .int .i64 ((b).f2), .int .i64 ((b).f3), .int .i64 (((b).f4).f0), .int .i64 (((b).f4).f1), .int .i64 (((b).f4).f2), .int .i64 (((b).f4).f3), .int .i64 (((b).f4).f4), .int .i64 (((b).f4).f5), .int .i64 (((b).f4).f6)]] w (fun e w1 => e = .returned (.bool true) ∧ Sx.St w0 F0 R w1) := by
 refine Sx.calls_fn (vs := [.agg #[.string ((a).f0), .slice (Aa0) (((a).f1).length) (ca0), .int .i64 ((a).f2), .int .i64 ((a).f3), .int .i64 (((a).f4).f0), .int .i64 (((a).f4).f1), .int .i64 (((a).f4).f2), .int .i64 (((a).f4).f3), .int .i64 (((a).f4).f4), .int .i64 (((a).f4).f5), .int .i64 (((a).f4).f6)], .agg #[.string ((b).f0), .slice (Ab0) (((b).f1).length) (cb0), .int .i64 ((b).f2), .int .i64 ((b).f3), .int .i64 (((b).f4).f0), .int .i64 (((b).f4).f1), .int .i64 (((b).f4).f2), .int .i64 (((b).f4).f3), .int .i64 (((b).f4).f4), .int .i64 (((b).f4).f5), .int .i64 (((b).f4).f6)]]) Try.func4 rfl Try.ntmps4 rfl ?_
 refine wc_seq ?_
 refine wc_region ?_
 refine wl_box _ h rfl rfl rfl (fun b1 _ h => ?_)
 replace h : Sx.St _ _ (Sx.blk b1 [.string ((a).f0), .slice (Aa0) (((a).f1).length) (ca0), .int .i64 ((a).f2), .int .i64 ((a).f3), .int .i64 (((a).f4).f0), .int .i64 (((a).f4).f1), .int .i64 (((a).f4).f2), .int .i64 (((a).f4).f3), .int .i64 (((a).f4).f4), .int .i64 (((a).f4).f5), .int .i64 (((a).f4).f6)] 33 :: _) _ := h
 refine wl_box _ h rfl rfl rfl (fun b2 _ h => ?_)
 replace h : Sx.St _ _ (Sx.blk b2 [.string ((b).f0), .slice (Ab0) (((b).f1).length) (cb0), .int .i64 ((b).f2), .int .i64 ((b).f3), .int .i64 (((b).f4).f0), .int .i64 (((b).f4).f1), .int .i64 (((b).f4).f2), .int .i64 (((b).f4).f3), .int .i64 (((b).f4).f4), .int .i64 (((b).f4).f5), .int .i64 (((b).f4).f6)] 33 :: _) _ := h
 refine wl_v rfl rfl (ov_assign _ rfl) ?_
 refine wl_nil ?_
 refine qn_then ?_
 refine wc_seq ?_
 refine wc_seq ?_
 refine wc_region ?_
 refine wl_call _ rfl rfl rfl ent9 (AW.awake_calls (R := [Sx.blk b2 [.string ((b).f0), .slice (Ab0) (((b).f1).length) (cb0), .int .i64 ((b).f2), .int .i64 ((b).f3), .int .i64 (((b).f4).f0), .int .i64 (((b).f4).f1), .int .i64 (((b).f4).f2), .int .i64 (((b).f4).f3), .int .i64 (((b).f4).f4), .int .i64 (((b).f4).f5), .int .i64 (((b).f4).f6)] 33, Sx.blk b1 [.string ((a).f0), .slice (Aa0) (((a).f1).length) (ca0), .int .i64 ((a).f2), .int .i64 ((a).f3), .int .i64 (((a).f4).f0), .int .i64 (((a).f4).f1), .int .i64 (((a).f4).f2), .int .i64 (((a).f4).f3), .int .i64 (((a).f4).f4), .int .i64 (((a).f4).f5), .int .i64 (((a).f4).f6)] 33] ++ R) h) ?_
 rintro e_ w_ ⟨rfl, h⟩
 refine ⟨_, rfl, ?_⟩
 refine wl_v rfl rfl (ov_notb _ rfl) ?_
 refine wl_nil ?_
 refine qn_then ?_
 refine wc_cond_false rfl ?_
 refine wc_skip ?_
 refine qn_then ?_
 refine wc_seq ?_
 refine wc_seq ?_
 refine wc_region ?_
 refine wl_v rfl rfl (ov_loadbN 1 [.string ((a).f0), .slice (Aa0) (((a).f1).length) (ca0), .int .i64 ((a).f2), .int .i64 ((a).f3), .int .i64 (((a).f4).f0), .int .i64 (((a).f4).f1), .int .i64 (((a).f4).f2), .int .i64 (((a).f4).f3), .int .i64 (((a).f4).f4), .int .i64 (((a).f4).f5), .int .i64 (((a).f4).f6)] h rfl rfl sh33 rfl) ?_
 refine wl_call _ rfl rfl rfl ent15 (CK.fits_calls (R := [Sx.blk b2 [.string ((b).f0), .slice (Ab0) (((b).f1).length) (cb0), .int .i64 ((b).f2), .int .i64 ((b).f3), .int .i64 (((b).f4).f0), .int .i64 (((b).f4).f1), .int .i64 (((b).f4).f2), .int .i64 (((b).f4).f3), .int .i64 (((b).f4).f4), .int .i64 (((b).f4).f5), .int .i64 (((b).f4).f6)] 33, Sx.blk b1 [.string ((a).f0), .slice (Aa0) (((a).f1).length) (ca0), .int .i64 ((a).f2), .int .i64 ((a).f3), .int .i64 (((a).f4).f0), .int .i64 (((a).f4).f1), .int .i64 (((a).f4).f2), .int .i64 (((a).f4).f3), .int .i64 (((a).f4).f4), .int .i64 (((a).f4).f5), .int .i64 (((a).f4).f6)] 33] ++ R) (a) (Aa0) (ca0) (fun _ _ h_ => Sx.ro_C hv h_ hCa0) h) ?_
 rintro e_ w_ ⟨rfl, h⟩
 refine ⟨_, rfl, ?_⟩
 refine wl_v rfl rfl (ov_not _ (¬ (fitsP (a))) rfl (by first | exact decide_not.symm | simp)) ?_
 refine wl_v rfl rfl (ov_move _ rfl) ?_
 refine wl_split 11 rfl (fun c3 => ?_) (fun c3 => ?_)
 ·
  refine wl_skip rfl rfl ?_
  refine wl_skip rfl rfl ?_
  refine wl_skip rfl rfl ?_
  refine wl_v rfl rfl (ov_pick_true _ rfl rfl) ?_
  refine wl_nil ?_
  refine qn_then ?_
  refine wc_cond_true rfl ?_
  refine wc_seq ?_
  refine wc_region ?_
  refine wl_v rfl rfl (ov_assign _ rfl) ?_
  refine wl_nil ?_
  refine qn_then ?_
  refine wc_ret ?_
  refine qn_then_ret ?_
  replace h := st_selT [false, false] h
  refine qn_ret [_] ⟨rfl, trivial⟩ ?_
  exact ⟨rfl, h⟩
 ·
  have hfa_ : fitsP a := by simpa using c3
  have hsa_ := fits_small hfa_
  refine wl_v rfl rfl (ov_loadbN 0 [.string ((b).f0), .slice (Ab0) (((b).f1).length) (cb0), .int .i64 ((b).f2), .int .i64 ((b).f3), .int .i64 (((b).f4).f0), .int .i64 (((b).f4).f1), .int .i64 (((b).f4).f2), .int .i64 (((b).f4).f3), .int .i64 (((b).f4).f4), .int .i64 (((b).f4).f5), .int .i64 (((b).f4).f6)] h rfl rfl sh33 rfl) ?_
  refine wl_call _ rfl rfl rfl ent15 (CK.fits_calls (R := [Sx.blk b2 [.string ((b).f0), .slice (Ab0) (((b).f1).length) (cb0), .int .i64 ((b).f2), .int .i64 ((b).f3), .int .i64 (((b).f4).f0), .int .i64 (((b).f4).f1), .int .i64 (((b).f4).f2), .int .i64 (((b).f4).f3), .int .i64 (((b).f4).f4), .int .i64 (((b).f4).f5), .int .i64 (((b).f4).f6)] 33, Sx.blk b1 [.string ((a).f0), .slice (Aa0) (((a).f1).length) (ca0), .int .i64 ((a).f2), .int .i64 ((a).f3), .int .i64 (((a).f4).f0), .int .i64 (((a).f4).f1), .int .i64 (((a).f4).f2), .int .i64 (((a).f4).f3), .int .i64 (((a).f4).f4), .int .i64 (((a).f4).f5), .int .i64 (((a).f4).f6)] 33] ++ R) (b) (Ab0) (cb0) (fun _ _ h_ => Sx.ro_C hv h_ hCb0) h) ?_
  rintro e_ w_ ⟨rfl, h⟩
  refine ⟨_, rfl, ?_⟩
  refine wl_v rfl rfl (ov_not _ (¬ (fitsP (b))) rfl (by first | exact decide_not.symm | simp)) ?_
  refine wl_v rfl rfl (ov_pick_false _ rfl rfl) ?_
  refine wl_nil ?_
  refine qn_then ?_
  refine wc_cond (by rfl) (fun c4 => ?_) (fun c4 => ?_)
  ·
   refine wc_seq ?_
   refine wc_region ?_
   refine wl_v rfl rfl (ov_assign _ rfl) ?_
   refine wl_nil ?_
   refine qn_then ?_
   refine wc_ret ?_
   refine qn_then_ret ?_
   replace h := st_selT [false, false] h
   refine qn_ret [_] ⟨rfl, trivial⟩ ?_
   exact ⟨rfl, h⟩
  ·
   have hfb_ : fitsP b := by simpa using c4
   have hsb_ := fits_small hfb_
   refine wc_skip ?_
   refine qn_then ?_
   refine wc_seq ?_
   refine wc_region ?_
   refine wl_v rfl rfl (ov_loadbN 1 [.string ((a).f0), .slice (Aa0) (((a).f1).length) (ca0), .int .i64 ((a).f2), .int .i64 ((a).f3), .int .i64 (((a).f4).f0), .int .i64 (((a).f4).f1), .int .i64 (((a).f4).f2), .int .i64 (((a).f4).f3), .int .i64 (((a).f4).f4), .int .i64 (((a).f4).f5), .int .i64 (((a).f4).f6)] h rfl rfl sh33 rfl) ?_
   refine wl_v rfl rfl (ov_loadbN 0 [.string ((b).f0), .slice (Ab0) (((b).f1).length) (cb0), .int .i64 ((b).f2), .int .i64 ((b).f3), .int .i64 (((b).f4).f0), .int .i64 (((b).f4).f1), .int .i64 (((b).f4).f2), .int .i64 (((b).f4).f3), .int .i64 (((b).f4).f4), .int .i64 (((b).f4).f5), .int .i64 (((b).f4).f6)] h rfl rfl sh33 rfl) ?_
   refine wl_call _ rfl rfl rfl ent16 (CK.Alike_calls (R := [Sx.blk b2 [.string ((b).f0), .slice (Ab0) (((b).f1).length) (cb0), .int .i64 ((b).f2), .int .i64 ((b).f3), .int .i64 (((b).f4).f0), .int .i64 (((b).f4).f1), .int .i64 (((b).f4).f2), .int .i64 (((b).f4).f3), .int .i64 (((b).f4).f4), .int .i64 (((b).f4).f5), .int .i64 (((b).f4).f6)] 33, Sx.blk b1 [.string ((a).f0), .slice (Aa0) (((a).f1).length) (ca0), .int .i64 ((a).f2), .int .i64 ((a).f3), .int .i64 (((a).f4).f0), .int .i64 (((a).f4).f1), .int .i64 (((a).f4).f2), .int .i64 (((a).f4).f3), .int .i64 (((a).f4).f4), .int .i64 (((a).f4).f5), .int .i64 (((a).f4).f6)] 33] ++ R) (a) (b) (Aa0) (Ab0) (ca0) (cb0) hsa_ hsb_ (fun _ _ h_ => Sx.ro_C hv h_ hCa0) (fun _ _ h_ => Sx.ro_C hv h_ hCb0) h) ?_
   rintro e_ w_ ⟨rfl, h⟩
   refine ⟨_, rfl, ?_⟩
   refine wl_v rfl rfl (ov_assign _ rfl) ?_
   refine wl_nil ?_
   refine qn_then ?_
   refine wc_seq ?_
   refine wc_draw (fun w => Sx.St w0 F0 ([Sx.blk b2 [.string ((b).f0), .slice (Ab0) (((b).f1).length) (cb0), .int .i64 ((b).f2), .int .i64 ((b).f3), .int .i64 (((b).f4).f0), .int .i64 (((b).f4).f1), .int .i64 (((b).f4).f2), .int .i64 (((b).f4).f3), .int .i64 (((b).f4).f4), .int .i64 (((b).f4).f5), .int .i64 (((b).f4).f6)] 33, Sx.blk b1 [.string ((a).f0), .slice (Aa0) (((a).f1).length) (ca0), .int .i64 ((a).f2), .int .i64 ((a).f3), .int .i64 (((a).f4).f0), .int .i64 (((a).f4).f1), .int .i64 (((a).f4).f2), .int .i64 (((a).f4).f3), .int .i64 (((a).f4).f4), .int .i64 (((a).f4).f5), .int .i64 (((a).f4).f6)] 33] ++ R) w) (by kernel_rfl) ?_
   replace h := st_drew h
   refine wa_tk 0 rfl rfl rfl (st_selT [true, true] h) (fun w_ hS => ov_move _ rfl) ?_
   refine wa_tk 1 rfl rfl rfl (st_selT [true, true] h) (fun w_ hS => ov_loadbN 1 [.string ((a).f0), .slice (Aa0) (((a).f1).length) (ca0), .int .i64 ((a).f2), .int .i64 ((a).f3), .int .i64 (((a).f4).f0), .int .i64 (((a).f4).f1), .int .i64 (((a).f4).f2), .int .i64 (((a).f4).f3), .int .i64 (((a).f4).f4), .int .i64 (((a).f4).f5), .int .i64 (((a).f4).f6)] hS rfl rfl sh33 rfl) ?_
   refine wa_tk 3 rfl rfl rfl (st_selT [true, true] h) (fun w_ hS => ov_loadbN 0 [.string ((b).f0), .slice (Ab0) (((b).f1).length) (cb0), .int .i64 ((b).f2), .int .i64 ((b).f3), .int .i64 (((b).f4).f0), .int .i64 (((b).f4).f1), .int .i64 (((b).f4).f2), .int .i64 (((b).f4).f3), .int .i64 (((b).f4).f4), .int .i64 (((b).f4).f5), .int .i64 (((b).f4).f6)] hS rfl rfl sh33 rfl) ?_
   refine wa_one 2 rfl (by kernel_rfl) ?_
   refine wl_call _ rfl rfl rfl ent18 (CK.ref_calls (R := [Sx.blk b2 [.string ((b).f0), .slice (Ab0) (((b).f1).length) (cb0), .int .i64 ((b).f2), .int .i64 ((b).f3), .int .i64 (((b).f4).f0), .int .i64 (((b).f4).f1), .int .i64 (((b).f4).f2), .int .i64 (((b).f4).f3), .int .i64 (((b).f4).f4), .int .i64 (((b).f4).f5), .int .i64 (((b).f4).f6)] 33, Sx.blk b1 [.string ((a).f0), .slice (Aa0) (((a).f1).length) (ca0), .int .i64 ((a).f2), .int .i64 ((a).f3), .int .i64 (((a).f4).f0), .int .i64 (((a).f4).f1), .int .i64 (((a).f4).f2), .int .i64 (((a).f4).f3), .int .i64 (((a).f4).f4), .int .i64 (((a).f4).f5), .int .i64 (((a).f4).f6)] 33] ++ R) (a) (Aa0) (ca0) h) ?_
   rintro e_ w_ ⟨rfl, h⟩
   refine ⟨_, rfl, ?_⟩
   refine wl_nil ?_
   refine qn_wa (st_selT [true, true] h) ?_
   refine wa_one 4 rfl (by kernel_rfl) ?_
   refine wl_call _ rfl rfl rfl ent18 (CK.ref_calls (R := [Sx.blk b2 [.string ((b).f0), .slice (Ab0) (((b).f1).length) (cb0), .int .i64 ((b).f2), .int .i64 ((b).f3), .int .i64 (((b).f4).f0), .int .i64 (((b).f4).f1), .int .i64 (((b).f4).f2), .int .i64 (((b).f4).f3), .int .i64 (((b).f4).f4), .int .i64 (((b).f4).f5), .int .i64 (((b).f4).f6)] 33, Sx.blk b1 [.string ((a).f0), .slice (Aa0) (((a).f1).length) (ca0), .int .i64 ((a).f2), .int .i64 ((a).f3), .int .i64 (((a).f4).f0), .int .i64 (((a).f4).f1), .int .i64 (((a).f4).f2), .int .i64 (((a).f4).f3), .int .i64 (((a).f4).f4), .int .i64 (((a).f4).f5), .int .i64 (((a).f4).f6)] 33] ++ R) (b) (Ab0) (cb0) h) ?_
   rintro e_ w_ ⟨rfl, h⟩
   refine ⟨_, rfl, ?_⟩
   refine wl_nil ?_
   refine qn_wa (st_selT [true, true] h) ?_
   refine wa_one 5 rfl (by kernel_rfl) ?_
   refine wl_call _ rfl rfl rfl ent17 (CK.rAlike_calls (R := [Sx.blk b2 [.string ((b).f0), .slice (Ab0) (((b).f1).length) (cb0), .int .i64 ((b).f2), .int .i64 ((b).f3), .int .i64 (((b).f4).f0), .int .i64 (((b).f4).f1), .int .i64 (((b).f4).f2), .int .i64 (((b).f4).f3), .int .i64 (((b).f4).f4), .int .i64 (((b).f4).f5), .int .i64 (((b).f4).f6)] 33, Sx.blk b1 [.string ((a).f0), .slice (Aa0) (((a).f1).length) (ca0), .int .i64 ((a).f2), .int .i64 ((a).f3), .int .i64 (((a).f4).f0), .int .i64 (((a).f4).f1), .int .i64 (((a).f4).f2), .int .i64 (((a).f4).f3), .int .i64 (((a).f4).f4), .int .i64 (((a).f4).f5), .int .i64 (((a).f4).f6)] 33] ++ R) (a) (b) (Aa0) (Ab0) (ca0) (cb0) hsa_ hsb_ (fun _ _ h_ => Sx.ro_C hv h_ hCa0) (fun _ _ h_ => Sx.ro_C hv h_ hCb0) h) ?_
   rintro e_ w_ ⟨rfl, h⟩
   refine ⟨_, rfl, ?_⟩
   refine wl_nil ?_
   refine qn_wa (st_selT [true, true] h) ?_
   refine wa_tk 6 rfl rfl rfl (st_selT [true, true] h) (fun w_ hS => ov_bin _ rfl rfl (binR_eqb Try.underlying4)) ?_
   refine wa_tk 7 rfl rfl rfl (st_selT [true, true] h) (fun w_ hS => ov_move _ rfl) ?_
   refine wa_split 26 rfl (fun c5 => ?_) (fun c5 => ?_)
   ·
    refine wa_tk 8 rfl rfl rfl (st_selT [true, true] h) (fun w_ hS => ov_loadbN 0 [.string ((b).f0), .slice (Ab0) (((b).f1).length) (cb0), .int .i64 ((b).f2), .int .i64 ((b).f3), .int .i64 (((b).f4).f0), .int .i64 (((b).f4).f1), .int .i64 (((b).f4).f2), .int .i64 (((b).f4).f3), .int .i64 (((b).f4).f4), .int .i64 (((b).f4).f5), .int .i64 (((b).f4).f6)] hS rfl rfl sh33 rfl) ?_
    refine wa_tk 9 rfl rfl rfl (st_selT [true, true] h) (fun w_ hS => ov_loadbN 1 [.string ((a).f0), .slice (Aa0) (((a).f1).length) (ca0), .int .i64 ((a).f2), .int .i64 ((a).f3), .int .i64 (((a).f4).f0), .int .i64 (((a).f4).f1), .int .i64 (((a).f4).f2), .int .i64 (((a).f4).f3), .int .i64 (((a).f4).f4), .int .i64 (((a).f4).f5), .int .i64 (((a).f4).f6)] hS rfl rfl sh33 rfl) ?_
    refine wa_tk 11 rfl rfl rfl (st_selT [true, true] h) (fun w_ hS => ov_move _ rfl) ?_
    refine wa_one 10 rfl (by kernel_rfl) ?_
    refine wl_call _ rfl rfl rfl ent16 (CK.Alike_calls (R := [Sx.blk b2 [.string ((b).f0), .slice (Ab0) (((b).f1).length) (cb0), .int .i64 ((b).f2), .int .i64 ((b).f3), .int .i64 (((b).f4).f0), .int .i64 (((b).f4).f1), .int .i64 (((b).f4).f2), .int .i64 (((b).f4).f3), .int .i64 (((b).f4).f4), .int .i64 (((b).f4).f5), .int .i64 (((b).f4).f6)] 33, Sx.blk b1 [.string ((a).f0), .slice (Aa0) (((a).f1).length) (ca0), .int .i64 ((a).f2), .int .i64 ((a).f3), .int .i64 (((a).f4).f0), .int .i64 (((a).f4).f1), .int .i64 (((a).f4).f2), .int .i64 (((a).f4).f3), .int .i64 (((a).f4).f4), .int .i64 (((a).f4).f5), .int .i64 (((a).f4).f6)] 33] ++ R) (b) (a) (Ab0) (Aa0) (cb0) (ca0) hsb_ hsa_ (fun _ _ h_ => Sx.ro_C hv h_ hCb0) (fun _ _ h_ => Sx.ro_C hv h_ hCa0) h) ?_
    rintro e_ w_ ⟨rfl, h⟩
    refine ⟨_, rfl, ?_⟩
    refine wl_nil ?_
    refine qn_wa (st_selT [true, true] h) ?_
    refine wa_tk 12 rfl rfl rfl (st_selT [true, true] h) (fun w_ hS => ov_bin _ rfl rfl (binR_eqb Try.underlying4)) ?_
    refine wa_tk 13 rfl rfl rfl (st_selT [true, true] h) (fun w_ hS => ov_pick_true _ rfl rfl) ?_
    refine wa_tk 14 rfl rfl rfl (st_selT [true, true] h) (fun w_ hS => ov_move _ rfl) ?_
    refine wa_split 33 rfl (fun c6 => ?_) (fun c6 => ?_)
    ·
     refine wa_tk 15 rfl rfl rfl (st_selT [true, true] h) (fun w_ hS => ov_loadbN 1 [.string ((a).f0), .slice (Aa0) (((a).f1).length) (ca0), .int .i64 ((a).f2), .int .i64 ((a).f3), .int .i64 (((a).f4).f0), .int .i64 (((a).f4).f1), .int .i64 (((a).f4).f2), .int .i64 (((a).f4).f3), .int .i64 (((a).f4).f4), .int .i64 (((a).f4).f5), .int .i64 (((a).f4).f6)] hS rfl rfl sh33 rfl) ?_
     refine wa_tk 16 rfl rfl rfl (st_selT [true, true] h) (fun w_ hS => ov_loadbN 1 [.string ((a).f0), .slice (Aa0) (((a).f1).length) (ca0), .int .i64 ((a).f2), .int .i64 ((a).f3), .int .i64 (((a).f4).f0), .int .i64 (((a).f4).f1), .int .i64 (((a).f4).f2), .int .i64 (((a).f4).f3), .int .i64 (((a).f4).f4), .int .i64 (((a).f4).f5), .int .i64 (((a).f4).f6)] hS rfl rfl sh33 rfl) ?_
     refine wa_one 17 rfl (by kernel_rfl) ?_
     refine wl_call _ rfl rfl rfl ent16 (CK.Alike_calls (R := [Sx.blk b2 [.string ((b).f0), .slice (Ab0) (((b).f1).length) (cb0), .int .i64 ((b).f2), .int .i64 ((b).f3), .int .i64 (((b).f4).f0), .int .i64 (((b).f4).f1), .int .i64 (((b).f4).f2), .int .i64 (((b).f4).f3), .int .i64 (((b).f4).f4), .int .i64 (((b).f4).f5), .int .i64 (((b).f4).f6)] 33, Sx.blk b1 [.string ((a).f0), .slice (Aa0) (((a).f1).length) (ca0), .int .i64 ((a).f2), .int .i64 ((a).f3), .int .i64 (((a).f4).f0), .int .i64 (((a).f4).f1), .int .i64 (((a).f4).f2), .int .i64 (((a).f4).f3), .int .i64 (((a).f4).f4), .int .i64 (((a).f4).f5), .int .i64 (((a).f4).f6)] 33] ++ R) (a) (a) (Aa0) (Aa0) (ca0) (ca0) hsa_ hsa_ (fun _ _ h_ => Sx.ro_C hv h_ hCa0) (fun _ _ h_ => Sx.ro_C hv h_ hCa0) h) ?_
     rintro e_ w_ ⟨rfl, h⟩
     refine ⟨_, rfl, ?_⟩
     refine wl_nil ?_
     refine qn_wa (st_selT [true, true] h) ?_
     refine wa_tk 18 rfl rfl rfl (st_selT [true, true] h) (fun w_ hS => ov_pick_true _ rfl rfl) ?_
     refine wa_tk 19 rfl rfl rfl (st_selT [true, true] h) (fun w_ hS => ov_move _ rfl) ?_
     refine wa_splitb 38 rfl (fun c7 => ?_) (fun c7 => ?_)
     ·
      refine wa_tk 20 rfl rfl rfl (st_selT [true, true] h) (fun w_ hS => ov_move _ rfl) ?_
      refine wa_tk 21 rfl rfl rfl (st_selT [true, true] h) (fun w_ hS => ov_notb _ rfl) ?_
      refine wa_tk 22 rfl rfl rfl (st_selT [true, true] h) (fun w_ hS => ov_move _ rfl) ?_
      refine wa_splitb 41 rfl (fun c8 => ?_) (fun c8 => ?_)
      ·
       refine wa_sk 23 rfl rfl rfl (st_selT [true, true] h) ?_
       refine wa_sk 24 rfl rfl rfl (st_selT [true, true] h) ?_
       refine wa_sk 25 rfl rfl rfl (st_selT [true, true] h) ?_
       refine wa_sk 26 rfl rfl rfl (st_selT [true, true] h) ?_
       refine wa_sk 27 rfl rfl rfl (st_selT [true, true] h) ?_
       refine wa_tk 28 rfl rfl rfl (st_selT [true, true] h) (fun w_ hS => ov_pick_true _ rfl rfl) ?_
       refine wa_tk 29 rfl rfl rfl (st_selT [true, true] h) (fun w_ hS => ov_pick_true _ rfl rfl) ?_
       refine wa_tk 30 rfl rfl rfl (st_selT [true, true] h) (fun w_ hS => ov_assign _ rfl) ?_
       refine wa_done (by kernel_rfl) ?_
       refine qn_then ?_
       refine wc_ret ?_
       replace h := st_selT [false, false] h
       refine qn_ret [_] ⟨rfl, trivial⟩ ?_
       exact ⟨rfl, h⟩
      ·
       refine wa_tk 23 rfl rfl rfl (st_selT [true, true] h) (fun w_ hS => ov_loadbN 1 [.string ((a).f0), .slice (Aa0) (((a).f1).length) (ca0), .int .i64 ((a).f2), .int .i64 ((a).f3), .int .i64 (((a).f4).f0), .int .i64 (((a).f4).f1), .int .i64 (((a).f4).f2), .int .i64 (((a).f4).f3), .int .i64 (((a).f4).f4), .int .i64 (((a).f4).f5), .int .i64 (((a).f4).f6)] hS rfl rfl sh33 rfl) ?_
       refine wa_tk 25 rfl rfl rfl (st_selT [true, true] h) (fun w_ hS => ov_loadbN 0 [.string ((b).f0), .slice (Ab0) (((b).f1).length) (cb0), .int .i64 ((b).f2), .int .i64 ((b).f3), .int .i64 (((b).f4).f0), .int .i64 (((b).f4).f1), .int .i64 (((b).f4).f2), .int .i64 (((b).f4).f3), .int .i64 (((b).f4).f4), .int .i64 (((b).f4).f5), .int .i64 (((b).f4).f6)] hS rfl rfl sh33 rfl) ?_
       refine wa_one 24 rfl (by kernel_rfl) ?_
       refine wl_call _ rfl rfl rfl ent19 (CK.Hash_calls (R := [Sx.blk b2 [.string ((b).f0), .slice (Ab0) (((b).f1).length) (cb0), .int .i64 ((b).f2), .int .i64 ((b).f3), .int .i64 (((b).f4).f0), .int .i64 (((b).f4).f1), .int .i64 (((b).f4).f2), .int .i64 (((b).f4).f3), .int .i64 (((b).f4).f4), .int .i64 (((b).f4).f5), .int .i64 (((b).f4).f6)] 33, Sx.blk b1 [.string ((a).f0), .slice (Aa0) (((a).f1).length) (ca0), .int .i64 ((a).f2), .int .i64 ((a).f3), .int .i64 (((a).f4).f0), .int .i64 (((a).f4).f1), .int .i64 (((a).f4).f2), .int .i64 (((a).f4).f3), .int .i64 (((a).f4).f4), .int .i64 (((a).f4).f5), .int .i64 (((a).f4).f6)] 33] ++ R) (a) (Aa0) (ca0) hsa_ (by have z_ := hfa_.1; omega) (fun _ _ h_ => Sx.ro_C hv h_ hCa0) h) ?_
       rintro e_ w_ ⟨rfl, h⟩
       refine ⟨_, rfl, ?_⟩
       refine wl_nil ?_
       refine qn_wa (st_selT [true, true] h) ?_
       refine wa_one 26 rfl (by kernel_rfl) ?_
       refine wl_call _ rfl rfl rfl ent19 (CK.Hash_calls (R := [Sx.blk b2 [.string ((b).f0), .slice (Ab0) (((b).f1).length) (cb0), .int .i64 ((b).f2), .int .i64 ((b).f3), .int .i64 (((b).f4).f0), .int .i64 (((b).f4).f1), .int .i64 (((b).f4).f2), .int .i64 (((b).f4).f3), .int .i64 (((b).f4).f4), .int .i64 (((b).f4).f5), .int .i64 (((b).f4).f6)] 33, Sx.blk b1 [.string ((a).f0), .slice (Aa0) (((a).f1).length) (ca0), .int .i64 ((a).f2), .int .i64 ((a).f3), .int .i64 (((a).f4).f0), .int .i64 (((a).f4).f1), .int .i64 (((a).f4).f2), .int .i64 (((a).f4).f3), .int .i64 (((a).f4).f4), .int .i64 (((a).f4).f5), .int .i64 (((a).f4).f6)] 33] ++ R) (b) (Ab0) (cb0) hsb_ (by have z_ := hfb_.1; omega) (fun _ _ h_ => Sx.ro_C hv h_ hCb0) h) ?_
       rintro e_ w_ ⟨rfl, h⟩
       refine ⟨_, rfl, ?_⟩
       refine wl_nil ?_
       refine qn_wa (st_selT [true, true] h) ?_
       refine wa_tk 27 rfl rfl rfl (st_selT [true, true] h) (fun w_ hS => ov_bin _ rfl rfl (binR_eql)) ?_
       refine wa_tk 28 rfl rfl rfl (st_selT [true, true] h) (fun w_ hS => ov_pick_false _ rfl rfl) ?_
       refine wa_tk 29 rfl rfl rfl (st_selT [true, true] h) (fun w_ hS => ov_pick_true _ rfl rfl) ?_
       refine wa_tk 30 rfl rfl rfl (st_selT [true, true] h) (fun w_ hS => ov_assign _ rfl) ?_
       refine wa_done (by kernel_rfl) ?_
       refine qn_then ?_
       refine wc_ret ?_
       replace h := st_selT [false, false] h
       refine qn_ret [_] ⟨rfl, trivial⟩ ?_
       have b_ : (decide (((hashK (a)) : Int) = ((hashK (b))))) = true := by
         first
         | exact decide_eq_true (hash_alike (by simpa using c8))
         | exact decide_eq_true (hash_alike (by simpa using c7))
         | exact decide_eq_true (hash_alike (by simpa using c6))
         | exact decide_eq_true (hash_alike (by simpa using c5))
         | exact decide_eq_true (hash_alike (by simpa using c100004))
         | exact decide_eq_true (hash_alike (by simpa using c100003))
         | exact decide_eq_true (hash_alike (by simpa using c100002))
         | exact decide_eq_true (hash_alike (by simpa using c100001))
         | exact decide_eq_true (hash_alike (by simpa using c4))
         | exact decide_eq_true (hash_alike (by simpa using c3))
       exact ⟨congrArg (fun z => Ending.returned (Value.bool z)) b_, h⟩
     ·
      refine wa_sk 20 rfl rfl rfl (st_selT [true, true] h) ?_
      refine wa_sk 21 rfl rfl rfl (st_selT [true, true] h) ?_
      refine wa_sk 22 rfl rfl rfl (st_selT [true, true] h) ?_
      refine wa_sk 23 rfl rfl rfl (st_selT [true, true] h) ?_
      refine wa_sk 24 rfl rfl rfl (st_selT [true, true] h) ?_
      refine wa_sk 25 rfl rfl rfl (st_selT [true, true] h) ?_
      refine wa_sk 26 rfl rfl rfl (st_selT [true, true] h) ?_
      refine wa_sk 27 rfl rfl rfl (st_selT [true, true] h) ?_
      refine wa_sk 28 rfl rfl rfl (st_selT [true, true] h) ?_
      refine wa_tk 29 rfl rfl rfl (st_selT [true, true] h) (fun w_ hS => ov_pick_false _ rfl rfl) ?_
      refine wa_tk 30 rfl rfl rfl (st_selT [true, true] h) (fun w_ hS => ov_assign _ rfl) ?_
      refine wa_done (by kernel_rfl) ?_
      refine qn_then ?_
      refine wc_ret ?_
      replace h := st_selT [false, false] h
      refine qn_ret [_] ⟨rfl, trivial⟩ ?_
      exfalso
      first
      | exact c8 rfl
      | exact c8 (alike_comm _ _)
      | exact absurd ((alike_refl a).symm.trans c8) (by decide)
      | exact c7 rfl
      | exact c7 (alike_comm _ _)
      | exact absurd ((alike_refl a).symm.trans c7) (by decide)
      | exact c6 rfl
      | exact c6 (alike_comm _ _)
      | exact absurd ((alike_refl a).symm.trans c6) (by decide)
      | exact c5 rfl
      | exact c5 (alike_comm _ _)
      | exact absurd ((alike_refl a).symm.trans c5) (by decide)
      | exact c100004 rfl
      | exact c100004 (alike_comm _ _)
      | exact absurd ((alike_refl a).symm.trans c100004) (by decide)
      | exact c100003 rfl
      | exact c100003 (alike_comm _ _)
      | exact absurd ((alike_refl a).symm.trans c100003) (by decide)
      | exact c100002 rfl
      | exact c100002 (alike_comm _ _)
      | exact absurd ((alike_refl a).symm.trans c100002) (by decide)
      | exact c100001 rfl
      | exact c100001 (alike_comm _ _)
      | exact absurd ((alike_refl a).symm.trans c100001) (by decide)
      | exact c4 rfl
      | exact c4 (alike_comm _ _)
      | exact absurd ((alike_refl a).symm.trans c4) (by decide)
      | exact c3 rfl
      | exact c3 (alike_comm _ _)
      | exact absurd ((alike_refl a).symm.trans c3) (by decide)
    ·
     refine wa_sk 15 rfl rfl rfl (st_selT [true, true] h) ?_
     refine wa_sk 16 rfl rfl rfl (st_selT [true, true] h) ?_
     refine wa_sk 17 rfl rfl rfl (st_selT [true, true] h) ?_
     refine wa_tk 18 rfl rfl rfl (st_selT [true, true] h) (fun w_ hS => ov_pick_false _ rfl rfl) ?_
     refine wa_tk 19 rfl rfl rfl (st_selT [true, true] h) (fun w_ hS => ov_move _ rfl) ?_
     refine wa_sk 20 rfl rfl rfl (st_selT [true, true] h) ?_
     refine wa_sk 21 rfl rfl rfl (st_selT [true, true] h) ?_
     refine wa_sk 22 rfl rfl rfl (st_selT [true, true] h) ?_
     refine wa_sk 23 rfl rfl rfl (st_selT [true, true] h) ?_
     refine wa_sk 24 rfl rfl rfl (st_selT [true, true] h) ?_
     refine wa_sk 25 rfl rfl rfl (st_selT [true, true] h) ?_
     refine wa_sk 26 rfl rfl rfl (st_selT [true, true] h) ?_
     refine wa_sk 27 rfl rfl rfl (st_selT [true, true] h) ?_
     refine wa_sk 28 rfl rfl rfl (st_selT [true, true] h) ?_
     refine wa_tk 29 rfl rfl rfl (st_selT [true, true] h) (fun w_ hS => ov_pick_false _ rfl rfl) ?_
     refine wa_tk 30 rfl rfl rfl (st_selT [true, true] h) (fun w_ hS => ov_assign _ rfl) ?_
     refine wa_done (by kernel_rfl) ?_
     refine qn_then ?_
     refine wc_ret ?_
     replace h := st_selT [false, false] h
     refine qn_ret [_] ⟨rfl, trivial⟩ ?_
     exfalso
     first
     | exact c8 rfl
     | exact c8 (alike_comm _ _)
     | exact absurd ((alike_refl a).symm.trans c8) (by decide)
     | exact c7 rfl
     | exact c7 (alike_comm _ _)
     | exact absurd ((alike_refl a).symm.trans c7) (by decide)
     | exact c6 rfl
     | exact c6 (alike_comm _ _)
     | exact absurd ((alike_refl a).symm.trans c6) (by decide)
     | exact c5 rfl
     | exact c5 (alike_comm _ _)
     | exact absurd ((alike_refl a).symm.trans c5) (by decide)
     | exact c100004 rfl
     | exact c100004 (alike_comm _ _)
     | exact absurd ((alike_refl a).symm.trans c100004) (by decide)
     | exact c100003 rfl
     | exact c100003 (alike_comm _ _)
     | exact absurd ((alike_refl a).symm.trans c100003) (by decide)
     | exact c100002 rfl
     | exact c100002 (alike_comm _ _)
     | exact absurd ((alike_refl a).symm.trans c100002) (by decide)
     | exact c100001 rfl
     | exact c100001 (alike_comm _ _)
     | exact absurd ((alike_refl a).symm.trans c100001) (by decide)
     | exact c4 rfl
     | exact c4 (alike_comm _ _)
     | exact absurd ((alike_refl a).symm.trans c4) (by decide)
     | exact c3 rfl
     | exact c3 (alike_comm _ _)
     | exact absurd ((alike_refl a).symm.trans c3) (by decide)
   ·
    refine wa_sk 8 rfl rfl rfl (st_selT [true, true] h) ?_
    refine wa_sk 9 rfl rfl rfl (st_selT [true, true] h) ?_
    refine wa_sk 10 rfl rfl rfl (st_selT [true, true] h) ?_
    refine wa_sk 11 rfl rfl rfl (st_selT [true, true] h) ?_
    refine wa_sk 12 rfl rfl rfl (st_selT [true, true] h) ?_
    refine wa_tk 13 rfl rfl rfl (st_selT [true, true] h) (fun w_ hS => ov_pick_false _ rfl rfl) ?_
    refine wa_tk 14 rfl rfl rfl (st_selT [true, true] h) (fun w_ hS => ov_move _ rfl) ?_
    refine wa_sk 15 rfl rfl rfl (st_selT [true, true] h) ?_
    refine wa_sk 16 rfl rfl rfl (st_selT [true, true] h) ?_
    refine wa_sk 17 rfl rfl rfl (st_selT [true, true] h) ?_
    refine wa_tk 18 rfl rfl rfl (st_selT [true, true] h) (fun w_ hS => ov_pick_false _ rfl rfl) ?_
    refine wa_tk 19 rfl rfl rfl (st_selT [true, true] h) (fun w_ hS => ov_move _ rfl) ?_
    refine wa_sk 20 rfl rfl rfl (st_selT [true, true] h) ?_
    refine wa_sk 21 rfl rfl rfl (st_selT [true, true] h) ?_
    refine wa_sk 22 rfl rfl rfl (st_selT [true, true] h) ?_
    refine wa_sk 23 rfl rfl rfl (st_selT [true, true] h) ?_
    refine wa_sk 24 rfl rfl rfl (st_selT [true, true] h) ?_
    refine wa_sk 25 rfl rfl rfl (st_selT [true, true] h) ?_
    refine wa_sk 26 rfl rfl rfl (st_selT [true, true] h) ?_
    refine wa_sk 27 rfl rfl rfl (st_selT [true, true] h) ?_
    refine wa_sk 28 rfl rfl rfl (st_selT [true, true] h) ?_
    refine wa_tk 29 rfl rfl rfl (st_selT [true, true] h) (fun w_ hS => ov_pick_false _ rfl rfl) ?_
    refine wa_tk 30 rfl rfl rfl (st_selT [true, true] h) (fun w_ hS => ov_assign _ rfl) ?_
    refine wa_done (by kernel_rfl) ?_
    refine qn_then ?_
    refine wc_ret ?_
    replace h := st_selT [false, false] h
    refine qn_ret [_] ⟨rfl, trivial⟩ ?_
    exfalso
    first
    | exact c8 rfl
    | exact c8 (alike_comm _ _)
    | exact absurd ((alike_refl a).symm.trans c8) (by decide)
    | exact c7 rfl
    | exact c7 (alike_comm _ _)
    | exact absurd ((alike_refl a).symm.trans c7) (by decide)
    | exact c6 rfl
    | exact c6 (alike_comm _ _)
    | exact absurd ((alike_refl a).symm.trans c6) (by decide)
    | exact c5 rfl
    | exact c5 (alike_comm _ _)
    | exact absurd ((alike_refl a).symm.trans c5) (by decide)
    | exact c100004 rfl
    | exact c100004 (alike_comm _ _)
    | exact absurd ((alike_refl a).symm.trans c100004) (by decide)
    | exact c100003 rfl
    | exact c100003 (alike_comm _ _)
    | exact absurd ((alike_refl a).symm.trans c100003) (by decide)
    | exact c100002 rfl
    | exact c100002 (alike_comm _ _)
    | exact absurd ((alike_refl a).symm.trans c100002) (by decide)
    | exact c100001 rfl
    | exact c100001 (alike_comm _ _)
    | exact absurd ((alike_refl a).symm.trans c100001) (by decide)
    | exact c4 rfl
    | exact c4 (alike_comm _ _)
    | exact absurd ((alike_refl a).symm.trans c4) (by decide)
    | exact c3 rfl
    | exact c3 (alike_comm _ _)
    | exact absurd ((alike_refl a).symm.trans c3) (by decide)
end Go.Proofs.Ytmlkajmlhmfdgaa.L
