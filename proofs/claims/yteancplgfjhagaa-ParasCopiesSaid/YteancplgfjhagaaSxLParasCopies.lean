/- The walk of ParasCopies. -/
import Derived.Test.YteancplgfjhagaaProg
import Derived.Test.YteancplgfjhagaaSxGlue
import Derived.Test.YteancplgfjhagaaSxKinds
import Derived.Test.YteancplgfjhagaaParasTh
import Derived.Test.YteancplgfjhagaaSxParas
import Derived.Test.YteancplgfjhagaaSxParasB
import Derived.Test.YteancplgfjhagaaSxPlain
import Derived.Test.YteancplgfjhagaaParasIns
import Derived.Test.YteancplgfjhagaaParasDel
import Derived.Test.YteancplgfjhagaaSxEdit
import Derived.Test.YteancplgfjhagaaSxEditB
import Derived.Test.YteancplgfjhagaaSxStep
import Derived.Test.YteancplgfjhagaaSxCopy
namespace Go.Proofs.Yteancplgfjhagaa.Paras.L
open Go Go.RowKit Go.Proofs.YteancplgfjhagaaW.PrintWords Go.Proofs.Yteancplgfjhagaa.Kinds Go.Proofs.Yteancplgfjhagaa.Paras Go.Proofs.Yteancplgfjhagaa.Paras.B Go.Proofs.Yteancplgfjhagaa.Paras.C Go.Proofs.Yteancplgfjhagaa.Paras.D Go.Proofs.Yteancplgfjhagaa.Paras.E Go.Proofs.Yteancplgfjhagaa.Paras.F
set_option linter.unusedVariables false
set_option linter.unusedSimpArgs false
theorem ent11 : Sx.Ent Try.prog 11 := ⟨Try.f11, Try.func11, by kernel_rfl, by kernel_rfl⟩
theorem fo49_3 : Sx.fieldOff Try.prog 49 3 = some 3 := by kernel_rfl
theorem sh9 : Sx.shapeOf Try.prog 9 = some (false, 1) := by kernel_rfl
theorem ent15 : Sx.Ent Try.prog 15 := ⟨Try.f15, Try.func15, by kernel_rfl, by kernel_rfl⟩
theorem ent27 : Sx.Ent Try.prog 27 := ⟨Try.f27, Try.func27, by kernel_rfl, by kernel_rfl⟩
theorem sh49 : Sx.shapeOf Try.prog 49 = some (true, 4) := by kernel_rfl
theorem ent24 : Sx.Ent Try.prog 24 := ⟨Try.f24, Try.func24, by kernel_rfl, by kernel_rfl⟩
theorem zo41 : Sx.zeroOf Try.prog 41 = some (.agg #[.int .i64 (0), .int .i64 (0), .int .i64 (0)]) := by kernel_rfl
theorem sh41 : Sx.shapeOf Try.prog 41 = some (true, 3) := by kernel_rfl
theorem ent23 : Sx.Ent Try.prog 23 := ⟨Try.f23, Try.func23, by kernel_rfl, by kernel_rfl⟩
set_option maxRecDepth 100000 in
theorem ParasCopies_calls {w0 w : World} {F0 : Nat → Prop} {R : List Sx.HP} {v0 : World} (s : ByteArray) (o : S49) (q : S49) (hv : Sx.RO v0 w0 F0) (hzs : s.size ≤ 9223372036854775807) (h : Sx.St w0 F0 ([] ++ R) w) : Calls Try.prog 10 #[.string (s), .agg #[.bool ((o).f0), .int .i64 ((o).f1), .int .i64 ((o).f2), .string ((o).f3)], .agg #[.bool ((q).f0), .int .i64 ((q).f1), .int .i64 ((q).f2), .string ((q).f3)]] w (fun e w1 => e = .returned (.bool true) ∧ Sx.St w0 F0 R w1) := by
 have hlo := lensOf_ok s
 have hxs := ix_size s
 have hxl := congrArg List.length (ix_lens s)
 refine Sx.calls_fn (vs := [.string (s), .agg #[.bool ((o).f0), .int .i64 ((o).f1), .int .i64 ((o).f2), .string ((o).f3)], .agg #[.bool ((q).f0), .int .i64 ((q).f1), .int .i64 ((q).f2), .string ((q).f3)]]) Try.func10 rfl Try.ntmps10 rfl ?_
 refine Sx.wc_seq ?_
 refine Sx.wc_region ?_
 refine Sx.wl_box _ h rfl rfl rfl (fun b1 _ h => ?_)
 replace h : Sx.St _ _ (Sx.blk b1 [.bool ((o).f0), .int .i64 ((o).f1), .int .i64 ((o).f2), .string ((o).f3)] 49 :: _) _ := h
 refine Sx.wl_box _ h rfl rfl rfl (fun b2 _ h => ?_)
 replace h : Sx.St _ _ (Sx.blk b2 [.bool ((q).f0), .int .i64 ((q).f1), .int .i64 ((q).f2), .string ((q).f3)] 49 :: _) _ := h
 refine Sx.wl_v rfl rfl (Sx.ov_assign _ rfl) ?_
 refine Sx.wl_nil ?_
 refine Sx.qn_then ?_
 refine Sx.wc_seq ?_
 refine Sx.wc_seq ?_
 refine Sx.wc_region ?_
 refine Sx.wl_call _ rfl rfl rfl ent11 (awake_calls (R := [Sx.blk b2 [.bool ((q).f0), .int .i64 ((q).f1), .int .i64 ((q).f2), .string ((q).f3)] 49, Sx.blk b1 [.bool ((o).f0), .int .i64 ((o).f1), .int .i64 ((o).f2), .string ((o).f3)] 49] ++ R) h) ?_
 rintro e_ w_ ⟨rfl, h⟩
 refine ⟨_, rfl, ?_⟩
 refine Sx.wl_v rfl rfl (Sx.ov_notb _ rfl) ?_
 refine Sx.wl_nil ?_
 refine Sx.qn_then ?_
 refine Sx.wc_cond_false rfl ?_
 refine Sx.wc_skip ?_
 refine Sx.qn_then ?_
 refine Sx.wc_seq ?_
 refine Sx.wc_seq ?_
 refine Sx.wc_region ?_
 refine Sx.wl_v rfl rfl (Sx.ov_move _ rfl) ?_
 refine Sx.wl_v rfl rfl (Sx.ov_lens _ rfl Try.underlying9) ?_
 refine Sx.wl_v rfl rfl (Sx.ov_bin _ rfl rfl (Sx.binR_gtr)) ?_
 refine Sx.wl_v rfl rfl (Sx.ov_move _ rfl) ?_
 refine Sx.wl_split 20 rfl (fun c3 => ?_) (fun c3 => ?_)
 ·
  refine Sx.wl_skip rfl rfl ?_
  refine Sx.wl_skip rfl rfl ?_
  refine Sx.wl_skip rfl rfl ?_
  refine Sx.wl_skip rfl rfl ?_
  refine Sx.wl_v rfl rfl (Sx.ov_pick_true _ rfl rfl) ?_
  refine Sx.wl_v rfl rfl (Sx.ov_move _ rfl) ?_
  refine Sx.wl_skip rfl rfl ?_
  refine Sx.wl_skip rfl rfl ?_
  refine Sx.wl_skip rfl rfl ?_
  refine Sx.wl_skip rfl rfl ?_
  refine Sx.wl_v rfl rfl (Sx.ov_pick_true _ rfl rfl) ?_
  refine Sx.wl_nil ?_
  refine Sx.qn_then ?_
  refine Sx.wc_cond_true rfl ?_
  refine Sx.wc_seq ?_
  refine Sx.wc_region ?_
  refine Sx.wl_v rfl rfl (Sx.ov_assign _ rfl) ?_
  refine Sx.wl_nil ?_
  refine Sx.qn_then ?_
  refine Sx.wc_ret ?_
  refine Sx.qn_then_ret ?_
  replace h := Sx.st_selT [false, false] h
  refine Sx.qn_ret [_] ⟨rfl, trivial⟩ ?_
  exact ⟨rfl, h⟩
 ·
  refine Sx.wl_v rfl rfl (Sx.ov_fieldAddr _ ⟨b1, 3, none⟩ _ rfl fo49_3 rfl) ?_
  refine Sx.wl_v rfl rfl (Sx.ov_loadb 1 _ h rfl rfl sh9 rfl) ?_
  refine Sx.wl_v rfl rfl (Sx.ov_lens _ rfl Try.underlying9) ?_
  refine Sx.wl_v rfl rfl (Sx.ov_bin _ rfl rfl (Sx.binR_gtr)) ?_
  refine Sx.wl_v rfl rfl (Sx.ov_pick_false _ rfl rfl) ?_
  refine Sx.wl_v rfl rfl (Sx.ov_move _ rfl) ?_
  refine Sx.wl_split 26 rfl (fun c4 => ?_) (fun c4 => ?_)
  ·
   refine Sx.wl_skip rfl rfl ?_
   refine Sx.wl_skip rfl rfl ?_
   refine Sx.wl_skip rfl rfl ?_
   refine Sx.wl_skip rfl rfl ?_
   refine Sx.wl_v rfl rfl (Sx.ov_pick_true _ rfl rfl) ?_
   refine Sx.wl_nil ?_
   refine Sx.qn_then ?_
   refine Sx.wc_cond_true rfl ?_
   refine Sx.wc_seq ?_
   refine Sx.wc_region ?_
   refine Sx.wl_v rfl rfl (Sx.ov_assign _ rfl) ?_
   refine Sx.wl_nil ?_
   refine Sx.qn_then ?_
   refine Sx.wc_ret ?_
   refine Sx.qn_then_ret ?_
   replace h := Sx.st_selT [false, false] h
   refine Sx.qn_ret [_] ⟨rfl, trivial⟩ ?_
   exact ⟨rfl, h⟩
  ·
   refine Sx.wl_v rfl rfl (Sx.ov_fieldAddr _ ⟨b2, 3, none⟩ _ rfl fo49_3 rfl) ?_
   refine Sx.wl_v rfl rfl (Sx.ov_loadb 0 _ h rfl rfl sh9 rfl) ?_
   refine Sx.wl_v rfl rfl (Sx.ov_lens _ rfl Try.underlying9) ?_
   refine Sx.wl_v rfl rfl (Sx.ov_bin _ rfl rfl (Sx.binR_gtr)) ?_
   refine Sx.wl_v rfl rfl (Sx.ov_pick_false _ rfl rfl) ?_
   refine Sx.wl_nil ?_
   refine Sx.qn_then ?_
   refine Sx.wc_cond (by rfl) (fun c5 => ?_) (fun c5 => ?_)
   ·
    refine Sx.wc_seq ?_
    refine Sx.wc_region ?_
    refine Sx.wl_v rfl rfl (Sx.ov_assign _ rfl) ?_
    refine Sx.wl_nil ?_
    refine Sx.qn_then ?_
    refine Sx.wc_ret ?_
    refine Sx.qn_then_ret ?_
    replace h := Sx.st_selT [false, false] h
    refine Sx.qn_ret [_] ⟨rfl, trivial⟩ ?_
    exact ⟨rfl, h⟩
   ·
    have hso := step_size s o
    have hsq := step_size s q
    refine Sx.wc_skip ?_
    refine Sx.qn_then ?_
    refine Sx.wc_seq ?_
    refine Sx.wc_region ?_
    refine Sx.wl_v rfl rfl (Sx.ov_move _ rfl) ?_
    refine Sx.wl_call _ rfl rfl rfl ent15 (New_calls (R := [Sx.blk b2 [.bool ((q).f0), .int .i64 ((q).f1), .int .i64 ((q).f2), .string ((q).f3)] 49, Sx.blk b1 [.bool ((o).f0), .int .i64 ((o).f1), .int .i64 ((o).f2), .string ((o).f3)] 49] ++ R) s (by omega) h) ?_
    rintro e_ w_ ⟨g6, rfl, h⟩
    refine ⟨_, rfl, ?_⟩
    refine Sx.wl_v rfl rfl (Sx.ov_assign _ rfl) ?_
    refine Sx.wl_nil ?_
    refine Sx.qn_then ?_
    refine Sx.wc_seq ?_
    refine Sx.wc_seq ?_
    refine Sx.wc_region ?_
    refine Sx.wl_v rfl rfl (Sx.ov_move _ rfl) ?_
    refine Sx.wl_v rfl rfl (Sx.ov_bin (.bool false) rfl rfl (Sx.binR_eqnil Try.underlying28)) ?_
    refine Sx.wl_nil ?_
    refine Sx.qn_then ?_
    refine Sx.wc_cond_false rfl ?_
    refine Sx.wc_skip ?_
    refine Sx.qn_then ?_
    refine Sx.wc_seq ?_
    refine Sx.wc_region ?_
    refine Sx.wl_v rfl rfl (Sx.ov_move _ rfl) ?_
    refine Sx.wl_call _ rfl rfl rfl ent27 (Go.Proofs.Yteancplgfjhagaa.Paras.C2.Copy_calls (R := [Sx.blk b2 [.bool ((q).f0), .int .i64 ((q).f1), .int .i64 ((q).f2), .string ((q).f3)] 49, Sx.blk b1 [.bool ((o).f0), .int .i64 ((o).f1), .int .i64 ((o).f2), .string ((o).f3)] 49] ++ R) g6 (ixOf s) (by omega) h) ?_
    rintro e_ w_ ⟨g7, rfl, h⟩
    refine ⟨_, rfl, ?_⟩
    refine Sx.wl_v rfl rfl (Sx.ov_assign _ rfl) ?_
    refine Sx.wl_nil ?_
    refine Sx.qn_then ?_
    refine Sx.wc_seq ?_
    refine Sx.wc_seq ?_
    refine Sx.wc_region ?_
    refine Sx.wl_v rfl rfl (Sx.ov_move _ rfl) ?_
    refine Sx.wl_v rfl rfl (Sx.ov_bin (.bool false) rfl rfl (Sx.binR_eqnil Try.underlying28)) ?_
    refine Sx.wl_nil ?_
    refine Sx.qn_then ?_
    refine Sx.wc_cond_false rfl ?_
    refine Sx.wc_skip ?_
    refine Sx.qn_then ?_
    refine Sx.wc_seq ?_
    refine Sx.wc_region ?_
    refine Sx.wl_v rfl rfl (Sx.ov_move _ rfl) ?_
    refine Sx.wl_v rfl rfl (Sx.ov_move _ rfl) ?_
    refine Sx.wl_v rfl rfl (Sx.ov_loadbN 3 [.bool ((o).f0), .int .i64 ((o).f1), .int .i64 ((o).f2), .string ((o).f3)] h rfl rfl sh49 rfl) ?_
    refine Sx.wl_call _ rfl rfl rfl ent24 (step_calls (R := [ixB g7 (ixOf s), Sx.blk b2 [.bool ((q).f0), .int .i64 ((q).f1), .int .i64 ((q).f2), .string ((q).f3)] 49, Sx.blk b1 [.bool ((o).f0), .int .i64 ((o).f1), .int .i64 ((o).f2), .string ((o).f3)] 49] ++ R) g6 s o (by omega) (by omega) h) ?_
    rintro e_ w_ ⟨rfl, h⟩
    refine ⟨_, rfl, ?_⟩
    refine Sx.wl_v rfl rfl (Sx.ov_move _ rfl) ?_
    refine Sx.wl_v rfl rfl (Sx.ov_extract [.string (stepS s o), .agg #[.int .i64 ((stepI s o).1), .int .i64 ((stepI s o).2.1), .int .i64 ((stepI s o).2.2)], .bool true] _ rfl rfl) ?_
    refine Sx.wl_v rfl rfl (Sx.ov_extract [.string (stepS s o), .agg #[.int .i64 ((stepI s o).1), .int .i64 ((stepI s o).2.1), .int .i64 ((stepI s o).2.2)], .bool true] _ rfl rfl) ?_
    refine Sx.wl_v rfl rfl (Sx.ov_extract [.string (stepS s o), .agg #[.int .i64 ((stepI s o).1), .int .i64 ((stepI s o).2.1), .int .i64 ((stepI s o).2.2)], .bool true] _ rfl rfl) ?_
    refine Sx.wl_alloc _ h rfl rfl zo41 (fun b8 _ h => ?_)
    replace h : Sx.St _ _ (Sx.blk b8 [.int .i64 (0), .int .i64 (0), .int .i64 (0)] 41 :: _) _ := h
    refine Sx.wl_v rfl rfl (Sx.ov_assign _ rfl) ?_
    refine Sx.wl_storebN 0 [.int .i64 ((stepI s o).1), .int .i64 ((stepI s o).2.1), .int .i64 ((stepI s o).2.2)] [.int .i64 ((stepI s o).1), .int .i64 ((stepI s o).2.1), .int .i64 ((stepI s o).2.2)] h rfl rfl rfl rfl (by simp [Value.oneCell']) sh41 rfl rfl (fun _ h => ?_)
    refine Sx.wl_v rfl rfl (Sx.ov_assign _ rfl) ?_
    refine Sx.wl_nil ?_
    refine Sx.qn_then ?_
    refine Sx.wc_seq ?_
    refine Sx.wc_region ?_
    refine Sx.wl_v rfl rfl (Sx.ov_move _ rfl) ?_
    refine Sx.wl_v rfl rfl (Sx.ov_move _ rfl) ?_
    refine Sx.wl_v rfl rfl (Sx.ov_loadbN 3 [.bool ((q).f0), .int .i64 ((q).f1), .int .i64 ((q).f2), .string ((q).f3)] h rfl rfl sh49 rfl) ?_
    replace h := Sx.st_front 2 h
    refine Sx.wl_call _ rfl rfl rfl ent24 (step_calls (R := [Sx.blk b8 [.int .i64 ((stepI s o).1), .int .i64 ((stepI s o).2.1), .int .i64 ((stepI s o).2.2)] 41, ixB g6 (ixOf (stepS s o)), Sx.blk b2 [.bool ((q).f0), .int .i64 ((q).f1), .int .i64 ((q).f2), .string ((q).f3)] 49, Sx.blk b1 [.bool ((o).f0), .int .i64 ((o).f1), .int .i64 ((o).f2), .string ((o).f3)] 49] ++ R) g7 s q (by omega) (by omega) h) ?_
    rintro e_ w_ ⟨rfl, h⟩
    refine ⟨_, rfl, ?_⟩
    refine Sx.wl_v rfl rfl (Sx.ov_move _ rfl) ?_
    refine Sx.wl_v rfl rfl (Sx.ov_extract [.string (stepS s q), .agg #[.int .i64 ((stepI s q).1), .int .i64 ((stepI s q).2.1), .int .i64 ((stepI s q).2.2)], .bool true] _ rfl rfl) ?_
    refine Sx.wl_v rfl rfl (Sx.ov_extract [.string (stepS s q), .agg #[.int .i64 ((stepI s q).1), .int .i64 ((stepI s q).2.1), .int .i64 ((stepI s q).2.2)], .bool true] _ rfl rfl) ?_
    refine Sx.wl_v rfl rfl (Sx.ov_extract [.string (stepS s q), .agg #[.int .i64 ((stepI s q).1), .int .i64 ((stepI s q).2.1), .int .i64 ((stepI s q).2.2)], .bool true] _ rfl rfl) ?_
    refine Sx.wl_alloc _ h rfl rfl zo41 (fun b9 _ h => ?_)
    replace h : Sx.St _ _ (Sx.blk b9 [.int .i64 (0), .int .i64 (0), .int .i64 (0)] 41 :: _) _ := h
    refine Sx.wl_v rfl rfl (Sx.ov_assign _ rfl) ?_
    refine Sx.wl_storebN 0 [.int .i64 ((stepI s q).1), .int .i64 ((stepI s q).2.1), .int .i64 ((stepI s q).2.2)] [.int .i64 ((stepI s q).1), .int .i64 ((stepI s q).2.1), .int .i64 ((stepI s q).2.2)] h rfl rfl rfl rfl (by simp [Value.oneCell']) sh41 rfl rfl (fun _ h => ?_)
    refine Sx.wl_v rfl rfl (Sx.ov_assign _ rfl) ?_
    refine Sx.wl_nil ?_
    refine Sx.qn_then ?_
    refine Sx.wc_seq ?_
    refine Sx.wc_region ?_
    refine Sx.wl_v rfl rfl (Sx.ov_move _ rfl) ?_
    refine Sx.wl_v rfl rfl (Sx.ov_move _ rfl) ?_
    refine Sx.wl_v rfl rfl (Sx.ov_move _ rfl) ?_
    refine Sx.wl_v rfl rfl (Sx.ov_pick_true _ rfl rfl) ?_
    refine Sx.wl_v rfl rfl (Sx.ov_move _ rfl) ?_
    refine Sx.wl_v rfl rfl (Sx.ov_move _ rfl) ?_
    refine Sx.wl_v rfl rfl (Sx.ov_move _ rfl) ?_
    replace h := Sx.st_front 3 h
    refine Sx.wl_call _ rfl rfl rfl ent23 (is_calls (R := [Sx.blk b9 [.int .i64 ((stepI s q).1), .int .i64 ((stepI s q).2.1), .int .i64 ((stepI s q).2.2)] 41, ixB g7 (ixOf (stepS s q)), Sx.blk b8 [.int .i64 ((stepI s o).1), .int .i64 ((stepI s o).2.1), .int .i64 ((stepI s o).2.2)] 41, Sx.blk b2 [.bool ((q).f0), .int .i64 ((q).f1), .int .i64 ((q).f2), .string ((q).f3)] 49, Sx.blk b1 [.bool ((o).f0), .int .i64 ((o).f1), .int .i64 ((o).f2), .string ((o).f3)] 49] ++ R) g6 (stepS s o) (by omega) h) ?_
    rintro e_ w_ ⟨rfl, h⟩
    refine ⟨_, rfl, ?_⟩
    refine Sx.wl_v rfl rfl (Sx.ov_pick_true _ rfl rfl) ?_
    refine Sx.wl_v rfl rfl (Sx.ov_move _ rfl) ?_
    refine Sx.wl_v rfl rfl (Sx.ov_move _ rfl) ?_
    refine Sx.wl_v rfl rfl (Sx.ov_move _ rfl) ?_
    replace h := Sx.st_front 2 h
    refine Sx.wl_call _ rfl rfl rfl ent23 (is_calls (R := [ixB g6 (ixOf (stepS s o)), Sx.blk b9 [.int .i64 ((stepI s q).1), .int .i64 ((stepI s q).2.1), .int .i64 ((stepI s q).2.2)] 41, Sx.blk b8 [.int .i64 ((stepI s o).1), .int .i64 ((stepI s o).2.1), .int .i64 ((stepI s o).2.2)] 41, Sx.blk b2 [.bool ((q).f0), .int .i64 ((q).f1), .int .i64 ((q).f2), .string ((q).f3)] 49, Sx.blk b1 [.bool ((o).f0), .int .i64 ((o).f1), .int .i64 ((o).f2), .string ((o).f3)] 49] ++ R) g7 (stepS s q) (by omega) h) ?_
    rintro e_ w_ ⟨rfl, h⟩
    refine ⟨_, rfl, ?_⟩
    refine Sx.wl_v rfl rfl (Sx.ov_pick_true _ rfl rfl) ?_
    refine Sx.wl_v rfl rfl (Sx.ov_assign _ rfl) ?_
    refine Sx.wl_nil ?_
    refine Sx.qn_then ?_
    refine Sx.wc_ret ?_
    replace h := Sx.st_selT [false, false, false, false, false, false] h
    refine Sx.qn_ret [_] ⟨rfl, trivial⟩ ?_
    exact ⟨rfl, h⟩
end Go.Proofs.Yteancplgfjhagaa.Paras.L
