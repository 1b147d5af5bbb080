/- Pruned by wip/prune.py. -/
import Derived.Test.YtieieindakbpoaaProg
import Derived.Test.YtieieindakbpoaaQSxGlue
import Derived.Test.YtieieindakbpoaaQSxRanged
import Derived.Test.YtieieindakbpoaaQSxRange1
import Derived.Test.YtieieindakbpoaaQSxFlow
import Derived.Test.YtieieindakbpoaaQSxBytes
import Derived.Test.YtieieindakbpoaaQSxKinds
import Derived.Test.YtieieindakbpoaaQPcText
import Derived.Test.YtieieindakbpoaaQPcWalk
import Derived.Test.YtieieindakbpoaaQPcRead
import Derived.Test.YtieieindakbpoaaQSxTree
import Derived.Test.YtieieindakbpoaaQSxRunes
import Derived.Test.YtieieindakbpoaaQSxLast
import Derived.Test.YtieieindakbpoaaQSxWalk
import Derived.Test.YtieieindakbpoaaQSxChunks
import Derived.Test.YtieieindakbpoaaQPcTx
import Derived.Test.YtieieindakbpoaaQSxRead
import Derived.Test.YtieieindakbpoaaQSxSplitR
import Derived.Test.YtieieindakbpoaaQSxString
import Derived.Test.YtieieindakbpoaaQSxText
import Derived.Test.YtieieindakbpoaaQSxEdit
import Derived.Test.YtieieindakbpoaaQSxWhole
import Derived.Test.YtieieindakbpoaaQPcEdit
import Derived.Test.YtieieindakbpoaaQSxPlayed
import Derived.Test.YtieieindakbpoaaQSxAwake
namespace Go.Proofs.Ytieieindakbpoaa.L
open Go Go.RowKit Go.Proofs.YtieieindakbpoaaW.PrintWords Go.Proofs.Ytieieindakbpoaa.Kinds Go.Proofs.Ytieieindakbpoaa.Given Go.Proofs.Ytieieindakbpoaa.Rn Go.Proofs.Ytieieindakbpoaa.Sx Go.Proofs.Ytieieindakbpoaa.Pc 
set_option linter.unusedVariables false
set_option linter.unusedSimpArgs false
theorem ent12 : Sx.Ent Try.prog 12 := ⟨Try.f12, Try.func12, by kernel_rfl, by kernel_rfl⟩
theorem ent13 : Sx.Ent Try.prog 13 := ⟨Try.f13, Try.func13, by kernel_rfl, by kernel_rfl⟩
theorem ent14 : Sx.Ent Try.prog 14 := ⟨Try.f14, Try.func14, by kernel_rfl, by kernel_rfl⟩
theorem ent15 : Sx.Ent Try.prog 15 := ⟨Try.f15, Try.func15, by kernel_rfl, by kernel_rfl⟩
theorem ent16 : Sx.Ent Try.prog 16 := ⟨Try.f16, Try.func16, by kernel_rfl, by kernel_rfl⟩
set_option maxHeartbeats 4000000 in
set_option maxRecDepth 100000 in
theorem PiecesBegins_calls {w0 w : World} {F0 : Nat → Prop} {R : List Sx.HP} {v0 : World} (s : ByteArray) (hv : Sx.RO v0 w0 F0) (hzs : s.size ≤ 9223372036854775807) (h : Sx.St w0 F0 ([] ++ R) w) : Calls Try.prog 3 #[.string (s)] w (fun e w1 => e = .returned (.bool true) ∧ Sx.St w0 F0 R w1) := by
 refine Sx.calls_fn (vs := [.string (s)]) Try.func3 rfl Try.ntmps3 rfl ?_
 refine wc_seq ?_
 refine wc_region ?_
 refine wl_v rfl rfl (ov_assign _ rfl) ?_
 refine wl_nil ?_
 refine qn_then ?_
 refine wc_seq ?_
 refine wc_seq ?_
 refine wc_region ?_
 refine wl_call _ rfl rfl rfl ent12 (AW.awake_calls (R := [] ++ R) h) ?_
 rintro e_ w_ ⟨rfl, h⟩
 refine ⟨_, rfl, ?_⟩
 refine wl_v rfl rfl (ov_notb _ rfl) ?_
 refine wl_nil ?_
 refine qn_then ?_
 refine wc_cond_false rfl ?_
 refine wc_skip ?_
 refine qn_then ?_
 refine wc_seq ?_
 refine wc_region ?_
 refine wl_v rfl rfl (ov_move _ rfl) ?_
 refine wl_call _ rfl rfl rfl ent13 (TX.New_calls (R := [] ++ R) s h) ?_
 rintro e_ w_ (⟨hnw7, rfl, h⟩ | ⟨hnw7, g1, D2, d3, Φ4, rfl, hD5, hDl6, h⟩)
 ·
  refine ⟨_, rfl, ?_⟩
  refine wl_v rfl rfl (ov_move _ rfl) ?_
  refine wl_v rfl rfl (ov_extract [.pointer none, .int .i64 (TX.newV s)] _ rfl rfl) ?_
  refine wl_v rfl rfl (ov_extract [.pointer none, .int .i64 (TX.newV s)] _ rfl rfl) ?_
  refine wl_v rfl rfl (ov_assign _ rfl) ?_
  refine wl_v rfl rfl (ov_assign _ rfl) ?_
  refine wl_nil ?_
  refine qn_then ?_
  refine wc_seq ?_
  refine wc_block ?_
  refine wc_seq ?_
  refine wc_region ?_
  refine wl_v rfl rfl (ov_move _ rfl) ?_
  refine wl_v rfl rfl (ov_lens _ rfl Try.underlying9) ?_
  refine wl_v rfl rfl (ov_bin _ rfl rfl (binR_gtr)) ?_
  refine wl_v rfl rfl (ov_assign _ rfl) ?_
  refine wl_nil ?_
  refine qn_then ?_
  refine wc_cond (by rfl) (fun c8 => ?_) (fun c8 => ?_)
  ·
   refine wc_seq ?_
   refine wc_region ?_
   refine wl_v rfl rfl (ov_move _ rfl) ?_
   refine wl_v rfl rfl (ov_bin _ rfl rfl (binR_eql)) ?_
   refine wl_v rfl rfl (ov_move _ rfl) ?_
   refine wl_split 18 rfl (fun c9 => ?_) (fun c9 => ?_)
   ·
    refine wl_v rfl rfl (ov_move _ rfl) ?_
    refine wl_v rfl rfl (ov_bin (.bool true) rfl rfl (binR_eqnil Try.underlying23)) ?_
    refine wl_v rfl rfl (ov_pick_true _ rfl rfl) ?_
    refine wl_v rfl rfl (ov_assign _ rfl) ?_
    refine wl_nil ?_
    refine qn_then ?_
    refine wc_ret ?_
    refine qn_block_ret ?_
    refine qn_then_ret ?_
    refine qn_ret [_] ⟨rfl, trivial⟩ ?_
    exact ⟨rfl, h⟩
   ·
    refine wl_skip rfl rfl ?_
    refine wl_skip rfl rfl ?_
    refine wl_v rfl rfl (ov_pick_false _ rfl rfl) ?_
    refine wl_v rfl rfl (ov_assign _ rfl) ?_
    refine wl_nil ?_
    refine qn_then ?_
    refine wc_ret ?_
    refine qn_block_ret ?_
    refine qn_then_ret ?_
    refine qn_ret [_] ⟨rfl, trivial⟩ ?_
    exfalso
    have hcr_ := WH.check_ref s
    have hnv_ : TX.newV s = if 65536 < s.size then 31 else checkV s := rfl
    rw [hcr_] at hnv_
    (repeat' split at hnv_) <;> first | omega | simp_all | (simp_all; omega)
  ·
   refine wc_seq ?_
   refine wc_region ?_
   refine wl_v rfl rfl (ov_move _ rfl) ?_
   refine wl_call _ rfl rfl rfl ent14 (RN.Right_calls (R := [] ++ R) s (by omega) h) ?_
   rintro e_ w_ ⟨rfl, h⟩
   refine ⟨_, rfl, ?_⟩
   refine wl_v rfl rfl (ov_not _ (¬ ((refV s).2 < 0)) rfl (by first | exact decide_not.symm | simp)) ?_
   refine wl_v rfl rfl (ov_assign _ rfl) ?_
   refine wl_nil ?_
   refine qn_then ?_
   refine wc_cond (by rfl) (fun c10 => ?_) (fun c10 => ?_)
   ·
    refine wc_seq ?_
    refine wc_region ?_
    refine wl_v rfl rfl (ov_move _ rfl) ?_
    refine wl_v rfl rfl (ov_bin _ rfl rfl (binR_eql)) ?_
    refine wl_v rfl rfl (ov_move _ rfl) ?_
    refine wl_split 28 rfl (fun c11 => ?_) (fun c11 => ?_)
    ·
     refine wl_v rfl rfl (ov_move _ rfl) ?_
     refine wl_v rfl rfl (ov_bin (.bool true) rfl rfl (binR_eqnil Try.underlying23)) ?_
     refine wl_v rfl rfl (ov_pick_true _ rfl rfl) ?_
     refine wl_v rfl rfl (ov_assign _ rfl) ?_
     refine wl_nil ?_
     refine qn_then ?_
     refine wc_ret ?_
     refine qn_block_ret ?_
     refine qn_then_ret ?_
     refine qn_ret [_] ⟨rfl, trivial⟩ ?_
     exact ⟨rfl, h⟩
    ·
     refine wl_skip rfl rfl ?_
     refine wl_skip rfl rfl ?_
     refine wl_v rfl rfl (ov_pick_false _ rfl rfl) ?_
     refine wl_v rfl rfl (ov_assign _ rfl) ?_
     refine wl_nil ?_
     refine qn_then ?_
     refine wc_ret ?_
     refine qn_block_ret ?_
     refine qn_then_ret ?_
     refine qn_ret [_] ⟨rfl, trivial⟩ ?_
     exfalso
     have hcr_ := WH.check_ref s
     have hnv_ : TX.newV s = if 65536 < s.size then 31 else checkV s := rfl
     rw [hcr_] at hnv_
     (repeat' split at hnv_) <;> first | omega | simp_all | (simp_all; omega)
   ·
    refine wc_skip ?_
    refine qn_block_normal ?_
    refine qn_then ?_
    refine wc_seq ?_
    refine wc_region ?_
    refine wl_v rfl rfl (ov_move _ rfl) ?_
    refine wl_v rfl rfl (ov_bin _ rfl rfl (binR_eql)) ?_
    refine wl_v rfl rfl (ov_move _ rfl) ?_
    refine wl_split 34 rfl (fun c12 => ?_) (fun c12 => ?_)
    ·
     refine wl_v rfl rfl (ov_move _ rfl) ?_
     refine wl_v rfl rfl (ov_bin (.bool false) rfl rfl (binR_nenil Try.underlying23)) ?_
     refine wl_v rfl rfl (ov_pick_true _ rfl rfl) ?_
     refine wl_v rfl rfl (ov_move _ rfl) ?_
     refine wl_skip rfl rfl ?_
     refine wl_skip rfl rfl ?_
     refine wl_skip rfl rfl ?_
     refine wl_skip rfl rfl ?_
     refine wl_v rfl rfl (ov_pick_false _ rfl rfl) ?_
     refine wl_v rfl rfl (ov_move _ rfl) ?_
     refine wl_skip rfl rfl ?_
     refine wl_skip rfl rfl ?_
     refine wl_skip rfl rfl ?_
     refine wl_skip rfl rfl ?_
     refine wl_skip rfl rfl ?_
     refine wl_v rfl rfl (ov_pick_false _ rfl rfl) ?_
     refine wl_v rfl rfl (ov_assign _ rfl) ?_
     refine wl_nil ?_
     refine qn_then ?_
     refine wc_ret ?_
     refine qn_ret [_] ⟨rfl, trivial⟩ ?_
     exfalso
     have hcr_ := WH.check_ref s
     have hnv_ : TX.newV s = if 65536 < s.size then 31 else checkV s := rfl
     rw [hcr_] at hnv_
     (repeat' split at hnv_) <;> first | omega | simp_all | (simp_all; omega)
    ·
     refine wl_skip rfl rfl ?_
     refine wl_skip rfl rfl ?_
     refine wl_v rfl rfl (ov_pick_false _ rfl rfl) ?_
     refine wl_v rfl rfl (ov_move _ rfl) ?_
     refine wl_skip rfl rfl ?_
     refine wl_skip rfl rfl ?_
     refine wl_skip rfl rfl ?_
     refine wl_skip rfl rfl ?_
     refine wl_v rfl rfl (ov_pick_false _ rfl rfl) ?_
     refine wl_v rfl rfl (ov_move _ rfl) ?_
     refine wl_skip rfl rfl ?_
     refine wl_skip rfl rfl ?_
     refine wl_skip rfl rfl ?_
     refine wl_skip rfl rfl ?_
     refine wl_skip rfl rfl ?_
     refine wl_v rfl rfl (ov_pick_false _ rfl rfl) ?_
     refine wl_v rfl rfl (ov_assign _ rfl) ?_
     refine wl_nil ?_
     refine qn_then ?_
     refine wc_ret ?_
     refine qn_ret [_] ⟨rfl, trivial⟩ ?_
     exfalso
     have hcr_ := WH.check_ref s
     have hnv_ : TX.newV s = if 65536 < s.size then 31 else checkV s := rfl
     rw [hcr_] at hnv_
     (repeat' split at hnv_) <;> first | omega | simp_all | (simp_all; omega)
 ·
  refine ⟨_, rfl, ?_⟩
  replace h : Sx.St w0 F0 ([Pc.tx (Φ4) g1 (D2) (d3), Pc.lib (Φ4)] ++ R) _ := h
  have hfc_ := Pc.tx_facts h
  have hfs_ := hfc_.size
  rw [hD5] at hfs_
  refine wl_v rfl rfl (ov_move _ rfl) ?_
  refine wl_v rfl rfl (ov_extract [.pointer (some ⟨g1, 0, none⟩), .int .i64 (0)] _ rfl rfl) ?_
  refine wl_v rfl rfl (ov_extract [.pointer (some ⟨g1, 0, none⟩), .int .i64 (0)] _ rfl rfl) ?_
  refine wl_v rfl rfl (ov_assign _ rfl) ?_
  refine wl_v rfl rfl (ov_assign _ rfl) ?_
  refine wl_nil ?_
  refine qn_then ?_
  refine wc_seq ?_
  refine wc_block ?_
  refine wc_seq ?_
  refine wc_region ?_
  refine wl_v rfl rfl (ov_move _ rfl) ?_
  refine wl_v rfl rfl (ov_lens _ rfl Try.underlying9) ?_
  refine wl_v rfl rfl (ov_bin _ rfl rfl (binR_gtr)) ?_
  refine wl_v rfl rfl (ov_assign _ rfl) ?_
  refine wl_nil ?_
  refine qn_then ?_
  refine wc_cond (by rfl) (fun c13 => ?_) (fun c13 => ?_)
  ·
   refine wc_seq ?_
   refine wc_region ?_
   refine wl_v rfl rfl (ov_move _ rfl) ?_
   refine wl_v rfl rfl (ov_bin (.bool false) rfl rfl (binR_eql)) ?_
   refine wl_v rfl rfl (ov_move _ rfl) ?_
   refine wl_skip rfl rfl ?_
   refine wl_skip rfl rfl ?_
   refine wl_v rfl rfl (ov_pick_false _ rfl rfl) ?_
   refine wl_v rfl rfl (ov_assign _ rfl) ?_
   refine wl_nil ?_
   refine qn_then ?_
   refine wc_ret ?_
   refine qn_block_ret ?_
   refine qn_then_ret ?_
   replace h := st_selT [false, false] h
   refine qn_ret [_] ⟨rfl, trivial⟩ ?_
   exfalso
   have hcr_ := WH.check_ref s
   have hnv_ : TX.newV s = if 65536 < s.size then 31 else checkV s := rfl
   rw [hcr_] at hnv_
   rw [hnw7] at hnv_
   (repeat' split at hnv_) <;> first | omega | simp_all | (simp_all; omega)
  ·
   refine wc_seq ?_
   refine wc_region ?_
   refine wl_v rfl rfl (ov_move _ rfl) ?_
   refine wl_call _ rfl rfl rfl ent14 (RN.Right_calls (R := [Pc.tx (Φ4) g1 (D2) (d3), Pc.lib (Φ4)] ++ R) s (by omega) h) ?_
   rintro e_ w_ ⟨rfl, h⟩
   refine ⟨_, rfl, ?_⟩
   refine wl_v rfl rfl (ov_not _ (¬ ((refV s).2 < 0)) rfl (by first | exact decide_not.symm | simp)) ?_
   refine wl_v rfl rfl (ov_assign _ rfl) ?_
   refine wl_nil ?_
   refine qn_then ?_
   refine wc_cond (by rfl) (fun c14 => ?_) (fun c14 => ?_)
   ·
    refine wc_seq ?_
    refine wc_region ?_
    refine wl_v rfl rfl (ov_move _ rfl) ?_
    refine wl_v rfl rfl (ov_bin (.bool false) rfl rfl (binR_eql)) ?_
    refine wl_v rfl rfl (ov_move _ rfl) ?_
    refine wl_skip rfl rfl ?_
    refine wl_skip rfl rfl ?_
    refine wl_v rfl rfl (ov_pick_false _ rfl rfl) ?_
    refine wl_v rfl rfl (ov_assign _ rfl) ?_
    refine wl_nil ?_
    refine qn_then ?_
    refine wc_ret ?_
    refine qn_block_ret ?_
    refine qn_then_ret ?_
    replace h := st_selT [false, false] h
    refine qn_ret [_] ⟨rfl, trivial⟩ ?_
    exfalso
    have hcr_ := WH.check_ref s
    have hnv_ : TX.newV s = if 65536 < s.size then 31 else checkV s := rfl
    rw [hcr_] at hnv_
    rw [hnw7] at hnv_
    (repeat' split at hnv_) <;> first | omega | simp_all | (simp_all; omega)
   ·
    refine wc_skip ?_
    refine qn_block_normal ?_
    refine qn_then ?_
    refine wc_seq ?_
    refine wc_region ?_
    refine wl_v rfl rfl (ov_move _ rfl) ?_
    refine wl_v rfl rfl (ov_bin (.bool true) rfl rfl (binR_eql)) ?_
    refine wl_v rfl rfl (ov_move _ rfl) ?_
    refine wl_v rfl rfl (ov_move _ rfl) ?_
    refine wl_v rfl rfl (ov_bin (.bool true) rfl rfl (binR_nenil Try.underlying23)) ?_
    refine wl_v rfl rfl (ov_pick_true _ rfl rfl) ?_
    refine wl_v rfl rfl (ov_move _ rfl) ?_
    refine wl_v rfl rfl (ov_move _ rfl) ?_
    replace h := st_front 1 h
    replace h := st_front 1 h
    refine wl_call _ rfl rfl rfl ent15 (WH.String_w (R := [] ++ R) (Φ4) g1 (D2) (d3)  h) ?_
    rintro e_ w_ ⟨rfl, h⟩
    refine ⟨_, rfl, ?_⟩
    refine wl_v rfl rfl (ov_move _ rfl) ?_
    refine wl_v rfl rfl (ov_bin _ rfl rfl (binR_eqs)) ?_
    refine wl_v rfl rfl (ov_pick_true _ rfl rfl) ?_
    refine wl_v rfl rfl (ov_move _ rfl) ?_
    refine wl_split 44 rfl (fun c15 => ?_) (fun c15 => ?_)
    ·
     refine wl_v rfl rfl (ov_move _ rfl) ?_
     replace h := st_front 1 h
     replace h := st_front 1 h
     refine wl_call _ rfl rfl rfl ent16 (WH.Len_w (R := [] ++ R) (Φ4) g1 (D2) (d3)  h) ?_
     rintro e_ w_ ⟨rfl, h⟩
     refine ⟨_, rfl, ?_⟩
     refine wl_v rfl rfl (ov_move _ rfl) ?_
     refine wl_v rfl rfl (ov_lens _ rfl Try.underlying9) ?_
     refine wl_v rfl rfl (ov_bin _ rfl rfl (binR_eql)) ?_
     refine wl_v rfl rfl (ov_pick_true _ rfl rfl) ?_
     refine wl_v rfl rfl (ov_assign _ rfl) ?_
     refine wl_nil ?_
     refine qn_then ?_
     refine wc_ret ?_
     replace h := st_selT [false, false] h
     refine qn_ret [_] ⟨rfl, trivial⟩ ?_
     have hcr_ := WH.check_ref s
     have hnv_ : TX.newV s = if 65536 < s.size then 31 else checkV s := rfl
     rw [hcr_] at hnv_
     rw [hnw7] at hnv_
     have b_ : (decide ((((Pc.catB D2).size : Int) : Int) = (((s).size : Int)))) = true := by
       first | exact decide_eq_true (by rw [hD5]) | (rw [hD5]; simp) | ((repeat' split at hnv_) <;> first | omega | simp_all | (simp_all; omega))
     exact ⟨congrArg (fun z => Ending.returned (Value.bool z)) b_, h⟩
    ·
     refine wl_skip rfl rfl ?_
     refine wl_skip rfl rfl ?_
     refine wl_skip rfl rfl ?_
     refine wl_skip rfl rfl ?_
     refine wl_skip rfl rfl ?_
     refine wl_v rfl rfl (ov_pick_false _ rfl rfl) ?_
     refine wl_v rfl rfl (ov_assign _ rfl) ?_
     refine wl_nil ?_
     refine qn_then ?_
     refine wc_ret ?_
     replace h := st_selT [false, false] h
     refine qn_ret [_] ⟨rfl, trivial⟩ ?_
     exfalso
     have hcr_ := WH.check_ref s
     have hnv_ : TX.newV s = if 65536 < s.size then 31 else checkV s := rfl
     rw [hcr_] at hnv_
     rw [hnw7] at hnv_
     (repeat' split at hnv_) <;> first | omega | simp_all | (simp_all; omega)
end Go.Proofs.Ytieieindakbpoaa.L
