/- Pruned by wip/prune.py. -/
import Derived.Test.YtieieindakbpoaaProg
import Derived.Test.YtieieindakbpoaaQSxGlue
import Derived.Test.YtieieindakbpoaaQSxRanged
import Derived.Test.YtieieindakbpoaaQSxRange1
import Derived.Test.YtieieindakbpoaaQSxFlow
import Derived.Test.YtieieindakbpoaaQSxBytes
import Derived.Test.YtieieindakbpoaaQSxKinds
import Derived.Test.YtieieindakbpoaaQPcText
import Derived.Test.YtieieindakbpoaaQPcWalk
import Derived.Test.YtieieindakbpoaaQPcRead
import Derived.Test.YtieieindakbpoaaQSxTree
import Derived.Test.YtieieindakbpoaaQSxRunes
import Derived.Test.YtieieindakbpoaaQSxLast
import Derived.Test.YtieieindakbpoaaQSxWalk
import Derived.Test.YtieieindakbpoaaQSxChunks
import Derived.Test.YtieieindakbpoaaQPcTx
import Derived.Test.YtieieindakbpoaaQSxRead
import Derived.Test.YtieieindakbpoaaQSxSplitR
import Derived.Test.YtieieindakbpoaaQSxString
import Derived.Test.YtieieindakbpoaaQSxText
import Derived.Test.YtieieindakbpoaaQSxEdit
import Derived.Test.YtieieindakbpoaaQSxWhole
import Derived.Test.YtieieindakbpoaaQPcEdit
import Derived.Test.YtieieindakbpoaaQSxPlayed
import Derived.Test.YtieieindakbpoaaQSxAwake
import Derived.Test.YtieieindakbpoaaQSxGather
namespace Go.Proofs.Ytieieindakbpoaa.L
open Go Go.RowKit Go.Proofs.YtieieindakbpoaaW.PrintWords Go.Proofs.Ytieieindakbpoaa.Kinds Go.Proofs.Ytieieindakbpoaa.Given Go.Proofs.Ytieieindakbpoaa.Rn Go.Proofs.Ytieieindakbpoaa.Sx Go.Proofs.Ytieieindakbpoaa.Pc 
set_option linter.unusedVariables false
set_option linter.unusedSimpArgs false
theorem ent12 : Sx.Ent Try.prog 12 := ⟨Try.f12, Try.func12, by kernel_rfl, by kernel_rfl⟩
theorem ent17 : Sx.Ent Try.prog 17 := ⟨Try.f17, Try.func17, by kernel_rfl, by kernel_rfl⟩
theorem ent18 : Sx.Ent Try.prog 18 := ⟨Try.f18, Try.func18, by kernel_rfl, by kernel_rfl⟩
theorem ar54 : Sx.arrSz Try.prog 54 = some (2, 3, 1) := by kernel_rfl
theorem sh3 : Sx.shapeOf Try.prog 3 = some (false, 1) := by kernel_rfl
theorem ent29 : Sx.Ent Try.prog 29 := ⟨Try.f29, Try.func29, by kernel_rfl, by kernel_rfl⟩
theorem ent30 : Sx.Ent Try.prog 30 := ⟨Try.f30, Try.func30, by kernel_rfl, by kernel_rfl⟩
theorem ent31 : Sx.Ent Try.prog 31 := ⟨Try.f31, Try.func31, by kernel_rfl, by kernel_rfl⟩
theorem ent32 : Sx.Ent Try.prog 32 := ⟨Try.f32, Try.func32, by kernel_rfl, by kernel_rfl⟩
theorem ent33 : Sx.Ent Try.prog 33 := ⟨Try.f33, Try.func33, by kernel_rfl, by kernel_rfl⟩
theorem byte_cases (C : ByteArray) (k : Int) : (RD.pbyte C k = (0, false) ∧ (k < 0 ∨ (C.size : Int) ≤ k)) ∨ (RD.pbyte C k = (bt C k, true) ∧ 0 ≤ k ∧ k < C.size) := by
  unfold RD.pbyte
  split
  · exact .inl ⟨rfl, by assumption⟩
  · exact .inr ⟨rfl, by omega, by omega⟩
set_option maxHeartbeats 4000000 in
set_option maxRecDepth 100000 in
theorem PiecesReads_calls {w0 w : World} {F0 : Nat → Prop} {R : List Sx.HP} {v0 : World} (s : ByteArray) (script : List S48) (Ascript : Option Addr) (cscript : Nat) (span0 : Int) (span1 : Int) (hv : Sx.RO v0 w0 F0) (hzs : s.size ≤ 9223372036854775807) (hlscript : script.length ≤ cscript) (hCscript : k48.C v0 Ascript script.length script) (hmscript : script.length ≤ 9223372036854775807) (hlbscript : script.length ≤ 1048576) (hopscript : ∀ o ∈ script, o.f3.size ≤ 17592186044416) (h : Sx.St w0 F0 ([] ++ R) w) : Calls Try.prog 10 #[.string (s), .slice (Ascript) (script.length) (cscript), .agg #[.int .i64 (span0), .int .i64 (span1)]] w (fun e w1 => e = .returned (.bool true) ∧ Sx.St w0 F0 R w1) := by
 refine Sx.calls_fn (vs := [.string (s), .slice (Ascript) (script.length) (cscript), .agg #[.int .i64 (span0), .int .i64 (span1)]]) Try.func10 rfl Try.ntmps10 rfl ?_
 refine wc_seq ?_
 refine wc_region ?_
 refine wl_box _ h rfl rfl rfl (fun b1 _ h => ?_)
 replace h : Sx.St _ _ (Sx.blk b1 [.int .i64 (span0), .int .i64 (span1)] 54 :: _) _ := h
 refine wl_v rfl rfl (ov_assign _ rfl) ?_
 refine wl_nil ?_
 refine qn_then ?_
 refine wc_seq ?_
 refine wc_seq ?_
 refine wc_region ?_
 refine wl_call _ rfl rfl rfl ent12 (AW.awake_calls (R := [Sx.blk b1 [.int .i64 (span0), .int .i64 (span1)] 54] ++ R) h) ?_
 rintro e_ w_ ⟨rfl, h⟩
 refine ⟨_, rfl, ?_⟩
 refine wl_v rfl rfl (ov_notb _ rfl) ?_
 refine wl_nil ?_
 refine qn_then ?_
 refine wc_cond_false rfl ?_
 refine wc_skip ?_
 refine qn_then ?_
 refine wc_seq ?_
 refine wc_seq ?_
 refine wc_region ?_
 refine wl_v rfl rfl (ov_move _ rfl) ?_
 refine wl_call _ rfl rfl rfl ent17 (PD.right_calls (R := [Sx.blk b1 [.int .i64 (span0), .int .i64 (span1)] 54] ++ R) s h) ?_
 rintro e_ w_ ⟨rfl, h⟩
 refine ⟨_, rfl, ?_⟩
 refine wl_v rfl rfl (ov_not _ (¬ (s.size ≤ 4096 ∧ (refV s).2 < 0)) rfl (by first | exact decide_not.symm | simp)) ?_
 refine wl_nil ?_
 refine qn_then ?_
 refine wc_cond (by rfl) (fun c2 => ?_) (fun c2 => ?_)
 ·
  refine wc_seq ?_
  refine wc_region ?_
  refine wl_v rfl rfl (ov_assign _ rfl) ?_
  refine wl_nil ?_
  refine qn_then ?_
  refine wc_ret ?_
  refine qn_then_ret ?_
  replace h := st_selT [false] h
  refine qn_ret [_] ⟨rfl, trivial⟩ ?_
  exact ⟨rfl, h⟩
 ·
  have hrt_ : s.size ≤ 4096 ∧ (refV s).2 < 0 := Classical.not_not.1 c2
  have hrs_ := hrt_.1
  refine wc_skip ?_
  refine qn_then ?_
  refine wc_seq ?_
  refine wc_region ?_
  refine wl_v rfl rfl (ov_move _ rfl) ?_
  refine wl_v rfl rfl (ov_move _ rfl) ?_
  have hnv0_ : TX.newV s = 0 := by
    rw [TX.newV_fit (by omega)]
    exact PE.right_check (by first | exact hrt_.2 | assumption)
  have hrt0_ : PE.Rt s := ⟨hrt_.2, by omega⟩
  refine wl_call _ rfl rfl rfl ent18 (PD.played_calls (R := [Sx.blk b1 [.int .i64 (span0), .int .i64 (span1)] 54] ++ R) s (Ascript) (cscript) (script) (by omega) hnv0_ hopscript (by omega) hlscript (fun _ _ h_ => Sx.ro_C hv h_ hCscript) h) ?_
  rintro e_ w_ ⟨g3, D4, d5, Φ6, rfl, hD7, hDl8, h⟩
  refine ⟨_, rfl, ?_⟩
  replace h : Sx.St w0 F0 ([Pc.tx (Φ6) g3 (D4) (d5), Pc.lib (Φ6), Sx.blk b1 [.int .i64 (span0), .int .i64 (span1)] 54] ++ R) _ := h
  have hfc_ := Pc.tx_facts h
  have hfs_ := hfc_.size
  refine wl_v rfl rfl (ov_move _ rfl) ?_
  refine wl_v rfl rfl (ov_extract [.pointer (some ⟨g3, 0, none⟩), .string (Pc.catB D4), .int .i64 (((min (script).length 60 : Nat) : Int))] _ rfl rfl) ?_
  refine wl_v rfl rfl (ov_extract [.pointer (some ⟨g3, 0, none⟩), .string (Pc.catB D4), .int .i64 (((min (script).length 60 : Nat) : Int))] _ rfl rfl) ?_
  refine wl_v rfl rfl (ov_extract [.pointer (some ⟨g3, 0, none⟩), .string (Pc.catB D4), .int .i64 (((min (script).length 60 : Nat) : Int))] _ rfl rfl) ?_
  refine wl_v rfl rfl (ov_assign _ rfl) ?_
  refine wl_v rfl rfl (ov_assign _ rfl) ?_
  refine wl_v rfl rfl (ov_assign _ rfl) ?_
  refine wl_nil ?_
  refine qn_then ?_
  refine wc_seq ?_
  refine wc_seq ?_
  refine wc_region ?_
  refine wl_v rfl rfl (ov_move _ rfl) ?_
  refine wl_v rfl rfl (ov_bin (.bool false) rfl rfl (binR_eqnil Try.underlying23)) ?_
  refine wl_nil ?_
  refine qn_then ?_
  refine wc_cond_false rfl ?_
  refine wc_skip ?_
  refine qn_then ?_
  refine wc_seq ?_
  refine wc_draw (fun w => Sx.St w0 F0 ([Pc.tx (Φ6) g3 (D4) (d5), Pc.lib (Φ6), Sx.blk b1 [.int .i64 (span0), .int .i64 (span1)] 54] ++ R) w) (by kernel_rfl) ?_
  replace h := st_drew h
  refine wa_tk 0 rfl rfl rfl (st_selT [true, true, true] h) (fun w_ hS => ov_indexAddrA ⟨b1, 0, none⟩ 0 ⟨b1, 0, none⟩ rfl rfl ar54 (by decide) rfl) ?_
  refine wa_tk 1 rfl rfl rfl (st_selT [true, true, true] h) (fun w_ hS => ov_loadb 2 _ hS rfl rfl sh3 rfl) ?_
  refine wa_tk 2 rfl rfl rfl (st_selT [true, true, true] h) (fun w_ hS => ov_indexAddrA ⟨b1, 0, none⟩ 1 ⟨b1, 1, none⟩ rfl rfl ar54 (by decide) rfl) ?_
  refine wa_tk 3 rfl rfl rfl (st_selT [true, true, true] h) (fun w_ hS => ov_loadb 2 _ hS rfl rfl sh3 rfl) ?_
  refine wa_tk 4 rfl rfl rfl (st_selT [true, true, true] h) (fun w_ hS => ov_assign _ rfl) ?_
  refine wa_tk 5 rfl rfl rfl (st_selT [true, true, true] h) (fun w_ hS => ov_assign _ rfl) ?_
  refine wa_done (by kernel_rfl) ?_
  refine qn_then ?_
  refine wc_seq ?_
  refine wc_region ?_
  refine wl_v rfl rfl (ov_move _ rfl) ?_
  refine wl_v rfl rfl (ov_move _ rfl) ?_
  refine wl_v rfl rfl (ov_move _ rfl) ?_
  replace h := st_front 1 h
  replace h := st_front 1 h
  refine wl_call _ rfl rfl rfl ent29 (GA.Read_w (R := [Sx.blk b1 [.int .i64 (span0), .int .i64 (span1)] 54] ++ R) (Φ6) g3 (D4) (d5) (span0) (span1) h) ?_
  rintro e_ w_ ⟨rfl, h⟩
  refine ⟨_, rfl, ?_⟩
  refine wl_v rfl rfl (ov_move _ rfl) ?_
  refine wl_v rfl rfl (ov_extract [.string (GA.rdT (Pc.catB D4) (span0) (span1)), .int .i64 (RD.pspan (Pc.catB D4) (span0) (span1))] _ rfl rfl) ?_
  refine wl_v rfl rfl (ov_extract [.string (GA.rdT (Pc.catB D4) (span0) (span1)), .int .i64 (RD.pspan (Pc.catB D4) (span0) (span1))] _ rfl rfl) ?_
  refine wl_v rfl rfl (ov_assign _ rfl) ?_
  refine wl_v rfl rfl (ov_assign _ rfl) ?_
  refine wl_nil ?_
  refine qn_then ?_
  refine wc_seq ?_
  refine wc_region ?_
  refine wl_v rfl rfl (ov_move _ rfl) ?_
  refine wl_v rfl rfl (ov_move _ rfl) ?_
  refine wl_v rfl rfl (ov_move _ rfl) ?_
  refine wl_call _ rfl rfl rfl ent30 (WH.refSpan_calls (R := [Pc.tx (Φ6) g3 (D4) (d5), Pc.lib (Φ6), Sx.blk b1 [.int .i64 (span0), .int .i64 (span1)] 54] ++ R) (Pc.catB D4) span0 span1 (by omega) h) ?_
  rintro e_ w_ ⟨rfl, h⟩
  refine ⟨_, rfl, ?_⟩
  refine wl_v rfl rfl (ov_assign _ rfl) ?_
  refine wl_nil ?_
  refine qn_then ?_
  refine wc_seq ?_
  refine wc_seq ?_
  refine wc_region ?_
  refine wl_v rfl rfl (ov_move _ rfl) ?_
  refine wl_v rfl rfl (ov_move _ rfl) ?_
  refine wl_v rfl rfl (ov_bin _ rfl rfl (binR_neq)) ?_
  refine wl_v rfl rfl (ov_move _ rfl) ?_
  refine wl_split 50 rfl (fun c9 => ?_) (fun c9 => ?_)
  ·
   refine wl_skip rfl rfl ?_
   refine wl_skip rfl rfl ?_
   refine wl_skip rfl rfl ?_
   refine wl_skip rfl rfl ?_
   refine wl_skip rfl rfl ?_
   refine wl_skip rfl rfl ?_
   refine wl_skip rfl rfl ?_
   refine wl_v rfl rfl (ov_pick_true _ rfl rfl) ?_
   refine wl_nil ?_
   refine qn_then ?_
   refine wc_cond_true rfl ?_
   refine wc_seq ?_
   refine wc_region ?_
   refine wl_v rfl rfl (ov_assign _ rfl) ?_
   refine wl_nil ?_
   refine qn_then ?_
   refine wc_ret ?_
   refine qn_then_ret ?_
   replace h := st_selT [false, false, false] h
   refine qn_ret [_] ⟨rfl, trivial⟩ ?_
   have hrd_ : GA.rdT (Pc.catB D4) span0 span1 = if RD.pspan (Pc.catB D4) span0 span1 = 0 then (Pc.catB D4).extract span0.toNat span1.toNat else ByteArray.empty := rfl
   exfalso
   first | omega | contradiction | (simp_all; done) | (simp_all; omega)
  ·
   refine wl_v rfl rfl (ov_move _ rfl) ?_
   refine wl_v rfl rfl (ov_move _ rfl) ?_
   replace h := st_front 1 h
   replace h := st_front 1 h
   refine wl_call _ rfl rfl rfl ent31 (WH.Check_w (R := [Sx.blk b1 [.int .i64 (span0), .int .i64 (span1)] 54] ++ R) (Φ6) g3 (D4) (d5) (span1) h) ?_
   rintro e_ w_ ⟨rfl, h⟩
   refine ⟨_, rfl, ?_⟩
   refine wl_v rfl rfl (ov_move _ rfl) ?_
   refine wl_v rfl rfl (ov_move _ rfl) ?_
   refine wl_call _ rfl rfl rfl ent32 (WH.refCheck_calls (R := [Pc.tx (Φ6) g3 (D4) (d5), Pc.lib (Φ6), Sx.blk b1 [.int .i64 (span0), .int .i64 (span1)] 54] ++ R) (Pc.catB D4) span1 (by omega) h) ?_
   rintro e_ w_ ⟨rfl, h⟩
   refine ⟨_, rfl, ?_⟩
   have hck_ := RD.inside_le (Pc.catB D4) span1
   refine wl_v rfl rfl (ov_bin _ rfl rfl (binR_neq)) ?_
   refine wl_v rfl rfl (ov_pick_false _ rfl rfl) ?_
   refine wl_nil ?_
   refine qn_then ?_
   refine wc_cond (by rfl) (fun c10 => ?_) (fun c10 => ?_)
   ·
    refine wc_seq ?_
    refine wc_region ?_
    refine wl_v rfl rfl (ov_assign _ rfl) ?_
    refine wl_nil ?_
    refine qn_then ?_
    refine wc_ret ?_
    refine qn_then_ret ?_
    replace h := st_selT [false, false, false] h
    refine qn_ret [_] ⟨rfl, trivial⟩ ?_
    have hrd_ : GA.rdT (Pc.catB D4) span0 span1 = if RD.pspan (Pc.catB D4) span0 span1 = 0 then (Pc.catB D4).extract span0.toNat span1.toNat else ByteArray.empty := rfl
    exfalso
    first | omega | contradiction | (simp_all; done) | (simp_all; omega)
   ·
    refine wc_skip ?_
    refine qn_then ?_
    refine wc_seq ?_
    refine wc_region ?_
    refine wl_v rfl rfl (ov_move _ rfl) ?_
    refine wl_v rfl rfl (ov_move _ rfl) ?_
    replace h := st_front 1 h
    replace h := st_front 1 h
    refine wl_call _ rfl rfl rfl ent33 (WH.ByteAt_w (R := [Sx.blk b1 [.int .i64 (span0), .int .i64 (span1)] 54] ++ R) (Φ6) g3 (D4) (d5) (span0) h) ?_
    rintro e_ w_ ⟨rfl, h⟩
    refine ⟨_, rfl, ?_⟩
    rcases byte_cases (Pc.catB D4) (span0) with ⟨hB_, hB1_⟩ | ⟨hB_, hB1_, hB2_⟩
    ·
     rw [hB_]
     refine wl_v rfl rfl (ov_move _ rfl) ?_
     refine wl_v rfl rfl (ov_extract [.int .u8 (0), .bool false] _ rfl rfl) ?_
     refine wl_v rfl rfl (ov_extract [.int .u8 (0), .bool false] _ rfl rfl) ?_
     refine wl_v rfl rfl (ov_assign _ rfl) ?_
     refine wl_v rfl rfl (ov_assign _ rfl) ?_
     refine wl_nil ?_
     refine qn_then ?_
     refine wc_seq ?_
     refine wc_seq ?_
     refine wc_region ?_
     refine wl_v rfl rfl (ov_move _ rfl) ?_
     refine wl_v rfl rfl (ov_bin _ rfl rfl (binR_geq)) ?_
     refine wl_v rfl rfl (ov_move _ rfl) ?_
     refine wl_split 67 rfl (fun c11 => ?_) (fun c11 => ?_)
     ·
      refine wl_v rfl rfl (ov_move _ rfl) ?_
      refine wl_v rfl rfl (ov_move _ rfl) ?_
      refine wl_v rfl rfl (ov_lens _ rfl Try.underlying9) ?_
      refine wl_v rfl rfl (ov_bin _ rfl rfl (binR_lss)) ?_
      refine wl_v rfl rfl (ov_pick_true _ rfl rfl) ?_
      refine wl_v rfl rfl (ov_assign _ rfl) ?_
      refine wl_nil ?_
      refine qn_then ?_
      refine wc_seq ?_
      refine wc_region ?_
      refine wl_v rfl rfl (ov_move _ rfl) ?_
      refine wl_v rfl rfl (ov_move _ rfl) ?_
      refine wl_v rfl rfl (ov_bin _ rfl rfl (binR_neb Try.underlying4)) ?_
      refine wl_v rfl rfl (ov_move _ rfl) ?_
      refine wl_split 76 rfl (fun c12 => ?_) (fun c12 => ?_)
      ·
       refine wl_skip rfl rfl ?_
       refine wl_skip rfl rfl ?_
       refine wl_skip rfl rfl ?_
       refine wl_skip rfl rfl ?_
       refine wl_skip rfl rfl ?_
       refine wl_skip rfl rfl ?_
       refine wl_skip rfl rfl ?_
       refine wl_skip rfl rfl ?_
       refine wl_v rfl rfl (ov_pick_true _ rfl rfl) ?_
       refine wl_v rfl rfl (ov_move _ rfl) ?_
       refine wl_skip rfl rfl ?_
       refine wl_skip rfl rfl ?_
       refine wl_skip rfl rfl ?_
       refine wl_skip rfl rfl ?_
       refine wl_skip rfl rfl ?_
       refine wl_skip rfl rfl ?_
       refine wl_v rfl rfl (ov_pick_true _ rfl rfl) ?_
       refine wl_nil ?_
       refine qn_then ?_
       refine wc_cond_true rfl ?_
       refine wc_seq ?_
       refine wc_region ?_
       refine wl_v rfl rfl (ov_assign _ rfl) ?_
       refine wl_nil ?_
       refine qn_then ?_
       refine wc_ret ?_
       refine qn_then_ret ?_
       replace h := st_selT [false, false, false] h
       refine qn_ret [_] ⟨rfl, trivial⟩ ?_
       have hrd_ : GA.rdT (Pc.catB D4) span0 span1 = if RD.pspan (Pc.catB D4) span0 span1 = 0 then (Pc.catB D4).extract span0.toNat span1.toNat else ByteArray.empty := rfl
       exfalso
       first | omega | contradiction | (simp_all; done) | (simp_all; omega)
      ·
       refine wl_v rfl rfl (ov_move _ rfl) ?_
       refine wl_v rfl rfl (ov_move _ rfl) ?_
       refine wl_skip rfl rfl ?_
       refine wl_skip rfl rfl ?_
       refine wl_skip rfl rfl ?_
       refine wl_skip rfl rfl ?_
       refine wl_skip rfl rfl ?_
       refine wl_v rfl rfl (ov_pick_false _ rfl rfl) ?_
       refine wl_v rfl rfl (ov_pick_false _ rfl rfl) ?_
       refine wl_v rfl rfl (ov_move _ rfl) ?_
       refine wl_v rfl rfl (ov_move _ rfl) ?_
       refine wl_v rfl rfl (ov_notb _ rfl) ?_
       refine wl_v rfl rfl (ov_move _ rfl) ?_
       refine wl_v rfl rfl (ov_move _ rfl) ?_
       refine wl_v rfl rfl (ov_bin (.bool false) rfl rfl (binR_neq)) ?_
       refine wl_v rfl rfl (ov_pick_true _ rfl rfl) ?_
       refine wl_v rfl rfl (ov_pick_false _ rfl rfl) ?_
       refine wl_nil ?_
       refine qn_then ?_
       refine wc_cond_false rfl ?_
       refine wc_skip ?_
       refine qn_then ?_
       refine wc_seq ?_
       refine wc_seq ?_
       refine wc_region ?_
       refine wl_v rfl rfl (ov_move _ rfl) ?_
       refine wl_v rfl rfl (ov_bin _ rfl rfl (binR_neq)) ?_
       refine wl_nil ?_
       refine qn_then ?_
       refine wc_cond (by rfl) (fun c13 => ?_) (fun c13 => ?_)
       ·
        refine wc_seq ?_
        refine wc_region ?_
        refine wl_v rfl rfl (ov_move _ rfl) ?_
        refine wl_v rfl rfl (ov_bin _ rfl rfl (binR_eqs)) ?_
        refine wl_v rfl rfl (ov_assign _ rfl) ?_
        refine wl_nil ?_
        refine qn_then ?_
        refine wc_ret ?_
        refine qn_then_ret ?_
        replace h := st_selT [false, false, false] h
        refine qn_ret [_] ⟨rfl, trivial⟩ ?_
        have hrd_ : GA.rdT (Pc.catB D4) span0 span1 = if RD.pspan (Pc.catB D4) span0 span1 = 0 then (Pc.catB D4).extract span0.toNat span1.toNat else ByteArray.empty := rfl
        have b_ : (decide ((GA.rdT (Pc.catB D4) (span0) (span1)) = (ByteArray.mk #[]))) = true := by first | (apply decide_eq_true; rw [hrd_, if_neg (by omega)]; done) | (apply decide_eq_true; rw [hrd_, if_pos (by omega)]; done) | (apply decide_eq_true; rw [hrd_, if_neg (by omega)]; rfl) | (simp_all; done)
        exact ⟨congrArg (fun z => Ending.returned (Value.bool z)) b_, h⟩
       ·
        obtain ⟨hq0_, hq1_, hq2_, hq3_, hq4_⟩ := ED.span0 (C := Pc.catB D4) (a := span0) (b := span1) (by omega)
        refine wc_skip ?_
        refine qn_then ?_
        refine wc_seq ?_
        refine wc_region ?_
        refine wl_v rfl rfl (ov_move _ rfl) ?_
        refine wl_v rfl rfl (ov_move _ rfl) ?_
        refine wl_v rfl rfl (ov_move _ rfl) ?_
        refine wl_v rfl rfl (ov_move _ rfl) ?_
        refine wl_v rfl rfl (ov_slices _ ((span0 : Int).toNat) ((span1 : Int).toNat) (by rfl) (by exact ⟨_, _, rfl, (by omega)⟩) (by exact ⟨_, _, rfl, (by omega)⟩) Try.underlying9 (by omega) (by omega)) ?_
        refine wl_v rfl rfl (ov_bin _ rfl rfl (binR_eqs)) ?_
        refine wl_v rfl rfl (ov_assign _ rfl) ?_
        refine wl_nil ?_
        refine qn_then ?_
        refine wc_ret ?_
        replace h := st_selT [false, false, false] h
        refine qn_ret [_] ⟨rfl, trivial⟩ ?_
        have hrd_ : GA.rdT (Pc.catB D4) span0 span1 = if RD.pspan (Pc.catB D4) span0 span1 = 0 then (Pc.catB D4).extract span0.toNat span1.toNat else ByteArray.empty := rfl
        have b_ : (decide ((GA.rdT (Pc.catB D4) (span0) (span1)) = ((Pc.catB D4).extract ((span0 : Int).toNat) ((span1 : Int).toNat)))) = true := by first | (apply decide_eq_true; rw [hrd_, if_neg (by omega)]; done) | (apply decide_eq_true; rw [hrd_, if_pos (by omega)]; done) | (apply decide_eq_true; rw [hrd_, if_neg (by omega)]; rfl) | (simp_all; done)
        exact ⟨congrArg (fun z => Ending.returned (Value.bool z)) b_, h⟩
     ·
      refine wl_skip rfl rfl ?_
      refine wl_skip rfl rfl ?_
      refine wl_skip rfl rfl ?_
      refine wl_skip rfl rfl ?_
      refine wl_v rfl rfl (ov_pick_false _ rfl rfl) ?_
      refine wl_v rfl rfl (ov_assign _ rfl) ?_
      refine wl_nil ?_
      refine qn_then ?_
      refine wc_seq ?_
      refine wc_region ?_
      refine wl_v rfl rfl (ov_move _ rfl) ?_
      refine wl_v rfl rfl (ov_move _ rfl) ?_
      refine wl_v rfl rfl (ov_bin _ rfl rfl (binR_neb Try.underlying4)) ?_
      refine wl_v rfl rfl (ov_move _ rfl) ?_
      refine wl_split 76 rfl (fun c14 => ?_) (fun c14 => ?_)
      ·
       refine wl_skip rfl rfl ?_
       refine wl_skip rfl rfl ?_
       refine wl_skip rfl rfl ?_
       refine wl_skip rfl rfl ?_
       refine wl_skip rfl rfl ?_
       refine wl_skip rfl rfl ?_
       refine wl_skip rfl rfl ?_
       refine wl_skip rfl rfl ?_
       refine wl_v rfl rfl (ov_pick_true _ rfl rfl) ?_
       refine wl_v rfl rfl (ov_move _ rfl) ?_
       refine wl_skip rfl rfl ?_
       refine wl_skip rfl rfl ?_
       refine wl_skip rfl rfl ?_
       refine wl_skip rfl rfl ?_
       refine wl_skip rfl rfl ?_
       refine wl_skip rfl rfl ?_
       refine wl_v rfl rfl (ov_pick_true _ rfl rfl) ?_
       refine wl_nil ?_
       refine qn_then ?_
       refine wc_cond_true rfl ?_
       refine wc_seq ?_
       refine wc_region ?_
       refine wl_v rfl rfl (ov_assign _ rfl) ?_
       refine wl_nil ?_
       refine qn_then ?_
       refine wc_ret ?_
       refine qn_then_ret ?_
       replace h := st_selT [false, false, false] h
       refine qn_ret [_] ⟨rfl, trivial⟩ ?_
       have hrd_ : GA.rdT (Pc.catB D4) span0 span1 = if RD.pspan (Pc.catB D4) span0 span1 = 0 then (Pc.catB D4).extract span0.toNat span1.toNat else ByteArray.empty := rfl
       exfalso
       first | omega | contradiction | (simp_all; done) | (simp_all; omega)
      ·
       refine wl_v rfl rfl (ov_move _ rfl) ?_
       refine wl_v rfl rfl (ov_move _ rfl) ?_
       refine wl_skip rfl rfl ?_
       refine wl_skip rfl rfl ?_
       refine wl_skip rfl rfl ?_
       refine wl_skip rfl rfl ?_
       refine wl_skip rfl rfl ?_
       refine wl_v rfl rfl (ov_pick_false _ rfl rfl) ?_
       refine wl_v rfl rfl (ov_pick_false _ rfl rfl) ?_
       refine wl_v rfl rfl (ov_move _ rfl) ?_
       refine wl_v rfl rfl (ov_move _ rfl) ?_
       refine wl_v rfl rfl (ov_notb _ rfl) ?_
       refine wl_v rfl rfl (ov_move _ rfl) ?_
       refine wl_v rfl rfl (ov_move _ rfl) ?_
       refine wl_v rfl rfl (ov_bin (.bool false) rfl rfl (binR_neq)) ?_
       refine wl_v rfl rfl (ov_pick_true _ rfl rfl) ?_
       refine wl_v rfl rfl (ov_pick_false _ rfl rfl) ?_
       refine wl_nil ?_
       refine qn_then ?_
       refine wc_cond_false rfl ?_
       refine wc_skip ?_
       refine qn_then ?_
       refine wc_seq ?_
       refine wc_seq ?_
       refine wc_region ?_
       refine wl_v rfl rfl (ov_move _ rfl) ?_
       refine wl_v rfl rfl (ov_bin _ rfl rfl (binR_neq)) ?_
       refine wl_nil ?_
       refine qn_then ?_
       refine wc_cond (by rfl) (fun c15 => ?_) (fun c15 => ?_)
       ·
        refine wc_seq ?_
        refine wc_region ?_
        refine wl_v rfl rfl (ov_move _ rfl) ?_
        refine wl_v rfl rfl (ov_bin _ rfl rfl (binR_eqs)) ?_
        refine wl_v rfl rfl (ov_assign _ rfl) ?_
        refine wl_nil ?_
        refine qn_then ?_
        refine wc_ret ?_
        refine qn_then_ret ?_
        replace h := st_selT [false, false, false] h
        refine qn_ret [_] ⟨rfl, trivial⟩ ?_
        have hrd_ : GA.rdT (Pc.catB D4) span0 span1 = if RD.pspan (Pc.catB D4) span0 span1 = 0 then (Pc.catB D4).extract span0.toNat span1.toNat else ByteArray.empty := rfl
        have b_ : (decide ((GA.rdT (Pc.catB D4) (span0) (span1)) = (ByteArray.mk #[]))) = true := by first | (apply decide_eq_true; rw [hrd_, if_neg (by omega)]; done) | (apply decide_eq_true; rw [hrd_, if_pos (by omega)]; done) | (apply decide_eq_true; rw [hrd_, if_neg (by omega)]; rfl) | (simp_all; done)
        exact ⟨congrArg (fun z => Ending.returned (Value.bool z)) b_, h⟩
       ·
        obtain ⟨hq0_, hq1_, hq2_, hq3_, hq4_⟩ := ED.span0 (C := Pc.catB D4) (a := span0) (b := span1) (by omega)
        refine wc_skip ?_
        refine qn_then ?_
        refine wc_seq ?_
        refine wc_region ?_
        refine wl_v rfl rfl (ov_move _ rfl) ?_
        refine wl_v rfl rfl (ov_move _ rfl) ?_
        refine wl_v rfl rfl (ov_move _ rfl) ?_
        refine wl_v rfl rfl (ov_move _ rfl) ?_
        refine wl_v rfl rfl (ov_slices _ ((span0 : Int).toNat) ((span1 : Int).toNat) (by rfl) (by exact ⟨_, _, rfl, (by omega)⟩) (by exact ⟨_, _, rfl, (by omega)⟩) Try.underlying9 (by omega) (by omega)) ?_
        refine wl_v rfl rfl (ov_bin _ rfl rfl (binR_eqs)) ?_
        refine wl_v rfl rfl (ov_assign _ rfl) ?_
        refine wl_nil ?_
        refine qn_then ?_
        refine wc_ret ?_
        replace h := st_selT [false, false, false] h
        refine qn_ret [_] ⟨rfl, trivial⟩ ?_
        have hrd_ : GA.rdT (Pc.catB D4) span0 span1 = if RD.pspan (Pc.catB D4) span0 span1 = 0 then (Pc.catB D4).extract span0.toNat span1.toNat else ByteArray.empty := rfl
        have b_ : (decide ((GA.rdT (Pc.catB D4) (span0) (span1)) = ((Pc.catB D4).extract ((span0 : Int).toNat) ((span1 : Int).toNat)))) = true := by first | (apply decide_eq_true; rw [hrd_, if_neg (by omega)]; done) | (apply decide_eq_true; rw [hrd_, if_pos (by omega)]; done) | (apply decide_eq_true; rw [hrd_, if_neg (by omega)]; rfl) | (simp_all; done)
        exact ⟨congrArg (fun z => Ending.returned (Value.bool z)) b_, h⟩
    ·
     rw [hB_]
     refine wl_v rfl rfl (ov_move _ rfl) ?_
     refine wl_v rfl rfl (ov_extract [.int .u8 (bt (Pc.catB D4) (span0)), .bool true] _ rfl rfl) ?_
     refine wl_v rfl rfl (ov_extract [.int .u8 (bt (Pc.catB D4) (span0)), .bool true] _ rfl rfl) ?_
     refine wl_v rfl rfl (ov_assign _ rfl) ?_
     refine wl_v rfl rfl (ov_assign _ rfl) ?_
     refine wl_nil ?_
     refine qn_then ?_
     refine wc_seq ?_
     refine wc_seq ?_
     refine wc_region ?_
     refine wl_v rfl rfl (ov_move _ rfl) ?_
     refine wl_v rfl rfl (ov_bin _ rfl rfl (binR_geq)) ?_
     refine wl_v rfl rfl (ov_move _ rfl) ?_
     refine wl_split 67 rfl (fun c16 => ?_) (fun c16 => ?_)
     ·
      refine wl_v rfl rfl (ov_move _ rfl) ?_
      refine wl_v rfl rfl (ov_move _ rfl) ?_
      refine wl_v rfl rfl (ov_lens _ rfl Try.underlying9) ?_
      refine wl_v rfl rfl (ov_bin _ rfl rfl (binR_lss)) ?_
      refine wl_v rfl rfl (ov_pick_true _ rfl rfl) ?_
      refine wl_v rfl rfl (ov_assign _ rfl) ?_
      refine wl_nil ?_
      refine qn_then ?_
      refine wc_seq ?_
      refine wc_region ?_
      refine wl_v rfl rfl (ov_move _ rfl) ?_
      refine wl_v rfl rfl (ov_move _ rfl) ?_
      refine wl_v rfl rfl (ov_bin _ rfl rfl (binR_neb Try.underlying4)) ?_
      refine wl_v rfl rfl (ov_move _ rfl) ?_
      refine wl_split 76 rfl (fun c17 => ?_) (fun c17 => ?_)
      ·
       refine wl_skip rfl rfl ?_
       refine wl_skip rfl rfl ?_
       refine wl_skip rfl rfl ?_
       refine wl_skip rfl rfl ?_
       refine wl_skip rfl rfl ?_
       refine wl_skip rfl rfl ?_
       refine wl_skip rfl rfl ?_
       refine wl_skip rfl rfl ?_
       refine wl_v rfl rfl (ov_pick_true _ rfl rfl) ?_
       refine wl_v rfl rfl (ov_move _ rfl) ?_
       refine wl_skip rfl rfl ?_
       refine wl_skip rfl rfl ?_
       refine wl_skip rfl rfl ?_
       refine wl_skip rfl rfl ?_
       refine wl_skip rfl rfl ?_
       refine wl_skip rfl rfl ?_
       refine wl_v rfl rfl (ov_pick_true _ rfl rfl) ?_
       refine wl_nil ?_
       refine qn_then ?_
       refine wc_cond_true rfl ?_
       refine wc_seq ?_
       refine wc_region ?_
       refine wl_v rfl rfl (ov_assign _ rfl) ?_
       refine wl_nil ?_
       refine qn_then ?_
       refine wc_ret ?_
       refine qn_then_ret ?_
       replace h := st_selT [false, false, false] h
       refine qn_ret [_] ⟨rfl, trivial⟩ ?_
       have hrd_ : GA.rdT (Pc.catB D4) span0 span1 = if RD.pspan (Pc.catB D4) span0 span1 = 0 then (Pc.catB D4).extract span0.toNat span1.toNat else ByteArray.empty := rfl
       exfalso
       first | omega | contradiction | (simp_all; done) | (simp_all; omega)
      ·
       refine wl_v rfl rfl (ov_move _ rfl) ?_
       refine wl_v rfl rfl (ov_move _ rfl) ?_
       refine wl_v rfl rfl (ov_move _ rfl) ?_
       refine wl_v rfl rfl (ov_move _ rfl) ?_
       refine wl_v rfl rfl (ov_move _ rfl) ?_
       have hbt18 := Go.Proofs.Ytieieindakbpoaa.Given.bt_nonneg (Pc.catB D4) (span0)
       refine wl_v rfl rfl (ov_indexbt _ _ rfl rfl Try.underlying9 (by omega) (by omega)) ?_
       refine wl_v rfl rfl (ov_bin _ rfl rfl (binR_neq)) ?_
       refine wl_v rfl rfl (ov_pick_true _ rfl rfl) ?_
       refine wl_v rfl rfl (ov_pick_false _ rfl rfl) ?_
       refine wl_v rfl rfl (ov_move _ rfl) ?_
       refine wl_split 86 rfl (fun c19 => ?_) (fun c19 => ?_)
       ·
        refine wl_skip rfl rfl ?_
        refine wl_skip rfl rfl ?_
        refine wl_skip rfl rfl ?_
        refine wl_skip rfl rfl ?_
        refine wl_skip rfl rfl ?_
        refine wl_skip rfl rfl ?_
        refine wl_v rfl rfl (ov_pick_true _ rfl rfl) ?_
        refine wl_nil ?_
        refine qn_then ?_
        refine wc_cond_true rfl ?_
        refine wc_seq ?_
        refine wc_region ?_
        refine wl_v rfl rfl (ov_assign _ rfl) ?_
        refine wl_nil ?_
        refine qn_then ?_
        refine wc_ret ?_
        refine qn_then_ret ?_
        replace h := st_selT [false, false, false] h
        refine qn_ret [_] ⟨rfl, trivial⟩ ?_
        have hrd_ : GA.rdT (Pc.catB D4) span0 span1 = if RD.pspan (Pc.catB D4) span0 span1 = 0 then (Pc.catB D4).extract span0.toNat span1.toNat else ByteArray.empty := rfl
        exfalso
        first | omega | contradiction | (simp_all; done) | (simp_all; omega)
       ·
        refine wl_v rfl rfl (ov_move _ rfl) ?_
        refine wl_v rfl rfl (ov_notb _ rfl) ?_
        refine wl_v rfl rfl (ov_move _ rfl) ?_
        refine wl_skip rfl rfl ?_
        refine wl_skip rfl rfl ?_
        refine wl_v rfl rfl (ov_pick_false _ rfl rfl) ?_
        refine wl_v rfl rfl (ov_pick_false _ rfl rfl) ?_
        refine wl_nil ?_
        refine qn_then ?_
        refine wc_cond_false rfl ?_
        refine wc_skip ?_
        refine qn_then ?_
        refine wc_seq ?_
        refine wc_seq ?_
        refine wc_region ?_
        refine wl_v rfl rfl (ov_move _ rfl) ?_
        refine wl_v rfl rfl (ov_bin _ rfl rfl (binR_neq)) ?_
        refine wl_nil ?_
        refine qn_then ?_
        refine wc_cond (by rfl) (fun c20 => ?_) (fun c20 => ?_)
        ·
         refine wc_seq ?_
         refine wc_region ?_
         refine wl_v rfl rfl (ov_move _ rfl) ?_
         refine wl_v rfl rfl (ov_bin _ rfl rfl (binR_eqs)) ?_
         refine wl_v rfl rfl (ov_assign _ rfl) ?_
         refine wl_nil ?_
         refine qn_then ?_
         refine wc_ret ?_
         refine qn_then_ret ?_
         replace h := st_selT [false, false, false] h
         refine qn_ret [_] ⟨rfl, trivial⟩ ?_
         have hrd_ : GA.rdT (Pc.catB D4) span0 span1 = if RD.pspan (Pc.catB D4) span0 span1 = 0 then (Pc.catB D4).extract span0.toNat span1.toNat else ByteArray.empty := rfl
         have b_ : (decide ((GA.rdT (Pc.catB D4) (span0) (span1)) = (ByteArray.mk #[]))) = true := by first | (apply decide_eq_true; rw [hrd_, if_neg (by omega)]; done) | (apply decide_eq_true; rw [hrd_, if_pos (by omega)]; done) | (apply decide_eq_true; rw [hrd_, if_neg (by omega)]; rfl) | (simp_all; done)
         exact ⟨congrArg (fun z => Ending.returned (Value.bool z)) b_, h⟩
        ·
         obtain ⟨hq0_, hq1_, hq2_, hq3_, hq4_⟩ := ED.span0 (C := Pc.catB D4) (a := span0) (b := span1) (by omega)
         refine wc_skip ?_
         refine qn_then ?_
         refine wc_seq ?_
         refine wc_region ?_
         refine wl_v rfl rfl (ov_move _ rfl) ?_
         refine wl_v rfl rfl (ov_move _ rfl) ?_
         refine wl_v rfl rfl (ov_move _ rfl) ?_
         refine wl_v rfl rfl (ov_move _ rfl) ?_
         refine wl_v rfl rfl (ov_slices _ ((span0 : Int).toNat) ((span1 : Int).toNat) (by rfl) (by exact ⟨_, _, rfl, (by omega)⟩) (by exact ⟨_, _, rfl, (by omega)⟩) Try.underlying9 (by omega) (by omega)) ?_
         refine wl_v rfl rfl (ov_bin _ rfl rfl (binR_eqs)) ?_
         refine wl_v rfl rfl (ov_assign _ rfl) ?_
         refine wl_nil ?_
         refine qn_then ?_
         refine wc_ret ?_
         replace h := st_selT [false, false, false] h
         refine qn_ret [_] ⟨rfl, trivial⟩ ?_
         have hrd_ : GA.rdT (Pc.catB D4) span0 span1 = if RD.pspan (Pc.catB D4) span0 span1 = 0 then (Pc.catB D4).extract span0.toNat span1.toNat else ByteArray.empty := rfl
         have b_ : (decide ((GA.rdT (Pc.catB D4) (span0) (span1)) = ((Pc.catB D4).extract ((span0 : Int).toNat) ((span1 : Int).toNat)))) = true := by first | (apply decide_eq_true; rw [hrd_, if_neg (by omega)]; done) | (apply decide_eq_true; rw [hrd_, if_pos (by omega)]; done) | (apply decide_eq_true; rw [hrd_, if_neg (by omega)]; rfl) | (simp_all; done)
         exact ⟨congrArg (fun z => Ending.returned (Value.bool z)) b_, h⟩
     ·
      refine wl_skip rfl rfl ?_
      refine wl_skip rfl rfl ?_
      refine wl_skip rfl rfl ?_
      refine wl_skip rfl rfl ?_
      refine wl_v rfl rfl (ov_pick_false _ rfl rfl) ?_
      refine wl_v rfl rfl (ov_assign _ rfl) ?_
      refine wl_nil ?_
      refine qn_then ?_
      refine wc_seq ?_
      refine wc_region ?_
      refine wl_v rfl rfl (ov_move _ rfl) ?_
      refine wl_v rfl rfl (ov_move _ rfl) ?_
      refine wl_v rfl rfl (ov_bin _ rfl rfl (binR_neb Try.underlying4)) ?_
      refine wl_v rfl rfl (ov_move _ rfl) ?_
      refine wl_split 76 rfl (fun c21 => ?_) (fun c21 => ?_)
      ·
       refine wl_skip rfl rfl ?_
       refine wl_skip rfl rfl ?_
       refine wl_skip rfl rfl ?_
       refine wl_skip rfl rfl ?_
       refine wl_skip rfl rfl ?_
       refine wl_skip rfl rfl ?_
       refine wl_skip rfl rfl ?_
       refine wl_skip rfl rfl ?_
       refine wl_v rfl rfl (ov_pick_true _ rfl rfl) ?_
       refine wl_v rfl rfl (ov_move _ rfl) ?_
       refine wl_skip rfl rfl ?_
       refine wl_skip rfl rfl ?_
       refine wl_skip rfl rfl ?_
       refine wl_skip rfl rfl ?_
       refine wl_skip rfl rfl ?_
       refine wl_skip rfl rfl ?_
       refine wl_v rfl rfl (ov_pick_true _ rfl rfl) ?_
       refine wl_nil ?_
       refine qn_then ?_
       refine wc_cond_true rfl ?_
       refine wc_seq ?_
       refine wc_region ?_
       refine wl_v rfl rfl (ov_assign _ rfl) ?_
       refine wl_nil ?_
       refine qn_then ?_
       refine wc_ret ?_
       refine qn_then_ret ?_
       replace h := st_selT [false, false, false] h
       refine qn_ret [_] ⟨rfl, trivial⟩ ?_
       have hrd_ : GA.rdT (Pc.catB D4) span0 span1 = if RD.pspan (Pc.catB D4) span0 span1 = 0 then (Pc.catB D4).extract span0.toNat span1.toNat else ByteArray.empty := rfl
       exfalso
       first | omega | contradiction | (simp_all; done) | (simp_all; omega)
      ·
       refine wl_v rfl rfl (ov_move _ rfl) ?_
       refine wl_v rfl rfl (ov_move _ rfl) ?_
       refine wl_v rfl rfl (ov_move _ rfl) ?_
       refine wl_v rfl rfl (ov_move _ rfl) ?_
       refine wl_v rfl rfl (ov_move _ rfl) ?_
       have hbt22 := Go.Proofs.Ytieieindakbpoaa.Given.bt_nonneg (Pc.catB D4) (span0)
       refine wl_v rfl rfl (ov_indexbt _ _ rfl rfl Try.underlying9 (by omega) (by omega)) ?_
       refine wl_v rfl rfl (ov_bin _ rfl rfl (binR_neq)) ?_
       refine wl_v rfl rfl (ov_pick_true _ rfl rfl) ?_
       refine wl_v rfl rfl (ov_pick_false _ rfl rfl) ?_
       refine wl_v rfl rfl (ov_move _ rfl) ?_
       refine wl_split 86 rfl (fun c23 => ?_) (fun c23 => ?_)
       ·
        refine wl_skip rfl rfl ?_
        refine wl_skip rfl rfl ?_
        refine wl_skip rfl rfl ?_
        refine wl_skip rfl rfl ?_
        refine wl_skip rfl rfl ?_
        refine wl_skip rfl rfl ?_
        refine wl_v rfl rfl (ov_pick_true _ rfl rfl) ?_
        refine wl_nil ?_
        refine qn_then ?_
        refine wc_cond_true rfl ?_
        refine wc_seq ?_
        refine wc_region ?_
        refine wl_v rfl rfl (ov_assign _ rfl) ?_
        refine wl_nil ?_
        refine qn_then ?_
        refine wc_ret ?_
        refine qn_then_ret ?_
        replace h := st_selT [false, false, false] h
        refine qn_ret [_] ⟨rfl, trivial⟩ ?_
        have hrd_ : GA.rdT (Pc.catB D4) span0 span1 = if RD.pspan (Pc.catB D4) span0 span1 = 0 then (Pc.catB D4).extract span0.toNat span1.toNat else ByteArray.empty := rfl
        exfalso
        first | omega | contradiction | (simp_all; done) | (simp_all; omega)
       ·
        refine wl_v rfl rfl (ov_move _ rfl) ?_
        refine wl_v rfl rfl (ov_notb _ rfl) ?_
        refine wl_v rfl rfl (ov_move _ rfl) ?_
        refine wl_skip rfl rfl ?_
        refine wl_skip rfl rfl ?_
        refine wl_v rfl rfl (ov_pick_false _ rfl rfl) ?_
        refine wl_v rfl rfl (ov_pick_false _ rfl rfl) ?_
        refine wl_nil ?_
        refine qn_then ?_
        refine wc_cond_false rfl ?_
        refine wc_skip ?_
        refine qn_then ?_
        refine wc_seq ?_
        refine wc_seq ?_
        refine wc_region ?_
        refine wl_v rfl rfl (ov_move _ rfl) ?_
        refine wl_v rfl rfl (ov_bin _ rfl rfl (binR_neq)) ?_
        refine wl_nil ?_
        refine qn_then ?_
        refine wc_cond (by rfl) (fun c24 => ?_) (fun c24 => ?_)
        ·
         refine wc_seq ?_
         refine wc_region ?_
         refine wl_v rfl rfl (ov_move _ rfl) ?_
         refine wl_v rfl rfl (ov_bin _ rfl rfl (binR_eqs)) ?_
         refine wl_v rfl rfl (ov_assign _ rfl) ?_
         refine wl_nil ?_
         refine qn_then ?_
         refine wc_ret ?_
         refine qn_then_ret ?_
         replace h := st_selT [false, false, false] h
         refine qn_ret [_] ⟨rfl, trivial⟩ ?_
         have hrd_ : GA.rdT (Pc.catB D4) span0 span1 = if RD.pspan (Pc.catB D4) span0 span1 = 0 then (Pc.catB D4).extract span0.toNat span1.toNat else ByteArray.empty := rfl
         have b_ : (decide ((GA.rdT (Pc.catB D4) (span0) (span1)) = (ByteArray.mk #[]))) = true := by first | (apply decide_eq_true; rw [hrd_, if_neg (by omega)]; done) | (apply decide_eq_true; rw [hrd_, if_pos (by omega)]; done) | (apply decide_eq_true; rw [hrd_, if_neg (by omega)]; rfl) | (simp_all; done)
         exact ⟨congrArg (fun z => Ending.returned (Value.bool z)) b_, h⟩
        ·
         obtain ⟨hq0_, hq1_, hq2_, hq3_, hq4_⟩ := ED.span0 (C := Pc.catB D4) (a := span0) (b := span1) (by omega)
         refine wc_skip ?_
         refine qn_then ?_
         refine wc_seq ?_
         refine wc_region ?_
         refine wl_v rfl rfl (ov_move _ rfl) ?_
         refine wl_v rfl rfl (ov_move _ rfl) ?_
         refine wl_v rfl rfl (ov_move _ rfl) ?_
         refine wl_v rfl rfl (ov_move _ rfl) ?_
         refine wl_v rfl rfl (ov_slices _ ((span0 : Int).toNat) ((span1 : Int).toNat) (by rfl) (by exact ⟨_, _, rfl, (by omega)⟩) (by exact ⟨_, _, rfl, (by omega)⟩) Try.underlying9 (by omega) (by omega)) ?_
         refine wl_v rfl rfl (ov_bin _ rfl rfl (binR_eqs)) ?_
         refine wl_v rfl rfl (ov_assign _ rfl) ?_
         refine wl_nil ?_
         refine qn_then ?_
         refine wc_ret ?_
         replace h := st_selT [false, false, false] h
         refine qn_ret [_] ⟨rfl, trivial⟩ ?_
         have hrd_ : GA.rdT (Pc.catB D4) span0 span1 = if RD.pspan (Pc.catB D4) span0 span1 = 0 then (Pc.catB D4).extract span0.toNat span1.toNat else ByteArray.empty := rfl
         have b_ : (decide ((GA.rdT (Pc.catB D4) (span0) (span1)) = ((Pc.catB D4).extract ((span0 : Int).toNat) ((span1 : Int).toNat)))) = true := by first | (apply decide_eq_true; rw [hrd_, if_neg (by omega)]; done) | (apply decide_eq_true; rw [hrd_, if_pos (by omega)]; done) | (apply decide_eq_true; rw [hrd_, if_neg (by omega)]; rfl) | (simp_all; done)
         exact ⟨congrArg (fun z => Ending.returned (Value.bool z)) b_, h⟩
end Go.Proofs.Ytieieindakbpoaa.L
