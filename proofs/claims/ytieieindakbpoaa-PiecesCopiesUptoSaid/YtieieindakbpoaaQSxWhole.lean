/- Pruned by wip/prune.py. -/
import Derived.Test.YtieieindakbpoaaProg
import Derived.Test.YtieieindakbpoaaQSxGlue
import Derived.Test.YtieieindakbpoaaQSxRanged
import Derived.Test.YtieieindakbpoaaQSxRange1
import Derived.Test.YtieieindakbpoaaQSxFlow
import Derived.Test.YtieieindakbpoaaQSxBytes
import Derived.Test.YtieieindakbpoaaQSxKinds
import Derived.Test.YtieieindakbpoaaQPcText
import Derived.Test.YtieieindakbpoaaQPcWalk
import Derived.Test.YtieieindakbpoaaQPcRead
import Derived.Test.YtieieindakbpoaaQSxTree
import Derived.Test.YtieieindakbpoaaQSxRunes
import Derived.Test.YtieieindakbpoaaQSxLast
import Derived.Test.YtieieindakbpoaaQSxWalk
import Derived.Test.YtieieindakbpoaaQSxChunks
import Derived.Test.YtieieindakbpoaaQPcTx
import Derived.Test.YtieieindakbpoaaQSxRead
import Derived.Test.YtieieindakbpoaaQSxSplitR
import Derived.Test.YtieieindakbpoaaQSxString
import Derived.Test.YtieieindakbpoaaQSxText
import Derived.Test.YtieieindakbpoaaQSxEdit
namespace Go.Proofs.Ytieieindakbpoaa.WH
open Go Go.RowKit Go.Proofs.YtieieindakbpoaaW.PrintWords Go.Proofs.Ytieieindakbpoaa.Kinds Go.Proofs.Ytieieindakbpoaa.Given Go.Proofs.Ytieieindakbpoaa.Rn Go.Proofs.Ytieieindakbpoaa.Sx Go.Proofs.Ytieieindakbpoaa.Pc 
set_option linter.unusedVariables false
set_option linter.unusedSimpArgs false
theorem ent32 : Sx.Ent Try.prog 32 := ⟨Try.f32, Try.func32, by kernel_rfl, by kernel_rfl⟩
theorem ent14 : Sx.Ent Try.prog 14 := ⟨Try.f14, Try.func14, by kernel_rfl, by kernel_rfl⟩
theorem ent30 : Sx.Ent Try.prog 30 := ⟨Try.f30, Try.func30, by kernel_rfl, by kernel_rfl⟩
theorem Lines_w {w0 w : World} {F0 : Nat → Prop} {R : List Sx.HP} (Φ : World → Prop) (g : Nat) (D : List ByteArray) (d : Int)   (h : Sx.St w0 F0 ([Pc.tx Φ g D d, Pc.lib Φ] ++ R) w) : Calls Try.prog 21 #[.pointer (some ⟨g, 0, none⟩)] w (fun e w1 => e = .returned (.int .i64 (Pc.nlB (Pc.catB D))) ∧ Sx.St w0 F0 ([Pc.tx Φ g D d, Pc.lib Φ] ++ R) w1) := by
  obtain ⟨s1_, A1_, c1_, L1_, T1_, ok_, hl_, h⟩ := Pc.tx_open h
  have hC_ := Pc.tok_cat ok_
  have hD_ := Pc.tok_len ok_
  have hz_ := Pc.cat_size ok_.wf
  have hn_ := Pc.cat_lines ok_.wf
  have hd_ := ok_.ed
  refine (RD.Lines_calls (R := [Sx.blk g [.string s1_, .slice A1_ L1_.length c1_, .pointer (Pc.AT.ptr T1_)] 68, Pc.rowl Φ 5 A1_ c1_ L1_, Pc.lib Φ] ++ R) g s1_ A1_ c1_ L1_ T1_  (by have := ok_.z0; omega) (by have := ok_.zL; omega) hl_ ok_.by_ ok_.wf (by have := ok_.zc; omega) (Pc.en_blk (i := 0) rfl) (Pc.en_rowl (i := 1) (j := 2) rfl rfl (fun _ z_ => z_)) (Pc.en_at (j := 2) rfl ok_.at_)  h).mono ?_
  rintro e_ w1 ⟨rfl, h⟩
  refine ⟨?_, Pc.tx_close rfl ok_ h⟩
  first | (rw [hC_]; done) | (rw [hC_, hz_]; done) | (rw [hC_, hn_]; done) | (rw [hD_]; done) | (rw [hd_]; done)
theorem Pieces_w {w0 w : World} {F0 : Nat → Prop} {R : List Sx.HP} (Φ : World → Prop) (g : Nat) (D : List ByteArray) (d : Int)   (h : Sx.St w0 F0 ([Pc.tx Φ g D d, Pc.lib Φ] ++ R) w) : Calls Try.prog 20 #[.pointer (some ⟨g, 0, none⟩)] w (fun e w1 => e = .returned (.int .i64 (D.length : Int)) ∧ Sx.St w0 F0 ([Pc.tx Φ g D d, Pc.lib Φ] ++ R) w1) := by
  obtain ⟨s1_, A1_, c1_, L1_, T1_, ok_, hl_, h⟩ := Pc.tx_open h
  have hC_ := Pc.tok_cat ok_
  have hD_ := Pc.tok_len ok_
  have hz_ := Pc.cat_size ok_.wf
  have hn_ := Pc.cat_lines ok_.wf
  have hd_ := ok_.ed
  refine (RD.Pieces_calls (R := [Sx.blk g [.string s1_, .slice A1_ L1_.length c1_, .pointer (Pc.AT.ptr T1_)] 68, Pc.rowl Φ 5 A1_ c1_ L1_, Pc.lib Φ] ++ R) g s1_ A1_ c1_ L1_ T1_  (by have := ok_.z0; omega) (by have := ok_.zL; omega) hl_ ok_.by_ ok_.wf (by have := ok_.zc; omega) (Pc.en_blk (i := 0) rfl) (Pc.en_rowl (i := 1) (j := 2) rfl rfl (fun _ z_ => z_)) (Pc.en_at (j := 2) rfl ok_.at_)  h).mono ?_
  rintro e_ w1 ⟨rfl, h⟩
  refine ⟨?_, Pc.tx_close rfl ok_ h⟩
  first | (rw [hC_]; done) | (rw [hC_, hz_]; done) | (rw [hC_, hn_]; done) | (rw [hD_]; done) | (rw [hd_]; done)
theorem String_w {w0 w : World} {F0 : Nat → Prop} {R : List Sx.HP} (Φ : World → Prop) (g : Nat) (D : List ByteArray) (d : Int)   (h : Sx.St w0 F0 ([Pc.tx Φ g D d, Pc.lib Φ] ++ R) w) : Calls Try.prog 15 #[.pointer (some ⟨g, 0, none⟩)] w (fun e w1 => e = .returned (.string (Pc.catB D)) ∧ Sx.St w0 F0 ([Pc.tx Φ g D d, Pc.lib Φ] ++ R) w1) := by
  obtain ⟨s1_, A1_, c1_, L1_, T1_, ok_, hl_, h⟩ := Pc.tx_open h
  have hC_ := Pc.tok_cat ok_
  have hD_ := Pc.tok_len ok_
  have hz_ := Pc.cat_size ok_.wf
  have hn_ := Pc.cat_lines ok_.wf
  have hd_ := ok_.ed
  refine (ST.String_calls (R := R) g s1_ A1_ c1_ L1_ T1_ Φ Φ (fun _ z_ => z_) ok_.at_ (by have := ok_.z0; omega) (by have := ok_.zL; omega) hl_ ok_.by_ ok_.wf (by have := ok_.zc; omega) h).mono ?_
  rintro e_ w1 ⟨rfl, h⟩
  refine ⟨?_, Pc.tx_close rfl ok_ h⟩
  first | (rw [hC_]; done) | (rw [hC_, hz_]; done) | (rw [hC_, hn_]; done) | (rw [hD_]; done) | (rw [hd_]; done)
set_option maxHeartbeats 4000000 in
set_option maxRecDepth 100000 in
theorem refCheck_calls {w0 w : World} {F0 : Nat → Prop} {R : List Sx.HP} (s : ByteArray) (k : Int) (hs : s.size ≤ 1125899906842624) (h : Sx.St w0 F0 ([] ++ R) w) : Calls Try.prog 32 #[.string (s), .int .i64 (k)] w (fun e w1 => e = .returned (.int .i64 (RD.pchk s k)) ∧ Sx.St w0 F0 ([] ++ R) w1) := by
 refine Sx.calls_fn (vs := [.string (s), .int .i64 (k)]) Try.func32 rfl Try.ntmps32 rfl ?_
 refine wc_seq ?_
 refine wc_region ?_
 refine wl_v rfl rfl (ov_assign _ rfl) ?_
 refine wl_nil ?_
 refine qn_then ?_
 refine wc_seq ?_
 refine wc_seq ?_
 refine wc_region ?_
 refine wl_v rfl rfl (ov_move _ rfl) ?_
 refine wl_v rfl rfl (ov_bin _ rfl rfl (binR_lss)) ?_
 refine wl_v rfl rfl (ov_move _ rfl) ?_
 refine wl_split 7 rfl (fun c1 => ?_) (fun c1 => ?_)
 ·
  refine wl_skip rfl rfl ?_
  refine wl_skip rfl rfl ?_
  refine wl_skip rfl rfl ?_
  refine wl_skip rfl rfl ?_
  refine wl_v rfl rfl (ov_pick_true _ rfl rfl) ?_
  refine wl_nil ?_
  refine qn_then ?_
  refine wc_cond_true rfl ?_
  refine wc_seq ?_
  refine wc_region ?_
  refine wl_v rfl rfl (ov_assign _ rfl) ?_
  refine wl_nil ?_
  refine qn_then ?_
  refine wc_ret ?_
  refine qn_then_ret ?_
  refine qn_ret [_] ⟨rfl, trivial⟩ ?_
  have e_ : RD.pchk s k = 30 := by
    unfold RD.pchk
    repeat' split
    all_goals first | rfl | (exfalso; omega) | (exfalso; simp_all [inside]; done) | (exfalso; simp_all [inside]; omega) | simp_all [inside]
  rw [e_]
  exact ⟨rfl, h⟩
 ·
  refine wl_v rfl rfl (ov_move _ rfl) ?_
  refine wl_v rfl rfl (ov_move _ rfl) ?_
  refine wl_v rfl rfl (ov_lens _ rfl Try.underlying9) ?_
  refine wl_v rfl rfl (ov_bin _ rfl rfl (binR_gtr)) ?_
  refine wl_v rfl rfl (ov_pick_false _ rfl rfl) ?_
  refine wl_nil ?_
  refine qn_then ?_
  refine wc_cond (by rfl) (fun c2 => ?_) (fun c2 => ?_)
  ·
   refine wc_seq ?_
   refine wc_region ?_
   refine wl_v rfl rfl (ov_assign _ rfl) ?_
   refine wl_nil ?_
   refine qn_then ?_
   refine wc_ret ?_
   refine qn_then_ret ?_
   refine qn_ret [_] ⟨rfl, trivial⟩ ?_
   have e_ : RD.pchk s k = 30 := by
     unfold RD.pchk
     repeat' split
     all_goals first | rfl | (exfalso; omega) | (exfalso; simp_all [inside]; done) | (exfalso; simp_all [inside]; omega) | simp_all [inside]
   rw [e_]
   exact ⟨rfl, h⟩
  ·
   refine wc_skip ?_
   refine qn_then ?_
   refine wc_seq ?_
   refine wc_seq ?_
   refine wc_region ?_
   refine wl_v rfl rfl (ov_move _ rfl) ?_
   refine wl_v rfl rfl (ov_move _ rfl) ?_
   refine wl_v rfl rfl (ov_lens _ rfl Try.underlying9) ?_
   refine wl_v rfl rfl (ov_bin _ rfl rfl (binR_lss)) ?_
   refine wl_v rfl rfl (ov_move _ rfl) ?_
   refine wl_split 17 rfl (fun c3 => ?_) (fun c3 => ?_)
   ·
    refine wl_v rfl rfl (ov_move _ rfl) ?_
    refine wl_v rfl rfl (ov_move _ rfl) ?_
    have hbt4 := Go.Proofs.Ytieieindakbpoaa.Given.bt_nonneg s (k)
    refine wl_v rfl rfl (ov_indexbt _ _ rfl rfl Try.underlying9 (by omega) (by omega)) ?_
    refine wl_v rfl rfl (ov_bin _ rfl rfl (binR_geq)) ?_
    refine wl_v rfl rfl (ov_pick_true _ rfl rfl) ?_
    refine wl_v rfl rfl (ov_move _ rfl) ?_
    refine wl_split 23 rfl (fun c5 => ?_) (fun c5 => ?_)
    ·
     refine wl_v rfl rfl (ov_move _ rfl) ?_
     refine wl_v rfl rfl (ov_move _ rfl) ?_
     have hbt6 := Go.Proofs.Ytieieindakbpoaa.Given.bt_nonneg s (k)
     refine wl_v rfl rfl (ov_indexbt _ _ rfl rfl Try.underlying9 (by omega) (by omega)) ?_
     refine wl_v rfl rfl (ov_bin _ rfl rfl (binR_lss)) ?_
     refine wl_v rfl rfl (ov_pick_true _ rfl rfl) ?_
     refine wl_nil ?_
     refine qn_then ?_
     refine wc_cond (by rfl) (fun c7 => ?_) (fun c7 => ?_)
     ·
      refine wc_seq ?_
      refine wc_region ?_
      refine wl_v rfl rfl (ov_assign _ rfl) ?_
      refine wl_nil ?_
      refine qn_then ?_
      refine wc_ret ?_
      refine qn_then_ret ?_
      refine qn_ret [_] ⟨rfl, trivial⟩ ?_
      have e_ : RD.pchk s k = 21 := by
        unfold RD.pchk
        repeat' split
        all_goals first | rfl | (exfalso; omega) | (exfalso; simp_all [inside]; done) | (exfalso; simp_all [inside]; omega) | simp_all [inside]
      rw [e_]
      exact ⟨rfl, h⟩
     ·
      refine wc_skip ?_
      refine qn_then ?_
      refine wc_seq ?_
      refine wc_region ?_
      refine wl_v rfl rfl (ov_assign _ rfl) ?_
      refine wl_nil ?_
      refine qn_then ?_
      refine wc_ret ?_
      refine qn_ret [_] ⟨rfl, trivial⟩ ?_
      have e_ : RD.pchk s k = 0 := by
        unfold RD.pchk
        repeat' split
        all_goals first | rfl | (exfalso; omega) | (exfalso; simp_all [inside]; done) | (exfalso; simp_all [inside]; omega) | simp_all [inside]
      rw [e_]
      exact ⟨rfl, h⟩
    ·
     refine wl_skip rfl rfl ?_
     refine wl_skip rfl rfl ?_
     refine wl_skip rfl rfl ?_
     refine wl_skip rfl rfl ?_
     refine wl_v rfl rfl (ov_pick_false _ rfl rfl) ?_
     refine wl_nil ?_
     refine qn_then ?_
     refine wc_cond_false rfl ?_
     refine wc_skip ?_
     refine qn_then ?_
     refine wc_seq ?_
     refine wc_region ?_
     refine wl_v rfl rfl (ov_assign _ rfl) ?_
     refine wl_nil ?_
     refine qn_then ?_
     refine wc_ret ?_
     refine qn_ret [_] ⟨rfl, trivial⟩ ?_
     have e_ : RD.pchk s k = 0 := by
       unfold RD.pchk
       repeat' split
       all_goals first | rfl | (exfalso; omega) | (exfalso; simp_all [inside]; done) | (exfalso; simp_all [inside]; omega) | simp_all [inside]
     rw [e_]
     exact ⟨rfl, h⟩
   ·
    refine wl_skip rfl rfl ?_
    refine wl_skip rfl rfl ?_
    refine wl_skip rfl rfl ?_
    refine wl_skip rfl rfl ?_
    refine wl_v rfl rfl (ov_pick_false _ rfl rfl) ?_
    refine wl_v rfl rfl (ov_move _ rfl) ?_
    refine wl_skip rfl rfl ?_
    refine wl_skip rfl rfl ?_
    refine wl_skip rfl rfl ?_
    refine wl_skip rfl rfl ?_
    refine wl_v rfl rfl (ov_pick_false _ rfl rfl) ?_
    refine wl_nil ?_
    refine qn_then ?_
    refine wc_cond_false rfl ?_
    refine wc_skip ?_
    refine qn_then ?_
    refine wc_seq ?_
    refine wc_region ?_
    refine wl_v rfl rfl (ov_assign _ rfl) ?_
    refine wl_nil ?_
    refine qn_then ?_
    refine wc_ret ?_
    refine qn_ret [_] ⟨rfl, trivial⟩ ?_
    have e_ : RD.pchk s k = 0 := by
      unfold RD.pchk
      repeat' split
      all_goals first | rfl | (exfalso; omega) | (exfalso; simp_all [inside]; done) | (exfalso; simp_all [inside]; omega) | simp_all [inside]
    rw [e_]
    exact ⟨rfl, h⟩
set_option maxHeartbeats 4000000 in
set_option maxRecDepth 100000 in
theorem refSpan_calls {w0 w : World} {F0 : Nat → Prop} {R : List Sx.HP} (s : ByteArray) (a b : Int) (hs : s.size ≤ 1125899906842624) (h : Sx.St w0 F0 ([] ++ R) w) : Calls Try.prog 30 #[.string (s), .int .i64 (a), .int .i64 (b)] w (fun e w1 => e = .returned (.int .i64 (RD.pspan s a b)) ∧ Sx.St w0 F0 ([] ++ R) w1) := by
 refine Sx.calls_fn (vs := [.string (s), .int .i64 (a), .int .i64 (b)]) Try.func30 rfl Try.ntmps30 rfl ?_
 refine wc_seq ?_
 refine wc_region ?_
 refine wl_v rfl rfl (ov_assign _ rfl) ?_
 refine wl_nil ?_
 refine qn_then ?_
 refine wc_seq ?_
 refine wc_seq ?_
 refine wc_region ?_
 refine wl_v rfl rfl (ov_move _ rfl) ?_
 refine wl_v rfl rfl (ov_bin _ rfl rfl (binR_lss)) ?_
 refine wl_v rfl rfl (ov_move _ rfl) ?_
 refine wl_split 10 rfl (fun c1 => ?_) (fun c1 => ?_)
 ·
  refine wl_skip rfl rfl ?_
  refine wl_skip rfl rfl ?_
  refine wl_skip rfl rfl ?_
  refine wl_skip rfl rfl ?_
  refine wl_v rfl rfl (ov_pick_true _ rfl rfl) ?_
  refine wl_v rfl rfl (ov_move _ rfl) ?_
  refine wl_skip rfl rfl ?_
  refine wl_skip rfl rfl ?_
  refine wl_skip rfl rfl ?_
  refine wl_v rfl rfl (ov_pick_true _ rfl rfl) ?_
  refine wl_nil ?_
  refine qn_then ?_
  refine wc_cond_true rfl ?_
  refine wc_seq ?_
  refine wc_region ?_
  refine wl_v rfl rfl (ov_assign _ rfl) ?_
  refine wl_nil ?_
  refine qn_then ?_
  refine wc_ret ?_
  refine qn_then_ret ?_
  refine qn_ret [_] ⟨rfl, trivial⟩ ?_
  have e_ : RD.pspan s a b = 30 := by
    unfold RD.pspan
    repeat' split
    all_goals first | rfl | (exfalso; omega) | (exfalso; simp_all [inside]; done) | (exfalso; simp_all [inside]; omega) | simp_all [inside]
  rw [e_]
  exact ⟨rfl, h⟩
 ·
  refine wl_v rfl rfl (ov_move _ rfl) ?_
  refine wl_v rfl rfl (ov_move _ rfl) ?_
  refine wl_v rfl rfl (ov_lens _ rfl Try.underlying9) ?_
  refine wl_v rfl rfl (ov_bin _ rfl rfl (binR_gtr)) ?_
  refine wl_v rfl rfl (ov_pick_false _ rfl rfl) ?_
  refine wl_v rfl rfl (ov_move _ rfl) ?_
  refine wl_split 16 rfl (fun c2 => ?_) (fun c2 => ?_)
  ·
   refine wl_skip rfl rfl ?_
   refine wl_skip rfl rfl ?_
   refine wl_skip rfl rfl ?_
   refine wl_v rfl rfl (ov_pick_true _ rfl rfl) ?_
   refine wl_nil ?_
   refine qn_then ?_
   refine wc_cond_true rfl ?_
   refine wc_seq ?_
   refine wc_region ?_
   refine wl_v rfl rfl (ov_assign _ rfl) ?_
   refine wl_nil ?_
   refine qn_then ?_
   refine wc_ret ?_
   refine qn_then_ret ?_
   refine qn_ret [_] ⟨rfl, trivial⟩ ?_
   have e_ : RD.pspan s a b = 30 := by
     unfold RD.pspan
     repeat' split
     all_goals first | rfl | (exfalso; omega) | (exfalso; simp_all [inside]; done) | (exfalso; simp_all [inside]; omega) | simp_all [inside]
   rw [e_]
   exact ⟨rfl, h⟩
  ·
   refine wl_v rfl rfl (ov_move _ rfl) ?_
   refine wl_v rfl rfl (ov_move _ rfl) ?_
   refine wl_v rfl rfl (ov_bin _ rfl rfl (binR_gtr)) ?_
   refine wl_v rfl rfl (ov_pick_false _ rfl rfl) ?_
   refine wl_nil ?_
   refine qn_then ?_
   refine wc_cond (by rfl) (fun c3 => ?_) (fun c3 => ?_)
   ·
    refine wc_seq ?_
    refine wc_region ?_
    refine wl_v rfl rfl (ov_assign _ rfl) ?_
    refine wl_nil ?_
    refine qn_then ?_
    refine wc_ret ?_
    refine qn_then_ret ?_
    refine qn_ret [_] ⟨rfl, trivial⟩ ?_
    have e_ : RD.pspan s a b = 30 := by
      unfold RD.pspan
      repeat' split
      all_goals first | rfl | (exfalso; omega) | (exfalso; simp_all [inside]; done) | (exfalso; simp_all [inside]; omega) | simp_all [inside]
    rw [e_]
    exact ⟨rfl, h⟩
   ·
    refine wc_skip ?_
    refine qn_then ?_
    refine wc_seq ?_
    refine wc_seq ?_
    refine wc_region ?_
    refine wl_v rfl rfl (ov_move _ rfl) ?_
    refine wl_v rfl rfl (ov_move _ rfl) ?_
    refine wl_call _ rfl rfl rfl ent32 (WH.refCheck_calls (R := [] ++ R) s a (by omega) h) ?_
    rintro e_ w_ ⟨rfl, h⟩
    refine ⟨_, rfl, ?_⟩
    have hck_ := RD.inside_le s a
    refine wl_v rfl rfl (ov_assign _ rfl) ?_
    refine wl_nil ?_
    refine qn_then ?_
    refine wc_seq ?_
    refine wc_region ?_
    refine wl_v rfl rfl (ov_move _ rfl) ?_
    refine wl_v rfl rfl (ov_bin _ rfl rfl (binR_neq)) ?_
    refine wl_nil ?_
    refine qn_then ?_
    refine wc_cond (by rfl) (fun c4 => ?_) (fun c4 => ?_)
    ·
     refine wc_seq ?_
     refine wc_region ?_
     refine wl_v rfl rfl (ov_move _ rfl) ?_
     refine wl_v rfl rfl (ov_assign _ rfl) ?_
     refine wl_nil ?_
     refine qn_then ?_
     refine wc_ret ?_
     refine qn_then_ret ?_
     refine qn_ret [_] ⟨rfl, trivial⟩ ?_
     have e_ : RD.pspan s a b = RD.pchk s a := by
       unfold RD.pspan
       repeat' split
       all_goals first | rfl | (exfalso; omega) | (exfalso; simp_all [inside]; done) | (exfalso; simp_all [inside]; omega) | simp_all [inside]
     rw [e_]
     exact ⟨rfl, h⟩
    ·
     refine wc_skip ?_
     refine qn_then ?_
     refine wc_seq ?_
     refine wc_region ?_
     refine wl_v rfl rfl (ov_move _ rfl) ?_
     refine wl_v rfl rfl (ov_move _ rfl) ?_
     refine wl_call _ rfl rfl rfl ent32 (WH.refCheck_calls (R := [] ++ R) s b (by omega) h) ?_
     rintro e_ w_ ⟨rfl, h⟩
     refine ⟨_, rfl, ?_⟩
     have hck_ := RD.inside_le s b
     refine wl_v rfl rfl (ov_assign _ rfl) ?_
     refine wl_nil ?_
     refine qn_then ?_
     refine wc_ret ?_
     refine qn_ret [_] ⟨rfl, trivial⟩ ?_
     have e_ : RD.pspan s a b = RD.pchk s b := by
       unfold RD.pspan
       repeat' split
       all_goals first | rfl | (exfalso; omega) | (exfalso; simp_all [inside]; done) | (exfalso; simp_all [inside]; omega) | simp_all [inside]
     rw [e_]
     exact ⟨rfl, h⟩
theorem check_ref (s : ByteArray) : checkV s = if (refV s).2 < 0 then 0 else 20 := by
  unfold checkV
  rw [bad_ref]
  split
  · rw [if_neg (by omega)]
  · rw [if_pos (by omega)]
theorem ins_bad {C s : ByteArray} {k : Int} (h : ED.pins C k s ≠ 0) : ED.insT C k s = C := if_neg h
theorem del_bad {C : ByteArray} {a b : Int} (h : RD.pspan C a b ≠ 0) : ED.delT C a b = C := if_neg h
set_option maxHeartbeats 4000000 in
set_option maxRecDepth 100000 in
theorem refInsert_calls {w0 w : World} {F0 : Nat → Prop} {R : List Sx.HP} (s : ByteArray) (k : Int) (t : ByteArray) (hs : s.size ≤ 65536) (ht : t.size ≤ 17592186044416) (h : Sx.St w0 F0 ([] ++ R) w) : Calls Try.prog 51 #[.string (s), .int .i64 (k), .string (t)] w (fun e w1 => e = .returned (.tuple #[.string (ED.insT s k t), .int .i64 (ED.pins s k t)]) ∧ Sx.St w0 F0 ([] ++ R) w1) := by
 refine Sx.calls_fn (vs := [.string (s), .int .i64 (k), .string (t)]) Try.func51 rfl Try.ntmps51 rfl ?_
 refine wc_seq ?_
 refine wc_region ?_
 refine wl_v rfl rfl (ov_assign _ rfl) ?_
 refine wl_v rfl rfl (ov_assign _ rfl) ?_
 refine wl_nil ?_
 refine qn_then ?_
 refine wc_seq ?_
 refine wc_seq ?_
 refine wc_region ?_
 refine wl_v rfl rfl (ov_move _ rfl) ?_
 refine wl_v rfl rfl (ov_move _ rfl) ?_
 refine wl_call _ rfl rfl rfl ent32 (WH.refCheck_calls (R := [] ++ R) s k (by omega) h) ?_
 rintro e_ w_ ⟨rfl, h⟩
 refine ⟨_, rfl, ?_⟩
 have hck_ := RD.inside_le s k
 refine wl_v rfl rfl (ov_assign _ rfl) ?_
 refine wl_nil ?_
 refine qn_then ?_
 refine wc_seq ?_
 refine wc_region ?_
 refine wl_v rfl rfl (ov_move _ rfl) ?_
 refine wl_v rfl rfl (ov_bin _ rfl rfl (binR_neq)) ?_
 refine wl_nil ?_
 refine qn_then ?_
 refine wc_cond (by rfl) (fun c1 => ?_) (fun c1 => ?_)
 ·
  refine wc_seq ?_
  refine wc_region ?_
  refine wl_v rfl rfl (ov_move _ rfl) ?_
  refine wl_v rfl rfl (ov_move _ rfl) ?_
  refine wl_v rfl rfl (ov_assign _ rfl) ?_
  refine wl_v rfl rfl (ov_assign _ rfl) ?_
  refine wl_nil ?_
  refine qn_then ?_
  refine wc_ret ?_
  refine qn_then_ret ?_
  refine qn_ret [_, _] ⟨rfl, rfl, trivial⟩ ?_
  have hcr_ := check_ref t
  have ep_ : ED.pins s k t = RD.pchk s k := by
    unfold ED.pins
    repeat' split
    all_goals first | rfl | (exfalso; omega) | omega | (exfalso; simp_all; done) | (exfalso; simp_all; omega) | (split at hcr_ <;> omega)
  have et_ : ED.insT s k t = s := ins_bad (by omega)
  rw [ep_, et_]
  exact ⟨rfl, h⟩
 ·
  obtain ⟨hk0_, hk1_⟩ := ED.chk0 (C := s) (k := k) (by omega)
  refine wc_skip ?_
  refine qn_then ?_
  refine wc_seq ?_
  refine wc_seq ?_
  refine wc_region ?_
  refine wl_v rfl rfl (ov_move _ rfl) ?_
  refine wl_call _ rfl rfl rfl ent14 (RN.Right_calls (R := [] ++ R) t (by omega) h) ?_
  rintro e_ w_ ⟨rfl, h⟩
  refine ⟨_, rfl, ?_⟩
  refine wl_v rfl rfl (ov_not _ (¬ ((refV t).2 < 0)) rfl (by first | exact decide_not.symm | simp)) ?_
  refine wl_nil ?_
  refine qn_then ?_
  refine wc_cond (by rfl) (fun c2 => ?_) (fun c2 => ?_)
  ·
   refine wc_seq ?_
   refine wc_region ?_
   refine wl_v rfl rfl (ov_move _ rfl) ?_
   refine wl_v rfl rfl (ov_assign _ rfl) ?_
   refine wl_v rfl rfl (ov_assign _ rfl) ?_
   refine wl_nil ?_
   refine qn_then ?_
   refine wc_ret ?_
   refine qn_then_ret ?_
   refine qn_ret [_, _] ⟨rfl, rfl, trivial⟩ ?_
   have hcr_ := check_ref t
   have ep_ : ED.pins s k t = 20 := by
     unfold ED.pins
     repeat' split
     all_goals first | rfl | (exfalso; omega) | omega | (exfalso; simp_all; done) | (exfalso; simp_all; omega) | (split at hcr_ <;> omega)
   have et_ : ED.insT s k t = s := ins_bad (by omega)
   rw [ep_, et_]
   exact ⟨rfl, h⟩
  ·
   refine wc_skip ?_
   refine qn_then ?_
   refine wc_seq ?_
   refine wc_seq ?_
   refine wc_region ?_
   refine wl_v rfl rfl (ov_move _ rfl) ?_
   refine wl_v rfl rfl (ov_lens _ rfl Try.underlying9) ?_
   refine wl_v rfl rfl (ov_move _ rfl) ?_
   refine wl_v rfl rfl (ov_lens _ rfl Try.underlying9) ?_
   refine wl_v rfl rfl (ov_bin _ rfl rfl (binR_sub (r := 65536 - (((s).size : Int))) (Sx.w64 (by first | omega | (simp only [ByteArray.size_append, ByteArray.size_extract]; omega))))) ?_
   refine wl_v rfl rfl (ov_bin _ rfl rfl (binR_gtr)) ?_
   refine wl_nil ?_
   refine qn_then ?_
   refine wc_cond (by rfl) (fun c3 => ?_) (fun c3 => ?_)
   ·
    refine wc_seq ?_
    refine wc_region ?_
    refine wl_v rfl rfl (ov_move _ rfl) ?_
    refine wl_v rfl rfl (ov_assign _ rfl) ?_
    refine wl_v rfl rfl (ov_assign _ rfl) ?_
    refine wl_nil ?_
    refine qn_then ?_
    refine wc_ret ?_
    refine qn_then_ret ?_
    refine qn_ret [_, _] ⟨rfl, rfl, trivial⟩ ?_
    have hcr_ := check_ref t
    have ep_ : ED.pins s k t = 31 := by
      unfold ED.pins
      repeat' split
      all_goals first | rfl | (exfalso; omega) | omega | (exfalso; simp_all; done) | (exfalso; simp_all; omega) | (split at hcr_ <;> omega)
    have et_ : ED.insT s k t = s := ins_bad (by omega)
    rw [ep_, et_]
    exact ⟨rfl, h⟩
   ·
    refine wc_skip ?_
    refine qn_then ?_
    refine wc_seq ?_
    refine wc_draw (fun w => Sx.St w0 F0 ([] ++ R) w) (by kernel_rfl) ?_
    replace h := st_drew h
    refine wa_tk 0 rfl rfl rfl (st_selT [] h) (fun w_ hS => ov_move _ rfl) ?_
    refine wa_tk 1 rfl rfl rfl (st_selT [] h) (fun w_ hS => ov_move _ rfl) ?_
    refine wa_tk 2 rfl rfl rfl (st_selT [] h) (fun w_ hS => by exact ov_slices _ 0 ((k : Int).toNat) (by rfl) (by exact rfl) (by exact ⟨_, _, rfl, (by omega)⟩) Try.underlying9 (by omega) (by omega)) ?_
    refine wa_tk 3 rfl rfl rfl (st_selT [] h) (fun w_ hS => ov_move _ rfl) ?_
    refine wa_tk 4 rfl rfl rfl (st_selT [] h) (fun w_ hS => ov_bin _ rfl rfl (binR_adds (by first | omega | (simp only [ByteArray.size_append, ByteArray.size_extract]; omega)))) ?_
    refine wa_tk 5 rfl rfl rfl (st_selT [] h) (fun w_ hS => ov_move _ rfl) ?_
    refine wa_tk 6 rfl rfl rfl (st_selT [] h) (fun w_ hS => ov_move _ rfl) ?_
    refine wa_tk 7 rfl rfl rfl (st_selT [] h) (fun w_ hS => by exact ov_slices _ ((k : Int).toNat) ((s).size) (by rfl) (by exact ⟨_, _, rfl, (by omega)⟩) (by exact rfl) Try.underlying9 (by omega) (by omega)) ?_
    refine wa_tk 8 rfl rfl rfl (st_selT [] h) (fun w_ hS => ov_bin _ rfl rfl (binR_adds (by first | omega | (simp only [ByteArray.size_append, ByteArray.size_extract]; omega)))) ?_
    refine wa_tk 9 rfl rfl rfl (st_selT [] h) (fun w_ hS => ov_assign _ rfl) ?_
    refine wa_tk 10 rfl rfl rfl (st_selT [] h) (fun w_ hS => ov_assign _ rfl) ?_
    refine wa_done (by kernel_rfl) ?_
    refine qn_then ?_
    refine wc_ret ?_
    refine qn_ret [_, _] ⟨rfl, rfl, trivial⟩ ?_
    have hcr_ := check_ref t
    have ep_ : ED.pins s k t = 0 := by
      unfold ED.pins
      repeat' split
      all_goals first | rfl | (exfalso; omega) | omega | (exfalso; simp_all; done) | (exfalso; simp_all; omega) | (split at hcr_ <;> omega)
    have et_ : ED.insT s k t = (((s).extract 0 ((k : Int).toNat)) ++ (t)) ++ ((s).extract ((k : Int).toNat) ((s).size)) := if_pos ep_
    rw [ep_, et_]
    exact ⟨rfl, h⟩
set_option maxHeartbeats 4000000 in
set_option maxRecDepth 100000 in
theorem refDelete_calls {w0 w : World} {F0 : Nat → Prop} {R : List Sx.HP} (s : ByteArray) (a b : Int) (hs : s.size ≤ 65536) (h : Sx.St w0 F0 ([] ++ R) w) : Calls Try.prog 50 #[.string (s), .int .i64 (a), .int .i64 (b)] w (fun e w1 => e = .returned (.tuple #[.string (ED.delT s a b), .int .i64 (RD.pspan s a b)]) ∧ Sx.St w0 F0 ([] ++ R) w1) := by
 refine Sx.calls_fn (vs := [.string (s), .int .i64 (a), .int .i64 (b)]) Try.func50 rfl Try.ntmps50 rfl ?_
 refine wc_seq ?_
 refine wc_region ?_
 refine wl_v rfl rfl (ov_assign _ rfl) ?_
 refine wl_v rfl rfl (ov_assign _ rfl) ?_
 refine wl_nil ?_
 refine qn_then ?_
 refine wc_seq ?_
 refine wc_seq ?_
 refine wc_region ?_
 refine wl_v rfl rfl (ov_move _ rfl) ?_
 refine wl_v rfl rfl (ov_move _ rfl) ?_
 refine wl_v rfl rfl (ov_move _ rfl) ?_
 refine wl_call _ rfl rfl rfl ent30 (WH.refSpan_calls (R := [] ++ R) s a b (by omega) h) ?_
 rintro e_ w_ ⟨rfl, h⟩
 refine ⟨_, rfl, ?_⟩
 refine wl_v rfl rfl (ov_assign _ rfl) ?_
 refine wl_nil ?_
 refine qn_then ?_
 refine wc_seq ?_
 refine wc_region ?_
 refine wl_v rfl rfl (ov_move _ rfl) ?_
 refine wl_v rfl rfl (ov_bin _ rfl rfl (binR_neq)) ?_
 refine wl_nil ?_
 refine qn_then ?_
 refine wc_cond (by rfl) (fun c1 => ?_) (fun c1 => ?_)
 ·
  refine wc_seq ?_
  refine wc_region ?_
  refine wl_v rfl rfl (ov_move _ rfl) ?_
  refine wl_v rfl rfl (ov_move _ rfl) ?_
  refine wl_v rfl rfl (ov_assign _ rfl) ?_
  refine wl_v rfl rfl (ov_assign _ rfl) ?_
  refine wl_nil ?_
  refine qn_then ?_
  refine wc_ret ?_
  refine qn_then_ret ?_
  refine qn_ret [_, _] ⟨rfl, rfl, trivial⟩ ?_
  have et_ : ED.delT s a b = s := del_bad (by omega)
  rw [et_]
  exact ⟨rfl, h⟩
 ·
  obtain ⟨hk0_, hk1_, hk2_, hk3_, hk4_⟩ := ED.span0 (C := s) (a := a) (b := b) (by omega)
  refine wc_skip ?_
  refine qn_then ?_
  refine wc_seq ?_
  refine wc_draw (fun w => Sx.St w0 F0 ([] ++ R) w) (by kernel_rfl) ?_
  replace h := st_drew h
  refine wa_tk 0 rfl rfl rfl (st_selT [] h) (fun w_ hS => ov_move _ rfl) ?_
  refine wa_tk 1 rfl rfl rfl (st_selT [] h) (fun w_ hS => ov_move _ rfl) ?_
  refine wa_tk 2 rfl rfl rfl (st_selT [] h) (fun w_ hS => by exact ov_slices _ 0 ((a : Int).toNat) (by rfl) (by exact rfl) (by exact ⟨_, _, rfl, (by omega)⟩) Try.underlying9 (by omega) (by omega)) ?_
  refine wa_tk 3 rfl rfl rfl (st_selT [] h) (fun w_ hS => ov_move _ rfl) ?_
  refine wa_tk 4 rfl rfl rfl (st_selT [] h) (fun w_ hS => ov_move _ rfl) ?_
  refine wa_tk 5 rfl rfl rfl (st_selT [] h) (fun w_ hS => by exact ov_slices _ ((b : Int).toNat) ((s).size) (by rfl) (by exact ⟨_, _, rfl, (by omega)⟩) (by exact rfl) Try.underlying9 (by omega) (by omega)) ?_
  refine wa_tk 6 rfl rfl rfl (st_selT [] h) (fun w_ hS => ov_bin _ rfl rfl (binR_adds (by first | omega | (rw [ByteArray.size_extract, ByteArray.size_extract]; omega) | (rw [ByteArray.size_extract]; omega)))) ?_
  refine wa_tk 7 rfl rfl rfl (st_selT [] h) (fun w_ hS => ov_assign _ rfl) ?_
  refine wa_tk 8 rfl rfl rfl (st_selT [] h) (fun w_ hS => ov_assign _ rfl) ?_
  refine wa_done (by kernel_rfl) ?_
  refine qn_then ?_
  refine wc_ret ?_
  refine qn_ret [_, _] ⟨rfl, rfl, trivial⟩ ?_
  have ep_ : RD.pspan s a b = 0 := by omega
  have et_ : ED.delT s a b = ((s).extract 0 ((a : Int).toNat)) ++ ((s).extract ((b : Int).toNat) ((s).size)) := if_pos ep_
  rw [ep_, et_]
  exact ⟨rfl, h⟩
end Go.Proofs.Ytieieindakbpoaa.WH
