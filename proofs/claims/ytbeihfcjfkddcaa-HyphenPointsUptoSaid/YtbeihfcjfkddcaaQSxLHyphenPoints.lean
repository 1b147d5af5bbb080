/- Pruned by wip/prune.py. -/
import Derived.Test.YtbeihfcjfkddcaaProg
import Derived.Test.YtbeihfcjfkddcaaQSxGlue
import Derived.Test.YtbeihfcjfkddcaaQSxFlow
import Derived.Test.YtbeihfcjfkddcaaQSxIter
import Derived.Test.YtbeihfcjfkddcaaQSxBytes
import Derived.Test.YtbeihfcjfkddcaaQHyWf
import Derived.Test.YtbeihfcjfkddcaaQSxRunes
import Derived.Test.YtbeihfcjfkddcaaQSxLetter
import Derived.Test.YtbeihfcjfkddcaaQSxText
import Derived.Test.YtbeihfcjfkddcaaQSxHRead
import Derived.Test.YtbeihfcjfkddcaaQSxHRef
import Derived.Test.YtbeihfcjfkddcaaQSxTree
import Derived.Test.YtbeihfcjfkddcaaQSxBook
import Derived.Test.YtbeihfcjfkddcaaQSxPoints
import Derived.Test.YtbeihfcjfkddcaaQSxKinds
import Derived.Test.YtbeihfcjfkddcaaQSxAwake
import Derived.Test.YtbeihfcjfkddcaaQHyEq
import Derived.Test.YtbeihfcjfkddcaaQSxRefPts
import Derived.Test.YtbeihfcjfkddcaaQSxSame
namespace Go.Proofs.Ytbeihfcjfkddcaa.L
open Go Go.RowKit Go.Proofs.YtbeihfcjfkddcaaW.PrintWords Go.Proofs.Ytbeihfcjfkddcaa.Hy Go.Proofs.Ytbeihfcjfkddcaa.Given Go.Proofs.Ytbeihfcjfkddcaa.Rn Go.Proofs.Ytbeihfcjfkddcaa.Sx Go.Proofs.Ytbeihfcjfkddcaa.Kinds 
set_option linter.unusedVariables false
set_option linter.unusedSimpArgs false
theorem ent9 : Sx.Ent Try.prog 9 := ⟨Try.f9, Try.func9, by kernel_rfl, by kernel_rfl⟩
theorem sh24 : Sx.shapeOf Try.prog 24 = some (true, 4) := by kernel_rfl
theorem ent13 : Sx.Ent Try.prog 13 := ⟨Try.f13, Try.func13, by kernel_rfl, by kernel_rfl⟩
theorem ent15 : Sx.Ent Try.prog 15 := ⟨Try.f15, Try.func15, by kernel_rfl, by kernel_rfl⟩
theorem fo24_0 : Sx.fieldOff Try.prog 24 0 = some 0 := by kernel_rfl
theorem sh22 : Sx.shapeOf Try.prog 22 = some (false, 1) := by kernel_rfl
theorem fo24_1 : Sx.fieldOff Try.prog 24 1 = some 1 := by kernel_rfl
theorem fo24_2 : Sx.fieldOff Try.prog 24 2 = some 2 := by kernel_rfl
theorem sh3 : Sx.shapeOf Try.prog 3 = some (false, 1) := by kernel_rfl
theorem fo24_3 : Sx.fieldOff Try.prog 24 3 = some 3 := by kernel_rfl
theorem ent16 : Sx.Ent Try.prog 16 := ⟨Try.f16, Try.func16, by kernel_rfl, by kernel_rfl⟩
theorem ent14 : Sx.Ent Try.prog 14 := ⟨Try.f14, Try.func14, by kernel_rfl, by kernel_rfl⟩
set_option maxHeartbeats 4000000 in
set_option maxRecDepth 100000 in
theorem HyphenPoints_calls {w0 w : World} {F0 : Nat → Prop} {R : List Sx.HP} {v0 : World} (l : S24) (Al0 : Option Addr) (cl0 : Nat) (Al1 : Option Addr) (cl1 : Nat) (s : ByteArray) (hv : Sx.RO v0 w0 F0) (hll0 : l.f0.length ≤ cl0) (hCl0 : Kd.string.C v0 Al0 l.f0.length l.f0) (hll1 : l.f1.length ≤ cl1) (hCl1 : Kd.string.C v0 Al1 l.f1.length l.f1) (hzs : s.size ≤ 9223372036854775807) (hsP : ∀ x ∈ l.f0, x.size ≤ 1000000000) (hsW : ∀ x ∈ l.f1, x.size ≤ 1000000000) (hlP : l.f0.length ≤ 1048576) (hlW : l.f1.length ≤ 1048576) (h : Sx.St w0 F0 ([] ++ R) w) : Calls Try.prog 4 #[.agg #[.slice (Al0) (((l).f0).length) (cl0), .slice (Al1) (((l).f1).length) (cl1), .int .i64 ((l).f2), .int .i64 ((l).f3)], .string (s)] w (fun e w1 => e = .returned (.bool true) ∧ Sx.St w0 F0 R w1) := by
 refine Sx.calls_fn (vs := [.agg #[.slice (Al0) (((l).f0).length) (cl0), .slice (Al1) (((l).f1).length) (cl1), .int .i64 ((l).f2), .int .i64 ((l).f3)], .string (s)]) Try.func4 rfl Try.ntmps4 rfl ?_
 refine wc_seq ?_
 refine wc_region ?_
 refine wl_box _ h rfl rfl rfl (fun b1 _ h => ?_)
 replace h : Sx.St _ _ (Sx.blk b1 [.slice (Al0) (((l).f0).length) (cl0), .slice (Al1) (((l).f1).length) (cl1), .int .i64 ((l).f2), .int .i64 ((l).f3)] 24 :: _) _ := h
 refine wl_v rfl rfl (ov_assign _ rfl) ?_
 refine wl_nil ?_
 refine qn_then ?_
 refine wc_seq ?_
 refine wc_seq ?_
 refine wc_region ?_
 refine wl_call _ rfl rfl rfl ent9 (AW.awake_calls (R := [Sx.blk b1 [.slice (Al0) (((l).f0).length) (cl0), .slice (Al1) (((l).f1).length) (cl1), .int .i64 ((l).f2), .int .i64 ((l).f3)] 24] ++ R) h) ?_
 rintro e_ w_ ⟨rfl, h⟩
 refine ⟨_, rfl, ?_⟩
 refine wl_v rfl rfl (ov_notb _ rfl) ?_
 refine wl_nil ?_
 refine qn_then ?_
 refine wc_cond_false rfl ?_
 refine wc_skip ?_
 refine qn_then ?_
 refine wc_seq ?_
 refine wc_region ?_
 refine wl_v rfl rfl (ov_loadbN 0 [.slice (Al0) (((l).f0).length) (cl0), .slice (Al1) (((l).f1).length) (cl1), .int .i64 ((l).f2), .int .i64 ((l).f3)] h rfl rfl sh24 rfl) ?_
 refine wl_call _ rfl rfl rfl ent13 (BK.book_calls (R := [Sx.blk b1 [.slice (Al0) (((l).f0).length) (cl0), .slice (Al1) (((l).f1).length) (cl1), .int .i64 ((l).f2), .int .i64 ((l).f3)] 24] ++ R) (Al0) (cl0) ((l).f0) (Al1) (cl1) ((l).f1) ((l).f2) ((l).f3) (fun _ _ h_ => Sx.ro_C hv h_ hCl0) (fun _ _ h_ => Sx.ro_C hv h_ hCl1) hsP hsW (by omega) (by omega) h) ?_
 rintro e_ w_ (⟨hny2, rfl, h⟩ | ⟨hGy2, gy2, Dy2, rfl, hDy2, h⟩)
 ·
  refine ⟨_, rfl, ?_⟩
  refine wl_v rfl rfl (ov_assign _ rfl) ?_
  refine wl_nil ?_
  refine qn_then ?_
  refine wc_seq ?_
  refine wc_seq ?_
  refine wc_region ?_
  refine wl_v rfl rfl (ov_move _ rfl) ?_
  refine wl_v rfl rfl (ov_bin (.bool true) rfl rfl (binR_eqnil Try.underlying26)) ?_
  refine wl_v rfl rfl (ov_move _ rfl) ?_
  refine wl_skip rfl rfl ?_
  refine wl_skip rfl rfl ?_
  refine wl_skip rfl rfl ?_
  refine wl_v rfl rfl (ov_pick_true _ rfl rfl) ?_
  refine wl_nil ?_
  refine qn_then ?_
  refine wc_cond_true rfl ?_
  refine wc_seq ?_
  refine wc_region ?_
  refine wl_v rfl rfl (ov_assign _ rfl) ?_
  refine wl_nil ?_
  refine qn_then ?_
  refine wc_ret ?_
  refine qn_then_ret ?_
  replace h := st_selT [false] h
  refine qn_ret [_] ⟨rfl, trivial⟩ ?_
  exact ⟨rfl, h⟩
 ·
  replace h : Sx.St w0 F0 ([bookp gy2 ((l).f2) ((l).f3) Dy2, Sx.blk b1 [.slice (Al0) (((l).f0).length) (cl0), .slice (Al1) (((l).f1).length) (cl1), .int .i64 ((l).f2), .int .i64 ((l).f3)] 24] ++ R) _ := h
  refine ⟨_, rfl, ?_⟩
  obtain ⟨pthy2, hwfy2, hdeny2⟩ := treeV_wf ((l).f0) hGy2.2.2.1
  have htly2 := treeV_len ((l).f0)
  refine wl_v rfl rfl (ov_assign _ rfl) ?_
  refine wl_nil ?_
  refine qn_then ?_
  refine wc_seq ?_
  refine wc_seq ?_
  refine wc_region ?_
  refine wl_v rfl rfl (ov_move _ rfl) ?_
  refine wl_v rfl rfl (ov_bin (.bool false) rfl rfl (binR_eqnil Try.underlying26)) ?_
  refine wl_v rfl rfl (ov_move _ rfl) ?_
  refine wl_v rfl rfl (ov_move _ rfl) ?_
  refine wl_v rfl rfl (ov_lens _ rfl Try.underlying9) ?_
  refine wl_v rfl rfl (ov_bin _ rfl rfl (binR_gtr)) ?_
  refine wl_v rfl rfl (ov_pick_false _ rfl rfl) ?_
  refine wl_nil ?_
  refine qn_then ?_
  refine wc_cond (by rfl) (fun c3 => ?_) (fun c3 => ?_)
  ·
   refine wc_seq ?_
   refine wc_region ?_
   refine wl_v rfl rfl (ov_assign _ rfl) ?_
   refine wl_nil ?_
   refine qn_then ?_
   refine wc_ret ?_
   refine qn_then_ret ?_
   replace h := st_selT [false, false] h
   refine qn_ret [_] ⟨rfl, trivial⟩ ?_
   exact ⟨rfl, h⟩
  ·
   refine wc_skip ?_
   refine qn_then ?_
   refine wc_seq ?_
   refine wc_draw (fun w => Sx.St w0 F0 ([bookp gy2 ((l).f2) ((l).f3) Dy2, Sx.blk b1 [.slice (Al0) (((l).f0).length) (cl0), .slice (Al1) (((l).f1).length) (cl1), .int .i64 ((l).f2), .int .i64 ((l).f3)] 24] ++ R) w) (by kernel_rfl) ?_
   replace h := st_drew h
   refine wa_tk 0 rfl rfl rfl (st_selT [true, true] h) (fun w_ hS => ov_move _ rfl) ?_
   refine wa_tk 1 rfl rfl rfl (st_selT [true, true] h) (fun w_ hS => ov_move _ rfl) ?_
   refine wa_tk 3 rfl rfl rfl (st_selT [true, true] h) (fun w_ hS => ov_fieldAddr _ ⟨b1, 0, none⟩ _ rfl fo24_0 rfl) ?_
   refine wa_tk 4 rfl rfl rfl (st_selT [true, true] h) (fun w_ hS => ov_loadb 1 _ hS rfl rfl sh22 rfl) ?_
   refine wa_tk 5 rfl rfl rfl (st_selT [true, true] h) (fun w_ hS => ov_fieldAddr _ ⟨b1, 1, none⟩ _ rfl fo24_1 rfl) ?_
   refine wa_tk 6 rfl rfl rfl (st_selT [true, true] h) (fun w_ hS => ov_loadb 1 _ hS rfl rfl sh22 rfl) ?_
   refine wa_tk 7 rfl rfl rfl (st_selT [true, true] h) (fun w_ hS => ov_fieldAddr _ ⟨b1, 2, none⟩ _ rfl fo24_2 rfl) ?_
   refine wa_tk 8 rfl rfl rfl (st_selT [true, true] h) (fun w_ hS => ov_loadb 1 _ hS rfl rfl sh3 rfl) ?_
   refine wa_tk 9 rfl rfl rfl (st_selT [true, true] h) (fun w_ hS => ov_fieldAddr _ ⟨b1, 3, none⟩ _ rfl fo24_3 rfl) ?_
   refine wa_tk 10 rfl rfl rfl (st_selT [true, true] h) (fun w_ hS => ov_loadb 1 _ hS rfl rfl sh3 rfl) ?_
   refine wa_tk 11 rfl rfl rfl (st_selT [true, true] h) (fun w_ hS => ov_move _ rfl) ?_
   refine wa_one 2 rfl (by kernel_rfl) ?_
   refine wl_call _ rfl rfl rfl ent15 (PT.Points_calls (R := [bookp gy2 ((l).f2) ((l).f3) Dy2, Sx.blk b1 [.slice (Al0) (((l).f0).length) (cl0), .slice (Al1) (((l).f1).length) (cl1), .int .i64 ((l).f2), .int .i64 ((l).f3)] 24] ++ R) gy2 ((l).f2) ((l).f3) Dy2 (treeV ((l).f0)) pthy2 (knV ((l).f1)) s (book_reads (R := [bookp gy2 ((l).f2) ((l).f3) Dy2, Sx.blk b1 [.slice (Al0) (((l).f0).length) (cl0), .slice (Al1) (((l).f1).length) (cl1), .int .i64 ((l).f2), .int .i64 ((l).f3)] 24] ++ R) (j := 0) rfl) hDy2.1 hwfy2 htly2.1 hDy2.2 (by have q_ := hGy2.2.1; omega) (knV_len _) (by omega) h) ?_
   rintro e_ w_ ⟨Ap4, cp4, rfl, h⟩
   refine ⟨_, rfl, ?_⟩
   replace h : Sx.St w0 F0 ([Sx.row (Kd.int .i64) 3 (Ap4) (cp4) ((pointsV (treeV ((l).f0)) (knV ((l).f1)) ((l).f2) ((l).f3) s)), bookp gy2 ((l).f2) ((l).f3) Dy2, Sx.blk b1 [.slice (Al0) (((l).f0).length) (cl0), .slice (Al1) (((l).f1).length) (cl1), .int .i64 ((l).f2), .int .i64 ((l).f3)] 24] ++ R) _ := h
   have hpl5 := pts_len (treeV ((l).f0)) ((l).f1) ((l).f2) ((l).f3) s
   refine wl_nil ?_
   refine qn_wa (st_selT [false, true, true] h) ?_
   refine wa_one 12 rfl (by kernel_rfl) ?_
   refine wl_call _ rfl rfl rfl ent16 (RP.rPoints_calls (R := [Sx.row (Kd.int .i64) 3 (Ap4) (cp4) ((pointsV (treeV ((l).f0)) (knV ((l).f1)) ((l).f2) ((l).f3) s)), bookp gy2 ((l).f2) ((l).f3) Dy2, Sx.blk b1 [.slice (Al0) (((l).f0).length) (cl0), .slice (Al1) (((l).f1).length) (cl1), .int .i64 ((l).f2), .int .i64 ((l).f3)] 24] ++ R) (Al0) (cl0) ((l).f0) (Al1) (cl1) ((l).f1) ((l).f2) ((l).f3) s (fun _ _ h_ => Sx.ro_C hv h_ hCl0) (fun _ _ h_ => Sx.ro_C hv h_ hCl1) hsP hsW (by omega) (by omega) hGy2.2.2.1 hGy2.2.2.2 (by have q_ := hGy2.2.1; omega) (by omega) h) ?_
   rintro e_ w_ ⟨Aq6, cq6, rfl, h⟩
   refine ⟨_, rfl, ?_⟩
   replace h : Sx.St w0 F0 ([Sx.row (Kd.int .i64) 3 (Aq6) (cq6) ((refPts ((l).f0) ((l).f1) ((l).f2) ((l).f3) s)), Sx.row (Kd.int .i64) 3 (Ap4) (cp4) ((pointsV (treeV ((l).f0)) (knV ((l).f1)) ((l).f2) ((l).f3) s)), bookp gy2 ((l).f2) ((l).f3) Dy2, Sx.blk b1 [.slice (Al0) (((l).f0).length) (cl0), .slice (Al1) (((l).f1).length) (cl1), .int .i64 ((l).f2), .int .i64 ((l).f3)] 24] ++ R) _ := h
   refine wl_nil ?_
   refine qn_wa (st_selT [false, false, true, true] h) ?_
   refine wa_one 13 rfl (by kernel_rfl) ?_
   refine wl_call _ rfl rfl rfl ent14 (SM.Same_calls (R := [Sx.row (Kd.int .i64) 3 (Aq6) (cq6) ((refPts ((l).f0) ((l).f1) ((l).f2) ((l).f3) s)), Sx.row (Kd.int .i64) 3 (Ap4) (cp4) ((pointsV (treeV ((l).f0)) (knV ((l).f1)) ((l).f2) ((l).f3) s)), bookp gy2 ((l).f2) ((l).f3) Dy2, Sx.blk b1 [.slice (Al0) (((l).f0).length) (cl0), .slice (Al1) (((l).f1).length) (cl1), .int .i64 ((l).f2), .int .i64 ((l).f3)] 24] ++ R) (Ap4) (cp4) ((pointsV (treeV ((l).f0)) (knV ((l).f1)) ((l).f2) ((l).f3) s)) (Aq6) (cq6) ((refPts ((l).f0) ((l).f1) ((l).f2) ((l).f3) s)) (Sx.row_reads_at (R := [Sx.row (Kd.int .i64) 3 (Aq6) (cq6) ((refPts ((l).f0) ((l).f1) ((l).f2) ((l).f3) s)), Sx.row (Kd.int .i64) 3 (Ap4) (cp4) ((pointsV (treeV ((l).f0)) (knV ((l).f1)) ((l).f2) ((l).f3) s)), bookp gy2 ((l).f2) ((l).f3) Dy2, Sx.blk b1 [.slice (Al0) (((l).f0).length) (cl0), .slice (Al1) (((l).f1).length) (cl1), .int .i64 ((l).f2), .int .i64 ((l).f3)] 24] ++ R) (j := 1) rfl) (Sx.row_reads_at (R := [Sx.row (Kd.int .i64) 3 (Aq6) (cq6) ((refPts ((l).f0) ((l).f1) ((l).f2) ((l).f3) s)), Sx.row (Kd.int .i64) 3 (Ap4) (cp4) ((pointsV (treeV ((l).f0)) (knV ((l).f1)) ((l).f2) ((l).f3) s)), bookp gy2 ((l).f2) ((l).f3) Dy2, Sx.blk b1 [.slice (Al0) (((l).f0).length) (cl0), .slice (Al1) (((l).f1).length) (cl1), .int .i64 ((l).f2), .int .i64 ((l).f3)] 24] ++ R) (j := 0) rfl) (by omega) h) ?_
   rintro e_ w_ ⟨rfl, h⟩
   refine ⟨_, rfl, ?_⟩
   refine wl_nil ?_
   refine qn_wa (st_selT [false, false, true, true] h) ?_
   refine wa_tk 14 rfl rfl rfl (st_selT [false, false, true, true] h) (fun w_ hS => ov_assign _ rfl) ?_
   refine wa_done (by kernel_rfl) ?_
   refine qn_then ?_
   refine wc_ret ?_
   replace h := st_selT [false, false, false, false] h
   refine qn_ret [_] ⟨rfl, trivial⟩ ?_
   have b_ : (decide (((pointsV (treeV ((l).f0)) (knV ((l).f1)) ((l).f2) ((l).f3) s)) = ((refPts ((l).f0) ((l).f1) ((l).f2) ((l).f3) s)))) = true := decide_eq_true (points_eq hGy2.2.2.1 hdeny2 (by have q_ := hGy2.2.1; omega) (by have q_ := hGy2.2.1; omega) s)
   exact ⟨congrArg (fun z => Ending.returned (Value.bool z)) b_, h⟩
end Go.Proofs.Ytbeihfcjfkddcaa.L
