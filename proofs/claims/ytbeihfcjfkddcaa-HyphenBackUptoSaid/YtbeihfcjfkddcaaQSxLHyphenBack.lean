/- Pruned by wip/prune.py. -/
import Derived.Test.YtbeihfcjfkddcaaProg
import Derived.Test.YtbeihfcjfkddcaaQSxGlue
import Derived.Test.YtbeihfcjfkddcaaQSxFlow
import Derived.Test.YtbeihfcjfkddcaaQSxIter
import Derived.Test.YtbeihfcjfkddcaaQSxBytes
import Derived.Test.YtbeihfcjfkddcaaQHyWf
import Derived.Test.YtbeihfcjfkddcaaQSxRunes
import Derived.Test.YtbeihfcjfkddcaaQSxLetter
import Derived.Test.YtbeihfcjfkddcaaQSxText
import Derived.Test.YtbeihfcjfkddcaaQSxHRead
import Derived.Test.YtbeihfcjfkddcaaQSxHRef
import Derived.Test.YtbeihfcjfkddcaaQSxTree
import Derived.Test.YtbeihfcjfkddcaaQSxBook
import Derived.Test.YtbeihfcjfkddcaaQSxPoints
import Derived.Test.YtbeihfcjfkddcaaQSxKinds
import Derived.Test.YtbeihfcjfkddcaaQSxAwake
import Derived.Test.YtbeihfcjfkddcaaQHyEq
import Derived.Test.YtbeihfcjfkddcaaQSxRefPts
import Derived.Test.YtbeihfcjfkddcaaQSxSame
import Derived.Test.YtbeihfcjfkddcaaQHyBack
import Derived.Test.YtbeihfcjfkddcaaQSxRefWords
import Derived.Test.YtbeihfcjfkddcaaQSxPlaces
namespace Go.Proofs.Ytbeihfcjfkddcaa.L
open Go Go.RowKit Go.Proofs.YtbeihfcjfkddcaaW.PrintWords Go.Proofs.Ytbeihfcjfkddcaa.Hy Go.Proofs.Ytbeihfcjfkddcaa.Given Go.Proofs.Ytbeihfcjfkddcaa.Rn Go.Proofs.Ytbeihfcjfkddcaa.Sx Go.Proofs.Ytbeihfcjfkddcaa.Kinds 
set_option linter.unusedVariables false
set_option linter.unusedSimpArgs false
theorem ent9 : Sx.Ent Try.prog 9 := ⟨Try.f9, Try.func9, by kernel_rfl, by kernel_rfl⟩
theorem sh24 : Sx.shapeOf Try.prog 24 = some (true, 4) := by kernel_rfl
theorem ent13 : Sx.Ent Try.prog 13 := ⟨Try.f13, Try.func13, by kernel_rfl, by kernel_rfl⟩
theorem ent17 : Sx.Ent Try.prog 17 := ⟨Try.f17, Try.func17, by kernel_rfl, by kernel_rfl⟩
theorem ent23 : Sx.Ent Try.prog 23 := ⟨Try.f23, Try.func23, by kernel_rfl, by kernel_rfl⟩
theorem ent22 : Sx.Ent Try.prog 22 := ⟨Try.f22, Try.func22, by kernel_rfl, by kernel_rfl⟩
theorem ent24 : Sx.Ent Try.prog 24 := ⟨Try.f24, Try.func24, by kernel_rfl, by kernel_rfl⟩
theorem es36 : Sx.elemSz Try.prog 36 = some (3, 1) := by kernel_rfl
theorem sh3 : Sx.shapeOf Try.prog 3 = some (false, 1) := by kernel_rfl
theorem fo24_2 : Sx.fieldOff Try.prog 24 2 = some 2 := by kernel_rfl
theorem ent25 : Sx.Ent Try.prog 25 := ⟨Try.f25, Try.func25, by kernel_rfl, by kernel_rfl⟩
set_option maxHeartbeats 1000000 in
set_option maxRecDepth 100000 in
theorem HyphenBack_calls {w0 w : World} {F0 : Nat → Prop} {R : List Sx.HP} {v0 : World} (l : S24) (Al0 : Option Addr) (cl0 : Nat) (Al1 : Option Addr) (cl1 : Nat) (s : ByteArray) (hv : Sx.RO v0 w0 F0) (hll0 : l.f0.length ≤ cl0) (hCl0 : Kd.string.C v0 Al0 l.f0.length l.f0) (hll1 : l.f1.length ≤ cl1) (hCl1 : Kd.string.C v0 Al1 l.f1.length l.f1) (hzs : s.size ≤ 9223372036854775807) (hsP : ∀ x ∈ l.f0, x.size ≤ 1000000000) (hsW : ∀ x ∈ l.f1, x.size ≤ 1000000000) (hlP : l.f0.length ≤ 1048576) (hlW : l.f1.length ≤ 1048576) (h : Sx.St w0 F0 ([] ++ R) w) : Calls Try.prog 8 #[.agg #[.slice (Al0) (((l).f0).length) (cl0), .slice (Al1) (((l).f1).length) (cl1), .int .i64 ((l).f2), .int .i64 ((l).f3)], .string (s)] w (fun e w1 => e = .returned (.bool true) ∧ Sx.St w0 F0 R w1) := by
 refine Sx.calls_fn (vs := [.agg #[.slice (Al0) (((l).f0).length) (cl0), .slice (Al1) (((l).f1).length) (cl1), .int .i64 ((l).f2), .int .i64 ((l).f3)], .string (s)]) Try.func8 rfl Try.ntmps8 rfl ?_
 refine wc_seq ?_
 refine wc_region ?_
 refine wl_box _ h rfl rfl rfl (fun b1 _ h => ?_)
 replace h : Sx.St _ _ (Sx.blk b1 [.slice (Al0) (((l).f0).length) (cl0), .slice (Al1) (((l).f1).length) (cl1), .int .i64 ((l).f2), .int .i64 ((l).f3)] 24 :: _) _ := h
 refine wl_v rfl rfl (ov_assign _ rfl) ?_
 refine wl_nil ?_
 refine qn_then ?_
 refine wc_seq ?_
 refine wc_seq ?_
 refine wc_region ?_
 refine wl_call _ rfl rfl rfl ent9 (AW.awake_calls (R := [Sx.blk b1 [.slice (Al0) (((l).f0).length) (cl0), .slice (Al1) (((l).f1).length) (cl1), .int .i64 ((l).f2), .int .i64 ((l).f3)] 24] ++ R) h) ?_
 rintro e_ w_ ⟨rfl, h⟩
 refine ⟨_, rfl, ?_⟩
 refine wl_v rfl rfl (ov_notb _ rfl) ?_
 refine wl_nil ?_
 refine qn_then ?_
 refine wc_cond_false rfl ?_
 refine wc_skip ?_
 refine qn_then ?_
 refine wc_seq ?_
 refine wc_region ?_
 refine wl_v rfl rfl (ov_loadbN 0 [.slice (Al0) (((l).f0).length) (cl0), .slice (Al1) (((l).f1).length) (cl1), .int .i64 ((l).f2), .int .i64 ((l).f3)] h rfl rfl sh24 rfl) ?_
 refine wl_call _ rfl rfl rfl ent13 (BK.book_calls (R := [Sx.blk b1 [.slice (Al0) (((l).f0).length) (cl0), .slice (Al1) (((l).f1).length) (cl1), .int .i64 ((l).f2), .int .i64 ((l).f3)] 24] ++ R) (Al0) (cl0) ((l).f0) (Al1) (cl1) ((l).f1) ((l).f2) ((l).f3) (fun _ _ h_ => Sx.ro_C hv h_ hCl0) (fun _ _ h_ => Sx.ro_C hv h_ hCl1) hsP hsW (by omega) (by omega) h) ?_
 rintro e_ w_ (⟨hny2, rfl, h⟩ | ⟨hGy2, gy2, Dy2, rfl, hDy2, h⟩)
 ·
  refine ⟨_, rfl, ?_⟩
  refine wl_v rfl rfl (ov_assign _ rfl) ?_
  refine wl_nil ?_
  refine qn_then ?_
  refine wc_seq ?_
  refine wc_seq ?_
  refine wc_region ?_
  refine wl_v rfl rfl (ov_move _ rfl) ?_
  refine wl_v rfl rfl (ov_bin (.bool true) rfl rfl (binR_eqnil Try.underlying26)) ?_
  refine wl_v rfl rfl (ov_move _ rfl) ?_
  refine wl_skip rfl rfl ?_
  refine wl_skip rfl rfl ?_
  refine wl_skip rfl rfl ?_
  refine wl_v rfl rfl (ov_pick_true _ rfl rfl) ?_
  refine wl_v rfl rfl (ov_move _ rfl) ?_
  refine wl_skip rfl rfl ?_
  refine wl_skip rfl rfl ?_
  refine wl_skip rfl rfl ?_
  refine wl_v rfl rfl (ov_pick_true _ rfl rfl) ?_
  refine wl_nil ?_
  refine qn_then ?_
  refine wc_cond_true rfl ?_
  refine wc_seq ?_
  refine wc_region ?_
  refine wl_v rfl rfl (ov_assign _ rfl) ?_
  refine wl_nil ?_
  refine qn_then ?_
  refine wc_ret ?_
  refine qn_then_ret ?_
  replace h := st_selT [false] h
  refine qn_ret [_] ⟨rfl, trivial⟩ ?_
  exact ⟨rfl, h⟩
 ·
  replace h : Sx.St w0 F0 ([bookp gy2 ((l).f2) ((l).f3) Dy2, Sx.blk b1 [.slice (Al0) (((l).f0).length) (cl0), .slice (Al1) (((l).f1).length) (cl1), .int .i64 ((l).f2), .int .i64 ((l).f3)] 24] ++ R) _ := h
  refine ⟨_, rfl, ?_⟩
  obtain ⟨pthy2, hwfy2, hdeny2⟩ := treeV_wf ((l).f0) hGy2.2.2.1
  have htly2 := treeV_len ((l).f0)
  refine wl_v rfl rfl (ov_assign _ rfl) ?_
  refine wl_nil ?_
  refine qn_then ?_
  refine wc_seq ?_
  refine wc_seq ?_
  refine wc_region ?_
  refine wl_v rfl rfl (ov_move _ rfl) ?_
  refine wl_v rfl rfl (ov_bin (.bool false) rfl rfl (binR_eqnil Try.underlying26)) ?_
  refine wl_v rfl rfl (ov_move _ rfl) ?_
  refine wl_v rfl rfl (ov_move _ rfl) ?_
  refine wl_v rfl rfl (ov_lens _ rfl Try.underlying9) ?_
  refine wl_v rfl rfl (ov_bin _ rfl rfl (binR_gtr)) ?_
  refine wl_v rfl rfl (ov_pick_false _ rfl rfl) ?_
  refine wl_v rfl rfl (ov_move _ rfl) ?_
  refine wl_split 23 rfl (fun c3 => ?_) (fun c3 => ?_)
  ·
   refine wl_skip rfl rfl ?_
   refine wl_skip rfl rfl ?_
   refine wl_skip rfl rfl ?_
   refine wl_v rfl rfl (ov_pick_true _ rfl rfl) ?_
   refine wl_nil ?_
   refine qn_then ?_
   refine wc_cond_true rfl ?_
   refine wc_seq ?_
   refine wc_region ?_
   refine wl_v rfl rfl (ov_assign _ rfl) ?_
   refine wl_nil ?_
   refine qn_then ?_
   refine wc_ret ?_
   refine qn_then_ret ?_
   replace h := st_selT [false, false] h
   refine qn_ret [_] ⟨rfl, trivial⟩ ?_
   exact ⟨rfl, h⟩
  ·
   refine wl_v rfl rfl (ov_move _ rfl) ?_
   refine wl_call _ rfl rfl rfl ent17 (RN.Right_calls (R := [bookp gy2 ((l).f2) ((l).f3) Dy2, Sx.blk b1 [.slice (Al0) (((l).f0).length) (cl0), .slice (Al1) (((l).f1).length) (cl1), .int .i64 ((l).f2), .int .i64 ((l).f3)] 24] ++ R) s (by omega) h) ?_
   rintro e_ w_ ⟨rfl, h⟩
   refine ⟨_, rfl, ?_⟩
   refine wl_v rfl rfl (ov_not _ (¬ ((refV s).2 < 0)) rfl (by first | exact decide_not.symm | simp)) ?_
   refine wl_v rfl rfl (ov_pick_false _ rfl rfl) ?_
   refine wl_nil ?_
   refine qn_then ?_
   refine wc_cond (by rfl) (fun c4 => ?_) (fun c4 => ?_)
   ·
    refine wc_seq ?_
    refine wc_region ?_
    refine wl_v rfl rfl (ov_assign _ rfl) ?_
    refine wl_nil ?_
    refine qn_then ?_
    refine wc_ret ?_
    refine qn_then_ret ?_
    replace h := st_selT [false, false] h
    refine qn_ret [_] ⟨rfl, trivial⟩ ?_
    exact ⟨rfl, h⟩
   ·
    have hrr_ : (refV s).2 < 0 := Classical.not_not.1 c4
    have hbb_ : badV s < 0 := by rw [bad_refV]; exact hrr_
    refine wc_skip ?_
    refine qn_then ?_
    refine wc_seq ?_
    refine wc_region ?_
    refine wl_v rfl rfl (ov_move _ rfl) ?_
    refine wl_call _ rfl rfl rfl ent23 (TX.Strip_calls (R := [bookp gy2 ((l).f2) ((l).f3) Dy2, Sx.blk b1 [.slice (Al0) (((l).f0).length) (cl0), .slice (Al1) (((l).f1).length) (cl1), .int .i64 ((l).f2), .int .i64 ((l).f3)] 24] ++ R) s (by omega) (by omega) h) ?_
    rintro e_ w_ ⟨rfl, h⟩
    refine ⟨_, rfl, ?_⟩
    have hsz2_ := strip_size (s := s) (by omega)
    have hsr2_ := strip_right (s := s) (by omega)
    have hsn2_ := filter_ne (s := s) (by omega)
    have hss2_ := strip_strip (s := s) (by omega)
    have hsg_ : strOfNums (stripV s) = stripT s := rfl
    rw [hsg_]
    generalize stripT s = s2 at hsz2_ hsr2_ hsn2_ hss2_ ⊢
    have hb2_ : badV s2 < 0 := by omega
    have hr2_ : (refV s2).2 < 0 := by rw [← bad_refV]; exact hb2_
    refine wl_v rfl rfl (ov_assign _ rfl) ?_
    refine wl_nil ?_
    refine qn_then ?_
    refine wc_seq ?_
    refine wc_region ?_
    refine wl_v rfl rfl (ov_move _ rfl) ?_
    refine wl_v rfl rfl (ov_move _ rfl) ?_
    refine wl_call _ rfl rfl rfl ent22 (PC.Put_calls (R := [bookp gy2 ((l).f2) ((l).f3) Dy2, Sx.blk b1 [.slice (Al0) (((l).f0).length) (cl0), .slice (Al1) (((l).f1).length) (cl1), .int .i64 ((l).f2), .int .i64 ((l).f3)] 24] ++ R) gy2 ((l).f2) ((l).f3) Dy2 (treeV ((l).f0)) pthy2 (knV ((l).f1)) s2 (book_reads (R := [bookp gy2 ((l).f2) ((l).f3) Dy2, Sx.blk b1 [.slice (Al0) (((l).f0).length) (cl0), .slice (Al1) (((l).f1).length) (cl1), .int .i64 ((l).f2), .int .i64 ((l).f3)] 24] ++ R) (j := 0) rfl) hDy2.1 hwfy2 htly2.1 hDy2.2 (knV_ok _) (by have q_ := hGy2.2.1; omega) (by omega) h) ?_
    rintro e_ w_ ⟨rfl, h⟩
    refine ⟨_, rfl, ?_⟩
    have hlr_ : (1 ≤ l.f2 ∧ l.f2 ≤ 100) ∧ (1 ≤ l.f3 ∧ l.f3 ≤ 100) := by have q_ := hGy2.2.1; omega
    have hback_ := back_all hr2_ hsn2_ (F := pointsV (treeV ((l).f0)) (knV ((l).f1)) (l.f2) (l.f3)) (fun w_ => ⟨(pts_ok (knV_ok _) w_).2.1, fun x_ hx_ => by have q_ := (pts_ok (knV_ok _) w_).2.2 x_ hx_; omega⟩) hlr_.1.1 hlr_.2.1
    have htz_ := put_size (s := s2) (by omega) (placesV (pointsV (treeV ((l).f0)) (knV ((l).f1)) (l.f2) (l.f3)) s2) 0
    have hpz_ := places_len (treeV ((l).f0)) (knV_ok ((l).f1)) s2 l.f2 l.f3
    replace htz_ : (putT s2 (placesV (pointsV (treeV ((l).f0)) (knV ((l).f1)) ((l).f2) ((l).f3)) s2) 0).size ≤ 1000000000 := by omega
    generalize putT s2 (placesV (pointsV (treeV ((l).f0)) (knV ((l).f1)) ((l).f2) ((l).f3)) s2) 0 = tt at hback_ htz_ ⊢
    have hbt_ : badV tt = -1 := hback_.1
    have hrt_ : (refV tt).2 = -1 := by rw [← bad_refV]; exact hbt_
    have hrl_ := runes_len tt
    refine wl_v rfl rfl (ov_assign _ rfl) ?_
    refine wl_nil ?_
    refine qn_then ?_
    refine wc_seq ?_
    refine wc_seq ?_
    refine wc_region ?_
    refine wl_v rfl rfl (ov_move _ rfl) ?_
    refine wl_call _ rfl rfl rfl ent23 (TX.Strip_calls (R := [bookp gy2 ((l).f2) ((l).f3) Dy2, Sx.blk b1 [.slice (Al0) (((l).f0).length) (cl0), .slice (Al1) (((l).f1).length) (cl1), .int .i64 ((l).f2), .int .i64 ((l).f3)] 24] ++ R) tt (by omega) (by omega) h) ?_
    rintro e_ w_ ⟨rfl, h⟩
    refine ⟨_, rfl, ?_⟩
    rw [show strOfNums (stripV tt) = stripT tt from rfl]
    refine wl_v rfl rfl (ov_move _ rfl) ?_
    refine wl_v rfl rfl (ov_bin _ rfl rfl (binR_nes)) ?_
    refine wl_v rfl rfl (ov_move _ rfl) ?_
    refine wl_split 37 rfl (fun c5 => ?_) (fun c5 => ?_)
    ·
     exact absurd hback_.2.1 c5
    ·
     refine wl_v rfl rfl (ov_move _ rfl) ?_
     refine wl_call _ rfl rfl rfl ent23 (TX.Strip_calls (R := [bookp gy2 ((l).f2) ((l).f3) Dy2, Sx.blk b1 [.slice (Al0) (((l).f0).length) (cl0), .slice (Al1) (((l).f1).length) (cl1), .int .i64 ((l).f2), .int .i64 ((l).f3)] 24] ++ R) s2 (by omega) (by omega) h) ?_
     rintro e_ w_ ⟨rfl, h⟩
     refine ⟨_, rfl, ?_⟩
     rw [show strOfNums (stripV s2) = stripT s2 from rfl]
     refine wl_v rfl rfl (ov_move _ rfl) ?_
     refine wl_v rfl rfl (ov_bin _ rfl rfl (binR_nes)) ?_
     refine wl_v rfl rfl (ov_pick_false _ rfl rfl) ?_
     refine wl_v rfl rfl (ov_move _ rfl) ?_
     refine wl_split 43 rfl (fun c6 => ?_) (fun c6 => ?_)
     ·
      exact absurd hss2_ c6
     ·
      refine wl_v rfl rfl (ov_move _ rfl) ?_
      refine wl_call _ rfl rfl rfl ent17 (RN.Right_calls (R := [bookp gy2 ((l).f2) ((l).f3) Dy2, Sx.blk b1 [.slice (Al0) (((l).f0).length) (cl0), .slice (Al1) (((l).f1).length) (cl1), .int .i64 ((l).f2), .int .i64 ((l).f3)] 24] ++ R) tt (by omega) h) ?_
      rintro e_ w_ ⟨rfl, h⟩
      refine ⟨_, rfl, ?_⟩
      refine wl_v rfl rfl (ov_not _ (¬ ((refV tt).2 < 0)) rfl (by first | exact decide_not.symm | simp)) ?_
      refine wl_v rfl rfl (ov_pick_false _ rfl rfl) ?_
      refine wl_nil ?_
      refine qn_then ?_
      refine wc_cond (by rfl) (fun c7 => ?_) (fun c7 => ?_)
      ·
       refine wc_seq ?_
       refine wc_region ?_
       refine wl_v rfl rfl (ov_assign _ rfl) ?_
       refine wl_nil ?_
       refine qn_then ?_
       refine wc_ret ?_
       refine qn_then_ret ?_
       replace h := st_selT [false, false] h
       refine qn_ret [_] ⟨rfl, trivial⟩ ?_
       exfalso
       first
       | omega
       | (have hbk1_ := hbk_ (by omega)
          rcases hbk1_.2 with q_ | q_
          · first | contradiction | omega
          · omega)
      ·
       refine wc_skip ?_
       refine qn_then ?_
       refine wc_seq ?_
       refine wc_region ?_
       refine wl_v rfl rfl (ov_move _ rfl) ?_
       refine wl_call _ rfl rfl rfl ent24 (RN.Runes_calls (R := [bookp gy2 ((l).f2) ((l).f3) Dy2, Sx.blk b1 [.slice (Al0) (((l).f0).length) (cl0), .slice (Al1) (((l).f1).length) (cl1), .int .i64 ((l).f2), .int .i64 ((l).f3)] 24] ++ R) tt (by omega) h) ?_
       rintro e_ w_ ⟨Az8, cz8, Bz8, dz8, rfl, h⟩
       refine ⟨_, rfl, ?_⟩
       replace h : Sx.St w0 F0 ([Sx.row (Kd.int .i64) 3 (Az8) (cz8) ((runesL tt)), Sx.row (Kd.int .i64) 3 (Bz8) (dz8) ((placesL tt)), bookp gy2 ((l).f2) ((l).f3) Dy2, Sx.blk b1 [.slice (Al0) (((l).f0).length) (cl0), .slice (Al1) (((l).f1).length) (cl1), .int .i64 ((l).f2), .int .i64 ((l).f3)] 24] ++ R) _ := h
       refine wl_v rfl rfl (ov_move _ rfl) ?_
       refine wl_v rfl rfl (ov_extract [.slice (Az8) ((runesL tt).length) (cz8), .slice (Bz8) ((placesL tt).length) (dz8), .int .i64 ((refV tt).2)] _ rfl rfl) ?_
       refine wl_v rfl rfl (ov_extract [.slice (Az8) ((runesL tt).length) (cz8), .slice (Bz8) ((placesL tt).length) (dz8), .int .i64 ((refV tt).2)] _ rfl rfl) ?_
       refine wl_v rfl rfl (ov_extract [.slice (Az8) ((runesL tt).length) (cz8), .slice (Bz8) ((placesL tt).length) (dz8), .int .i64 ((refV tt).2)] _ rfl rfl) ?_
       refine wl_v rfl rfl (ov_assign _ rfl) ?_
       refine wl_v rfl rfl (ov_assign _ rfl) ?_
       refine wl_v rfl rfl (ov_assign _ rfl) ?_
       refine wl_nil ?_
       refine qn_then ?_
       refine wc_seq ?_
       refine wc_seq ?_
       refine wc_region ?_
       refine wl_v rfl rfl (ov_assign _ rfl) ?_
       refine wl_nil ?_
       refine qn_then ?_
       refine wc_block ?_
       replace h := st_front 3 h
       replace h := st_front 1 h
       replace h := st_selT [true, true, false, false] h
       refine wc_loop (fun (x_ : Nat × (Option Addr)) => [(2, .pointer (some ⟨b1, 0, none⟩)), (7, .slice (x_.2) ((runesL tt).length) (cz8)), (10, .int .i64 (((x_.1 : Nat) : Int)))]) (fun (x_ : Nat × (Option Addr)) (w : World) => (x_.1 ≤ (runesL tt).length) ∧ Sx.St w0 F0 ([Sx.row (Kd.int .i64) 3 (x_.2) (cz8) ((runesL tt)), Sx.blk b1 [.slice (Al0) (((l).f0).length) (cl0), .slice (Al1) (((l).f1).length) (cl1), .int .i64 ((l).f2), .int .i64 ((l).f3)] 24] ++ R) w) (fun (x_ : Nat × (Option Addr)) => (runesL tt).length - x_.1) (0, Az8) ?_ ?_ ?_
       · exact ⟨rfl, rfl, (congrArg (fun z_ => some (Value.int .i64 z_)) (show (0 : Int) = ((0 : Nat) : Int) by omega)), trivial⟩
       · exact ⟨by first | omega | simp, h⟩
       rintro ⟨i, X⟩ w h
       obtain ⟨hJ, h⟩ := h
       replace hJ : i ≤ (runesL tt).length := hJ
       replace h : Sx.St w0 F0 ([Sx.row (Kd.int .i64) 3 (X) (cz8) ((runesL tt)), Sx.blk b1 [.slice (Al0) (((l).f0).length) (cl0), .slice (Al1) (((l).f1).length) (cl1), .int .i64 ((l).f2), .int .i64 ((l).f3)] 24] ++ R) w := h
       show Sx.WC _ _ _ _ [(2, .pointer (some ⟨b1, 0, none⟩)), (7, .slice (X) ((runesL tt).length) (cz8)), (10, .int .i64 (((i : Nat) : Int)))] _
       refine wc_seq ?_
       refine wc_seq ?_
       refine wc_region ?_
       refine wl_v rfl rfl (ov_move _ rfl) ?_
       refine wl_v rfl rfl (ov_move _ rfl) ?_
       refine wl_v rfl rfl (ov_len _ _ _ _ _ rfl es36) ?_
       refine wl_v rfl rfl (ov_bin _ rfl rfl (binR_lss)) ?_
       refine wl_nil ?_
       refine qn_then ?_
       refine wc_cond (by rfl) (fun c9 => ?_) (fun c9 => ?_)
       ·
        refine wc_skip ?_
        refine qn_then ?_
        refine wc_seq ?_
        refine wc_block ?_
        refine wc_seq ?_
        refine wc_seq ?_
        refine wc_region ?_
        refine wl_v rfl rfl (ov_move _ rfl) ?_
        refine wl_v rfl rfl (ov_move _ rfl) ?_
        obtain ⟨ad10, rfl⟩ := Sx.C_some ((Sx.row_reads h (i := 0) rfl).2) (k := (i : Nat)) (by first | assumption | omega | (simp only [List.length_set, List.length_append, List.length_cons, List.length_nil]; omega))
        refine wl_v rfl rfl (ov_indexAddrN _ _ _ _ _ (i : Nat) rfl rfl es36 rfl (by first | assumption | omega | (simp only [List.length_take, List.length_drop, List.length_set, List.length_append, List.length_cons, List.length_nil]; omega))) ?_
        obtain ⟨cl13, _, hk12, hc11⟩ := Sx.C_cells ((Sx.row_reads h (i := 0) rfl).2) (z := (0 : Int)) (k := (i : Nat)) (by first | assumption | omega | (simp only [List.length_set, List.length_append, List.length_cons, List.length_nil]; omega))
        obtain rfl : cl13 = [.int .i64 _] := hk12
        refine wl_v rfl rfl (ov_load1 _ _ rfl sh3 ((hc11 0 _ rfl))) ?_
        refine wl_v rfl rfl (ov_bin _ rfl rfl (binR_neq)) ?_
        refine wl_nil ?_
        refine qn_then ?_
        refine wc_cond (by rfl) (fun c14 => ?_) (fun c14 => ?_)
        ·
         refine wc_exit ?_
         refine qn_then_exit ?_
         refine qn_block_exit ?_
         refine qn_then ?_
         refine wc_region ?_
         refine wl_v rfl rfl (ov_move _ rfl) ?_
         refine wl_v rfl rfl (ov_bin _ rfl rfl (binR_add (r := (((i : Nat) : Int)) + 1) (Sx.w64 (by omega)))) ?_
         refine wl_v rfl rfl (ov_assign _ rfl) ?_
         refine wl_nil ?_
         replace h := st_front 1 h
         replace h := st_front 1 h
         refine qn_next ((i + 1), some ad10) (by show (runesL tt).length - (i + 1) < (runesL tt).length - i; omega) ⟨rfl, rfl, (congrArg (fun z_ => some (Value.int .i64 z_)) (show ((((i : Nat) : Int)) + 1 : Int) = (((i + 1) : Nat) : Int) by omega)), trivial⟩ ?_
         show ((i + 1) ≤ (runesL tt).length) ∧ _
         exact ⟨by omega, h⟩
        ·
         have hsoft_ : (runesL tt).getD i 0 = 173 := by omega
         refine wc_skip ?_
         refine qn_then ?_
         refine wc_seq ?_
         refine wc_region ?_
         refine wl_v rfl rfl (ov_assign _ rfl) ?_
         refine wl_nil ?_
         refine qn_then ?_
         refine wc_block ?_
         replace h := st_front 1 h
         replace h := st_front 1 h
         refine wc_loop (fun (x_ : Nat × (Option Addr)) => [(2, .pointer (some ⟨b1, 0, none⟩)), (7, .slice (x_.2) ((runesL tt).length) (cz8)), (10, .int .i64 (((i : Nat) : Int))), (11, .int .i64 (((x_.1 : Nat) : Int)))]) (fun (x_ : Nat × (Option Addr)) (w : World) => (1 ≤ x_.1 ∧ x_.1 ≤ 101) ∧ Sx.St w0 F0 ([Sx.row (Kd.int .i64) 3 (x_.2) (cz8) ((runesL tt)), Sx.blk b1 [.slice (Al0) (((l).f0).length) (cl0), .slice (Al1) (((l).f1).length) (cl1), .int .i64 ((l).f2), .int .i64 ((l).f3)] 24] ++ R) w) (fun (x_ : Nat × (Option Addr)) => 102 - x_.1) (1, some ad10) ?_ ?_ ?_
         · exact ⟨rfl, rfl, rfl, (congrArg (fun z_ => some (Value.int .i64 z_)) (show (1 : Int) = ((1 : Nat) : Int) by omega)), trivial⟩
         · exact ⟨by first | omega | simp, h⟩
         rintro ⟨k, Y⟩ w h
         obtain ⟨hJ, h⟩ := h
         replace hJ : 1 ≤ k ∧ k ≤ 101 := hJ
         replace h : Sx.St w0 F0 ([Sx.row (Kd.int .i64) 3 (Y) (cz8) ((runesL tt)), Sx.blk b1 [.slice (Al0) (((l).f0).length) (cl0), .slice (Al1) (((l).f1).length) (cl1), .int .i64 ((l).f2), .int .i64 ((l).f3)] 24] ++ R) w := h
         show Sx.WC _ _ _ _ [(2, .pointer (some ⟨b1, 0, none⟩)), (7, .slice (Y) ((runesL tt).length) (cz8)), (10, .int .i64 (((i : Nat) : Int))), (11, .int .i64 (((k : Nat) : Int)))] _
         have hrb_ := runes_bd (s := tt) (by omega) (i - k)
         have hbk_ : (k : Int) ≤ l.f2 → k ≤ i ∧ (LetP ((runesL tt).getD (i - k) 0) ∨ (runesL tt).getD (i - k) 0 = 173) := fun hk_ => hback_.2.2 i (by omega) hsoft_ k (by omega) hk_
         refine wc_seq ?_
         refine wc_seq ?_
         refine wc_region ?_
         refine wl_v rfl rfl (ov_move _ rfl) ?_
         refine wl_v rfl rfl (ov_fieldAddr _ ⟨b1, 2, none⟩ _ rfl fo24_2 rfl) ?_
         refine wl_v rfl rfl (ov_loadb 1 _ h rfl rfl sh3 rfl) ?_
         refine wl_v rfl rfl (ov_bin _ rfl rfl (binR_leq)) ?_
         refine wl_v rfl rfl (ov_move _ rfl) ?_
         refine wl_split 69 rfl (fun c15 => ?_) (fun c15 => ?_)
         ·
          refine wl_v rfl rfl (ov_move _ rfl) ?_
          refine wl_v rfl rfl (ov_bin _ rfl rfl (binR_leq)) ?_
          refine wl_v rfl rfl (ov_pick_true _ rfl rfl) ?_
          refine wl_nil ?_
          refine qn_then ?_
          refine wc_cond (by rfl) (fun c16 => ?_) (fun c16 => ?_)
          ·
           refine wc_skip ?_
           refine qn_then ?_
           refine wc_seq ?_
           refine wc_block ?_
           refine wc_seq ?_
           refine wc_region ?_
           refine wl_v rfl rfl (ov_move _ rfl) ?_
           refine wl_v rfl rfl (ov_move _ rfl) ?_
           refine wl_v rfl rfl (ov_bin _ rfl rfl (binR_sub (r := (((i : Nat) : Int)) - (((k : Nat) : Int))) (Sx.w64 (by omega)))) ?_
           refine wl_v rfl rfl (ov_bin _ rfl rfl (binR_lss)) ?_
           refine wl_v rfl rfl (ov_move _ rfl) ?_
           refine wl_split 79 rfl (fun c17 => ?_) (fun c17 => ?_)
           ·
            refine wl_skip rfl rfl ?_
            refine wl_skip rfl rfl ?_
            refine wl_skip rfl rfl ?_
            refine wl_skip rfl rfl ?_
            refine wl_skip rfl rfl ?_
            refine wl_skip rfl rfl ?_
            refine wl_skip rfl rfl ?_
            refine wl_skip rfl rfl ?_
            refine wl_skip rfl rfl ?_
            refine wl_skip rfl rfl ?_
            refine wl_skip rfl rfl ?_
            refine wl_skip rfl rfl ?_
            refine wl_skip rfl rfl ?_
            refine wl_skip rfl rfl ?_
            refine wl_skip rfl rfl ?_
            refine wl_skip rfl rfl ?_
            refine wl_skip rfl rfl ?_
            refine wl_v rfl rfl (ov_pick_true _ rfl rfl) ?_
            refine wl_nil ?_
            refine qn_then ?_
            refine wc_cond_true rfl ?_
            refine wc_seq ?_
            refine wc_region ?_
            refine wl_v rfl rfl (ov_assign _ rfl) ?_
            refine wl_nil ?_
            refine qn_then ?_
            refine wc_ret ?_
            refine qn_block_ret ?_
            refine qn_then_ret ?_
            refine qn_then_ret ?_
            refine qn_block_ret ?_
            refine qn_block_ret ?_
            refine qn_then_ret ?_
            refine qn_then_ret ?_
            refine qn_block_ret ?_
            refine qn_then_ret ?_
            replace h := st_selT [false, false] h
            refine qn_ret [_] ⟨rfl, trivial⟩ ?_
            exfalso
            first
            | omega
            | (have hbk1_ := hbk_ (by omega)
               rcases hbk1_.2 with q_ | q_
               · first | contradiction | omega
               · omega)
           ·
            refine wl_v rfl rfl (ov_move _ rfl) ?_
            refine wl_v rfl rfl (ov_move _ rfl) ?_
            refine wl_v rfl rfl (ov_move _ rfl) ?_
            refine wl_v rfl rfl (ov_bin _ rfl rfl (binR_sub (r := (((i : Nat) : Int)) - (((k : Nat) : Int))) (Sx.w64 (by omega)))) ?_
            obtain ⟨ad18, rfl⟩ := Sx.C_some ((Sx.row_reads h (i := 0) rfl).2) (k := (((i : Nat)) - ((k : Nat)))) (by first | assumption | omega | (simp only [List.length_set, List.length_append, List.length_cons, List.length_nil]; omega))
            refine wl_v rfl rfl (ov_indexAddrN _ _ _ _ _ (((i : Nat)) - ((k : Nat))) rfl rfl es36 (by omega) (by first | assumption | omega | (simp only [List.length_take, List.length_drop, List.length_set, List.length_append, List.length_cons, List.length_nil]; omega))) ?_
            obtain ⟨cl21, _, hk20, hc19⟩ := Sx.C_cells ((Sx.row_reads h (i := 0) rfl).2) (z := (0 : Int)) (k := (((i : Nat)) - ((k : Nat)))) (by first | assumption | omega | (simp only [List.length_set, List.length_append, List.length_cons, List.length_nil]; omega))
            obtain rfl : cl21 = [.int .i64 _] := hk20
            refine wl_v rfl rfl (ov_load1 _ _ rfl sh3 ((hc19 0 _ rfl))) ?_
            refine wl_call _ rfl rfl rfl ent25 (LT.rLetter_calls (R := [Sx.row (Kd.int .i64) 3 (some ad18) (cz8) ((runesL tt)), Sx.blk b1 [.slice (Al0) (((l).f0).length) (cl0), .slice (Al1) (((l).f1).length) (cl1), .int .i64 ((l).f2), .int .i64 ((l).f3)] 24] ++ R) (((runesL tt)).getD (((i : Nat)) - ((k : Nat))) (0 : Int)) (by omega) (by omega) h) ?_
            rintro e_ w_ ⟨rfl, h⟩
            refine ⟨_, rfl, ?_⟩
            refine wl_v rfl rfl (ov_not _ (¬ (LetP (((runesL tt)).getD (((i : Nat)) - ((k : Nat))) (0 : Int)))) rfl (by first | exact decide_not.symm | simp)) ?_
            refine wl_v rfl rfl (ov_move _ rfl) ?_
            refine wl_split 88 rfl (fun c22 => ?_) (fun c22 => ?_)
            ·
             refine wl_v rfl rfl (ov_move _ rfl) ?_
             refine wl_v rfl rfl (ov_move _ rfl) ?_
             refine wl_v rfl rfl (ov_move _ rfl) ?_
             refine wl_v rfl rfl (ov_bin _ rfl rfl (binR_sub (r := (((i : Nat) : Int)) - (((k : Nat) : Int))) (Sx.w64 (by omega)))) ?_
             refine wl_v rfl rfl (ov_indexAddrN _ _ _ _ _ (((i : Nat)) - ((k : Nat))) rfl rfl es36 (by omega) (by first | assumption | omega | (simp only [List.length_take, List.length_drop, List.length_set, List.length_append, List.length_cons, List.length_nil]; omega))) ?_
             obtain ⟨cl25, _, hk24, hc23⟩ := Sx.C_cells ((Sx.row_reads h (i := 0) rfl).2) (z := (0 : Int)) (k := (((i : Nat)) - ((k : Nat)))) (by first | assumption | omega | (simp only [List.length_set, List.length_append, List.length_cons, List.length_nil]; omega))
             obtain rfl : cl25 = [.int .i64 _] := hk24
             refine wl_v rfl rfl (ov_load1 _ _ rfl sh3 ((hc23 0 _ rfl))) ?_
             refine wl_v rfl rfl (ov_bin _ rfl rfl (binR_neq)) ?_
             refine wl_v rfl rfl (ov_pick_true _ rfl rfl) ?_
             refine wl_v rfl rfl (ov_pick_false _ rfl rfl) ?_
             refine wl_nil ?_
             refine qn_then ?_
             refine wc_cond (by rfl) (fun c26 => ?_) (fun c26 => ?_)
             ·
              refine wc_seq ?_
              refine wc_region ?_
              refine wl_v rfl rfl (ov_assign _ rfl) ?_
              refine wl_nil ?_
              refine qn_then ?_
              refine wc_ret ?_
              refine qn_block_ret ?_
              refine qn_then_ret ?_
              refine qn_then_ret ?_
              refine qn_block_ret ?_
              refine qn_block_ret ?_
              refine qn_then_ret ?_
              refine qn_then_ret ?_
              refine qn_block_ret ?_
              refine qn_then_ret ?_
              replace h := st_selT [false, false] h
              refine qn_ret [_] ⟨rfl, trivial⟩ ?_
              exfalso
              first
              | omega
              | (have hbk1_ := hbk_ (by omega)
                 rcases hbk1_.2 with q_ | q_
                 · first | contradiction | omega
                 · omega)
             ·
              refine wc_skip ?_
              refine qn_block_normal ?_
              refine qn_then ?_
              refine wc_region ?_
              refine wl_v rfl rfl (ov_move _ rfl) ?_
              refine wl_v rfl rfl (ov_bin _ rfl rfl (binR_add (r := (((k : Nat) : Int)) + 1) (Sx.w64 (by omega)))) ?_
              refine wl_v rfl rfl (ov_assign _ rfl) ?_
              refine wl_nil ?_
              replace h := st_front 1 h
              replace h := st_front 1 h
              refine qn_next ((k + 1), some ad18) (by show 102 - (k + 1) < 102 - k; omega) ⟨rfl, rfl, rfl, (congrArg (fun z_ => some (Value.int .i64 z_)) (show ((((k : Nat) : Int)) + 1 : Int) = (((k + 1) : Nat) : Int) by omega)), trivial⟩ ?_
              show (1 ≤ (k + 1) ∧ (k + 1) ≤ 101) ∧ _
              exact ⟨by omega, h⟩
            ·
             refine wl_skip rfl rfl ?_
             refine wl_skip rfl rfl ?_
             refine wl_skip rfl rfl ?_
             refine wl_skip rfl rfl ?_
             refine wl_skip rfl rfl ?_
             refine wl_skip rfl rfl ?_
             refine wl_skip rfl rfl ?_
             refine wl_v rfl rfl (ov_pick_false _ rfl rfl) ?_
             refine wl_v rfl rfl (ov_pick_false _ rfl rfl) ?_
             refine wl_nil ?_
             refine qn_then ?_
             refine wc_cond_false rfl ?_
             refine wc_skip ?_
             refine qn_block_normal ?_
             refine qn_then ?_
             refine wc_region ?_
             refine wl_v rfl rfl (ov_move _ rfl) ?_
             refine wl_v rfl rfl (ov_bin _ rfl rfl (binR_add (r := (((k : Nat) : Int)) + 1) (Sx.w64 (by omega)))) ?_
             refine wl_v rfl rfl (ov_assign _ rfl) ?_
             refine wl_nil ?_
             replace h := st_front 1 h
             replace h := st_front 1 h
             refine qn_next ((k + 1), some ad18) (by show 102 - (k + 1) < 102 - k; omega) ⟨rfl, rfl, rfl, (congrArg (fun z_ => some (Value.int .i64 z_)) (show ((((k : Nat) : Int)) + 1 : Int) = (((k + 1) : Nat) : Int) by omega)), trivial⟩ ?_
             show (1 ≤ (k + 1) ∧ (k + 1) ≤ 101) ∧ _
             exact ⟨by omega, h⟩
          ·
           refine wc_exit ?_
           refine qn_then_exit ?_
           refine qn_then_exit ?_
           refine qn_block_exit ?_
           refine qn_block_normal ?_
           refine qn_then ?_
           refine wc_region ?_
           refine wl_v rfl rfl (ov_move _ rfl) ?_
           refine wl_v rfl rfl (ov_bin _ rfl rfl (binR_add (r := (((i : Nat) : Int)) + 1) (Sx.w64 (by omega)))) ?_
           refine wl_v rfl rfl (ov_assign _ rfl) ?_
           refine wl_nil ?_
           replace h := st_front 1 h
           replace h := st_front 1 h
           refine qn_next ((i + 1), Y) (by show (runesL tt).length - (i + 1) < (runesL tt).length - i; omega) ⟨rfl, rfl, (congrArg (fun z_ => some (Value.int .i64 z_)) (show ((((i : Nat) : Int)) + 1 : Int) = (((i + 1) : Nat) : Int) by omega)), trivial⟩ ?_
           show ((i + 1) ≤ (runesL tt).length) ∧ _
           exact ⟨by omega, h⟩
         ·
          refine wl_skip rfl rfl ?_
          refine wl_skip rfl rfl ?_
          refine wl_v rfl rfl (ov_pick_false _ rfl rfl) ?_
          refine wl_nil ?_
          refine qn_then ?_
          refine wc_cond_false rfl ?_
          refine wc_exit ?_
          refine qn_then_exit ?_
          refine qn_then_exit ?_
          refine qn_block_exit ?_
          refine qn_block_normal ?_
          refine qn_then ?_
          refine wc_region ?_
          refine wl_v rfl rfl (ov_move _ rfl) ?_
          refine wl_v rfl rfl (ov_bin _ rfl rfl (binR_add (r := (((i : Nat) : Int)) + 1) (Sx.w64 (by omega)))) ?_
          refine wl_v rfl rfl (ov_assign _ rfl) ?_
          refine wl_nil ?_
          replace h := st_front 1 h
          replace h := st_front 1 h
          refine qn_next ((i + 1), Y) (by show (runesL tt).length - (i + 1) < (runesL tt).length - i; omega) ⟨rfl, rfl, (congrArg (fun z_ => some (Value.int .i64 z_)) (show ((((i : Nat) : Int)) + 1 : Int) = (((i + 1) : Nat) : Int) by omega)), trivial⟩ ?_
          show ((i + 1) ≤ (runesL tt).length) ∧ _
          exact ⟨by omega, h⟩
       ·
        refine wc_exit ?_
        refine qn_then_exit ?_
        refine qn_then_exit ?_
        refine qn_block_exit ?_
        refine qn_then ?_
        refine wc_seq ?_
        refine wc_region ?_
        refine wl_v rfl rfl (ov_assign _ rfl) ?_
        refine wl_nil ?_
        refine qn_then ?_
        refine wc_ret ?_
        replace h := st_selT [false, false] h
        refine qn_ret [_] ⟨rfl, trivial⟩ ?_
        exact ⟨rfl, h⟩
end Go.Proofs.Ytbeihfcjfkddcaa.L
