/- Pruned by wip/prune.py. -/
import Derived.Test.YtbeihfcjfkddcaaProg
import Derived.Test.YtbeihfcjfkddcaaQSxGlue
import Derived.Test.YtbeihfcjfkddcaaQSxFlow
import Derived.Test.YtbeihfcjfkddcaaQSxIter
import Derived.Test.YtbeihfcjfkddcaaQSxBytes
import Derived.Test.YtbeihfcjfkddcaaQHyWf
import Derived.Test.YtbeihfcjfkddcaaQSxRunes
import Derived.Test.YtbeihfcjfkddcaaQSxLetter
import Derived.Test.YtbeihfcjfkddcaaQSxText
import Derived.Test.YtbeihfcjfkddcaaQSxHRead
import Derived.Test.YtbeihfcjfkddcaaQSxHRef
import Derived.Test.YtbeihfcjfkddcaaQSxTree
import Derived.Test.YtbeihfcjfkddcaaQSxBook
import Derived.Test.YtbeihfcjfkddcaaQSxPoints
import Derived.Test.YtbeihfcjfkddcaaQSxKinds
import Derived.Test.YtbeihfcjfkddcaaQSxAwake
import Derived.Test.YtbeihfcjfkddcaaQHyEq
import Derived.Test.YtbeihfcjfkddcaaQSxRefPts
import Derived.Test.YtbeihfcjfkddcaaQSxSame
import Derived.Test.YtbeihfcjfkddcaaQHyPlc
import Derived.Test.YtbeihfcjfkddcaaQSxRefWords
import Derived.Test.YtbeihfcjfkddcaaQSxPlaces
import Derived.Test.YtbeihfcjfkddcaaQSxRefPlaces
namespace Go.Proofs.Ytbeihfcjfkddcaa.L
open Go Go.RowKit Go.Proofs.YtbeihfcjfkddcaaW.PrintWords Go.Proofs.Ytbeihfcjfkddcaa.Hy Go.Proofs.Ytbeihfcjfkddcaa.Given Go.Proofs.Ytbeihfcjfkddcaa.Rn Go.Proofs.Ytbeihfcjfkddcaa.Sx Go.Proofs.Ytbeihfcjfkddcaa.Kinds 
set_option linter.unusedVariables false
set_option linter.unusedSimpArgs false
theorem ent9 : Sx.Ent Try.prog 9 := ⟨Try.f9, Try.func9, by kernel_rfl, by kernel_rfl⟩
theorem sh24 : Sx.shapeOf Try.prog 24 = some (true, 4) := by kernel_rfl
theorem ent13 : Sx.Ent Try.prog 13 := ⟨Try.f13, Try.func13, by kernel_rfl, by kernel_rfl⟩
theorem ent20 : Sx.Ent Try.prog 20 := ⟨Try.f20, Try.func20, by kernel_rfl, by kernel_rfl⟩
theorem fo24_0 : Sx.fieldOff Try.prog 24 0 = some 0 := by kernel_rfl
theorem sh22 : Sx.shapeOf Try.prog 22 = some (false, 1) := by kernel_rfl
theorem fo24_1 : Sx.fieldOff Try.prog 24 1 = some 1 := by kernel_rfl
theorem fo24_2 : Sx.fieldOff Try.prog 24 2 = some 2 := by kernel_rfl
theorem sh3 : Sx.shapeOf Try.prog 3 = some (false, 1) := by kernel_rfl
theorem fo24_3 : Sx.fieldOff Try.prog 24 3 = some 3 := by kernel_rfl
theorem ent21 : Sx.Ent Try.prog 21 := ⟨Try.f21, Try.func21, by kernel_rfl, by kernel_rfl⟩
theorem ent14 : Sx.Ent Try.prog 14 := ⟨Try.f14, Try.func14, by kernel_rfl, by kernel_rfl⟩
theorem es36 : Sx.elemSz Try.prog 36 = some (3, 1) := by kernel_rfl
theorem ent22 : Sx.Ent Try.prog 22 := ⟨Try.f22, Try.func22, by kernel_rfl, by kernel_rfl⟩
set_option maxHeartbeats 1000000 in
set_option maxRecDepth 100000 in
theorem HyphenPlaces_calls {w0 w : World} {F0 : Nat → Prop} {R : List Sx.HP} {v0 : World} (l : S24) (Al0 : Option Addr) (cl0 : Nat) (Al1 : Option Addr) (cl1 : Nat) (s : ByteArray) (hv : Sx.RO v0 w0 F0) (hll0 : l.f0.length ≤ cl0) (hCl0 : Kd.string.C v0 Al0 l.f0.length l.f0) (hll1 : l.f1.length ≤ cl1) (hCl1 : Kd.string.C v0 Al1 l.f1.length l.f1) (hzs : s.size ≤ 9223372036854775807) (hsP : ∀ x ∈ l.f0, x.size ≤ 1000000000) (hsW : ∀ x ∈ l.f1, x.size ≤ 1000000000) (hlP : l.f0.length ≤ 1048576) (hlW : l.f1.length ≤ 1048576) (h : Sx.St w0 F0 ([] ++ R) w) : Calls Try.prog 7 #[.agg #[.slice (Al0) (((l).f0).length) (cl0), .slice (Al1) (((l).f1).length) (cl1), .int .i64 ((l).f2), .int .i64 ((l).f3)], .string (s)] w (fun e w1 => e = .returned (.bool true) ∧ Sx.St w0 F0 R w1) := by
 refine Sx.calls_fn (vs := [.agg #[.slice (Al0) (((l).f0).length) (cl0), .slice (Al1) (((l).f1).length) (cl1), .int .i64 ((l).f2), .int .i64 ((l).f3)], .string (s)]) Try.func7 rfl Try.ntmps7 rfl ?_
 refine wc_seq ?_
 refine wc_region ?_
 refine wl_box _ h rfl rfl rfl (fun b1 _ h => ?_)
 replace h : Sx.St _ _ (Sx.blk b1 [.slice (Al0) (((l).f0).length) (cl0), .slice (Al1) (((l).f1).length) (cl1), .int .i64 ((l).f2), .int .i64 ((l).f3)] 24 :: _) _ := h
 refine wl_v rfl rfl (ov_assign _ rfl) ?_
 refine wl_nil ?_
 refine qn_then ?_
 refine wc_seq ?_
 refine wc_seq ?_
 refine wc_region ?_
 refine wl_call _ rfl rfl rfl ent9 (AW.awake_calls (R := [Sx.blk b1 [.slice (Al0) (((l).f0).length) (cl0), .slice (Al1) (((l).f1).length) (cl1), .int .i64 ((l).f2), .int .i64 ((l).f3)] 24] ++ R) h) ?_
 rintro e_ w_ ⟨rfl, h⟩
 refine ⟨_, rfl, ?_⟩
 refine wl_v rfl rfl (ov_notb _ rfl) ?_
 refine wl_nil ?_
 refine qn_then ?_
 refine wc_cond_false rfl ?_
 refine wc_skip ?_
 refine qn_then ?_
 refine wc_seq ?_
 refine wc_region ?_
 refine wl_v rfl rfl (ov_loadbN 0 [.slice (Al0) (((l).f0).length) (cl0), .slice (Al1) (((l).f1).length) (cl1), .int .i64 ((l).f2), .int .i64 ((l).f3)] h rfl rfl sh24 rfl) ?_
 refine wl_call _ rfl rfl rfl ent13 (BK.book_calls (R := [Sx.blk b1 [.slice (Al0) (((l).f0).length) (cl0), .slice (Al1) (((l).f1).length) (cl1), .int .i64 ((l).f2), .int .i64 ((l).f3)] 24] ++ R) (Al0) (cl0) ((l).f0) (Al1) (cl1) ((l).f1) ((l).f2) ((l).f3) (fun _ _ h_ => Sx.ro_C hv h_ hCl0) (fun _ _ h_ => Sx.ro_C hv h_ hCl1) hsP hsW (by omega) (by omega) h) ?_
 rintro e_ w_ (⟨hny2, rfl, h⟩ | ⟨hGy2, gy2, Dy2, rfl, hDy2, h⟩)
 ·
  refine ⟨_, rfl, ?_⟩
  refine wl_v rfl rfl (ov_assign _ rfl) ?_
  refine wl_nil ?_
  refine qn_then ?_
  refine wc_seq ?_
  refine wc_seq ?_
  refine wc_region ?_
  refine wl_v rfl rfl (ov_move _ rfl) ?_
  refine wl_v rfl rfl (ov_bin (.bool true) rfl rfl (binR_eqnil Try.underlying26)) ?_
  refine wl_v rfl rfl (ov_move _ rfl) ?_
  refine wl_skip rfl rfl ?_
  refine wl_skip rfl rfl ?_
  refine wl_skip rfl rfl ?_
  refine wl_v rfl rfl (ov_pick_true _ rfl rfl) ?_
  refine wl_nil ?_
  refine qn_then ?_
  refine wc_cond_true rfl ?_
  refine wc_seq ?_
  refine wc_region ?_
  refine wl_v rfl rfl (ov_assign _ rfl) ?_
  refine wl_nil ?_
  refine qn_then ?_
  refine wc_ret ?_
  refine qn_then_ret ?_
  replace h := st_selT [false] h
  refine qn_ret [_] ⟨rfl, trivial⟩ ?_
  exact ⟨rfl, h⟩
 ·
  replace h : Sx.St w0 F0 ([bookp gy2 ((l).f2) ((l).f3) Dy2, Sx.blk b1 [.slice (Al0) (((l).f0).length) (cl0), .slice (Al1) (((l).f1).length) (cl1), .int .i64 ((l).f2), .int .i64 ((l).f3)] 24] ++ R) _ := h
  refine ⟨_, rfl, ?_⟩
  obtain ⟨pthy2, hwfy2, hdeny2⟩ := treeV_wf ((l).f0) hGy2.2.2.1
  have htly2 := treeV_len ((l).f0)
  refine wl_v rfl rfl (ov_assign _ rfl) ?_
  refine wl_nil ?_
  refine qn_then ?_
  refine wc_seq ?_
  refine wc_seq ?_
  refine wc_region ?_
  refine wl_v rfl rfl (ov_move _ rfl) ?_
  refine wl_v rfl rfl (ov_bin (.bool false) rfl rfl (binR_eqnil Try.underlying26)) ?_
  refine wl_v rfl rfl (ov_move _ rfl) ?_
  refine wl_v rfl rfl (ov_move _ rfl) ?_
  refine wl_v rfl rfl (ov_lens _ rfl Try.underlying9) ?_
  refine wl_v rfl rfl (ov_bin _ rfl rfl (binR_gtr)) ?_
  refine wl_v rfl rfl (ov_pick_false _ rfl rfl) ?_
  refine wl_nil ?_
  refine qn_then ?_
  refine wc_cond (by rfl) (fun c3 => ?_) (fun c3 => ?_)
  ·
   refine wc_seq ?_
   refine wc_region ?_
   refine wl_v rfl rfl (ov_assign _ rfl) ?_
   refine wl_nil ?_
   refine qn_then ?_
   refine wc_ret ?_
   refine qn_then_ret ?_
   replace h := st_selT [false, false] h
   refine qn_ret [_] ⟨rfl, trivial⟩ ?_
   exact ⟨rfl, h⟩
  ·
   refine wc_skip ?_
   refine qn_then ?_
   refine wc_seq ?_
   refine wc_region ?_
   refine wl_v rfl rfl (ov_move _ rfl) ?_
   refine wl_v rfl rfl (ov_move _ rfl) ?_
   refine wl_call _ rfl rfl rfl ent20 (PC.Places_calls (R := [bookp gy2 ((l).f2) ((l).f3) Dy2, Sx.blk b1 [.slice (Al0) (((l).f0).length) (cl0), .slice (Al1) (((l).f1).length) (cl1), .int .i64 ((l).f2), .int .i64 ((l).f3)] 24] ++ R) gy2 ((l).f2) ((l).f3) Dy2 (treeV ((l).f0)) pthy2 (knV ((l).f1)) s (book_reads (R := [bookp gy2 ((l).f2) ((l).f3) Dy2, Sx.blk b1 [.slice (Al0) (((l).f0).length) (cl0), .slice (Al1) (((l).f1).length) (cl1), .int .i64 ((l).f2), .int .i64 ((l).f3)] 24] ++ R) (j := 0) rfl) hDy2.1 hwfy2 htly2.1 hDy2.2 (knV_ok _) (by have q_ := hGy2.2.1; omega) (by omega) h) ?_
   rintro e_ w_ ⟨Ap4, cp4, rfl, h⟩
   refine ⟨_, rfl, ?_⟩
   replace h : Sx.St w0 F0 ([Sx.row (Kd.int .i64) 3 (Ap4) (cp4) ((placesV (pointsV (treeV ((l).f0)) (knV ((l).f1)) ((l).f2) ((l).f3)) s)), bookp gy2 ((l).f2) ((l).f3) Dy2, Sx.blk b1 [.slice (Al0) (((l).f0).length) (cl0), .slice (Al1) (((l).f1).length) (cl1), .int .i64 ((l).f2), .int .i64 ((l).f3)] 24] ++ R) _ := h
   refine wl_v rfl rfl (ov_assign _ rfl) ?_
   refine wl_nil ?_
   refine qn_then ?_
   refine wc_seq ?_
   refine wc_seq ?_
   refine wc_region ?_
   refine wl_v rfl rfl (ov_move _ rfl) ?_
   refine wl_v rfl rfl (ov_fieldAddr _ ⟨b1, 0, none⟩ _ rfl fo24_0 rfl) ?_
   refine wl_v rfl rfl (ov_loadb 2 _ h rfl rfl sh22 rfl) ?_
   refine wl_v rfl rfl (ov_fieldAddr _ ⟨b1, 1, none⟩ _ rfl fo24_1 rfl) ?_
   refine wl_v rfl rfl (ov_loadb 2 _ h rfl rfl sh22 rfl) ?_
   refine wl_v rfl rfl (ov_fieldAddr _ ⟨b1, 2, none⟩ _ rfl fo24_2 rfl) ?_
   refine wl_v rfl rfl (ov_loadb 2 _ h rfl rfl sh3 rfl) ?_
   refine wl_v rfl rfl (ov_fieldAddr _ ⟨b1, 3, none⟩ _ rfl fo24_3 rfl) ?_
   refine wl_v rfl rfl (ov_loadb 2 _ h rfl rfl sh3 rfl) ?_
   refine wl_v rfl rfl (ov_move _ rfl) ?_
   refine wl_call _ rfl rfl rfl ent21 (RL.rPlaces_calls (R := [Sx.row (Kd.int .i64) 3 (Ap4) (cp4) ((placesV (pointsV (treeV ((l).f0)) (knV ((l).f1)) ((l).f2) ((l).f3)) s)), bookp gy2 ((l).f2) ((l).f3) Dy2, Sx.blk b1 [.slice (Al0) (((l).f0).length) (cl0), .slice (Al1) (((l).f1).length) (cl1), .int .i64 ((l).f2), .int .i64 ((l).f3)] 24] ++ R) (Al0) (cl0) ((l).f0) (Al1) (cl1) ((l).f1) ((l).f2) ((l).f3) s (fun _ _ h_ => Sx.ro_C hv h_ hCl0) (fun _ _ h_ => Sx.ro_C hv h_ hCl1) hsP hsW (by omega) (by omega) hGy2.2.2.1 hGy2.2.2.2 (by have q_ := hGy2.2.1; omega) (by omega) h) ?_
   rintro e_ w_ ⟨Aq5, cq5, rfl, h⟩
   refine ⟨_, rfl, ?_⟩
   replace h : Sx.St w0 F0 ([Sx.row (Kd.int .i64) 3 (Aq5) (cq5) ((placesV (refPts ((l).f0) ((l).f1) ((l).f2) ((l).f3)) s)), Sx.row (Kd.int .i64) 3 (Ap4) (cp4) ((placesV (pointsV (treeV ((l).f0)) (knV ((l).f1)) ((l).f2) ((l).f3)) s)), bookp gy2 ((l).f2) ((l).f3) Dy2, Sx.blk b1 [.slice (Al0) (((l).f0).length) (cl0), .slice (Al1) (((l).f1).length) (cl1), .int .i64 ((l).f2), .int .i64 ((l).f3)] 24] ++ R) _ := h
   refine wl_call _ rfl rfl rfl ent14 (SM.Same_calls (R := [Sx.row (Kd.int .i64) 3 (Aq5) (cq5) ((placesV (refPts ((l).f0) ((l).f1) ((l).f2) ((l).f3)) s)), Sx.row (Kd.int .i64) 3 (Ap4) (cp4) ((placesV (pointsV (treeV ((l).f0)) (knV ((l).f1)) ((l).f2) ((l).f3)) s)), bookp gy2 ((l).f2) ((l).f3) Dy2, Sx.blk b1 [.slice (Al0) (((l).f0).length) (cl0), .slice (Al1) (((l).f1).length) (cl1), .int .i64 ((l).f2), .int .i64 ((l).f3)] 24] ++ R) (Ap4) (cp4) ((placesV (pointsV (treeV ((l).f0)) (knV ((l).f1)) ((l).f2) ((l).f3)) s)) (Aq5) (cq5) ((placesV (refPts ((l).f0) ((l).f1) ((l).f2) ((l).f3)) s)) (Sx.row_reads_at (R := [Sx.row (Kd.int .i64) 3 (Aq5) (cq5) ((placesV (refPts ((l).f0) ((l).f1) ((l).f2) ((l).f3)) s)), Sx.row (Kd.int .i64) 3 (Ap4) (cp4) ((placesV (pointsV (treeV ((l).f0)) (knV ((l).f1)) ((l).f2) ((l).f3)) s)), bookp gy2 ((l).f2) ((l).f3) Dy2, Sx.blk b1 [.slice (Al0) (((l).f0).length) (cl0), .slice (Al1) (((l).f1).length) (cl1), .int .i64 ((l).f2), .int .i64 ((l).f3)] 24] ++ R) (j := 1) rfl) (Sx.row_reads_at (R := [Sx.row (Kd.int .i64) 3 (Aq5) (cq5) ((placesV (refPts ((l).f0) ((l).f1) ((l).f2) ((l).f3)) s)), Sx.row (Kd.int .i64) 3 (Ap4) (cp4) ((placesV (pointsV (treeV ((l).f0)) (knV ((l).f1)) ((l).f2) ((l).f3)) s)), bookp gy2 ((l).f2) ((l).f3) Dy2, Sx.blk b1 [.slice (Al0) (((l).f0).length) (cl0), .slice (Al1) (((l).f1).length) (cl1), .int .i64 ((l).f2), .int .i64 ((l).f3)] 24] ++ R) (j := 0) rfl) (by (have q_ := places_len (treeV l.f0) (knV_ok l.f1) s l.f2 l.f3; omega)) h) ?_
   rintro e_ w_ ⟨rfl, h⟩
   refine ⟨_, rfl, ?_⟩
   refine wl_v rfl rfl (ov_not _ (¬ (((placesV (pointsV (treeV ((l).f0)) (knV ((l).f1)) ((l).f2) ((l).f3)) s)) = ((placesV (refPts ((l).f0) ((l).f1) ((l).f2) ((l).f3)) s)))) rfl (by first | exact decide_not.symm | simp)) ?_
   refine wl_nil ?_
   refine qn_then ?_
   refine wc_cond (by rfl) (fun c6 => ?_) (fun c6 => ?_)
   ·
    exact absurd (places_eq hGy2.2.2.1 hdeny2 (by have q_ := hGy2.2.1; omega) (by have q_ := hGy2.2.1; omega) s) c6
   ·
    refine wc_skip ?_
    refine qn_then ?_
    refine wc_seq ?_
    refine wc_region ?_
    refine wl_v rfl rfl (ov_assign _ rfl) ?_
    refine wl_nil ?_
    refine qn_then ?_
    refine wc_seq ?_
    refine wc_region ?_
    refine wl_v rfl rfl (ov_assign _ rfl) ?_
    refine wl_nil ?_
    refine qn_then ?_
    refine wc_seq ?_
    refine wc_seq ?_
    refine wc_region ?_
    refine wl_v rfl rfl (ov_assign _ rfl) ?_
    refine wl_nil ?_
    refine qn_then ?_
    refine wc_block ?_
    have hlr_ : (1 ≤ l.f2 ∧ l.f2 ≤ 100) ∧ (1 ≤ l.f3 ∧ l.f3 ≤ 100) := by have q_ := hGy2.2.1; omega
    have hpl_ : PlOk s (placesV (pointsV (treeV ((l).f0)) (knV ((l).f1)) ((l).f2) ((l).f3)) s) := places_pl (fun w_ => ⟨(pts_ok (knV_ok _) w_).2.1, fun x_ hx_ => by have q_ := (pts_ok (knV_ok _) w_).2.2 x_ hx_; omega⟩) hlr_.1.1 hlr_.2.1
    have hpz_ := places_len (treeV ((l).f0)) (knV_ok ((l).f1)) s l.f2 l.f3
    have hsb_ : softB.size = 2 := by decide
    replace h := st_front 3 h
    replace h := st_front 3 h
    replace h := st_front 3 h
    replace h := st_selT [true, true, true, false] h
    refine wc_loop (fun (x_ : Nat × Int × ByteArray × (Option Addr)) => [(1, .string (s)), (2, .pointer (some ⟨b1, 0, none⟩)), (5, .pointer (some ⟨gy2, 0, none⟩)), (6, .slice (x_.2.2.2) ((placesV (pointsV (treeV ((l).f0)) (knV ((l).f1)) ((l).f2) ((l).f3)) s).length) (cp4)), (7, .string (x_.2.2.1)), (8, .int .i64 (x_.2.1)), (9, .int .i64 (((x_.1 : Nat) : Int)))]) (fun (x_ : Nat × Int × ByteArray × (Option Addr)) (w : World) => (x_.2.2.1 ++ putT s (List.drop x_.1 (placesV (pointsV (treeV ((l).f0)) (knV ((l).f1)) ((l).f2) ((l).f3)) s)) (x_.2.1).toNat = putT s (placesV (pointsV (treeV ((l).f0)) (knV ((l).f1)) ((l).f2) ((l).f3)) s) 0 ∧ x_.1 ≤ (placesV (pointsV (treeV ((l).f0)) (knV ((l).f1)) ((l).f2) ((l).f3)) s).length ∧ (0 ≤ x_.2.1 ∧ x_.2.1 ≤ s.size) ∧ (x_.1 < (placesV (pointsV (treeV ((l).f0)) (knV ((l).f1)) ((l).f2) ((l).f3)) s).length → x_.2.1 ≤ (placesV (pointsV (treeV ((l).f0)) (knV ((l).f1)) ((l).f2) ((l).f3)) s).getD x_.1 0) ∧ ((x_.2.2.1).size : Int) ≤ x_.2.1 + 2 * ((x_.1 : Nat) : Int)) ∧ Sx.St w0 F0 ([Sx.row (Kd.int .i64) 3 (x_.2.2.2) (cp4) ((placesV (pointsV (treeV ((l).f0)) (knV ((l).f1)) ((l).f2) ((l).f3)) s)), bookp gy2 ((l).f2) ((l).f3) Dy2, Sx.blk b1 [.slice (Al0) (((l).f0).length) (cl0), .slice (Al1) (((l).f1).length) (cl1), .int .i64 ((l).f2), .int .i64 ((l).f3)] 24] ++ R) w) (fun (x_ : Nat × Int × ByteArray × (Option Addr)) => (placesV (pointsV (treeV ((l).f0)) (knV ((l).f1)) ((l).f2) ((l).f3)) s).length - x_.1) (0, 0, (ByteArray.mk #[]), Ap4) ?_ ?_ ?_
    · exact ⟨rfl, rfl, rfl, rfl, rfl, rfl, (congrArg (fun z_ => some (Value.int .i64 z_)) (show (0 : Int) = ((0 : Nat) : Int) by omega)), trivial⟩
    · exact ⟨⟨nil_app _, Nat.zero_le _, ⟨Int.le_refl _, by show (0 : Int) ≤ s.size; omega⟩, (fun hi_ => (hpl_.2 _ (getD_mem hi_)).1), Int.le_refl _⟩, h⟩
    rintro ⟨i, fr, wt, X⟩ w h
    obtain ⟨hJ, h⟩ := h
    replace hJ : wt ++ putT s (List.drop i (placesV (pointsV (treeV ((l).f0)) (knV ((l).f1)) ((l).f2) ((l).f3)) s)) (fr).toNat = putT s (placesV (pointsV (treeV ((l).f0)) (knV ((l).f1)) ((l).f2) ((l).f3)) s) 0 ∧ i ≤ (placesV (pointsV (treeV ((l).f0)) (knV ((l).f1)) ((l).f2) ((l).f3)) s).length ∧ (0 ≤ fr ∧ fr ≤ s.size) ∧ (i < (placesV (pointsV (treeV ((l).f0)) (knV ((l).f1)) ((l).f2) ((l).f3)) s).length → fr ≤ (placesV (pointsV (treeV ((l).f0)) (knV ((l).f1)) ((l).f2) ((l).f3)) s).getD i 0) ∧ ((wt).size : Int) ≤ fr + 2 * ((i : Nat) : Int) := hJ
    replace h : Sx.St w0 F0 ([Sx.row (Kd.int .i64) 3 (X) (cp4) ((placesV (pointsV (treeV ((l).f0)) (knV ((l).f1)) ((l).f2) ((l).f3)) s)), bookp gy2 ((l).f2) ((l).f3) Dy2, Sx.blk b1 [.slice (Al0) (((l).f0).length) (cl0), .slice (Al1) (((l).f1).length) (cl1), .int .i64 ((l).f2), .int .i64 ((l).f3)] 24] ++ R) w := h
    show Sx.WC _ _ _ _ [(1, .string (s)), (2, .pointer (some ⟨b1, 0, none⟩)), (5, .pointer (some ⟨gy2, 0, none⟩)), (6, .slice (X) ((placesV (pointsV (treeV ((l).f0)) (knV ((l).f1)) ((l).f2) ((l).f3)) s).length) (cp4)), (7, .string (wt)), (8, .int .i64 (fr)), (9, .int .i64 (((i : Nat) : Int)))] _
    have hpg_ : i < (placesV (pointsV (treeV ((l).f0)) (knV ((l).f1)) ((l).f2) ((l).f3)) s).length → 0 ≤ (placesV (pointsV (treeV ((l).f0)) (knV ((l).f1)) ((l).f2) ((l).f3)) s).getD i 0 ∧ (placesV (pointsV (treeV ((l).f0)) (knV ((l).f1)) ((l).f2) ((l).f3)) s).getD i 0 ≤ s.size := fun hi_ => hpl_.2 _ (getD_mem hi_)
    refine wc_seq ?_
    refine wc_seq ?_
    refine wc_region ?_
    refine wl_v rfl rfl (ov_move _ rfl) ?_
    refine wl_v rfl rfl (ov_move _ rfl) ?_
    refine wl_v rfl rfl (ov_len _ _ _ _ _ rfl es36) ?_
    refine wl_v rfl rfl (ov_bin _ rfl rfl (binR_lss)) ?_
    refine wl_nil ?_
    refine qn_then ?_
    refine wc_cond (by rfl) (fun c7 => ?_) (fun c7 => ?_)
    ·
     have hpi_ := hpg_ (by omega)
     have hfi_ := hJ.2.2.2.1 (by omega)
     have hes_ : (s.extract fr.toNat ((placesV (pointsV (treeV ((l).f0)) (knV ((l).f1)) (l.f2) (l.f3)) s).getD i 0).toNat).size = ((placesV (pointsV (treeV ((l).f0)) (knV ((l).f1)) (l.f2) (l.f3)) s).getD i 0).toNat - fr.toNat := by rw [ByteArray.size_extract]; omega
     refine wc_skip ?_
     refine qn_then ?_
     refine wc_seq ?_
     refine wc_block ?_
     refine wc_seq ?_
     refine wc_region ?_
     refine wl_v rfl rfl (ov_move _ rfl) ?_
     refine wl_v rfl rfl (ov_move _ rfl) ?_
     refine wl_v rfl rfl (ov_move _ rfl) ?_
     refine wl_v rfl rfl (ov_move _ rfl) ?_
     refine wl_v rfl rfl (ov_move _ rfl) ?_
     obtain ⟨ad8, rfl⟩ := Sx.C_some ((Sx.row_reads h (i := 0) rfl).2) (k := (i : Nat)) (by first | assumption | omega | (simp only [List.length_set, List.length_append, List.length_cons, List.length_nil]; omega))
     refine wl_v rfl rfl (ov_indexAddrN _ _ _ _ _ (i : Nat) rfl rfl es36 rfl (by first | assumption | omega | (simp only [List.length_take, List.length_drop, List.length_set, List.length_append, List.length_cons, List.length_nil]; omega))) ?_
     obtain ⟨cl11, _, hk10, hc9⟩ := Sx.C_cells ((Sx.row_reads h (i := 0) rfl).2) (z := (0 : Int)) (k := (i : Nat)) (by first | assumption | omega | (simp only [List.length_set, List.length_append, List.length_cons, List.length_nil]; omega))
     obtain rfl : cl11 = [.int .i64 _] := hk10
     refine wl_v rfl rfl (ov_load1 _ _ rfl sh3 ((hc9 0 _ rfl))) ?_
     refine wl_v rfl rfl (ov_slices _ ((fr : Int).toNat) ((((placesV (pointsV (treeV ((l).f0)) (knV ((l).f1)) ((l).f2) ((l).f3)) s)).getD (i : Nat) (0 : Int) : Int).toNat) (by rfl) (by exact ⟨_, _, rfl, (by omega)⟩) (by exact ⟨_, _, rfl, (by omega)⟩) Try.underlying9 (by omega) (by omega)) ?_
     refine wl_v rfl rfl (ov_bin _ rfl rfl (binR_adds (by first | omega | (rw [ByteArray.size_append, hes_]; omega) | (rw [ByteArray.size_append, ByteArray.size_append, hes_, show (ByteArray.mk #[194, 173]).size = 2 by decide]; omega) | (rw [ByteArray.size_append, show (ByteArray.mk #[194, 173]).size = 2 by decide]; omega)))) ?_
     refine wl_v rfl rfl (ov_bin _ rfl rfl (binR_adds (by first | omega | (rw [ByteArray.size_append, hes_]; omega) | (rw [ByteArray.size_append, ByteArray.size_append, hes_, show (ByteArray.mk #[194, 173]).size = 2 by decide]; omega) | (rw [ByteArray.size_append, show (ByteArray.mk #[194, 173]).size = 2 by decide]; omega)))) ?_
     refine wl_v rfl rfl (ov_assign _ rfl) ?_
     refine wl_nil ?_
     refine qn_then ?_
     refine wc_region ?_
     refine wl_v rfl rfl (ov_move _ rfl) ?_
     refine wl_v rfl rfl (ov_move _ rfl) ?_
     refine wl_v rfl rfl (ov_indexAddrN _ _ _ _ _ (i : Nat) rfl rfl es36 rfl (by first | assumption | omega | (simp only [List.length_take, List.length_drop, List.length_set, List.length_append, List.length_cons, List.length_nil]; omega))) ?_
     obtain ⟨cl14, _, hk13, hc12⟩ := Sx.C_cells ((Sx.row_reads h (i := 0) rfl).2) (z := (0 : Int)) (k := (i : Nat)) (by first | assumption | omega | (simp only [List.length_set, List.length_append, List.length_cons, List.length_nil]; omega))
     obtain rfl : cl14 = [.int .i64 _] := hk13
     refine wl_v rfl rfl (ov_load1 _ _ rfl sh3 ((hc12 0 _ rfl))) ?_
     refine wl_v rfl rfl (ov_assign _ rfl) ?_
     refine wl_nil ?_
     refine qn_block_normal ?_
     refine qn_then ?_
     refine wc_region ?_
     refine wl_v rfl rfl (ov_move _ rfl) ?_
     refine wl_v rfl rfl (ov_bin _ rfl rfl (binR_add (r := (((i : Nat) : Int)) + 1) (Sx.w64 (by first | omega | (rw [ByteArray.size_append, hes_]; omega) | (rw [ByteArray.size_append, ByteArray.size_append, hes_, show (ByteArray.mk #[194, 173]).size = 2 by decide]; omega) | (rw [ByteArray.size_append, show (ByteArray.mk #[194, 173]).size = 2 by decide]; omega))))) ?_
     refine wl_v rfl rfl (ov_assign _ rfl) ?_
     refine wl_nil ?_
     replace h := st_front 2 h
     replace h := st_front 2 h
     replace h := st_front 2 h
     refine qn_next ((i + 1), ((placesV (pointsV (treeV ((l).f0)) (knV ((l).f1)) ((l).f2) ((l).f3)) s)).getD i 0, (((wt) ++ ((s).extract ((fr : Int).toNat) ((((placesV (pointsV (treeV ((l).f0)) (knV ((l).f1)) ((l).f2) ((l).f3)) s)).getD (i : Nat) (0 : Int) : Int).toNat))) ++ (ByteArray.mk #[194, 173])), some ad8) (by show (placesV (pointsV (treeV ((l).f0)) (knV ((l).f1)) ((l).f2) ((l).f3)) s).length - (i + 1) < (placesV (pointsV (treeV ((l).f0)) (knV ((l).f1)) ((l).f2) ((l).f3)) s).length - i; omega) ⟨rfl, rfl, rfl, rfl, rfl, (congrArg (fun z_ => some (Value.int .i64 z_)) (show (((placesV (pointsV (treeV ((l).f0)) (knV ((l).f1)) ((l).f2) ((l).f3)) s)).getD (i : Nat) (0 : Int) : Int) = ((placesV (pointsV (treeV ((l).f0)) (knV ((l).f1)) ((l).f2) ((l).f3)) s)).getD i 0 by omega)), (congrArg (fun z_ => some (Value.int .i64 z_)) (show ((((i : Nat) : Int)) + 1 : Int) = (((i + 1) : Nat) : Int) by omega)), trivial⟩ ?_
     show ((((wt) ++ ((s).extract ((fr : Int).toNat) ((((placesV (pointsV (treeV ((l).f0)) (knV ((l).f1)) ((l).f2) ((l).f3)) s)).getD (i : Nat) (0 : Int) : Int).toNat))) ++ (ByteArray.mk #[194, 173])) ++ putT s (List.drop (i + 1) (placesV (pointsV (treeV ((l).f0)) (knV ((l).f1)) ((l).f2) ((l).f3)) s)) (((placesV (pointsV (treeV ((l).f0)) (knV ((l).f1)) ((l).f2) ((l).f3)) s)).getD i 0).toNat = putT s (placesV (pointsV (treeV ((l).f0)) (knV ((l).f1)) ((l).f2) ((l).f3)) s) 0 ∧ (i + 1) ≤ (placesV (pointsV (treeV ((l).f0)) (knV ((l).f1)) ((l).f2) ((l).f3)) s).length ∧ (0 ≤ ((placesV (pointsV (treeV ((l).f0)) (knV ((l).f1)) ((l).f2) ((l).f3)) s)).getD i 0 ∧ ((placesV (pointsV (treeV ((l).f0)) (knV ((l).f1)) ((l).f2) ((l).f3)) s)).getD i 0 ≤ s.size) ∧ ((i + 1) < (placesV (pointsV (treeV ((l).f0)) (knV ((l).f1)) ((l).f2) ((l).f3)) s).length → ((placesV (pointsV (treeV ((l).f0)) (knV ((l).f1)) ((l).f2) ((l).f3)) s)).getD i 0 ≤ (placesV (pointsV (treeV ((l).f0)) (knV ((l).f1)) ((l).f2) ((l).f3)) s).getD (i + 1) 0) ∧ (((((wt) ++ ((s).extract ((fr : Int).toNat) ((((placesV (pointsV (treeV ((l).f0)) (knV ((l).f1)) ((l).f2) ((l).f3)) s)).getD (i : Nat) (0 : Int) : Int).toNat))) ++ (ByteArray.mk #[194, 173]))).size : Int) ≤ ((placesV (pointsV (treeV ((l).f0)) (knV ((l).f1)) ((l).f2) ((l).f3)) s)).getD i 0 + 2 * (((i + 1) : Nat) : Int)) ∧ _
     have e_ := hJ.1
     rw [drop_get (placesV (pointsV (treeV ((l).f0)) (knV ((l).f1)) ((l).f2) ((l).f3)) s) 0 (by omega), putT] at e_
     exact ⟨⟨by rw [← e_, show ByteArray.mk #[194, 173] = softB from rfl]; simp only [ByteArray.append_assoc], by omega, ⟨by omega, by omega⟩, (fun hi_ => (pl_get hpl_ hi_).2.2 i (by omega)), by rw [ByteArray.size_append, ByteArray.size_append, show (ByteArray.mk #[194, 173]).size = 2 by decide]; omega⟩, h⟩
    ·
     have hes_ : (s.extract fr.toNat s.size).size ≤ s.size := by rw [ByteArray.size_extract]; omega
     refine wc_exit ?_
     refine qn_then_exit ?_
     refine qn_then_exit ?_
     refine qn_block_exit ?_
     refine qn_then ?_
     refine wc_seq ?_
     refine wc_draw (fun w => Sx.St w0 F0 ([Sx.row (Kd.int .i64) 3 (X) (cp4) ((placesV (pointsV (treeV ((l).f0)) (knV ((l).f1)) ((l).f2) ((l).f3)) s)), bookp gy2 ((l).f2) ((l).f3) Dy2, Sx.blk b1 [.slice (Al0) (((l).f0).length) (cl0), .slice (Al1) (((l).f1).length) (cl1), .int .i64 ((l).f2), .int .i64 ((l).f3)] 24] ++ R) w) (by kernel_rfl) ?_
     replace h := st_drew h
     refine wa_tk 0 rfl rfl rfl (st_selT [true, true, true] h) (fun w_ hS => ov_move _ rfl) ?_
     refine wa_tk 1 rfl rfl rfl (st_selT [true, true, true] h) (fun w_ hS => ov_move _ rfl) ?_
     refine wa_tk 3 rfl rfl rfl (st_selT [true, true, true] h) (fun w_ hS => ov_move _ rfl) ?_
     refine wa_tk 4 rfl rfl rfl (st_selT [true, true, true] h) (fun w_ hS => ov_move _ rfl) ?_
     refine wa_tk 5 rfl rfl rfl (st_selT [true, true, true] h) (fun w_ hS => ov_move _ rfl) ?_
     refine wa_tk 6 rfl rfl rfl (st_selT [true, true, true] h) (fun w_ hS => by exact ov_slices _ ((fr : Int).toNat) ((s).size) (by rfl) (by exact ⟨_, _, rfl, (by omega)⟩) (by exact rfl) Try.underlying9 (by omega) (by omega)) ?_
     refine wa_tk 7 rfl rfl rfl (st_selT [true, true, true] h) (fun w_ hS => ov_bin _ rfl rfl (binR_adds (by first | omega | (rw [ByteArray.size_append, hes_]; omega) | (rw [ByteArray.size_append, ByteArray.size_append, hes_, show (ByteArray.mk #[194, 173]).size = 2 by decide]; omega) | (rw [ByteArray.size_append, show (ByteArray.mk #[194, 173]).size = 2 by decide]; omega)))) ?_
     refine wa_one 2 rfl (by kernel_rfl) ?_
     refine wl_call _ rfl rfl rfl ent22 (PC.Put_calls (R := [Sx.row (Kd.int .i64) 3 (X) (cp4) ((placesV (pointsV (treeV ((l).f0)) (knV ((l).f1)) ((l).f2) ((l).f3)) s)), bookp gy2 ((l).f2) ((l).f3) Dy2, Sx.blk b1 [.slice (Al0) (((l).f0).length) (cl0), .slice (Al1) (((l).f1).length) (cl1), .int .i64 ((l).f2), .int .i64 ((l).f3)] 24] ++ R) gy2 ((l).f2) ((l).f3) Dy2 (treeV ((l).f0)) pthy2 (knV ((l).f1)) s (book_reads (R := [Sx.row (Kd.int .i64) 3 (X) (cp4) ((placesV (pointsV (treeV ((l).f0)) (knV ((l).f1)) ((l).f2) ((l).f3)) s)), bookp gy2 ((l).f2) ((l).f3) Dy2, Sx.blk b1 [.slice (Al0) (((l).f0).length) (cl0), .slice (Al1) (((l).f1).length) (cl1), .int .i64 ((l).f2), .int .i64 ((l).f3)] 24] ++ R) (j := 1) rfl) hDy2.1 hwfy2 htly2.1 hDy2.2 (knV_ok _) (by have q_ := hGy2.2.1; omega) (by omega) h) ?_
     rintro e_ w_ ⟨rfl, h⟩
     refine ⟨_, rfl, ?_⟩
     refine wl_nil ?_
     refine qn_wa (st_selT [true, true, true] h) ?_
     refine wa_tk 8 rfl rfl rfl (st_selT [true, true, true] h) (fun w_ hS => ov_bin _ rfl rfl (binR_eqs)) ?_
     refine wa_tk 9 rfl rfl rfl (st_selT [true, true, true] h) (fun w_ hS => ov_assign _ rfl) ?_
     refine wa_done (by kernel_rfl) ?_
     refine qn_then ?_
     refine wc_ret ?_
     replace h := st_selT [false, false, false] h
     refine qn_ret [_] ⟨rfl, trivial⟩ ?_
     have e_ := hJ.1
     rw [List.drop_eq_nil_of_le (by omega), putT] at e_
     have b_ : (decide ((putT s (placesV (pointsV (treeV ((l).f0)) (knV ((l).f1)) ((l).f2) ((l).f3)) s) 0) = ((wt) ++ ((s).extract ((fr : Int).toNat) ((s).size))))) = true := decide_eq_true e_.symm
     exact ⟨congrArg (fun z => Ending.returned (Value.bool z)) b_, h⟩
end Go.Proofs.Ytbeihfcjfkddcaa.L
