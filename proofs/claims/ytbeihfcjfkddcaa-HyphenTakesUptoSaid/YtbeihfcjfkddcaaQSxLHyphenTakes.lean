/- Pruned by wip/prune.py. -/
import Derived.Test.YtbeihfcjfkddcaaProg
import Derived.Test.YtbeihfcjfkddcaaQSxGlue
import Derived.Test.YtbeihfcjfkddcaaQSxFlow
import Derived.Test.YtbeihfcjfkddcaaQSxIter
import Derived.Test.YtbeihfcjfkddcaaQSxBytes
import Derived.Test.YtbeihfcjfkddcaaQHyWf
import Derived.Test.YtbeihfcjfkddcaaQSxRunes
import Derived.Test.YtbeihfcjfkddcaaQSxLetter
import Derived.Test.YtbeihfcjfkddcaaQSxText
import Derived.Test.YtbeihfcjfkddcaaQSxHRead
import Derived.Test.YtbeihfcjfkddcaaQSxHRef
import Derived.Test.YtbeihfcjfkddcaaQSxTree
import Derived.Test.YtbeihfcjfkddcaaQSxBook
import Derived.Test.YtbeihfcjfkddcaaQSxPoints
import Derived.Test.YtbeihfcjfkddcaaQSxKinds
import Derived.Test.YtbeihfcjfkddcaaQSxAwake
namespace Go.Proofs.Ytbeihfcjfkddcaa.L
open Go Go.RowKit Go.Proofs.YtbeihfcjfkddcaaW.PrintWords Go.Proofs.Ytbeihfcjfkddcaa.Hy Go.Proofs.Ytbeihfcjfkddcaa.Given Go.Proofs.Ytbeihfcjfkddcaa.Rn Go.Proofs.Ytbeihfcjfkddcaa.Sx Go.Proofs.Ytbeihfcjfkddcaa.Kinds 
set_option linter.unusedVariables false
set_option linter.unusedSimpArgs false
theorem ent9 : Sx.Ent Try.prog 9 := ⟨Try.f9, Try.func9, by kernel_rfl, by kernel_rfl⟩
theorem fo24_0 : Sx.fieldOff Try.prog 24 0 = some 0 := by kernel_rfl
theorem sh22 : Sx.shapeOf Try.prog 22 = some (false, 1) := by kernel_rfl
theorem es22 : Sx.elemSz Try.prog 22 = some (9, 1) := by kernel_rfl
theorem fo24_1 : Sx.fieldOff Try.prog 24 1 = some 1 := by kernel_rfl
theorem fo24_2 : Sx.fieldOff Try.prog 24 2 = some 2 := by kernel_rfl
theorem sh3 : Sx.shapeOf Try.prog 3 = some (false, 1) := by kernel_rfl
theorem fo24_3 : Sx.fieldOff Try.prog 24 3 = some 3 := by kernel_rfl
theorem ent10 : Sx.Ent Try.prog 10 := ⟨Try.f10, Try.func10, by kernel_rfl, by kernel_rfl⟩
theorem ent11 : Sx.Ent Try.prog 11 := ⟨Try.f11, Try.func11, by kernel_rfl, by kernel_rfl⟩
theorem ent12 : Sx.Ent Try.prog 12 := ⟨Try.f12, Try.func12, by kernel_rfl, by kernel_rfl⟩
set_option maxHeartbeats 4000000 in
set_option maxRecDepth 100000 in
theorem HyphenTakes_calls {w0 w : World} {F0 : Nat → Prop} {R : List Sx.HP} {v0 : World} (l : S24) (Al0 : Option Addr) (cl0 : Nat) (Al1 : Option Addr) (cl1 : Nat) (hv : Sx.RO v0 w0 F0) (hll0 : l.f0.length ≤ cl0) (hCl0 : Kd.string.C v0 Al0 l.f0.length l.f0) (hll1 : l.f1.length ≤ cl1) (hCl1 : Kd.string.C v0 Al1 l.f1.length l.f1) (hsP : ∀ x ∈ l.f0, x.size ≤ 1000000000) (hsW : ∀ x ∈ l.f1, x.size ≤ 1000000000) (hlP : l.f0.length ≤ 1048576) (hlW : l.f1.length ≤ 1048576) (h : Sx.St w0 F0 ([] ++ R) w) : Calls Try.prog 3 #[.agg #[.slice (Al0) (((l).f0).length) (cl0), .slice (Al1) (((l).f1).length) (cl1), .int .i64 ((l).f2), .int .i64 ((l).f3)]] w (fun e w1 => e = .returned (.bool true) ∧ Sx.St w0 F0 R w1) := by
 refine Sx.calls_fn (vs := [.agg #[.slice (Al0) (((l).f0).length) (cl0), .slice (Al1) (((l).f1).length) (cl1), .int .i64 ((l).f2), .int .i64 ((l).f3)]]) Try.func3 rfl Try.ntmps3 rfl ?_
 refine wc_seq ?_
 refine wc_region ?_
 refine wl_box _ h rfl rfl rfl (fun b1 _ h => ?_)
 replace h : Sx.St _ _ (Sx.blk b1 [.slice (Al0) (((l).f0).length) (cl0), .slice (Al1) (((l).f1).length) (cl1), .int .i64 ((l).f2), .int .i64 ((l).f3)] 24 :: _) _ := h
 refine wl_v rfl rfl (ov_assign _ rfl) ?_
 refine wl_nil ?_
 refine qn_then ?_
 refine wc_seq ?_
 refine wc_seq ?_
 refine wc_region ?_
 refine wl_call _ rfl rfl rfl ent9 (AW.awake_calls (R := [Sx.blk b1 [.slice (Al0) (((l).f0).length) (cl0), .slice (Al1) (((l).f1).length) (cl1), .int .i64 ((l).f2), .int .i64 ((l).f3)] 24] ++ R) h) ?_
 rintro e_ w_ ⟨rfl, h⟩
 refine ⟨_, rfl, ?_⟩
 refine wl_v rfl rfl (ov_notb _ rfl) ?_
 refine wl_nil ?_
 refine qn_then ?_
 refine wc_cond_false rfl ?_
 refine wc_skip ?_
 refine qn_then ?_
 refine wc_seq ?_
 refine wc_seq ?_
 refine wc_region ?_
 refine wl_v rfl rfl (ov_fieldAddr _ ⟨b1, 0, none⟩ _ rfl fo24_0 rfl) ?_
 refine wl_v rfl rfl (ov_loadb 0 _ h rfl rfl sh22 rfl) ?_
 refine wl_v rfl rfl (ov_len _ _ _ _ _ rfl es22) ?_
 refine wl_v rfl rfl (ov_bin _ rfl rfl (binR_gtr)) ?_
 refine wl_v rfl rfl (ov_move _ rfl) ?_
 refine wl_split 14 rfl (fun c2 => ?_) (fun c2 => ?_)
 ·
  refine wl_skip rfl rfl ?_
  refine wl_skip rfl rfl ?_
  refine wl_skip rfl rfl ?_
  refine wl_skip rfl rfl ?_
  refine wl_v rfl rfl (ov_pick_true _ rfl rfl) ?_
  refine wl_nil ?_
  refine qn_then ?_
  refine wc_cond_true rfl ?_
  refine wc_seq ?_
  refine wc_region ?_
  refine wl_v rfl rfl (ov_assign _ rfl) ?_
  refine wl_nil ?_
  refine qn_then ?_
  refine wc_ret ?_
  refine qn_then_ret ?_
  replace h := st_selT [false] h
  refine qn_ret [_] ⟨rfl, trivial⟩ ?_
  exact ⟨rfl, h⟩
 ·
  refine wl_v rfl rfl (ov_fieldAddr _ ⟨b1, 1, none⟩ _ rfl fo24_1 rfl) ?_
  refine wl_v rfl rfl (ov_loadb 0 _ h rfl rfl sh22 rfl) ?_
  refine wl_v rfl rfl (ov_len _ _ _ _ _ rfl es22) ?_
  refine wl_v rfl rfl (ov_bin _ rfl rfl (binR_gtr)) ?_
  refine wl_v rfl rfl (ov_pick_false _ rfl rfl) ?_
  refine wl_nil ?_
  refine qn_then ?_
  refine wc_cond (by rfl) (fun c3 => ?_) (fun c3 => ?_)
  ·
   refine wc_seq ?_
   refine wc_region ?_
   refine wl_v rfl rfl (ov_assign _ rfl) ?_
   refine wl_nil ?_
   refine qn_then ?_
   refine wc_ret ?_
   refine qn_then_ret ?_
   replace h := st_selT [false] h
   refine qn_ret [_] ⟨rfl, trivial⟩ ?_
   exact ⟨rfl, h⟩
  ·
   refine wc_skip ?_
   refine qn_then ?_
   refine wc_seq ?_
   refine wc_region ?_
   refine wl_v rfl rfl (ov_fieldAddr _ ⟨b1, 0, none⟩ _ rfl fo24_0 rfl) ?_
   refine wl_v rfl rfl (ov_loadb 0 _ h rfl rfl sh22 rfl) ?_
   refine wl_v rfl rfl (ov_fieldAddr _ ⟨b1, 1, none⟩ _ rfl fo24_1 rfl) ?_
   refine wl_v rfl rfl (ov_loadb 0 _ h rfl rfl sh22 rfl) ?_
   refine wl_v rfl rfl (ov_fieldAddr _ ⟨b1, 2, none⟩ _ rfl fo24_2 rfl) ?_
   refine wl_v rfl rfl (ov_loadb 0 _ h rfl rfl sh3 rfl) ?_
   refine wl_v rfl rfl (ov_fieldAddr _ ⟨b1, 3, none⟩ _ rfl fo24_3 rfl) ?_
   refine wl_v rfl rfl (ov_loadb 0 _ h rfl rfl sh3 rfl) ?_
   refine wl_call _ rfl rfl rfl ent10 (BK.New_calls (R := [Sx.blk b1 [.slice (Al0) (((l).f0).length) (cl0), .slice (Al1) (((l).f1).length) (cl1), .int .i64 ((l).f2), .int .i64 ((l).f3)] 24] ++ R) (Al0) (cl0) ((l).f0) (Al1) (cl1) ((l).f1) ((l).f2) ((l).f3) (fun _ _ h_ => Sx.ro_C hv h_ hCl0) (fun _ _ h_ => Sx.ro_C hv h_ hCl1) hsP hsW (by omega) (by omega) h) ?_
   rintro e_ w_ ⟨cdy4, ply4, hky4, (⟨hcy4, gy4, Dy4, rfl, hDy4, h⟩ | ⟨hcy4, rfl, h⟩)⟩
   ·
    replace h : Sx.St w0 F0 ([bookp gy4 ((l).f2) ((l).f3) Dy4, Sx.blk b1 [.slice (Al0) (((l).f0).length) (cl0), .slice (Al1) (((l).f1).length) (cl1), .int .i64 ((l).f2), .int .i64 ((l).f3)] 24] ++ R) _ := h
    refine ⟨_, rfl, ?_⟩
    refine wl_v rfl rfl (ov_move _ rfl) ?_
    refine wl_v rfl rfl (ov_extract [.pointer (some ⟨gy4, 0, none⟩), .int .i64 (0), .int .i64 (0)] _ rfl rfl) ?_
    refine wl_v rfl rfl (ov_extract [.pointer (some ⟨gy4, 0, none⟩), .int .i64 (0), .int .i64 (0)] _ rfl rfl) ?_
    refine wl_v rfl rfl (ov_extract [.pointer (some ⟨gy4, 0, none⟩), .int .i64 (0), .int .i64 (0)] _ rfl rfl) ?_
    refine wl_v rfl rfl (ov_assign _ rfl) ?_
    refine wl_v rfl rfl (ov_assign _ rfl) ?_
    refine wl_v rfl rfl (ov_assign _ rfl) ?_
    refine wl_nil ?_
    refine qn_then ?_
    refine wc_seq ?_
    refine wc_region ?_
    refine wl_v rfl rfl (ov_fieldAddr _ ⟨b1, 0, none⟩ _ rfl fo24_0 rfl) ?_
    refine wl_v rfl rfl (ov_loadb 1 _ h rfl rfl sh22 rfl) ?_
    refine wl_v rfl rfl (ov_fieldAddr _ ⟨b1, 1, none⟩ _ rfl fo24_1 rfl) ?_
    refine wl_v rfl rfl (ov_loadb 1 _ h rfl rfl sh22 rfl) ?_
    refine wl_v rfl rfl (ov_fieldAddr _ ⟨b1, 2, none⟩ _ rfl fo24_2 rfl) ?_
    refine wl_v rfl rfl (ov_loadb 1 _ h rfl rfl sh3 rfl) ?_
    refine wl_v rfl rfl (ov_fieldAddr _ ⟨b1, 3, none⟩ _ rfl fo24_3 rfl) ?_
    refine wl_v rfl rfl (ov_loadb 1 _ h rfl rfl sh3 rfl) ?_
    refine wl_call _ rfl rfl rfl ent11 (BK.Check_calls (R := [bookp gy4 ((l).f2) ((l).f3) Dy4, Sx.blk b1 [.slice (Al0) (((l).f0).length) (cl0), .slice (Al1) (((l).f1).length) (cl1), .int .i64 ((l).f2), .int .i64 ((l).f3)] 24] ++ R) (Al0) (cl0) ((l).f0) (Al1) (cl1) ((l).f1) ((l).f2) ((l).f3) (fun _ _ h_ => Sx.ro_C hv h_ hCl0) (fun _ _ h_ => Sx.ro_C hv h_ hCl1) hsP hsW (by omega) (by omega) h) ?_
    rintro e_ w_ ⟨cdk5, plk5, rfl, hkk5, h⟩
    refine ⟨_, rfl, ?_⟩
    have hd_ := check_det hky4 hkk5
    obtain rfl : cdk5 = 0 := by omega
    obtain rfl : plk5 = 0 := check_place hkk5
    have hnl_ : 0 < Dy4.NL.length := by rw [hDy4.1.1]; exact (treeV_len _).1
    refine wl_v rfl rfl (ov_move _ rfl) ?_
    refine wl_v rfl rfl (ov_extract [.int .i64 (0), .int .i64 (0)] _ rfl rfl) ?_
    refine wl_v rfl rfl (ov_extract [.int .i64 (0), .int .i64 (0)] _ rfl rfl) ?_
    refine wl_v rfl rfl (ov_assign _ rfl) ?_
    refine wl_v rfl rfl (ov_assign _ rfl) ?_
    refine wl_nil ?_
    refine qn_then ?_
    refine wc_seq ?_
    refine wc_region ?_
    refine wl_v rfl rfl (ov_move _ rfl) ?_
    refine wl_v rfl rfl (ov_move _ rfl) ?_
    refine wl_v rfl rfl (ov_bin (.bool true) rfl rfl (binR_eql)) ?_
    refine wl_v rfl rfl (ov_move _ rfl) ?_
    refine wl_v rfl rfl (ov_move _ rfl) ?_
    refine wl_v rfl rfl (ov_move _ rfl) ?_
    refine wl_v rfl rfl (ov_bin (.bool true) rfl rfl (binR_eql)) ?_
    refine wl_v rfl rfl (ov_pick_true _ rfl rfl) ?_
    refine wl_v rfl rfl (ov_move _ rfl) ?_
    refine wl_v rfl rfl (ov_move _ rfl) ?_
    refine wl_v rfl rfl (ov_bin (.bool false) rfl rfl (binR_eqnil Try.underlying26)) ?_
    refine wl_v rfl rfl (ov_move _ rfl) ?_
    refine wl_v rfl rfl (ov_bin (.bool false) rfl rfl (binR_neq)) ?_
    refine wl_v rfl rfl (ov_bin _ rfl rfl (binR_eqb Try.underlying4)) ?_
    refine wl_v rfl rfl (ov_pick_true _ rfl rfl) ?_
    refine wl_v rfl rfl (ov_move _ rfl) ?_
    refine wl_split 60 rfl (fun c6 => ?_) (fun c6 => ?_)
    ·
     refine wl_v rfl rfl (ov_move _ rfl) ?_
     refine wl_v rfl rfl (ov_bin (.bool false) rfl rfl (binR_eqnil Try.underlying26)) ?_
     refine wl_v rfl rfl (ov_move _ rfl) ?_
     refine wl_v rfl rfl (ov_move _ rfl) ?_
     refine wl_call _ rfl rfl rfl ent12 (BK.Size_calls (R := [bookp gy4 ((l).f2) ((l).f3) Dy4, Sx.blk b1 [.slice (Al0) (((l).f0).length) (cl0), .slice (Al1) (((l).f1).length) (cl1), .int .i64 ((l).f2), .int .i64 ((l).f3)] 24] ++ R) gy4 ((l).f2) ((l).f3) Dy4 (book_reads (R := [bookp gy4 ((l).f2) ((l).f3) Dy4, Sx.blk b1 [.slice (Al0) (((l).f0).length) (cl0), .slice (Al1) (((l).f1).length) (cl1), .int .i64 ((l).f2), .int .i64 ((l).f3)] 24] ++ R) (j := 0) rfl) h) ?_
     rintro e_ w_ ⟨rfl, h⟩
     refine ⟨_, rfl, ?_⟩
     refine wl_v rfl rfl (ov_bin _ rfl rfl (binR_geq)) ?_
     refine wl_v rfl rfl (ov_pick_false _ rfl rfl) ?_
     refine wl_v rfl rfl (ov_pick_true _ rfl rfl) ?_
     refine wl_v rfl rfl (ov_assign _ rfl) ?_
     refine wl_nil ?_
     refine qn_then ?_
     refine wc_ret ?_
     replace h := st_selT [false, false] h
     refine qn_ret [_] ⟨rfl, trivial⟩ ?_
     have b_ : (decide ((1 : Int) ≤ (((Dy4).NL.length : Int)))) = true := by
       first
       | (apply decide_eq_true; omega)
       | (simp; omega)
     exact ⟨congrArg (fun z => Ending.returned (Value.bool z)) b_, h⟩
    ·
     refine wl_skip rfl rfl ?_
     refine wl_skip rfl rfl ?_
     refine wl_skip rfl rfl ?_
     refine wl_skip rfl rfl ?_
     refine wl_skip rfl rfl ?_
     refine wl_skip rfl rfl ?_
     refine wl_skip rfl rfl ?_
     refine wl_v rfl rfl (ov_pick_false _ rfl rfl) ?_
     refine wl_v rfl rfl (ov_assign _ rfl) ?_
     refine wl_nil ?_
     refine qn_then ?_
     refine wc_ret ?_
     replace h := st_selT [false, false] h
     refine qn_ret [_] ⟨rfl, trivial⟩ ?_
     exfalso
     first | omega | contradiction
   ·
    refine ⟨_, rfl, ?_⟩
    refine wl_v rfl rfl (ov_move _ rfl) ?_
    refine wl_v rfl rfl (ov_extract [.pointer none, .int .i64 (cdy4), .int .i64 (ply4)] _ rfl rfl) ?_
    refine wl_v rfl rfl (ov_extract [.pointer none, .int .i64 (cdy4), .int .i64 (ply4)] _ rfl rfl) ?_
    refine wl_v rfl rfl (ov_extract [.pointer none, .int .i64 (cdy4), .int .i64 (ply4)] _ rfl rfl) ?_
    refine wl_v rfl rfl (ov_assign _ rfl) ?_
    refine wl_v rfl rfl (ov_assign _ rfl) ?_
    refine wl_v rfl rfl (ov_assign _ rfl) ?_
    refine wl_nil ?_
    refine qn_then ?_
    refine wc_seq ?_
    refine wc_region ?_
    refine wl_v rfl rfl (ov_fieldAddr _ ⟨b1, 0, none⟩ _ rfl fo24_0 rfl) ?_
    refine wl_v rfl rfl (ov_loadb 0 _ h rfl rfl sh22 rfl) ?_
    refine wl_v rfl rfl (ov_fieldAddr _ ⟨b1, 1, none⟩ _ rfl fo24_1 rfl) ?_
    refine wl_v rfl rfl (ov_loadb 0 _ h rfl rfl sh22 rfl) ?_
    refine wl_v rfl rfl (ov_fieldAddr _ ⟨b1, 2, none⟩ _ rfl fo24_2 rfl) ?_
    refine wl_v rfl rfl (ov_loadb 0 _ h rfl rfl sh3 rfl) ?_
    refine wl_v rfl rfl (ov_fieldAddr _ ⟨b1, 3, none⟩ _ rfl fo24_3 rfl) ?_
    refine wl_v rfl rfl (ov_loadb 0 _ h rfl rfl sh3 rfl) ?_
    refine wl_call _ rfl rfl rfl ent11 (BK.Check_calls (R := [Sx.blk b1 [.slice (Al0) (((l).f0).length) (cl0), .slice (Al1) (((l).f1).length) (cl1), .int .i64 ((l).f2), .int .i64 ((l).f3)] 24] ++ R) (Al0) (cl0) ((l).f0) (Al1) (cl1) ((l).f1) ((l).f2) ((l).f3) (fun _ _ h_ => Sx.ro_C hv h_ hCl0) (fun _ _ h_ => Sx.ro_C hv h_ hCl1) hsP hsW (by omega) (by omega) h) ?_
    rintro e_ w_ ⟨cdk7, plk7, rfl, hkk7, h⟩
    refine ⟨_, rfl, ?_⟩
    have hd_ := check_det hky4 hkk7
    obtain rfl : cdy4 = cdk7 := hd_.1
    obtain rfl : ply4 = plk7 := hd_.2
    refine wl_v rfl rfl (ov_move _ rfl) ?_
    refine wl_v rfl rfl (ov_extract [.int .i64 (cdy4), .int .i64 (ply4)] _ rfl rfl) ?_
    refine wl_v rfl rfl (ov_extract [.int .i64 (cdy4), .int .i64 (ply4)] _ rfl rfl) ?_
    refine wl_v rfl rfl (ov_assign _ rfl) ?_
    refine wl_v rfl rfl (ov_assign _ rfl) ?_
    refine wl_nil ?_
    refine qn_then ?_
    refine wc_seq ?_
    refine wc_region ?_
    refine wl_v rfl rfl (ov_move _ rfl) ?_
    refine wl_v rfl rfl (ov_move _ rfl) ?_
    refine wl_v rfl rfl (ov_bin _ rfl rfl (binR_eql)) ?_
    refine wl_v rfl rfl (ov_move _ rfl) ?_
    refine wl_split 48 rfl (fun c8 => ?_) (fun c8 => ?_)
    ·
     refine wl_v rfl rfl (ov_move _ rfl) ?_
     refine wl_v rfl rfl (ov_move _ rfl) ?_
     refine wl_v rfl rfl (ov_bin _ rfl rfl (binR_eql)) ?_
     refine wl_v rfl rfl (ov_pick_true _ rfl rfl) ?_
     refine wl_v rfl rfl (ov_move _ rfl) ?_
     refine wl_split 53 rfl (fun c9 => ?_) (fun c9 => ?_)
     ·
      refine wl_v rfl rfl (ov_move _ rfl) ?_
      refine wl_v rfl rfl (ov_bin (.bool true) rfl rfl (binR_eqnil Try.underlying26)) ?_
      refine wl_v rfl rfl (ov_move _ rfl) ?_
      refine wl_v rfl rfl (ov_bin _ rfl rfl (binR_neq)) ?_
      refine wl_v rfl rfl (ov_bin _ rfl rfl (binR_eqb Try.underlying4)) ?_
      refine wl_v rfl rfl (ov_pick_true _ rfl rfl) ?_
      refine wl_v rfl rfl (ov_move _ rfl) ?_
      refine wl_split 60 rfl (fun c10 => ?_) (fun c10 => ?_)
      ·
       refine wl_v rfl rfl (ov_move _ rfl) ?_
       refine wl_v rfl rfl (ov_bin (.bool true) rfl rfl (binR_eqnil Try.underlying26)) ?_
       refine wl_v rfl rfl (ov_move _ rfl) ?_
       refine wl_skip rfl rfl ?_
       refine wl_skip rfl rfl ?_
       refine wl_skip rfl rfl ?_
       refine wl_v rfl rfl (ov_pick_true _ rfl rfl) ?_
       refine wl_v rfl rfl (ov_pick_true _ rfl rfl) ?_
       refine wl_v rfl rfl (ov_assign _ rfl) ?_
       refine wl_nil ?_
       refine qn_then ?_
       refine wc_ret ?_
       replace h := st_selT [false] h
       refine qn_ret [_] ⟨rfl, trivial⟩ ?_
       exact ⟨rfl, h⟩
      ·
       exact absurd (by simp; omega) c10
     ·
      refine wl_skip rfl rfl ?_
      refine wl_skip rfl rfl ?_
      refine wl_skip rfl rfl ?_
      refine wl_skip rfl rfl ?_
      refine wl_skip rfl rfl ?_
      refine wl_v rfl rfl (ov_pick_false _ rfl rfl) ?_
      refine wl_v rfl rfl (ov_move _ rfl) ?_
      refine wl_skip rfl rfl ?_
      refine wl_skip rfl rfl ?_
      refine wl_skip rfl rfl ?_
      refine wl_skip rfl rfl ?_
      refine wl_skip rfl rfl ?_
      refine wl_skip rfl rfl ?_
      refine wl_skip rfl rfl ?_
      refine wl_v rfl rfl (ov_pick_false _ rfl rfl) ?_
      refine wl_v rfl rfl (ov_assign _ rfl) ?_
      refine wl_nil ?_
      refine qn_then ?_
      refine wc_ret ?_
      replace h := st_selT [false] h
      refine qn_ret [_] ⟨rfl, trivial⟩ ?_
      exfalso
      first | omega | contradiction
    ·
     refine wl_skip rfl rfl ?_
     refine wl_skip rfl rfl ?_
     refine wl_skip rfl rfl ?_
     refine wl_v rfl rfl (ov_pick_false _ rfl rfl) ?_
     refine wl_v rfl rfl (ov_move _ rfl) ?_
     refine wl_skip rfl rfl ?_
     refine wl_skip rfl rfl ?_
     refine wl_skip rfl rfl ?_
     refine wl_skip rfl rfl ?_
     refine wl_skip rfl rfl ?_
     refine wl_v rfl rfl (ov_pick_false _ rfl rfl) ?_
     refine wl_v rfl rfl (ov_move _ rfl) ?_
     refine wl_skip rfl rfl ?_
     refine wl_skip rfl rfl ?_
     refine wl_skip rfl rfl ?_
     refine wl_skip rfl rfl ?_
     refine wl_skip rfl rfl ?_
     refine wl_skip rfl rfl ?_
     refine wl_skip rfl rfl ?_
     refine wl_v rfl rfl (ov_pick_false _ rfl rfl) ?_
     refine wl_v rfl rfl (ov_assign _ rfl) ?_
     refine wl_nil ?_
     refine qn_then ?_
     refine wc_ret ?_
     replace h := st_selT [false] h
     refine qn_ret [_] ⟨rfl, trivial⟩ ?_
     exfalso
     first | omega | contradiction
end Go.Proofs.Ytbeihfcjfkddcaa.L
