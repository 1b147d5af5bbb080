/- Pruned by wip/prune.py. -/
import Derived.Test.YtbeihfcjfkddcaaProg
import Derived.Test.YtbeihfcjfkddcaaQSxGlue
import Derived.Test.YtbeihfcjfkddcaaQSxFlow
import Derived.Test.YtbeihfcjfkddcaaQSxIter
import Derived.Test.YtbeihfcjfkddcaaQSxBytes
import Derived.Test.YtbeihfcjfkddcaaQRunesPure
namespace Go.Proofs.Ytbeihfcjfkddcaa.RN
open Go Go.RowKit Go.Proofs.YtbeihfcjfkddcaaW.PrintWords Go.Proofs.Ytbeihfcjfkddcaa.Given Go.Proofs.Ytbeihfcjfkddcaa.Rn Go.Proofs.Ytbeihfcjfkddcaa.Sx 
set_option linter.unusedVariables false
set_option linter.unusedSimpArgs false
theorem ent50 : Sx.Ent Try.prog 50 := ⟨Try.f50, Try.func50, by kernel_rfl, by kernel_rfl⟩
theorem infb3 : (Try.prog.info? 3).map (fun i => (i.zero, i.size)) = some (some (.int .i64 (0)), 1) := by kernel_rfl
theorem es36 : Sx.elemSz Try.prog 36 = some (3, 1) := by kernel_rfl
theorem sh3 : Sx.shapeOf Try.prog 3 = some (false, 1) := by kernel_rfl
theorem ent47 : Sx.Ent Try.prog 47 := ⟨Try.f47, Try.func47, by kernel_rfl, by kernel_rfl⟩
theorem ent48 : Sx.Ent Try.prog 48 := ⟨Try.f48, Try.func48, by kernel_rfl, by kernel_rfl⟩
theorem ent49 : Sx.Ent Try.prog 49 := ⟨Try.f49, Try.func49, by kernel_rfl, by kernel_rfl⟩
theorem ent41 : Sx.Ent Try.prog 41 := ⟨Try.f41, Try.func41, by kernel_rfl, by kernel_rfl⟩
theorem inf3 : (Try.prog.info? 3).map (fun i => (i.zero, i.size, i.bytes)) = some (some (.int .i64 (0)), 1, 8) := by kernel_rfl
theorem ent24 : Sx.Ent Try.prog 24 := ⟨Try.f24, Try.func24, by kernel_rfl, by kernel_rfl⟩
theorem ent43 : Sx.Ent Try.prog 43 := ⟨Try.f43, Try.func43, by kernel_rfl, by kernel_rfl⟩
set_option maxHeartbeats 4000000 in
set_option maxRecDepth 100000 in
theorem IsRune_calls {w0 w : World} {F0 : Nat → Prop} {R : List Sx.HP} (r : Int)  (h : Sx.St w0 F0 ([] ++ R) w) : Calls Try.prog 50 #[.int .i64 (r)] w (fun e w1 => e = .returned (.bool (decide (¬ (r < 0 ∨ 1114111 < r ∨ (55296 ≤ r ∧ r ≤ 57343))))) ∧ Sx.St w0 F0 R w1) := by
 refine Sx.calls_fn (vs := [.int .i64 (r)]) Try.func50 rfl Try.ntmps50 rfl ?_
 refine wc_seq ?_
 refine wc_region ?_
 refine wl_v rfl rfl (ov_assign _ rfl) ?_
 refine wl_nil ?_
 refine qn_then ?_
 refine wc_seq ?_
 refine wc_region ?_
 refine wl_v rfl rfl (ov_move _ rfl) ?_
 refine wl_v rfl rfl (ov_bin _ rfl rfl (binR_geq)) ?_
 refine wl_v rfl rfl (ov_move _ rfl) ?_
 refine wl_split 5 rfl (fun c1 => ?_) (fun c1 => ?_)
 ·
  refine wl_v rfl rfl (ov_move _ rfl) ?_
  refine wl_v rfl rfl (ov_bin _ rfl rfl (binR_leq)) ?_
  refine wl_v rfl rfl (ov_pick_true _ rfl rfl) ?_
  refine wl_v rfl rfl (ov_move _ rfl) ?_
  refine wl_split 9 rfl (fun c2 => ?_) (fun c2 => ?_)
  ·
   refine wl_v rfl rfl (ov_move _ rfl) ?_
   refine wl_v rfl rfl (ov_bin _ rfl rfl (binR_lss)) ?_
   refine wl_v rfl rfl (ov_move _ rfl) ?_
   refine wl_split 12 rfl (fun c3 => ?_) (fun c3 => ?_)
   ·
    refine wl_skip rfl rfl ?_
    refine wl_skip rfl rfl ?_
    refine wl_v rfl rfl (ov_pick_true _ rfl rfl) ?_
    refine wl_v rfl rfl (ov_pick_true _ rfl rfl) ?_
    refine wl_v rfl rfl (ov_assign _ rfl) ?_
    refine wl_nil ?_
    refine qn_then ?_
    refine wc_ret ?_
    refine qn_ret [_] ⟨rfl, trivial⟩ ?_
    exact ⟨congrArg (fun z => Ending.returned (Value.bool z)) (by rw [Bool.eq_iff_iff]; simp; omega), h⟩
   ·
    refine wl_v rfl rfl (ov_move _ rfl) ?_
    refine wl_v rfl rfl (ov_bin _ rfl rfl (binR_gtr)) ?_
    refine wl_v rfl rfl (ov_pick_false _ rfl rfl) ?_
    refine wl_v rfl rfl (ov_pick_true _ rfl rfl) ?_
    refine wl_v rfl rfl (ov_assign _ rfl) ?_
    refine wl_nil ?_
    refine qn_then ?_
    refine wc_ret ?_
    refine qn_ret [_] ⟨rfl, trivial⟩ ?_
    exact ⟨congrArg (fun z => Ending.returned (Value.bool z)) (by rw [Bool.eq_iff_iff]; simp; omega), h⟩
  ·
   refine wl_skip rfl rfl ?_
   refine wl_skip rfl rfl ?_
   refine wl_skip rfl rfl ?_
   refine wl_skip rfl rfl ?_
   refine wl_skip rfl rfl ?_
   refine wl_skip rfl rfl ?_
   refine wl_v rfl rfl (ov_pick_false _ rfl rfl) ?_
   refine wl_v rfl rfl (ov_assign _ rfl) ?_
   refine wl_nil ?_
   refine qn_then ?_
   refine wc_ret ?_
   refine qn_ret [_] ⟨rfl, trivial⟩ ?_
   exact ⟨congrArg (fun z => Ending.returned (Value.bool z)) (by rw [Bool.eq_iff_iff]; simp; omega), h⟩
 ·
  refine wl_skip rfl rfl ?_
  refine wl_skip rfl rfl ?_
  refine wl_v rfl rfl (ov_pick_false _ rfl rfl) ?_
  refine wl_v rfl rfl (ov_move _ rfl) ?_
  refine wl_skip rfl rfl ?_
  refine wl_skip rfl rfl ?_
  refine wl_skip rfl rfl ?_
  refine wl_skip rfl rfl ?_
  refine wl_skip rfl rfl ?_
  refine wl_skip rfl rfl ?_
  refine wl_v rfl rfl (ov_pick_false _ rfl rfl) ?_
  refine wl_v rfl rfl (ov_assign _ rfl) ?_
  refine wl_nil ?_
  refine qn_then ?_
  refine wc_ret ?_
  refine qn_ret [_] ⟨rfl, trivial⟩ ?_
  exact ⟨congrArg (fun z => Ending.returned (Value.bool z)) (by rw [Bool.eq_iff_iff]; simp; omega), h⟩
set_option maxHeartbeats 4000000 in
set_option maxRecDepth 100000 in
theorem Bytes_calls {w0 w : World} {F0 : Nat → Prop} {R : List Sx.HP} (r : Int)  (h : Sx.St w0 F0 ([] ++ R) w) : Calls Try.prog 48 #[.int .i64 (r)] w (fun e w1 => ∃ A c, e = .returned (.slice A (bytesV r).length c) ∧ Sx.St w0 F0 ([Sx.row (Kd.int .i64) 3 (A) (c) ((bytesV r))] ++ R) w1) := by
 refine Sx.calls_fn (vs := [.int .i64 (r)]) Try.func48 rfl Try.ntmps48 rfl ?_
 refine wc_seq ?_
 refine wc_region ?_
 refine wl_v rfl rfl (ov_assign _ rfl) ?_
 refine wl_nil ?_
 refine qn_then ?_
 refine wc_seq ?_
 refine wc_seq ?_
 refine wc_region ?_
 refine wl_v rfl rfl (ov_move _ rfl) ?_
 refine wl_call _ rfl rfl rfl ent50 (RN.IsRune_calls (R := [] ++ R) (r) h) ?_
 rintro e_ w_ ⟨rfl, h⟩
 refine ⟨_, rfl, ?_⟩
 refine wl_v rfl rfl (ov_not _ (¬ (¬ (r < 0 ∨ 1114111 < r ∨ (55296 ≤ r ∧ r ≤ 57343)))) rfl (by first | exact decide_not.symm | simp)) ?_
 refine wl_nil ?_
 refine qn_then ?_
 refine wc_cond (by rfl) (fun c1 => ?_) (fun c1 => ?_)
 ·
  refine wc_seq ?_
  refine wc_region ?_
  refine wl_v rfl rfl (ov_assign _ rfl) ?_
  refine wl_nil ?_
  refine qn_then ?_
  refine wc_ret ?_
  refine qn_then_ret ?_
  replace h := st_nilrow (Kd.int .i64) 3 h
  refine qn_ret [_] ⟨rfl, trivial⟩ ?_
  have e_ : bytesV r = [] := by unfold bytesV; rw [if_pos (by omega)]
  rw [e_]
  exact ⟨none, 0, rfl, h⟩
 ·
  refine wc_skip ?_
  refine qn_then ?_
  refine wc_seq ?_
  refine wc_seq ?_
  refine wc_region ?_
  refine wl_v rfl rfl (ov_move _ rfl) ?_
  refine wl_v rfl rfl (ov_bin _ rfl rfl (binR_lss)) ?_
  refine wl_nil ?_
  refine qn_then ?_
  refine wc_cond (by rfl) (fun c2 => ?_) (fun c2 => ?_)
  ·
   refine wc_seq ?_
   refine wc_region ?_
   refine wl_v rfl rfl (ov_move _ rfl) ?_
   refine wl_lit (d := (Kd.int .i64)) [(0, .int .i64 (r))] _ [.int .i64 (r)] ([r]) h rfl rfl rfl rfl Try.underlying36 infb3 rfl (by decide) (by kernel_rfl) rfl (fun _ _ _ => ((Reps.none _ _).snoc ((Sx.mkInt .i64 (r))) rfl)) (fun A3 cp4 _ h => ?_)
   refine wl_v rfl rfl (ov_assign _ rfl) ?_
   refine wl_nil ?_
   refine qn_then ?_
   refine wc_ret ?_
   refine qn_then_ret ?_
   refine qn_ret [_] ⟨rfl, trivial⟩ ?_
   have e_ : bytesV r = [r] := by
     unfold bytesV
     repeat' split
     all_goals first | rfl | (exfalso; omega)
   rw [e_]
   exact ⟨A3, cp4, rfl, h⟩
  ·
   refine wc_skip ?_
   refine qn_then ?_
   refine wc_seq ?_
   refine wc_seq ?_
   refine wc_region ?_
   refine wl_v rfl rfl (ov_move _ rfl) ?_
   refine wl_v rfl rfl (ov_bin _ rfl rfl (binR_lss)) ?_
   refine wl_nil ?_
   refine qn_then ?_
   refine wc_cond (by rfl) (fun c5 => ?_) (fun c5 => ?_)
   ·
    refine wc_seq ?_
    refine wc_region ?_
    refine wl_v rfl rfl (ov_move _ rfl) ?_
    refine wl_v rfl rfl (ov_bin _ rfl rfl (binR_quo (r := r / 64) (by decide) ((congrArg _ (Int.tdiv_eq_ediv_of_nonneg (by omega))).trans (Sx.w64 (by omega))))) ?_
    refine wl_v rfl rfl (ov_bin _ rfl rfl (binR_add (r := 192 + (r / 64)) (Sx.w64 (by omega)))) ?_
    refine wl_v rfl rfl (ov_move _ rfl) ?_
    refine wl_v rfl rfl (ov_bin _ rfl rfl (binR_rem (r := r % 64) (by decide) (Int.tmod_eq_emod_of_nonneg (by omega)))) ?_
    refine wl_v rfl rfl (ov_bin _ rfl rfl (binR_add (r := 128 + (r % 64)) (Sx.w64 (by omega)))) ?_
    refine wl_lit (d := (Kd.int .i64)) [(0, .int .i64 (192 + (r / 64))), (1, .int .i64 (128 + (r % 64)))] _ [.int .i64 (192 + (r / 64)), .int .i64 (128 + (r % 64))] ([192 + (r / 64), 128 + (r % 64)]) h rfl rfl rfl rfl Try.underlying36 infb3 rfl (by decide) (by kernel_rfl) rfl (fun _ _ _ => (((Reps.none _ _).snoc ((Sx.mkInt .i64 (192 + (r / 64)))) rfl).snoc ((Sx.mkInt .i64 (128 + (r % 64)))) rfl)) (fun A6 cp7 _ h => ?_)
    refine wl_v rfl rfl (ov_assign _ rfl) ?_
    refine wl_nil ?_
    refine qn_then ?_
    refine wc_ret ?_
    refine qn_then_ret ?_
    refine qn_ret [_] ⟨rfl, trivial⟩ ?_
    have e_ : bytesV r = [192 + (r / 64), 128 + (r % 64)] := by
      unfold bytesV
      repeat' split
      all_goals first | rfl | (exfalso; omega)
    rw [e_]
    exact ⟨A6, cp7, rfl, h⟩
   ·
    refine wc_skip ?_
    refine qn_then ?_
    refine wc_seq ?_
    refine wc_seq ?_
    refine wc_region ?_
    refine wl_v rfl rfl (ov_move _ rfl) ?_
    refine wl_v rfl rfl (ov_bin _ rfl rfl (binR_lss)) ?_
    refine wl_nil ?_
    refine qn_then ?_
    refine wc_cond (by rfl) (fun c8 => ?_) (fun c8 => ?_)
    ·
     refine wc_seq ?_
     refine wc_region ?_
     refine wl_v rfl rfl (ov_move _ rfl) ?_
     refine wl_v rfl rfl (ov_bin _ rfl rfl (binR_quo (r := r / 4096) (by decide) ((congrArg _ (Int.tdiv_eq_ediv_of_nonneg (by omega))).trans (Sx.w64 (by omega))))) ?_
     refine wl_v rfl rfl (ov_bin _ rfl rfl (binR_add (r := 224 + (r / 4096)) (Sx.w64 (by omega)))) ?_
     refine wl_v rfl rfl (ov_move _ rfl) ?_
     refine wl_v rfl rfl (ov_bin _ rfl rfl (binR_quo (r := r / 64) (by decide) ((congrArg _ (Int.tdiv_eq_ediv_of_nonneg (by omega))).trans (Sx.w64 (by omega))))) ?_
     refine wl_v rfl rfl (ov_bin _ rfl rfl (binR_rem (r := (r / 64) % 64) (by decide) (Int.tmod_eq_emod_of_nonneg (by omega)))) ?_
     refine wl_v rfl rfl (ov_bin _ rfl rfl (binR_add (r := 128 + ((r / 64) % 64)) (Sx.w64 (by omega)))) ?_
     refine wl_v rfl rfl (ov_move _ rfl) ?_
     refine wl_v rfl rfl (ov_bin _ rfl rfl (binR_rem (r := r % 64) (by decide) (Int.tmod_eq_emod_of_nonneg (by omega)))) ?_
     refine wl_v rfl rfl (ov_bin _ rfl rfl (binR_add (r := 128 + (r % 64)) (Sx.w64 (by omega)))) ?_
     refine wl_lit (d := (Kd.int .i64)) [(0, .int .i64 (224 + (r / 4096))), (1, .int .i64 (128 + ((r / 64) % 64))), (2, .int .i64 (128 + (r % 64)))] _ [.int .i64 (224 + (r / 4096)), .int .i64 (128 + ((r / 64) % 64)), .int .i64 (128 + (r % 64))] ([224 + (r / 4096), 128 + ((r / 64) % 64), 128 + (r % 64)]) h rfl rfl rfl rfl Try.underlying36 infb3 rfl (by decide) (by kernel_rfl) rfl (fun _ _ _ => ((((Reps.none _ _).snoc ((Sx.mkInt .i64 (224 + (r / 4096)))) rfl).snoc ((Sx.mkInt .i64 (128 + ((r / 64) % 64)))) rfl).snoc ((Sx.mkInt .i64 (128 + (r % 64)))) rfl)) (fun A9 cp10 _ h => ?_)
     refine wl_v rfl rfl (ov_assign _ rfl) ?_
     refine wl_nil ?_
     refine qn_then ?_
     refine wc_ret ?_
     refine qn_then_ret ?_
     refine qn_ret [_] ⟨rfl, trivial⟩ ?_
     have e_ : bytesV r = [224 + (r / 4096), 128 + ((r / 64) % 64), 128 + (r % 64)] := by
       unfold bytesV
       repeat' split
       all_goals first | rfl | (exfalso; omega)
     rw [e_]
     exact ⟨A9, cp10, rfl, h⟩
    ·
     refine wc_skip ?_
     refine qn_then ?_
     refine wc_seq ?_
     refine wc_region ?_
     refine wl_v rfl rfl (ov_move _ rfl) ?_
     refine wl_v rfl rfl (ov_bin _ rfl rfl (binR_quo (r := r / 262144) (by decide) ((congrArg _ (Int.tdiv_eq_ediv_of_nonneg (by omega))).trans (Sx.w64 (by omega))))) ?_
     refine wl_v rfl rfl (ov_bin _ rfl rfl (binR_add (r := 240 + (r / 262144)) (Sx.w64 (by omega)))) ?_
     refine wl_v rfl rfl (ov_move _ rfl) ?_
     refine wl_v rfl rfl (ov_bin _ rfl rfl (binR_quo (r := r / 4096) (by decide) ((congrArg _ (Int.tdiv_eq_ediv_of_nonneg (by omega))).trans (Sx.w64 (by omega))))) ?_
     refine wl_v rfl rfl (ov_bin _ rfl rfl (binR_rem (r := (r / 4096) % 64) (by decide) (Int.tmod_eq_emod_of_nonneg (by omega)))) ?_
     refine wl_v rfl rfl (ov_bin _ rfl rfl (binR_add (r := 128 + ((r / 4096) % 64)) (Sx.w64 (by omega)))) ?_
     refine wl_v rfl rfl (ov_move _ rfl) ?_
     refine wl_v rfl rfl (ov_bin _ rfl rfl (binR_quo (r := r / 64) (by decide) ((congrArg _ (Int.tdiv_eq_ediv_of_nonneg (by omega))).trans (Sx.w64 (by omega))))) ?_
     refine wl_v rfl rfl (ov_bin _ rfl rfl (binR_rem (r := (r / 64) % 64) (by decide) (Int.tmod_eq_emod_of_nonneg (by omega)))) ?_
     refine wl_v rfl rfl (ov_bin _ rfl rfl (binR_add (r := 128 + ((r / 64) % 64)) (Sx.w64 (by omega)))) ?_
     refine wl_v rfl rfl (ov_move _ rfl) ?_
     refine wl_v rfl rfl (ov_bin _ rfl rfl (binR_rem (r := r % 64) (by decide) (Int.tmod_eq_emod_of_nonneg (by omega)))) ?_
     refine wl_v rfl rfl (ov_bin _ rfl rfl (binR_add (r := 128 + (r % 64)) (Sx.w64 (by omega)))) ?_
     refine wl_lit (d := (Kd.int .i64)) [(0, .int .i64 (240 + (r / 262144))), (1, .int .i64 (128 + ((r / 4096) % 64))), (2, .int .i64 (128 + ((r / 64) % 64))), (3, .int .i64 (128 + (r % 64)))] _ [.int .i64 (240 + (r / 262144)), .int .i64 (128 + ((r / 4096) % 64)), .int .i64 (128 + ((r / 64) % 64)), .int .i64 (128 + (r % 64))] ([240 + (r / 262144), 128 + ((r / 4096) % 64), 128 + ((r / 64) % 64), 128 + (r % 64)]) h rfl rfl rfl rfl Try.underlying36 infb3 rfl (by decide) (by kernel_rfl) rfl (fun _ _ _ => (((((Reps.none _ _).snoc ((Sx.mkInt .i64 (240 + (r / 262144)))) rfl).snoc ((Sx.mkInt .i64 (128 + ((r / 4096) % 64)))) rfl).snoc ((Sx.mkInt .i64 (128 + ((r / 64) % 64)))) rfl).snoc ((Sx.mkInt .i64 (128 + (r % 64)))) rfl)) (fun A11 cp12 _ h => ?_)
     refine wl_v rfl rfl (ov_assign _ rfl) ?_
     refine wl_nil ?_
     refine qn_then ?_
     refine wc_ret ?_
     refine qn_ret [_] ⟨rfl, trivial⟩ ?_
     have e_ : bytesV r = [240 + (r / 262144), 128 + ((r / 4096) % 64), 128 + ((r / 64) % 64), 128 + (r % 64)] := by
       unfold bytesV
       repeat' split
       all_goals first | rfl | (exfalso; omega)
     rw [e_]
     exact ⟨A11, cp12, rfl, h⟩
set_option maxHeartbeats 4000000 in
set_option maxRecDepth 100000 in
theorem begins_calls {w0 w : World} {F0 : Nat → Prop} {R : List Sx.HP} {v0 : World} (s : ByteArray) (p : Int) (l : List Int) (A : Option Addr) (c : Nat) (hv : Sx.RO v0 w0 F0) (hp0 : 0 ≤ p) (hp : p ≤ s.size) (hll : l.length ≤ 1000) (hlc : l.length ≤ c) (hC : (Kd.int .i64).C v0 A l.length l) (hs : s.size ≤ 1125899906842624) (h : Sx.St w0 F0 ([] ++ R) w) : Calls Try.prog 49 #[.string (s), .int .i64 (p), .slice (A) (l.length) (c)] w (fun e w1 => e = .returned (.bool (decide (BeginsP s p l))) ∧ Sx.St w0 F0 R w1) := by
 refine Sx.calls_fn (vs := [.string (s), .int .i64 (p), .slice (A) (l.length) (c)]) Try.func49 rfl Try.ntmps49 rfl ?_
 refine wc_seq ?_
 refine wc_region ?_
 refine wl_v rfl rfl (ov_assign _ rfl) ?_
 refine wl_nil ?_
 refine qn_then ?_
 refine wc_seq ?_
 refine wc_seq ?_
 refine wc_region ?_
 refine wl_v rfl rfl (ov_move _ rfl) ?_
 refine wl_v rfl rfl (ov_len _ _ _ _ _ rfl es36) ?_
 refine wl_v rfl rfl (ov_bin _ rfl rfl (binR_eql)) ?_
 refine wl_v rfl rfl (ov_move _ rfl) ?_
 refine wl_split 11 rfl (fun c1 => ?_) (fun c1 => ?_)
 ·
  refine wl_skip rfl rfl ?_
  refine wl_skip rfl rfl ?_
  refine wl_skip rfl rfl ?_
  refine wl_skip rfl rfl ?_
  refine wl_skip rfl rfl ?_
  refine wl_skip rfl rfl ?_
  refine wl_skip rfl rfl ?_
  refine wl_v rfl rfl (ov_pick_true _ rfl rfl) ?_
  refine wl_nil ?_
  refine qn_then ?_
  refine wc_cond_true rfl ?_
  refine wc_seq ?_
  refine wc_region ?_
  refine wl_v rfl rfl (ov_assign _ rfl) ?_
  refine wl_nil ?_
  refine qn_then ?_
  refine wc_ret ?_
  refine qn_then_ret ?_
  refine qn_ret [_] ⟨rfl, trivial⟩ ?_
  exact ⟨congrArg (fun z => Ending.returned (Value.bool z)) (decide_eq_false (fun z_ => by have q1_ := List.length_pos_iff.2 z_.1; have q2_ := z_.2.1; omega)).symm, h⟩
 ·
  refine wl_v rfl rfl (ov_move _ rfl) ?_
  refine wl_v rfl rfl (ov_move _ rfl) ?_
  refine wl_v rfl rfl (ov_len _ _ _ _ _ rfl es36) ?_
  refine wl_v rfl rfl (ov_bin _ rfl rfl (binR_add (r := p + (((l.length : Nat) : Int))) (Sx.w64 (by omega)))) ?_
  refine wl_v rfl rfl (ov_move _ rfl) ?_
  refine wl_v rfl rfl (ov_lens _ rfl Try.underlying9) ?_
  refine wl_v rfl rfl (ov_bin _ rfl rfl (binR_gtr)) ?_
  refine wl_v rfl rfl (ov_pick_false _ rfl rfl) ?_
  refine wl_nil ?_
  refine qn_then ?_
  refine wc_cond (by rfl) (fun c2 => ?_) (fun c2 => ?_)
  ·
   refine wc_seq ?_
   refine wc_region ?_
   refine wl_v rfl rfl (ov_assign _ rfl) ?_
   refine wl_nil ?_
   refine qn_then ?_
   refine wc_ret ?_
   refine qn_then_ret ?_
   refine qn_ret [_] ⟨rfl, trivial⟩ ?_
   exact ⟨congrArg (fun z => Ending.returned (Value.bool z)) (decide_eq_false (fun z_ => by have q1_ := List.length_pos_iff.2 z_.1; have q2_ := z_.2.1; omega)).symm, h⟩
  ·
   refine wc_skip ?_
   refine qn_then ?_
   refine wc_seq ?_
   refine wc_seq ?_
   refine wc_region ?_
   refine wl_v rfl rfl (ov_assign _ rfl) ?_
   refine wl_nil ?_
   refine qn_then ?_
   refine wc_block ?_
   refine wc_loop (fun (x_ : Nat) => [(0, .string (s)), (1, .int .i64 (p)), (2, .slice (A) (l.length) (c)), (7, .int .i64 ((x_ : Int)))]) (fun (x_ : Nat) (w : World) => (x_ ≤ l.length ∧ p + (l.length : Int) ≤ s.size ∧ l ≠ [] ∧ ∀ j, j < x_ → bt s (p + (j : Int)) = l.getD j 0) ∧ Sx.St w0 F0 ([] ++ R) w) (fun (x_ : Nat) => l.length - x_) (0) ?_ ?_ ?_
   · exact ⟨rfl, rfl, rfl, (congrArg (fun z_ => some (Value.int .i64 z_)) (show (0 : Int) = (0 : Int) by omega)), trivial⟩
   · exact ⟨⟨Nat.zero_le _, by omega, fun z_ => by (subst z_; simp at *), fun j_ hj_ => absurd hj_ (Nat.not_lt_zero _)⟩, h⟩
   intro i w h
   obtain ⟨hJ, h⟩ := h
   replace hJ : i ≤ l.length ∧ p + (l.length : Int) ≤ s.size ∧ l ≠ [] ∧ ∀ j, j < i → bt s (p + (j : Int)) = l.getD j 0 := hJ
   replace h : Sx.St w0 F0 ([] ++ R) w := h
   show Sx.WC _ _ _ _ [(0, .string (s)), (1, .int .i64 (p)), (2, .slice (A) (l.length) (c)), (7, .int .i64 ((i : Int)))] _
   refine wc_seq ?_
   refine wc_seq ?_
   refine wc_region ?_
   refine wl_v rfl rfl (ov_move _ rfl) ?_
   refine wl_v rfl rfl (ov_move _ rfl) ?_
   refine wl_v rfl rfl (ov_len _ _ _ _ _ rfl es36) ?_
   refine wl_v rfl rfl (ov_bin _ rfl rfl (binR_lss)) ?_
   refine wl_nil ?_
   refine qn_then ?_
   refine wc_cond (by rfl) (fun c3 => ?_) (fun c3 => ?_)
   ·
    refine wc_skip ?_
    refine qn_then ?_
    refine wc_seq ?_
    refine wc_block ?_
    refine wc_seq ?_
    refine wc_draw (fun w => Sx.St w0 F0 ([] ++ R) w) (by kernel_rfl) ?_
    replace h := st_drew h
    refine wa_tk 0 rfl rfl rfl (st_selT [] h) (fun w_ hS => ov_move _ rfl) ?_
    refine wa_tk 1 rfl rfl rfl (st_selT [] h) (fun w_ hS => ov_move _ rfl) ?_
    refine wa_tk 2 rfl rfl rfl (st_selT [] h) (fun w_ hS => ov_move _ rfl) ?_
    refine wa_tk 3 rfl rfl rfl (st_selT [] h) (fun w_ hS => ov_bin _ rfl rfl (binR_add (r := p + ((i : Int))) (Sx.w64 (by omega)))) ?_
    have hbt4 := Go.Proofs.Ytbeihfcjfkddcaa.Given.bt_nonneg s (p + ((i : Int)))
    refine wa_tk 4 rfl rfl rfl (st_selT [] h) (fun w_ hS => ov_indexbt _ _ rfl rfl Try.underlying9 (by omega) (by omega)) ?_
    refine wa_tk 5 rfl rfl rfl (st_selT [] h) (fun w_ hS => ov_convint (bt s (p + ((i : Int)))) rfl Try.underlying5 Try.underlying3 (Sx.w64 (by omega))) ?_
    refine wa_tk 6 rfl rfl rfl (st_selT [] h) (fun w_ hS => ov_move _ rfl) ?_
    refine wa_tk 7 rfl rfl rfl (st_selT [] h) (fun w_ hS => ov_move _ rfl) ?_
    obtain ⟨ad5, rfl⟩ := Sx.C_some ((Sx.ro_C hv h hC)) (k := i) (by first | assumption | omega)
    refine wa_tk 8 rfl rfl rfl (st_selT [] h) (fun w_ hS => ov_indexAddrN _ _ _ _ _ i rfl rfl es36 rfl (by first | assumption | omega | (simp only [List.length_take, List.length_drop, List.length_set]; omega))) ?_
    obtain ⟨cl8, _, hk7, hc6⟩ := Sx.C_cells (hC) (z := (0 : Int)) (k := i) (by first | assumption | omega)
    obtain rfl : cl8 = [.int .i64 _] := hk7
    refine wa_tk 9 rfl rfl rfl (st_selT [] h) (fun w_ hS => ov_load1 _ _ rfl sh3 (Sx.ro_cell hv hS (hc6 0 _ rfl))) ?_
    refine wa_tk 10 rfl rfl rfl (st_selT [] h) (fun w_ hS => ov_bin _ rfl rfl (binR_neq)) ?_
    refine wa_done (by kernel_rfl) ?_
    refine qn_then ?_
    refine wc_cond (by rfl) (fun c9 => ?_) (fun c9 => ?_)
    ·
     refine wc_seq ?_
     refine wc_region ?_
     refine wl_v rfl rfl (ov_assign _ rfl) ?_
     refine wl_nil ?_
     refine qn_then ?_
     refine wc_ret ?_
     refine qn_block_ret ?_
     refine qn_then_ret ?_
     refine qn_then_ret ?_
     refine qn_block_ret ?_
     refine qn_then_ret ?_
     refine qn_ret [_] ⟨rfl, trivial⟩ ?_
     exact ⟨congrArg (fun z => Ending.returned (Value.bool z)) (decide_eq_false (fun z_ => by have q_ := z_.2.2 i (by omega); contradiction)).symm, h⟩
    ·
     refine wc_skip ?_
     refine qn_block_normal ?_
     refine qn_then ?_
     refine wc_region ?_
     refine wl_v rfl rfl (ov_move _ rfl) ?_
     refine wl_v rfl rfl (ov_bin _ rfl rfl (binR_add (r := ((i : Int)) + 1) (Sx.w64 (by omega)))) ?_
     refine wl_v rfl rfl (ov_assign _ rfl) ?_
     refine wl_nil ?_
     refine qn_next ((i + 1)) (by show l.length - (i + 1) < l.length - i; omega) ⟨rfl, rfl, (congrArg (fun z_ => some (Value.slice (some ad5) z_ (c))) (show (l.length : Nat) = l.length by first | rfl | simp)), (congrArg (fun z_ => some (Value.int .i64 z_)) (show (((i : Int)) + 1 : Int) = ((i + 1) : Int) by omega)), trivial⟩ ?_
     show ((i + 1) ≤ l.length ∧ p + (l.length : Int) ≤ s.size ∧ l ≠ [] ∧ ∀ j, j < (i + 1) → bt s (p + (j : Int)) = l.getD j 0) ∧ _
     exact ⟨⟨by omega, hJ.2.1, hJ.2.2.1, fun j_ hj_ => by
       rcases Nat.lt_succ_iff_lt_or_eq.1 hj_ with z_ | rfl
       · exact hJ.2.2.2 j_ z_
       · exact Classical.not_not.1 (by assumption)⟩, h⟩
   ·
    refine wc_exit ?_
    refine qn_then_exit ?_
    refine qn_then_exit ?_
    refine qn_block_exit ?_
    refine qn_then ?_
    refine wc_seq ?_
    refine wc_region ?_
    refine wl_v rfl rfl (ov_assign _ rfl) ?_
    refine wl_nil ?_
    refine qn_then ?_
    refine wc_ret ?_
    refine qn_ret [_] ⟨rfl, trivial⟩ ?_
    exact ⟨congrArg (fun z => Ending.returned (Value.bool z)) (decide_eq_true ⟨hJ.2.2.1, hJ.2.1, fun j_ hj_ => hJ.2.2.2 j_ (by omega)⟩).symm, h⟩
set_option maxHeartbeats 4000000 in
set_option maxRecDepth 100000 in
theorem value1_calls {w0 w : World} {F0 : Nat → Prop} {R : List Sx.HP} (s : ByteArray) (p : Int) (hp0 : 0 ≤ p) (hp : p + 1 ≤ s.size) (hs : s.size ≤ 1125899906842624) (h : Sx.St w0 F0 ([] ++ R) w) : Calls Try.prog 47 #[.string (s), .int .i64 (p), .int .i64 (1)] w (fun e w1 => e = .returned (.int .i64 (bt s p)) ∧ Sx.St w0 F0 R w1) := by
 refine Sx.calls_fn (vs := [.string (s), .int .i64 (p), .int .i64 (1)]) Try.func47 rfl Try.ntmps47 rfl ?_
 refine wc_seq ?_
 refine wc_region ?_
 refine wl_v rfl rfl (ov_assign _ rfl) ?_
 refine wl_nil ?_
 refine qn_then ?_
 refine wc_seq ?_
 refine wc_region ?_
 refine wl_v rfl rfl (ov_move _ rfl) ?_
 refine wl_v rfl rfl (ov_move _ rfl) ?_
 have hbt1 := Go.Proofs.Ytbeihfcjfkddcaa.Given.bt_nonneg s (p)
 refine wl_v rfl rfl (ov_indexbt _ _ rfl rfl Try.underlying9 (by omega) (by omega)) ?_
 refine wl_v rfl rfl (ov_convint (bt s p) rfl Try.underlying5 Try.underlying3 (Sx.w64 (by omega))) ?_
 refine wl_v rfl rfl (ov_assign _ rfl) ?_
 refine wl_nil ?_
 refine qn_then ?_
 refine wc_seq ?_
 refine wc_seq ?_
 refine wc_region ?_
 refine wl_v rfl rfl (ov_move _ rfl) ?_
 refine wl_v rfl rfl (ov_bin (.bool true) rfl rfl (binR_eql)) ?_
 refine wl_nil ?_
 refine qn_then ?_
 refine wc_cond_true rfl ?_
 refine wc_seq ?_
 refine wc_region ?_
 refine wl_v rfl rfl (ov_move _ rfl) ?_
 refine wl_v rfl rfl (ov_assign _ rfl) ?_
 refine wl_nil ?_
 refine qn_then ?_
 refine wc_ret ?_
 refine qn_then_ret ?_
 refine qn_ret [_] ⟨rfl, trivial⟩ ?_
 exact ⟨rfl, h⟩
set_option maxHeartbeats 4000000 in
set_option maxRecDepth 100000 in
theorem value2_calls {w0 w : World} {F0 : Nat → Prop} {R : List Sx.HP} (s : ByteArray) (p : Int) (hp0 : 0 ≤ p) (hp : p + 2 ≤ s.size) (hs : s.size ≤ 1125899906842624) (h : Sx.St w0 F0 ([] ++ R) w) : Calls Try.prog 47 #[.string (s), .int .i64 (p), .int .i64 (2)] w (fun e w1 => e = .returned (.int .i64 (v2 (bt s p) (bt s (p + 1)))) ∧ Sx.St w0 F0 R w1) := by
 refine Sx.calls_fn (vs := [.string (s), .int .i64 (p), .int .i64 (2)]) Try.func47 rfl Try.ntmps47 rfl ?_
 refine wc_seq ?_
 refine wc_region ?_
 refine wl_v rfl rfl (ov_assign _ rfl) ?_
 refine wl_nil ?_
 refine qn_then ?_
 refine wc_seq ?_
 refine wc_region ?_
 refine wl_v rfl rfl (ov_move _ rfl) ?_
 refine wl_v rfl rfl (ov_move _ rfl) ?_
 have hbt1 := Go.Proofs.Ytbeihfcjfkddcaa.Given.bt_nonneg s (p)
 refine wl_v rfl rfl (ov_indexbt _ _ rfl rfl Try.underlying9 (by omega) (by omega)) ?_
 refine wl_v rfl rfl (ov_convint (bt s p) rfl Try.underlying5 Try.underlying3 (Sx.w64 (by omega))) ?_
 refine wl_v rfl rfl (ov_assign _ rfl) ?_
 refine wl_nil ?_
 refine qn_then ?_
 refine wc_seq ?_
 refine wc_seq ?_
 refine wc_region ?_
 refine wl_v rfl rfl (ov_move _ rfl) ?_
 refine wl_v rfl rfl (ov_bin (.bool false) rfl rfl (binR_eql)) ?_
 refine wl_nil ?_
 refine qn_then ?_
 refine wc_cond_false rfl ?_
 refine wc_skip ?_
 refine qn_then ?_
 refine wc_seq ?_
 refine wc_region ?_
 refine wl_v rfl rfl (ov_move _ rfl) ?_
 refine wl_v rfl rfl (ov_move _ rfl) ?_
 refine wl_v rfl rfl (ov_bin _ rfl rfl (binR_sub (r := 5) (Sx.w64 (by omega)))) ?_
 refine wl_v rfl rfl (ov_bin _ rfl rfl (binR_shl (r := 32) (by decide) (by decide) (by decide))) ?_
 refine wl_v rfl rfl (ov_bin _ rfl rfl (binR_rem (r := (bt s p) % 32) (by decide) (Int.tmod_eq_emod_of_nonneg (by omega)))) ?_
 refine wl_v rfl rfl (ov_assign _ rfl) ?_
 refine wl_nil ?_
 refine qn_then ?_
 refine wc_seq ?_
 refine wc_seq ?_
 refine wc_region ?_
 refine wl_v rfl rfl (ov_assign _ rfl) ?_
 refine wl_nil ?_
 refine qn_then ?_
 refine wc_block ?_
 refine wc_rounds 6 ?_
 refine Sx.wr_step ?_
 refine wc_seq ?_
 refine wc_seq ?_
 refine wc_region ?_
 refine wl_v rfl rfl (ov_move _ rfl) ?_
 refine wl_v rfl rfl (ov_move _ rfl) ?_
 refine wl_v rfl rfl (ov_bin (.bool true) rfl rfl (binR_lss)) ?_
 refine wl_nil ?_
 refine qn_then ?_
 refine wc_cond_true rfl ?_
 refine wc_skip ?_
 refine qn_then ?_
 refine wc_seq ?_
 refine wc_block ?_
 refine wc_region ?_
 refine wl_v rfl rfl (ov_move _ rfl) ?_
 refine wl_v rfl rfl (ov_bin _ rfl rfl (binR_mul (r := ((bt s p) % 32) * 64) (Sx.w64 (by omega)))) ?_
 refine wl_v rfl rfl (ov_move _ rfl) ?_
 refine wl_v rfl rfl (ov_move _ rfl) ?_
 refine wl_v rfl rfl (ov_move _ rfl) ?_
 refine wl_v rfl rfl (ov_bin _ rfl rfl (binR_add (r := p + 1) (Sx.w64 (by omega)))) ?_
 have hbt2 := Go.Proofs.Ytbeihfcjfkddcaa.Given.bt_nonneg s (p + 1)
 refine wl_v rfl rfl (ov_indexbt _ _ rfl rfl Try.underlying9 (by omega) (by omega)) ?_
 refine wl_v rfl rfl (ov_convint (bt s (p + 1)) rfl Try.underlying5 Try.underlying3 (Sx.w64 (by omega))) ?_
 refine wl_v rfl rfl (ov_bin _ rfl rfl (binR_rem (r := (bt s (p + 1)) % 64) (by decide) (Int.tmod_eq_emod_of_nonneg (by omega)))) ?_
 refine wl_v rfl rfl (ov_bin _ rfl rfl (binR_add (r := (((bt s p) % 32) * 64) + ((bt s (p + 1)) % 64)) (Sx.w64 (by omega)))) ?_
 refine wl_v rfl rfl (ov_assign _ rfl) ?_
 refine wl_nil ?_
 refine qn_block_normal ?_
 refine qn_then ?_
 refine wc_region ?_
 refine wl_v rfl rfl (ov_move _ rfl) ?_
 refine wl_v rfl rfl (ov_bin _ rfl rfl (binR_add (r := 2) (Sx.w64 (by omega)))) ?_
 refine wl_v rfl rfl (ov_assign _ rfl) ?_
 refine wl_nil ?_
 refine qn_round ?_
 refine Sx.wr_step ?_
 refine wc_seq ?_
 refine wc_seq ?_
 refine wc_region ?_
 refine wl_v rfl rfl (ov_move _ rfl) ?_
 refine wl_v rfl rfl (ov_move _ rfl) ?_
 refine wl_v rfl rfl (ov_bin (.bool false) rfl rfl (binR_lss)) ?_
 refine wl_nil ?_
 refine qn_then ?_
 refine wc_cond_false rfl ?_
 refine wc_exit ?_
 refine qn_then_exit ?_
 refine qn_then_exit ?_
 refine qn_block_exit ?_
 refine qn_then ?_
 refine wc_seq ?_
 refine wc_region ?_
 refine wl_v rfl rfl (ov_move _ rfl) ?_
 refine wl_v rfl rfl (ov_assign _ rfl) ?_
 refine wl_nil ?_
 refine qn_then ?_
 refine wc_ret ?_
 refine qn_ret [_] ⟨rfl, trivial⟩ ?_
 exact ⟨rfl, h⟩
set_option maxHeartbeats 4000000 in
set_option maxRecDepth 100000 in
theorem value3_calls {w0 w : World} {F0 : Nat → Prop} {R : List Sx.HP} (s : ByteArray) (p : Int) (hp0 : 0 ≤ p) (hp : p + 3 ≤ s.size) (hs : s.size ≤ 1125899906842624) (h : Sx.St w0 F0 ([] ++ R) w) : Calls Try.prog 47 #[.string (s), .int .i64 (p), .int .i64 (3)] w (fun e w1 => e = .returned (.int .i64 (v3 (bt s p) (bt s (p + 1)) (bt s (p + 2)))) ∧ Sx.St w0 F0 R w1) := by
 refine Sx.calls_fn (vs := [.string (s), .int .i64 (p), .int .i64 (3)]) Try.func47 rfl Try.ntmps47 rfl ?_
 refine wc_seq ?_
 refine wc_region ?_
 refine wl_v rfl rfl (ov_assign _ rfl) ?_
 refine wl_nil ?_
 refine qn_then ?_
 refine wc_seq ?_
 refine wc_region ?_
 refine wl_v rfl rfl (ov_move _ rfl) ?_
 refine wl_v rfl rfl (ov_move _ rfl) ?_
 have hbt1 := Go.Proofs.Ytbeihfcjfkddcaa.Given.bt_nonneg s (p)
 refine wl_v rfl rfl (ov_indexbt _ _ rfl rfl Try.underlying9 (by omega) (by omega)) ?_
 refine wl_v rfl rfl (ov_convint (bt s p) rfl Try.underlying5 Try.underlying3 (Sx.w64 (by omega))) ?_
 refine wl_v rfl rfl (ov_assign _ rfl) ?_
 refine wl_nil ?_
 refine qn_then ?_
 refine wc_seq ?_
 refine wc_seq ?_
 refine wc_region ?_
 refine wl_v rfl rfl (ov_move _ rfl) ?_
 refine wl_v rfl rfl (ov_bin (.bool false) rfl rfl (binR_eql)) ?_
 refine wl_nil ?_
 refine qn_then ?_
 refine wc_cond_false rfl ?_
 refine wc_skip ?_
 refine qn_then ?_
 refine wc_seq ?_
 refine wc_region ?_
 refine wl_v rfl rfl (ov_move _ rfl) ?_
 refine wl_v rfl rfl (ov_move _ rfl) ?_
 refine wl_v rfl rfl (ov_bin _ rfl rfl (binR_sub (r := 4) (Sx.w64 (by omega)))) ?_
 refine wl_v rfl rfl (ov_bin _ rfl rfl (binR_shl (r := 16) (by decide) (by decide) (by decide))) ?_
 refine wl_v rfl rfl (ov_bin _ rfl rfl (binR_rem (r := (bt s p) % 16) (by decide) (Int.tmod_eq_emod_of_nonneg (by omega)))) ?_
 refine wl_v rfl rfl (ov_assign _ rfl) ?_
 refine wl_nil ?_
 refine qn_then ?_
 refine wc_seq ?_
 refine wc_seq ?_
 refine wc_region ?_
 refine wl_v rfl rfl (ov_assign _ rfl) ?_
 refine wl_nil ?_
 refine qn_then ?_
 refine wc_block ?_
 refine wc_rounds 6 ?_
 refine Sx.wr_step ?_
 refine wc_seq ?_
 refine wc_seq ?_
 refine wc_region ?_
 refine wl_v rfl rfl (ov_move _ rfl) ?_
 refine wl_v rfl rfl (ov_move _ rfl) ?_
 refine wl_v rfl rfl (ov_bin (.bool true) rfl rfl (binR_lss)) ?_
 refine wl_nil ?_
 refine qn_then ?_
 refine wc_cond_true rfl ?_
 refine wc_skip ?_
 refine qn_then ?_
 refine wc_seq ?_
 refine wc_block ?_
 refine wc_region ?_
 refine wl_v rfl rfl (ov_move _ rfl) ?_
 refine wl_v rfl rfl (ov_bin _ rfl rfl (binR_mul (r := ((bt s p) % 16) * 64) (Sx.w64 (by omega)))) ?_
 refine wl_v rfl rfl (ov_move _ rfl) ?_
 refine wl_v rfl rfl (ov_move _ rfl) ?_
 refine wl_v rfl rfl (ov_move _ rfl) ?_
 refine wl_v rfl rfl (ov_bin _ rfl rfl (binR_add (r := p + 1) (Sx.w64 (by omega)))) ?_
 have hbt2 := Go.Proofs.Ytbeihfcjfkddcaa.Given.bt_nonneg s (p + 1)
 refine wl_v rfl rfl (ov_indexbt _ _ rfl rfl Try.underlying9 (by omega) (by omega)) ?_
 refine wl_v rfl rfl (ov_convint (bt s (p + 1)) rfl Try.underlying5 Try.underlying3 (Sx.w64 (by omega))) ?_
 refine wl_v rfl rfl (ov_bin _ rfl rfl (binR_rem (r := (bt s (p + 1)) % 64) (by decide) (Int.tmod_eq_emod_of_nonneg (by omega)))) ?_
 refine wl_v rfl rfl (ov_bin _ rfl rfl (binR_add (r := (((bt s p) % 16) * 64) + ((bt s (p + 1)) % 64)) (Sx.w64 (by omega)))) ?_
 refine wl_v rfl rfl (ov_assign _ rfl) ?_
 refine wl_nil ?_
 refine qn_block_normal ?_
 refine qn_then ?_
 refine wc_region ?_
 refine wl_v rfl rfl (ov_move _ rfl) ?_
 refine wl_v rfl rfl (ov_bin _ rfl rfl (binR_add (r := 2) (Sx.w64 (by omega)))) ?_
 refine wl_v rfl rfl (ov_assign _ rfl) ?_
 refine wl_nil ?_
 refine qn_round ?_
 refine Sx.wr_step ?_
 refine wc_seq ?_
 refine wc_seq ?_
 refine wc_region ?_
 refine wl_v rfl rfl (ov_move _ rfl) ?_
 refine wl_v rfl rfl (ov_move _ rfl) ?_
 refine wl_v rfl rfl (ov_bin (.bool true) rfl rfl (binR_lss)) ?_
 refine wl_nil ?_
 refine qn_then ?_
 refine wc_cond_true rfl ?_
 refine wc_skip ?_
 refine qn_then ?_
 refine wc_seq ?_
 refine wc_block ?_
 refine wc_region ?_
 refine wl_v rfl rfl (ov_move _ rfl) ?_
 refine wl_v rfl rfl (ov_bin _ rfl rfl (binR_mul (r := ((((bt s p) % 16) * 64) + ((bt s (p + 1)) % 64)) * 64) (Sx.w64 (by omega)))) ?_
 refine wl_v rfl rfl (ov_move _ rfl) ?_
 refine wl_v rfl rfl (ov_move _ rfl) ?_
 refine wl_v rfl rfl (ov_move _ rfl) ?_
 refine wl_v rfl rfl (ov_bin _ rfl rfl (binR_add (r := p + 2) (Sx.w64 (by omega)))) ?_
 have hbt3 := Go.Proofs.Ytbeihfcjfkddcaa.Given.bt_nonneg s (p + 2)
 refine wl_v rfl rfl (ov_indexbt _ _ rfl rfl Try.underlying9 (by omega) (by omega)) ?_
 refine wl_v rfl rfl (ov_convint (bt s (p + 2)) rfl Try.underlying5 Try.underlying3 (Sx.w64 (by omega))) ?_
 refine wl_v rfl rfl (ov_bin _ rfl rfl (binR_rem (r := (bt s (p + 2)) % 64) (by decide) (Int.tmod_eq_emod_of_nonneg (by omega)))) ?_
 refine wl_v rfl rfl (ov_bin _ rfl rfl (binR_add (r := (((((bt s p) % 16) * 64) + ((bt s (p + 1)) % 64)) * 64) + ((bt s (p + 2)) % 64)) (Sx.w64 (by omega)))) ?_
 refine wl_v rfl rfl (ov_assign _ rfl) ?_
 refine wl_nil ?_
 refine qn_block_normal ?_
 refine qn_then ?_
 refine wc_region ?_
 refine wl_v rfl rfl (ov_move _ rfl) ?_
 refine wl_v rfl rfl (ov_bin _ rfl rfl (binR_add (r := 3) (Sx.w64 (by omega)))) ?_
 refine wl_v rfl rfl (ov_assign _ rfl) ?_
 refine wl_nil ?_
 refine qn_round ?_
 refine Sx.wr_step ?_
 refine wc_seq ?_
 refine wc_seq ?_
 refine wc_region ?_
 refine wl_v rfl rfl (ov_move _ rfl) ?_
 refine wl_v rfl rfl (ov_move _ rfl) ?_
 refine wl_v rfl rfl (ov_bin (.bool false) rfl rfl (binR_lss)) ?_
 refine wl_nil ?_
 refine qn_then ?_
 refine wc_cond_false rfl ?_
 refine wc_exit ?_
 refine qn_then_exit ?_
 refine qn_then_exit ?_
 refine qn_block_exit ?_
 refine qn_then ?_
 refine wc_seq ?_
 refine wc_region ?_
 refine wl_v rfl rfl (ov_move _ rfl) ?_
 refine wl_v rfl rfl (ov_assign _ rfl) ?_
 refine wl_nil ?_
 refine qn_then ?_
 refine wc_ret ?_
 refine qn_ret [_] ⟨rfl, trivial⟩ ?_
 exact ⟨rfl, h⟩
set_option maxHeartbeats 4000000 in
set_option maxRecDepth 100000 in
theorem value4_calls {w0 w : World} {F0 : Nat → Prop} {R : List Sx.HP} (s : ByteArray) (p : Int) (hp0 : 0 ≤ p) (hp : p + 4 ≤ s.size) (hs : s.size ≤ 1125899906842624) (h : Sx.St w0 F0 ([] ++ R) w) : Calls Try.prog 47 #[.string (s), .int .i64 (p), .int .i64 (4)] w (fun e w1 => e = .returned (.int .i64 (v4 (bt s p) (bt s (p + 1)) (bt s (p + 2)) (bt s (p + 3)))) ∧ Sx.St w0 F0 R w1) := by
 refine Sx.calls_fn (vs := [.string (s), .int .i64 (p), .int .i64 (4)]) Try.func47 rfl Try.ntmps47 rfl ?_
 refine wc_seq ?_
 refine wc_region ?_
 refine wl_v rfl rfl (ov_assign _ rfl) ?_
 refine wl_nil ?_
 refine qn_then ?_
 refine wc_seq ?_
 refine wc_region ?_
 refine wl_v rfl rfl (ov_move _ rfl) ?_
 refine wl_v rfl rfl (ov_move _ rfl) ?_
 have hbt1 := Go.Proofs.Ytbeihfcjfkddcaa.Given.bt_nonneg s (p)
 refine wl_v rfl rfl (ov_indexbt _ _ rfl rfl Try.underlying9 (by omega) (by omega)) ?_
 refine wl_v rfl rfl (ov_convint (bt s p) rfl Try.underlying5 Try.underlying3 (Sx.w64 (by omega))) ?_
 refine wl_v rfl rfl (ov_assign _ rfl) ?_
 refine wl_nil ?_
 refine qn_then ?_
 refine wc_seq ?_
 refine wc_seq ?_
 refine wc_region ?_
 refine wl_v rfl rfl (ov_move _ rfl) ?_
 refine wl_v rfl rfl (ov_bin (.bool false) rfl rfl (binR_eql)) ?_
 refine wl_nil ?_
 refine qn_then ?_
 refine wc_cond_false rfl ?_
 refine wc_skip ?_
 refine qn_then ?_
 refine wc_seq ?_
 refine wc_region ?_
 refine wl_v rfl rfl (ov_move _ rfl) ?_
 refine wl_v rfl rfl (ov_move _ rfl) ?_
 refine wl_v rfl rfl (ov_bin _ rfl rfl (binR_sub (r := 3) (Sx.w64 (by omega)))) ?_
 refine wl_v rfl rfl (ov_bin _ rfl rfl (binR_shl (r := 8) (by decide) (by decide) (by decide))) ?_
 refine wl_v rfl rfl (ov_bin _ rfl rfl (binR_rem (r := (bt s p) % 8) (by decide) (Int.tmod_eq_emod_of_nonneg (by omega)))) ?_
 refine wl_v rfl rfl (ov_assign _ rfl) ?_
 refine wl_nil ?_
 refine qn_then ?_
 refine wc_seq ?_
 refine wc_seq ?_
 refine wc_region ?_
 refine wl_v rfl rfl (ov_assign _ rfl) ?_
 refine wl_nil ?_
 refine qn_then ?_
 refine wc_block ?_
 refine wc_rounds 6 ?_
 refine Sx.wr_step ?_
 refine wc_seq ?_
 refine wc_seq ?_
 refine wc_region ?_
 refine wl_v rfl rfl (ov_move _ rfl) ?_
 refine wl_v rfl rfl (ov_move _ rfl) ?_
 refine wl_v rfl rfl (ov_bin (.bool true) rfl rfl (binR_lss)) ?_
 refine wl_nil ?_
 refine qn_then ?_
 refine wc_cond_true rfl ?_
 refine wc_skip ?_
 refine qn_then ?_
 refine wc_seq ?_
 refine wc_block ?_
 refine wc_region ?_
 refine wl_v rfl rfl (ov_move _ rfl) ?_
 refine wl_v rfl rfl (ov_bin _ rfl rfl (binR_mul (r := ((bt s p) % 8) * 64) (Sx.w64 (by omega)))) ?_
 refine wl_v rfl rfl (ov_move _ rfl) ?_
 refine wl_v rfl rfl (ov_move _ rfl) ?_
 refine wl_v rfl rfl (ov_move _ rfl) ?_
 refine wl_v rfl rfl (ov_bin _ rfl rfl (binR_add (r := p + 1) (Sx.w64 (by omega)))) ?_
 have hbt2 := Go.Proofs.Ytbeihfcjfkddcaa.Given.bt_nonneg s (p + 1)
 refine wl_v rfl rfl (ov_indexbt _ _ rfl rfl Try.underlying9 (by omega) (by omega)) ?_
 refine wl_v rfl rfl (ov_convint (bt s (p + 1)) rfl Try.underlying5 Try.underlying3 (Sx.w64 (by omega))) ?_
 refine wl_v rfl rfl (ov_bin _ rfl rfl (binR_rem (r := (bt s (p + 1)) % 64) (by decide) (Int.tmod_eq_emod_of_nonneg (by omega)))) ?_
 refine wl_v rfl rfl (ov_bin _ rfl rfl (binR_add (r := (((bt s p) % 8) * 64) + ((bt s (p + 1)) % 64)) (Sx.w64 (by omega)))) ?_
 refine wl_v rfl rfl (ov_assign _ rfl) ?_
 refine wl_nil ?_
 refine qn_block_normal ?_
 refine qn_then ?_
 refine wc_region ?_
 refine wl_v rfl rfl (ov_move _ rfl) ?_
 refine wl_v rfl rfl (ov_bin _ rfl rfl (binR_add (r := 2) (Sx.w64 (by omega)))) ?_
 refine wl_v rfl rfl (ov_assign _ rfl) ?_
 refine wl_nil ?_
 refine qn_round ?_
 refine Sx.wr_step ?_
 refine wc_seq ?_
 refine wc_seq ?_
 refine wc_region ?_
 refine wl_v rfl rfl (ov_move _ rfl) ?_
 refine wl_v rfl rfl (ov_move _ rfl) ?_
 refine wl_v rfl rfl (ov_bin (.bool true) rfl rfl (binR_lss)) ?_
 refine wl_nil ?_
 refine qn_then ?_
 refine wc_cond_true rfl ?_
 refine wc_skip ?_
 refine qn_then ?_
 refine wc_seq ?_
 refine wc_block ?_
 refine wc_region ?_
 refine wl_v rfl rfl (ov_move _ rfl) ?_
 refine wl_v rfl rfl (ov_bin _ rfl rfl (binR_mul (r := ((((bt s p) % 8) * 64) + ((bt s (p + 1)) % 64)) * 64) (Sx.w64 (by omega)))) ?_
 refine wl_v rfl rfl (ov_move _ rfl) ?_
 refine wl_v rfl rfl (ov_move _ rfl) ?_
 refine wl_v rfl rfl (ov_move _ rfl) ?_
 refine wl_v rfl rfl (ov_bin _ rfl rfl (binR_add (r := p + 2) (Sx.w64 (by omega)))) ?_
 have hbt3 := Go.Proofs.Ytbeihfcjfkddcaa.Given.bt_nonneg s (p + 2)
 refine wl_v rfl rfl (ov_indexbt _ _ rfl rfl Try.underlying9 (by omega) (by omega)) ?_
 refine wl_v rfl rfl (ov_convint (bt s (p + 2)) rfl Try.underlying5 Try.underlying3 (Sx.w64 (by omega))) ?_
 refine wl_v rfl rfl (ov_bin _ rfl rfl (binR_rem (r := (bt s (p + 2)) % 64) (by decide) (Int.tmod_eq_emod_of_nonneg (by omega)))) ?_
 refine wl_v rfl rfl (ov_bin _ rfl rfl (binR_add (r := (((((bt s p) % 8) * 64) + ((bt s (p + 1)) % 64)) * 64) + ((bt s (p + 2)) % 64)) (Sx.w64 (by omega)))) ?_
 refine wl_v rfl rfl (ov_assign _ rfl) ?_
 refine wl_nil ?_
 refine qn_block_normal ?_
 refine qn_then ?_
 refine wc_region ?_
 refine wl_v rfl rfl (ov_move _ rfl) ?_
 refine wl_v rfl rfl (ov_bin _ rfl rfl (binR_add (r := 3) (Sx.w64 (by omega)))) ?_
 refine wl_v rfl rfl (ov_assign _ rfl) ?_
 refine wl_nil ?_
 refine qn_round ?_
 refine Sx.wr_step ?_
 refine wc_seq ?_
 refine wc_seq ?_
 refine wc_region ?_
 refine wl_v rfl rfl (ov_move _ rfl) ?_
 refine wl_v rfl rfl (ov_move _ rfl) ?_
 refine wl_v rfl rfl (ov_bin (.bool true) rfl rfl (binR_lss)) ?_
 refine wl_nil ?_
 refine qn_then ?_
 refine wc_cond_true rfl ?_
 refine wc_skip ?_
 refine qn_then ?_
 refine wc_seq ?_
 refine wc_block ?_
 refine wc_region ?_
 refine wl_v rfl rfl (ov_move _ rfl) ?_
 refine wl_v rfl rfl (ov_bin _ rfl rfl (binR_mul (r := ((((((bt s p) % 8) * 64) + ((bt s (p + 1)) % 64)) * 64) + ((bt s (p + 2)) % 64)) * 64) (Sx.w64 (by omega)))) ?_
 refine wl_v rfl rfl (ov_move _ rfl) ?_
 refine wl_v rfl rfl (ov_move _ rfl) ?_
 refine wl_v rfl rfl (ov_move _ rfl) ?_
 refine wl_v rfl rfl (ov_bin _ rfl rfl (binR_add (r := p + 3) (Sx.w64 (by omega)))) ?_
 have hbt4 := Go.Proofs.Ytbeihfcjfkddcaa.Given.bt_nonneg s (p + 3)
 refine wl_v rfl rfl (ov_indexbt _ _ rfl rfl Try.underlying9 (by omega) (by omega)) ?_
 refine wl_v rfl rfl (ov_convint (bt s (p + 3)) rfl Try.underlying5 Try.underlying3 (Sx.w64 (by omega))) ?_
 refine wl_v rfl rfl (ov_bin _ rfl rfl (binR_rem (r := (bt s (p + 3)) % 64) (by decide) (Int.tmod_eq_emod_of_nonneg (by omega)))) ?_
 refine wl_v rfl rfl (ov_bin _ rfl rfl (binR_add (r := (((((((bt s p) % 8) * 64) + ((bt s (p + 1)) % 64)) * 64) + ((bt s (p + 2)) % 64)) * 64) + ((bt s (p + 3)) % 64)) (Sx.w64 (by omega)))) ?_
 refine wl_v rfl rfl (ov_assign _ rfl) ?_
 refine wl_nil ?_
 refine qn_block_normal ?_
 refine qn_then ?_
 refine wc_region ?_
 refine wl_v rfl rfl (ov_move _ rfl) ?_
 refine wl_v rfl rfl (ov_bin _ rfl rfl (binR_add (r := 4) (Sx.w64 (by omega)))) ?_
 refine wl_v rfl rfl (ov_assign _ rfl) ?_
 refine wl_nil ?_
 refine qn_round ?_
 refine Sx.wr_step ?_
 refine wc_seq ?_
 refine wc_seq ?_
 refine wc_region ?_
 refine wl_v rfl rfl (ov_move _ rfl) ?_
 refine wl_v rfl rfl (ov_move _ rfl) ?_
 refine wl_v rfl rfl (ov_bin (.bool false) rfl rfl (binR_lss)) ?_
 refine wl_nil ?_
 refine qn_then ?_
 refine wc_cond_false rfl ?_
 refine wc_exit ?_
 refine qn_then_exit ?_
 refine qn_then_exit ?_
 refine qn_block_exit ?_
 refine qn_then ?_
 refine wc_seq ?_
 refine wc_region ?_
 refine wl_v rfl rfl (ov_move _ rfl) ?_
 refine wl_v rfl rfl (ov_assign _ rfl) ?_
 refine wl_nil ?_
 refine qn_then ?_
 refine wc_ret ?_
 refine qn_ret [_] ⟨rfl, trivial⟩ ?_
 exact ⟨rfl, h⟩
theorem value_calls {w0 w : World} {F0 : Nat → Prop} {R : List Sx.HP} (s : ByteArray) (p : Int) (k : Nat) (h1 : 1 ≤ k) (h4 : k ≤ 4) (hp0 : 0 ≤ p) (hp : p + (k : Int) ≤ s.size) (hs : s.size ≤ 1125899906842624) (h : Sx.St w0 F0 R w) : Calls Try.prog 47 #[.string (s), .int .i64 (p), .int .i64 ((k : Nat) : Int)] w (fun e w1 => e = .returned (.int .i64 (vkV s p k)) ∧ Sx.St w0 F0 R w1) := by
  have hk : k = 1 ∨ k = 2 ∨ k = 3 ∨ k = 4 := by omega
  rcases hk with rfl | rfl | rfl | rfl
  · exact value1_calls (R := R) s p hp0 hp hs h
  · exact value2_calls (R := R) s p hp0 hp hs h
  · exact value3_calls (R := R) s p hp0 hp hs h
  · exact value4_calls (R := R) s p hp0 hp hs h
set_option maxHeartbeats 4000000 in
set_option maxRecDepth 100000 in
theorem Read_calls {w0 w : World} {F0 : Nat → Prop} {R : List Sx.HP} (s : ByteArray) (p : Int) (hp0 : 0 ≤ p) (hp : p < s.size) (hs : s.size ≤ 1125899906842624) (h : Sx.St w0 F0 ([] ++ R) w) : Calls Try.prog 41 #[.string (s), .int .i64 (p)] w (fun e w1 => e = .returned (.tuple #[.int .i64 (readV s p).1, .int .i64 (readV s p).2]) ∧ Sx.St w0 F0 R w1) := by
 have hbn_ := bytes_le
 refine Sx.calls_fn (vs := [.string (s), .int .i64 (p)]) Try.func41 rfl Try.ntmps41 rfl ?_
 refine wc_seq ?_
 refine wc_region ?_
 refine wl_v rfl rfl (ov_assign _ rfl) ?_
 refine wl_v rfl rfl (ov_assign _ rfl) ?_
 refine wl_nil ?_
 refine qn_then ?_
 refine wc_seq ?_
 refine wc_seq ?_
 refine wc_region ?_
 refine wl_v rfl rfl (ov_assign _ rfl) ?_
 refine wl_nil ?_
 refine qn_then ?_
 refine wc_block ?_
 refine wc_loop (fun (x_ : Nat) => [(0, .string (s)), (1, .int .i64 (p)), (6, .int .i64 (((x_ : Nat) : Int)))]) (fun (x_ : Nat) (w : World) => (1 ≤ x_ ∧ x_ ≤ 5 ∧ ∀ j, 1 ≤ j → j < x_ → ¬ Hit s p (vkV s p j) j) ∧ Sx.St w0 F0 ([] ++ R) w) (fun (x_ : Nat) => 5 - x_) (1) ?_ ?_ ?_
 · exact ⟨rfl, rfl, (congrArg (fun z_ => some (Value.int .i64 z_)) (show (1 : Int) = ((1 : Nat) : Int) by omega)), trivial⟩
 · exact ⟨⟨Nat.le_refl _, by omega, fun j_ h1_ hj_ => by omega⟩, h⟩
 intro k w h
 obtain ⟨hJ, h⟩ := h
 replace hJ : 1 ≤ k ∧ k ≤ 5 ∧ ∀ j, 1 ≤ j → j < k → ¬ Hit s p (vkV s p j) j := hJ
 replace h : Sx.St w0 F0 ([] ++ R) w := h
 show Sx.WC _ _ _ _ [(0, .string (s)), (1, .int .i64 (p)), (6, .int .i64 (((k : Nat) : Int)))] _
 refine wc_seq ?_
 refine wc_seq ?_
 refine wc_region ?_
 refine wl_v rfl rfl (ov_move _ rfl) ?_
 refine wl_v rfl rfl (ov_bin _ rfl rfl (binR_leq)) ?_
 refine wl_v rfl rfl (ov_move _ rfl) ?_
 refine wl_split 11 rfl (fun c1 => ?_) (fun c1 => ?_)
 ·
  refine wl_v rfl rfl (ov_move _ rfl) ?_
  refine wl_v rfl rfl (ov_move _ rfl) ?_
  refine wl_v rfl rfl (ov_bin _ rfl rfl (binR_add (r := p + (((k : Nat) : Int))) (Sx.w64 (by omega)))) ?_
  refine wl_v rfl rfl (ov_move _ rfl) ?_
  refine wl_v rfl rfl (ov_lens _ rfl Try.underlying9) ?_
  refine wl_v rfl rfl (ov_bin _ rfl rfl (binR_leq)) ?_
  refine wl_v rfl rfl (ov_pick_true _ rfl rfl) ?_
  refine wl_nil ?_
  refine qn_then ?_
  refine wc_cond (by rfl) (fun c2 => ?_) (fun c2 => ?_)
  ·
   refine wc_skip ?_
   refine qn_then ?_
   refine wc_seq ?_
   refine wc_block ?_
   refine wc_seq ?_
   refine wc_region ?_
   refine wl_v rfl rfl (ov_move _ rfl) ?_
   refine wl_v rfl rfl (ov_move _ rfl) ?_
   refine wl_v rfl rfl (ov_move _ rfl) ?_
   refine wl_call _ rfl rfl rfl ent47 (RN.value_calls (R := [] ++ R) (s) (p) (k : Nat) (by omega) (by omega) (by omega) (by omega) (by omega) h) ?_
   rintro e_ w_ ⟨rfl, h⟩
   refine ⟨_, rfl, ?_⟩
   refine wl_v rfl rfl (ov_assign _ rfl) ?_
   refine wl_nil ?_
   refine qn_then ?_
   refine wc_seq ?_
   refine wc_region ?_
   refine wl_v rfl rfl (ov_move _ rfl) ?_
   refine wl_call _ rfl rfl rfl ent48 (RN.Bytes_calls (R := [] ++ R) (vkV s p (k : Nat)) h) ?_
   rintro e_ w_ ⟨Ay3, cy3, rfl, h⟩
   refine ⟨_, rfl, ?_⟩
   have hbl_ := bytes_le (vkV s p (k : Nat))
   replace h : Sx.St w0 F0 ([Sx.row (Kd.int .i64) 3 (Ay3) (cy3) ((bytesV (vkV s p (k : Nat))))] ++ R) _ := h
   refine wl_v rfl rfl (ov_assign _ rfl) ?_
   refine wl_nil ?_
   refine qn_then ?_
   refine wc_seq ?_
   refine wc_region ?_
   refine wl_v rfl rfl (ov_move _ rfl) ?_
   refine wl_v rfl rfl (ov_len _ _ _ _ _ rfl es36) ?_
   refine wl_v rfl rfl (ov_move _ rfl) ?_
   refine wl_v rfl rfl (ov_bin _ rfl rfl (binR_eql)) ?_
   refine wl_v rfl rfl (ov_move _ rfl) ?_
   refine wl_split 31 rfl (fun c4 => ?_) (fun c4 => ?_)
   ·
    refine wl_v rfl rfl (ov_move _ rfl) ?_
    refine wl_v rfl rfl (ov_move _ rfl) ?_
    refine wl_v rfl rfl (ov_move _ rfl) ?_
    refine wl_call _ rfl rfl rfl ent49 (RN.begins_calls (v0 := _) (w0 := _) (F0 := fun _ => False) (R := []) (s) (p) (bytesV (vkV s p (k : Nat))) (Ay3) (cy3) (Sx.ro_self _) (by omega) (by omega) (by omega) ((Sx.row_reads h (i := 0) rfl).1) (Sx.row_reads h (i := 0) rfl).2 (by omega) (st_start _)) ?_
    rintro e_ w_ ⟨rfl, h2_⟩
    refine ⟨_, rfl, ?_⟩
    replace h := st_below h (st_below0 h2_)
    refine wl_v rfl rfl (ov_pick_true _ rfl rfl) ?_
    refine wl_nil ?_
    refine qn_then ?_
    refine wc_cond (by rfl) (fun c5 => ?_) (fun c5 => ?_)
    ·
     refine wc_seq ?_
     refine wc_region ?_
     refine wl_v rfl rfl (ov_move _ rfl) ?_
     refine wl_v rfl rfl (ov_move _ rfl) ?_
     refine wl_v rfl rfl (ov_assign _ rfl) ?_
     refine wl_v rfl rfl (ov_assign _ rfl) ?_
     refine wl_nil ?_
     refine qn_then ?_
     refine wc_ret ?_
     refine qn_block_ret ?_
     refine qn_then_ret ?_
     refine qn_then_ret ?_
     refine qn_block_ret ?_
     refine qn_then_ret ?_
     replace h := st_selT [false] h
     refine qn_ret [_, _] ⟨rfl, rfl, trivial⟩ ?_
     have e_ := read_first (by omega) hJ.1 (by omega) hJ.2.2 ⟨by omega, by assumption⟩
     rw [e_]
     exact ⟨rfl, h⟩
    ·
     refine wc_skip ?_
     refine qn_block_normal ?_
     refine qn_then ?_
     refine wc_region ?_
     refine wl_v rfl rfl (ov_move _ rfl) ?_
     refine wl_v rfl rfl (ov_bin _ rfl rfl (binR_add (r := (((k : Nat) : Int)) + 1) (Sx.w64 (by omega)))) ?_
     refine wl_v rfl rfl (ov_assign _ rfl) ?_
     refine wl_nil ?_
     replace h := st_selT [false] h
     refine qn_next ((k + 1)) (by show 5 - (k + 1) < 5 - k; omega) ⟨rfl, rfl, (congrArg (fun z_ => some (Value.int .i64 z_)) (show ((((k : Nat) : Int)) + 1 : Int) = (((k + 1) : Nat) : Int) by omega)), trivial⟩ ?_
     show (1 ≤ (k + 1) ∧ (k + 1) ≤ 5 ∧ ∀ j, 1 ≤ j → j < (k + 1) → ¬ Hit s p (vkV s p j) j) ∧ _
     exact ⟨⟨by omega, by omega, fun j_ hj1_ hj_ => by
       rcases Nat.lt_succ_iff_lt_or_eq.1 hj_ with z_ | rfl
       · exact hJ.2.2 j_ hj1_ z_
       · intro z_; first | (exact absurd z_.2 (by assumption)) | (have q_ := z_.1; omega)⟩, h⟩
   ·
    refine wl_skip rfl rfl ?_
    refine wl_skip rfl rfl ?_
    refine wl_skip rfl rfl ?_
    refine wl_skip rfl rfl ?_
    refine wl_v rfl rfl (ov_pick_false _ rfl rfl) ?_
    refine wl_nil ?_
    refine qn_then ?_
    refine wc_cond_false rfl ?_
    refine wc_skip ?_
    refine qn_block_normal ?_
    refine qn_then ?_
    refine wc_region ?_
    refine wl_v rfl rfl (ov_move _ rfl) ?_
    refine wl_v rfl rfl (ov_bin _ rfl rfl (binR_add (r := (((k : Nat) : Int)) + 1) (Sx.w64 (by omega)))) ?_
    refine wl_v rfl rfl (ov_assign _ rfl) ?_
    refine wl_nil ?_
    replace h := st_selT [false] h
    refine qn_next ((k + 1)) (by show 5 - (k + 1) < 5 - k; omega) ⟨rfl, rfl, (congrArg (fun z_ => some (Value.int .i64 z_)) (show ((((k : Nat) : Int)) + 1 : Int) = (((k + 1) : Nat) : Int) by omega)), trivial⟩ ?_
    show (1 ≤ (k + 1) ∧ (k + 1) ≤ 5 ∧ ∀ j, 1 ≤ j → j < (k + 1) → ¬ Hit s p (vkV s p j) j) ∧ _
    exact ⟨⟨by omega, by omega, fun j_ hj1_ hj_ => by
      rcases Nat.lt_succ_iff_lt_or_eq.1 hj_ with z_ | rfl
      · exact hJ.2.2 j_ hj1_ z_
      · intro z_; first | (exact absurd z_.2 (by assumption)) | (have q_ := z_.1; omega)⟩, h⟩
  ·
   refine wc_exit ?_
   refine qn_then_exit ?_
   refine qn_then_exit ?_
   refine qn_block_exit ?_
   refine qn_then ?_
   refine wc_seq ?_
   refine wc_region ?_
   refine wl_v rfl rfl (ov_assign _ rfl) ?_
   refine wl_v rfl rfl (ov_assign _ rfl) ?_
   refine wl_nil ?_
   refine qn_then ?_
   refine wc_ret ?_
   refine qn_ret [_, _] ⟨rfl, rfl, trivial⟩ ?_
   have e_ := read_none (by omega) hJ.2.2 (fun z_ => by have q1_ := z_.1; have q2_ := z_.2; omega)
   rw [e_]
   exact ⟨rfl, h⟩
 ·
  refine wl_skip rfl rfl ?_
  refine wl_skip rfl rfl ?_
  refine wl_skip rfl rfl ?_
  refine wl_skip rfl rfl ?_
  refine wl_skip rfl rfl ?_
  refine wl_skip rfl rfl ?_
  refine wl_v rfl rfl (ov_pick_false _ rfl rfl) ?_
  refine wl_nil ?_
  refine qn_then ?_
  refine wc_cond_false rfl ?_
  refine wc_exit ?_
  refine qn_then_exit ?_
  refine qn_then_exit ?_
  refine qn_block_exit ?_
  refine qn_then ?_
  refine wc_seq ?_
  refine wc_region ?_
  refine wl_v rfl rfl (ov_assign _ rfl) ?_
  refine wl_v rfl rfl (ov_assign _ rfl) ?_
  refine wl_nil ?_
  refine qn_then ?_
  refine wc_ret ?_
  refine qn_ret [_, _] ⟨rfl, rfl, trivial⟩ ?_
  have e_ := read_none (by omega) hJ.2.2 (fun z_ => by have q1_ := z_.1; have q2_ := z_.2; omega)
  rw [e_]
  exact ⟨rfl, h⟩
set_option maxHeartbeats 4000000 in
set_option maxRecDepth 100000 in
theorem Runes_calls {w0 w : World} {F0 : Nat → Prop} {R : List Sx.HP} (s : ByteArray) (hs : s.size ≤ 17592186044416) (h : Sx.St w0 F0 ([] ++ R) w) : Calls Try.prog 24 #[.string (s)] w (fun e w1 => ∃ A1 c1 A2 c2, e = .returned (.tuple #[.slice A1 (runesL s).length c1, .slice A2 (placesL s).length c2, .int .i64 (refV s).2]) ∧ Sx.St w0 F0 ([Sx.row (Kd.int .i64) 3 (A1) (c1) ((runesL s)), Sx.row (Kd.int .i64) 3 (A2) (c2) ((placesL s))] ++ R) w1) := by
 refine Sx.calls_fn (vs := [.string (s)]) Try.func24 rfl Try.ntmps24 rfl ?_
 refine wc_seq ?_
 refine wc_region ?_
 refine wl_v rfl rfl (ov_assign _ rfl) ?_
 refine wl_v rfl rfl (ov_assign _ rfl) ?_
 refine wl_v rfl rfl (ov_assign _ rfl) ?_
 refine wl_nil ?_
 refine qn_then ?_
 refine wc_seq ?_
 refine wc_region ?_
 refine wl_v rfl rfl (ov_assign _ rfl) ?_
 refine wl_v rfl rfl (ov_assign _ rfl) ?_
 refine wl_nil ?_
 refine qn_then ?_
 refine wc_seq ?_
 refine wc_seq ?_
 refine wc_region ?_
 refine wl_v rfl rfl (ov_assign _ rfl) ?_
 refine wl_nil ?_
 refine qn_then ?_
 refine wc_block ?_
 replace h := st_nilrow (Kd.int .i64) 3 (st_nilrow (Kd.int .i64) 3 h)
 refine wc_loop (fun (x_ : Nat × Int × (List (Int × Int)) × (Option Addr) × Nat × (Option Addr) × Nat) => [(0, .string (s)), (5, .slice (x_.2.2.2.1) (((x_.2.2.1).map (·.2)).length) (x_.2.2.2.2.1)), (6, .slice (x_.2.2.2.2.2.1) (((x_.2.2.1).map (·.1)).length) (x_.2.2.2.2.2.2)), (7, .int .i64 (x_.2.1))]) (fun (x_ : Nat × Int × (List (Int × Int)) × (Option Addr) × Nat × (Option Addr) × Nat) (w : World) => (0 ≤ x_.2.1 ∧ x_.2.1 ≤ s.size ∧ (s.size : Int) < x_.2.1 + ((x_.1 : Nat) : Int) ∧ x_.2.2.1 ++ (refGo s x_.1 x_.2.1).1 = (refV s).1 ∧ (refGo s x_.1 x_.2.1).2 = (refV s).2 ∧ ((x_.2.2.1).length : Int) ≤ x_.2.1) ∧ Sx.St w0 F0 ([Sx.row (Kd.int .i64) 3 (x_.2.2.2.1) (x_.2.2.2.2.1) (((x_.2.2.1).map (·.2))), Sx.row (Kd.int .i64) 3 (x_.2.2.2.2.2.1) (x_.2.2.2.2.2.2) (((x_.2.2.1).map (·.1)))] ++ R) w) (fun (x_ : Nat × Int × (List (Int × Int)) × (Option Addr) × Nat × (Option Addr) × Nat) => x_.1) ((s.size + 1), 0, [], none, 0, none, 0) ?_ ?_ ?_
 · exact ⟨rfl, rfl, rfl, rfl, trivial⟩
 · exact ⟨⟨Int.le_refl _, by show (0 : Int) ≤ s.size; omega, by show (s.size : Int) < 0 + ((s.size + 1 : Nat) : Int); omega, rfl, rfl, Int.le_refl _⟩, h⟩
 rintro ⟨m, p, l, X1, d1, X2, d2⟩ w h
 obtain ⟨hJ, h⟩ := h
 replace hJ : 0 ≤ p ∧ p ≤ s.size ∧ (s.size : Int) < p + ((m : Nat) : Int) ∧ l ++ (refGo s m p).1 = (refV s).1 ∧ (refGo s m p).2 = (refV s).2 ∧ ((l).length : Int) ≤ p := hJ
 replace h : Sx.St w0 F0 ([Sx.row (Kd.int .i64) 3 (X1) (d1) (((l).map (·.2))), Sx.row (Kd.int .i64) 3 (X2) (d2) (((l).map (·.1)))] ++ R) w := h
 show Sx.WC _ _ _ _ [(0, .string (s)), (5, .slice (X1) (((l).map (·.2)).length) (d1)), (6, .slice (X2) (((l).map (·.1)).length) (d2)), (7, .int .i64 (p))] _
 have hl1_ : ((l).map (·.2)).length = l.length := List.length_map ..
 have hl2_ : ((l).map (·.1)).length = l.length := List.length_map ..
 refine wc_seq ?_
 refine wc_seq ?_
 refine wc_region ?_
 refine wl_v rfl rfl (ov_move _ rfl) ?_
 refine wl_v rfl rfl (ov_move _ rfl) ?_
 refine wl_v rfl rfl (ov_lens _ rfl Try.underlying9) ?_
 refine wl_v rfl rfl (ov_bin _ rfl rfl (binR_lss)) ?_
 refine wl_nil ?_
 refine qn_then ?_
 refine wc_cond (by rfl) (fun c1 => ?_) (fun c1 => ?_)
 ·
  refine wc_skip ?_
  refine qn_then ?_
  refine wc_block ?_
  refine wc_seq ?_
  refine wc_region ?_
  refine wl_v rfl rfl (ov_move _ rfl) ?_
  refine wl_v rfl rfl (ov_move _ rfl) ?_
  refine wl_call _ rfl rfl rfl ent41 (RN.Read_calls (R := [Sx.row (Kd.int .i64) 3 (X1) (d1) (((l).map (·.2))), Sx.row (Kd.int .i64) 3 (X2) (d2) (((l).map (·.1)))] ++ R) (s) (p) (by omega) (by omega) (by omega) h) ?_
  rintro e_ w_ ⟨rfl, h⟩
  refine ⟨_, rfl, ?_⟩
  have hrb_ := read_bounds s p (by omega) (by omega)
  refine wl_v rfl rfl (ov_move _ rfl) ?_
  refine wl_v rfl rfl (ov_extract [.int .i64 ((readV s p).1), .int .i64 ((readV s p).2)] _ rfl rfl) ?_
  refine wl_v rfl rfl (ov_extract [.int .i64 ((readV s p).1), .int .i64 ((readV s p).2)] _ rfl rfl) ?_
  refine wl_v rfl rfl (ov_assign _ rfl) ?_
  refine wl_v rfl rfl (ov_assign _ rfl) ?_
  refine wl_nil ?_
  refine qn_then ?_
  refine wc_seq ?_
  refine wc_seq ?_
  refine wc_region ?_
  refine wl_v rfl rfl (ov_move _ rfl) ?_
  refine wl_v rfl rfl (ov_bin _ rfl rfl (binR_eql)) ?_
  refine wl_nil ?_
  refine qn_then ?_
  refine wc_cond (by rfl) (fun c2 => ?_) (fun c2 => ?_)
  ·
   refine wc_seq ?_
   refine wc_region ?_
   refine wl_v rfl rfl (ov_move _ rfl) ?_
   refine wl_v rfl rfl (ov_move _ rfl) ?_
   refine wl_v rfl rfl (ov_move _ rfl) ?_
   refine wl_v rfl rfl (ov_assign _ rfl) ?_
   refine wl_v rfl rfl (ov_assign _ rfl) ?_
   refine wl_v rfl rfl (ov_assign _ rfl) ?_
   refine wl_nil ?_
   refine qn_then ?_
   refine wc_ret ?_
   refine qn_then_ret ?_
   refine qn_block_ret ?_
   refine qn_then_ret ?_
   refine qn_block_ret ?_
   refine qn_then_ret ?_
   obtain ⟨m, rfl⟩ : ∃ q_, m = q_ + 1 := ⟨m - 1, by omega⟩
   have hs_ := hJ.2.2.2.1
   have hs2_ := hJ.2.2.2.2.1
   simp only [refGo] at hs_ hs2_
   rw [if_pos (by omega), if_pos (by omega), List.append_nil] at hs_
   rw [if_pos (by omega), if_pos (by omega)] at hs2_
   have e_ : ((l).map (·.2)) = (runesL s) := by rw [hs_]; rfl
   replace h := st_cast (congrArg (fun z_ => ([Sx.row (Kd.int .i64) 3 (X1) (d1) (z_), Sx.row (Kd.int .i64) 3 (X2) (d2) (((l).map (·.1)))] ++ R)) e_) h
   clear e_
   have e_ : ((l).map (·.1)) = (placesL s) := by rw [hs_]; rfl
   replace h := st_cast (congrArg (fun z_ => ([Sx.row (Kd.int .i64) 3 (X1) (d1) ((runesL s)), Sx.row (Kd.int .i64) 3 (X2) (d2) (z_)] ++ R)) e_) h
   clear e_
   replace h := st_front 1 h
   replace h := st_front 1 h
   refine qn_ret [_, _, _] ⟨rfl, rfl, rfl, trivial⟩ ?_
   exact ⟨X1, d1, X2, d2, by rw [← hs2_, hs_]; rfl, h⟩
  ·
   refine wc_skip ?_
   refine qn_then ?_
   refine wc_seq ?_
   refine wc_region ?_
   refine wl_v rfl rfl (ov_move _ rfl) ?_
   refine wl_v rfl rfl (ov_move _ rfl) ?_
   refine wl_lit (d := (Kd.int .i64)) [(0, .int .i64 ((readV s p).1))] _ [.int .i64 ((readV s p).1)] ([(readV s p).1]) h rfl rfl rfl rfl Try.underlying36 infb3 rfl (by decide) (by kernel_rfl) rfl (fun _ _ _ => ((Reps.none _ _).snoc ((Sx.mkInt .i64 ((readV s p).1))) rfl)) (fun A3 cp4 _ h => ?_)
   refine wl_append (d := (Kd.int .i64)) (L := ((l).map (·.2))) 1 _ 8 _ _ _ ([(readV s p).1]) (Sx.flat_int _) h rfl rfl rfl rfl rfl ((Sx.row_reads h (i := 0) rfl).2) Try.underlying36 inf3 rfl (by decide) (by decide) (by first | omega | (simp only [List.length_cons, List.length_nil, List.length_append, List.length_set]; omega)) (by first | rfl | simp) (fun A5 cp6 _ h => ?_)
   replace h := st_selT [false, true, true] h
   refine wl_v rfl rfl (ov_move _ rfl) ?_
   refine wl_v rfl rfl (ov_move _ rfl) ?_
   refine wl_lit (d := (Kd.int .i64)) [(0, .int .i64 (p))] _ [.int .i64 (p)] ([p]) h rfl rfl rfl rfl Try.underlying36 infb3 rfl (by decide) (by kernel_rfl) rfl (fun _ _ _ => ((Reps.none _ _).snoc ((Sx.mkInt .i64 (p))) rfl)) (fun A7 cp8 _ h => ?_)
   refine wl_append (d := (Kd.int .i64)) (L := ((l).map (·.1))) 2 _ 8 _ _ _ ([p]) (Sx.flat_int _) h rfl rfl rfl rfl rfl ((Sx.row_reads h (i := 0) rfl).2) Try.underlying36 inf3 rfl (by decide) (by decide) (by first | omega | (simp only [List.length_cons, List.length_nil, List.length_append, List.length_set]; omega)) (by first | rfl | simp) (fun A9 cp10 _ h => ?_)
   replace h := st_selT [false, true, true] h
   refine wl_v rfl rfl (ov_assign _ rfl) ?_
   refine wl_v rfl rfl (ov_assign _ rfl) ?_
   refine wl_nil ?_
   refine qn_then ?_
   refine wc_region ?_
   refine wl_v rfl rfl (ov_move _ rfl) ?_
   refine wl_v rfl rfl (ov_move _ rfl) ?_
   refine wl_v rfl rfl (ov_bin _ rfl rfl (binR_add (r := p + ((readV s p).2)) (Sx.w64 (by omega)))) ?_
   refine wl_v rfl rfl (ov_assign _ rfl) ?_
   refine wl_nil ?_
   refine qn_block_normal ?_
   have e_ : (((l).map (·.2))) ++ ([(readV s p).1]) = (((l ++ [(p, (readV s p).1)])).map (·.2)) := by exact map_snoc2 l p (readV s p).1
   replace h := st_cast (congrArg (fun z_ => ([Sx.row (Kd.int .i64) 3 (A5) (cp6) (z_), Sx.row (Kd.int .i64) 3 (A9) (cp10) ((((l).map (·.1))) ++ ([p]))] ++ R)) e_) h
   clear e_
   have e_ : (((l).map (·.1))) ++ ([p]) = (((l ++ [(p, (readV s p).1)])).map (·.1)) := by exact map_snoc1 l p (readV s p).1
   replace h := st_cast (congrArg (fun z_ => ([Sx.row (Kd.int .i64) 3 (A5) (cp6) ((((l ++ [(p, (readV s p).1)])).map (·.2))), Sx.row (Kd.int .i64) 3 (A9) (cp10) (z_)] ++ R)) e_) h
   clear e_
   replace h := st_front 1 h
   replace h := st_front 1 h
   refine qn_next ((m - 1), (p + (readV s p).2), (l ++ [(p, (readV s p).1)]), A5, cp6, A9, cp10) (by show (m - 1) < m; omega) ⟨rfl, (congrArg (fun z_ => some (Value.slice (A5) z_ (cp6))) (by simp)), (congrArg (fun z_ => some (Value.slice (A9) z_ (cp10))) (by simp)), (congrArg (fun z_ => some (Value.int .i64 z_)) (show (p + ((readV s p).2) : Int) = (p + (readV s p).2) by omega)), trivial⟩ ?_
   show (0 ≤ (p + (readV s p).2) ∧ (p + (readV s p).2) ≤ s.size ∧ (s.size : Int) < (p + (readV s p).2) + (((m - 1) : Nat) : Int) ∧ (l ++ [(p, (readV s p).1)]) ++ (refGo s (m - 1) (p + (readV s p).2)).1 = (refV s).1 ∧ (refGo s (m - 1) (p + (readV s p).2)).2 = (refV s).2 ∧ (((l ++ [(p, (readV s p).1)])).length : Int) ≤ (p + (readV s p).2)) ∧ _
   obtain ⟨m, rfl⟩ : ∃ q_, m = q_ + 1 := ⟨m - 1, by omega⟩
   have hs_ := hJ.2.2.2.1
   have hs2_ := hJ.2.2.2.2.1
   simp only [refGo] at hs_ hs2_
   rw [if_pos (by omega), if_neg (by omega)] at hs_ hs2_
   exact ⟨⟨by omega, by omega, by omega, by rw [List.append_assoc]; exact hs_, hs2_, by simp only [List.length_append, List.length_cons, List.length_nil]; omega⟩, h⟩
 ·
  refine wc_exit ?_
  refine qn_then_exit ?_
  refine qn_then_exit ?_
  refine qn_block_exit ?_
  refine qn_then ?_
  refine wc_seq ?_
  refine wc_region ?_
  refine wl_v rfl rfl (ov_move _ rfl) ?_
  refine wl_v rfl rfl (ov_move _ rfl) ?_
  refine wl_v rfl rfl (ov_assign _ rfl) ?_
  refine wl_v rfl rfl (ov_assign _ rfl) ?_
  refine wl_v rfl rfl (ov_assign _ rfl) ?_
  refine wl_nil ?_
  refine qn_then ?_
  refine wc_ret ?_
  obtain ⟨m, rfl⟩ : ∃ q_, m = q_ + 1 := ⟨m - 1, by omega⟩
  have hs_ := hJ.2.2.2.1
  have hs2_ := hJ.2.2.2.2.1
  simp only [refGo] at hs_ hs2_
  rw [if_neg (by omega), List.append_nil] at hs_
  rw [if_neg (by omega)] at hs2_
  have e_ : ((l).map (·.2)) = (runesL s) := by rw [hs_]; rfl
  replace h := st_cast (congrArg (fun z_ => ([Sx.row (Kd.int .i64) 3 (X1) (d1) (z_), Sx.row (Kd.int .i64) 3 (X2) (d2) (((l).map (·.1)))] ++ R)) e_) h
  clear e_
  have e_ : ((l).map (·.1)) = (placesL s) := by rw [hs_]; rfl
  replace h := st_cast (congrArg (fun z_ => ([Sx.row (Kd.int .i64) 3 (X1) (d1) ((runesL s)), Sx.row (Kd.int .i64) 3 (X2) (d2) (z_)] ++ R)) e_) h
  clear e_
  replace h := st_front 1 h
  replace h := st_front 1 h
  refine qn_ret [_, _, _] ⟨rfl, rfl, rfl, trivial⟩ ?_
  exact ⟨X1, d1, X2, d2, by rw [← hs2_, hs_]; rfl, h⟩
set_option maxHeartbeats 4000000 in
set_option maxRecDepth 100000 in
theorem size_calls {w0 w : World} {F0 : Nat → Prop} {R : List Sx.HP} (s : ByteArray) (p : Int) (hp0 : 0 ≤ p) (hp : p ≤ s.size) (hs : s.size ≤ 1125899906842624) (h : Sx.St w0 F0 ([] ++ R) w) : Calls Try.prog 43 #[.string (s), .int .i64 (p)] w (fun e w1 => e = .returned (.int .i64 (sizeV s p)) ∧ Sx.St w0 F0 R w1) := by
 refine Sx.calls_fn (vs := [.string (s), .int .i64 (p)]) Try.func43 rfl Try.ntmps43 rfl ?_
 refine wc_seq ?_
 refine wc_region ?_
 refine wl_v rfl rfl (ov_assign _ rfl) ?_
 refine wl_nil ?_
 refine qn_then ?_
 refine wc_scope 0 rfl (fun (x_ : Nat × Int × Int × Int) => [(0, .string (s)), (1, .int .i64 (p)), (5, .int .i64 (((x_.1 : Nat) : Int))), (6, .int .u8 (x_.2.1)), (7, .int .u8 (x_.2.2.1)), (9, .int .i64 (x_.2.2.2))]) (fun (x_ : Nat × Int × Int × Int) (w : World) => (x_.1 ≤ 3 ∧ p < x_.2.2.2 ∧ x_.2.2.2 ≤ (s.size : Int) ∧ 0 ≤ p ∧ sizeGo s p x_.1 x_.2.2.2 x_.2.1 x_.2.2.1 = sizeV s p) ∧ Sx.St w0 F0 ([] ++ R) w) (fun (x_ : Nat × Int × Int × Int) => x_.1) ?_ ?_
 ·
  rintro ⟨k, lo, hi, n⟩ w Z_ h hZ_
  obtain ⟨hJ, h⟩ := h
  replace hJ : k ≤ 3 ∧ p < n ∧ n ≤ (s.size : Int) ∧ 0 ≤ p ∧ sizeGo s p k n lo hi = sizeV s p := hJ
  replace h : Sx.St w0 F0 ([] ++ R) w := h
  show Sx.WC _ _ _ _ [(0, .string (s)), (1, .int .i64 (p)), (5, .int .i64 (((k : Nat) : Int))), (6, .int .u8 (lo)), (7, .int .u8 (hi)), (9, .int .i64 (n))] _
  refine wc_seq ?_
  refine wc_seq ?_
  refine wc_region ?_
  refine wl_v rfl rfl (ov_move _ rfl) ?_
  refine wl_v rfl rfl (ov_bin _ rfl rfl (binR_eql)) ?_
  refine wl_nil ?_
  refine qn_then ?_
  refine wc_cond (by rfl) (fun c1 => ?_) (fun c1 => ?_)
  ·
   refine wc_seq ?_
   refine wc_region ?_
   refine wl_v rfl rfl (ov_move _ rfl) ?_
   refine wl_v rfl rfl (ov_move _ rfl) ?_
   refine wl_v rfl rfl (ov_bin _ rfl rfl (binR_sub (r := n - p) (Sx.w64 (by omega)))) ?_
   refine wl_v rfl rfl (ov_assign _ rfl) ?_
   refine wl_nil ?_
   refine qn_then ?_
   refine wc_ret ?_
   refine qn_then_ret ?_
   refine qn_jump_ret ?_
   refine qn_ret [_] ⟨rfl, trivial⟩ ?_
   obtain rfl : k = 0 := by omega
   have e_ : sizeV s p = n - p := by
     rw [← hJ.2.2.2.2]
     simp only [sizeGo]
   rw [e_]
   exact ⟨rfl, h⟩
  ·
   refine wc_skip ?_
   refine qn_then ?_
   refine wc_seq ?_
   refine wc_seq ?_
   refine wc_region ?_
   refine wl_v rfl rfl (ov_move _ rfl) ?_
   refine wl_v rfl rfl (ov_move _ rfl) ?_
   refine wl_v rfl rfl (ov_lens _ rfl Try.underlying9) ?_
   refine wl_v rfl rfl (ov_bin _ rfl rfl (binR_geq)) ?_
   refine wl_v rfl rfl (ov_move _ rfl) ?_
   refine wl_split 56 rfl (fun c2 => ?_) (fun c2 => ?_)
   ·
    refine wl_skip rfl rfl ?_
    refine wl_skip rfl rfl ?_
    refine wl_skip rfl rfl ?_
    refine wl_skip rfl rfl ?_
    refine wl_skip rfl rfl ?_
    refine wl_v rfl rfl (ov_pick_true _ rfl rfl) ?_
    refine wl_v rfl rfl (ov_move _ rfl) ?_
    refine wl_skip rfl rfl ?_
    refine wl_skip rfl rfl ?_
    refine wl_skip rfl rfl ?_
    refine wl_skip rfl rfl ?_
    refine wl_skip rfl rfl ?_
    refine wl_v rfl rfl (ov_pick_true _ rfl rfl) ?_
    refine wl_nil ?_
    refine qn_then ?_
    refine wc_cond_true rfl ?_
    refine wc_seq ?_
    refine wc_region ?_
    refine wl_v rfl rfl (ov_assign _ rfl) ?_
    refine wl_nil ?_
    refine qn_then ?_
    refine wc_ret ?_
    refine qn_then_ret ?_
    refine qn_jump_ret ?_
    refine qn_ret [_] ⟨rfl, trivial⟩ ?_
    obtain ⟨k, rfl⟩ : ∃ q_, k = q_ + 1 := ⟨k - 1, by omega⟩
    have e_ : sizeV s p = 0 := by
      rw [← hJ.2.2.2.2]
      simp only [sizeGo]
      rw [if_neg (fun z_ => by have q_ := (cont_iff ..).1 z_; omega)]
    rw [e_]
    exact ⟨rfl, h⟩
   ·
    refine wl_v rfl rfl (ov_move _ rfl) ?_
    refine wl_v rfl rfl (ov_move _ rfl) ?_
    have hbt3 := Go.Proofs.Ytbeihfcjfkddcaa.Given.bt_nonneg s (n)
    refine wl_v rfl rfl (ov_indexbt _ _ rfl rfl Try.underlying9 (by omega) (by omega)) ?_
    refine wl_v rfl rfl (ov_move _ rfl) ?_
    refine wl_v rfl rfl (ov_bin _ rfl rfl (binR_lss)) ?_
    refine wl_v rfl rfl (ov_pick_false _ rfl rfl) ?_
    refine wl_v rfl rfl (ov_move _ rfl) ?_
    refine wl_split 63 rfl (fun c4 => ?_) (fun c4 => ?_)
    ·
     refine wl_skip rfl rfl ?_
     refine wl_skip rfl rfl ?_
     refine wl_skip rfl rfl ?_
     refine wl_skip rfl rfl ?_
     refine wl_skip rfl rfl ?_
     refine wl_v rfl rfl (ov_pick_true _ rfl rfl) ?_
     refine wl_nil ?_
     refine qn_then ?_
     refine wc_cond_true rfl ?_
     refine wc_seq ?_
     refine wc_region ?_
     refine wl_v rfl rfl (ov_assign _ rfl) ?_
     refine wl_nil ?_
     refine qn_then ?_
     refine wc_ret ?_
     refine qn_then_ret ?_
     refine qn_jump_ret ?_
     refine qn_ret [_] ⟨rfl, trivial⟩ ?_
     obtain ⟨k, rfl⟩ : ∃ q_, k = q_ + 1 := ⟨k - 1, by omega⟩
     have e_ : sizeV s p = 0 := by
       rw [← hJ.2.2.2.2]
       simp only [sizeGo]
       rw [if_neg (fun z_ => by have q_ := (cont_iff ..).1 z_; omega)]
     rw [e_]
     exact ⟨rfl, h⟩
    ·
     refine wl_v rfl rfl (ov_move _ rfl) ?_
     refine wl_v rfl rfl (ov_move _ rfl) ?_
     have hbt5 := Go.Proofs.Ytbeihfcjfkddcaa.Given.bt_nonneg s (n)
     refine wl_v rfl rfl (ov_indexbt _ _ rfl rfl Try.underlying9 (by omega) (by omega)) ?_
     refine wl_v rfl rfl (ov_move _ rfl) ?_
     refine wl_v rfl rfl (ov_bin _ rfl rfl (binR_gtr)) ?_
     refine wl_v rfl rfl (ov_pick_false _ rfl rfl) ?_
     refine wl_nil ?_
     refine qn_then ?_
     refine wc_cond (by rfl) (fun c6 => ?_) (fun c6 => ?_)
     ·
      refine wc_seq ?_
      refine wc_region ?_
      refine wl_v rfl rfl (ov_assign _ rfl) ?_
      refine wl_nil ?_
      refine qn_then ?_
      refine wc_ret ?_
      refine qn_then_ret ?_
      refine qn_jump_ret ?_
      refine qn_ret [_] ⟨rfl, trivial⟩ ?_
      obtain ⟨k, rfl⟩ : ∃ q_, k = q_ + 1 := ⟨k - 1, by omega⟩
      have e_ : sizeV s p = 0 := by
        rw [← hJ.2.2.2.2]
        simp only [sizeGo]
        rw [if_neg (fun z_ => by have q_ := (cont_iff ..).1 z_; omega)]
      rw [e_]
      exact ⟨rfl, h⟩
     ·
      refine wc_skip ?_
      refine qn_then ?_
      refine wc_seq ?_
      refine wc_region ?_
      refine wl_v rfl rfl (ov_assign _ rfl) ?_
      refine wl_v rfl rfl (ov_assign _ rfl) ?_
      refine wl_nil ?_
      refine qn_then ?_
      refine wc_seq ?_
      refine wc_region ?_
      refine wl_v rfl rfl (ov_move _ rfl) ?_
      refine wl_v rfl rfl (ov_bin _ rfl rfl (binR_sub (r := (((k : Nat) : Int)) - 1) (Sx.w64 (by omega)))) ?_
      refine wl_v rfl rfl (ov_assign _ rfl) ?_
      refine wl_nil ?_
      refine qn_then ?_
      refine wc_seq ?_
      refine wc_region ?_
      refine wl_v rfl rfl (ov_move _ rfl) ?_
      refine wl_v rfl rfl (ov_bin _ rfl rfl (binR_add (r := n + 1) (Sx.w64 (by omega)))) ?_
      refine wl_v rfl rfl (ov_assign _ rfl) ?_
      refine wl_nil ?_
      refine qn_then ?_
      refine wc_goto ?_
      refine qn_jump hZ_ ((k - 1), 128, 191, (n + 1)) (by show (k - 1) < k; omega) ⟨rfl, rfl, (congrArg (fun z_ => some (Value.int .i64 z_)) (show ((((k : Nat) : Int)) - 1 : Int) = (((k - 1) : Nat) : Int) by omega)), (congrArg (fun z_ => some (Value.int .u8 z_)) (show (128 : Int) = 128 by rfl)), (congrArg (fun z_ => some (Value.int .u8 z_)) (show (191 : Int) = 191 by rfl)), (congrArg (fun z_ => some (Value.int .i64 z_)) (show (n + 1 : Int) = (n + 1) by omega)), trivial⟩ ?_
      show ((k - 1) ≤ 3 ∧ p < (n + 1) ∧ (n + 1) ≤ (s.size : Int) ∧ 0 ≤ p ∧ sizeGo s p (k - 1) (n + 1) 128 191 = sizeV s p) ∧ _
      obtain ⟨k, rfl⟩ : ∃ q_, k = q_ + 1 := ⟨k - 1, by omega⟩
      have hs_ := hJ.2.2.2.2
      simp only [sizeGo] at hs_
      rw [if_pos ((cont_iff ..).2 ⟨by omega, by omega, by omega⟩)] at hs_
      exact ⟨⟨by omega, by omega, by omega, by omega, hs_⟩, h⟩
 ·
  intro Z_ hF_
  refine wc_seq ?_
  refine wc_seq ?_
  refine wc_region ?_
  refine wl_v rfl rfl (ov_move _ rfl) ?_
  refine wl_v rfl rfl (ov_bin _ rfl rfl (binR_lss)) ?_
  refine wl_v rfl rfl (ov_move _ rfl) ?_
  refine wl_split 12 rfl (fun c7 => ?_) (fun c7 => ?_)
  ·
   refine wl_skip rfl rfl ?_
   refine wl_skip rfl rfl ?_
   refine wl_skip rfl rfl ?_
   refine wl_skip rfl rfl ?_
   refine wl_v rfl rfl (ov_pick_true _ rfl rfl) ?_
   refine wl_nil ?_
   refine qn_then ?_
   refine wc_cond_true rfl ?_
   refine wc_seq ?_
   refine wc_region ?_
   refine wl_v rfl rfl (ov_assign _ rfl) ?_
   refine wl_nil ?_
   refine qn_then ?_
   refine wc_ret ?_
   refine qn_then_ret ?_
   refine qn_jump_ret ?_
   refine qn_ret [_] ⟨rfl, trivial⟩ ?_
   have e_ : sizeV s p = 0 := by
     unfold sizeV
     repeat' split
     all_goals first | rfl | (exfalso; omega)
   rw [e_]
   exact ⟨rfl, h⟩
  ·
   refine wl_v rfl rfl (ov_move _ rfl) ?_
   refine wl_v rfl rfl (ov_move _ rfl) ?_
   refine wl_v rfl rfl (ov_lens _ rfl Try.underlying9) ?_
   refine wl_v rfl rfl (ov_bin _ rfl rfl (binR_geq)) ?_
   refine wl_v rfl rfl (ov_pick_false _ rfl rfl) ?_
   refine wl_nil ?_
   refine qn_then ?_
   refine wc_cond (by rfl) (fun c8 => ?_) (fun c8 => ?_)
   ·
    refine wc_seq ?_
    refine wc_region ?_
    refine wl_v rfl rfl (ov_assign _ rfl) ?_
    refine wl_nil ?_
    refine qn_then ?_
    refine wc_ret ?_
    refine qn_then_ret ?_
    refine qn_jump_ret ?_
    refine qn_ret [_] ⟨rfl, trivial⟩ ?_
    have e_ : sizeV s p = 0 := by
      unfold sizeV
      repeat' split
      all_goals first | rfl | (exfalso; omega)
    rw [e_]
    exact ⟨rfl, h⟩
   ·
    refine wc_skip ?_
    refine qn_then ?_
    refine wc_seq ?_
    refine wc_region ?_
    refine wl_v rfl rfl (ov_assign _ rfl) ?_
    refine wl_nil ?_
    refine qn_then ?_
    refine wc_seq ?_
    refine wc_region ?_
    refine wl_v rfl rfl (ov_assign _ rfl) ?_
    refine wl_v rfl rfl (ov_assign _ rfl) ?_
    refine wl_nil ?_
    refine qn_then ?_
    refine wc_seq ?_
    refine wc_region ?_
    refine wl_v rfl rfl (ov_move _ rfl) ?_
    refine wl_v rfl rfl (ov_move _ rfl) ?_
    have hbt9 := Go.Proofs.Ytbeihfcjfkddcaa.Given.bt_nonneg s (p)
    refine wl_v rfl rfl (ov_indexbt _ _ rfl rfl Try.underlying9 (by omega) (by omega)) ?_
    refine wl_v rfl rfl (ov_assign _ rfl) ?_
    refine wl_nil ?_
    refine qn_then ?_
    refine wc_seq ?_
    refine wc_region ?_
    refine wl_v rfl rfl (ov_move _ rfl) ?_
    refine wl_v rfl rfl (ov_bin _ rfl rfl (binR_add (r := p + 1) (Sx.w64 (by omega)))) ?_
    refine wl_v rfl rfl (ov_assign _ rfl) ?_
    refine wl_nil ?_
    refine qn_then ?_
    refine wc_seq ?_
    refine wc_join (fun (x_ : Nat × Int × Int) => [(0, .string (s)), (1, .int .i64 (p)), (5, .int .i64 (((x_.1 : Nat) : Int))), (6, .int .u8 (x_.2.1)), (7, .int .u8 (x_.2.2)), (9, .int .i64 (p + 1))]) (fun (x_ : Nat × Int × Int) (w : World) => (x_.1 ≤ 3 ∧ sizeGo s p x_.1 (p + 1) x_.2.1 x_.2.2 = sizeV s p) ∧ Sx.St w0 F0 ([] ++ R) w) ?_ ?_
    ·
     refine wc_block ?_
     refine wc_seq ?_
     refine wc_region ?_
     refine wl_v rfl rfl (ov_move _ rfl) ?_
     refine wl_v rfl rfl (ov_bin _ rfl rfl (binR_lss)) ?_
     refine wl_v rfl rfl (ov_assign _ rfl) ?_
     refine wl_nil ?_
     refine qn_then ?_
     refine wc_cond (by rfl) (fun c10 => ?_) (fun c10 => ?_)
     ·
      refine wc_seq ?_
      refine wc_region ?_
      refine wl_v rfl rfl (ov_assign _ rfl) ?_
      refine wl_nil ?_
      refine qn_then ?_
      refine wc_ret ?_
      refine qn_block_ret ?_
      refine qn_join_ret ?_
      refine qn_then_ret ?_
      refine qn_jump_ret ?_
      refine qn_ret [_] ⟨rfl, trivial⟩ ?_
      have e_ : sizeV s p = 1 := by
        unfold sizeV
        repeat' split
        all_goals first | rfl | (exfalso; omega)
      rw [e_]
      exact ⟨rfl, h⟩
     ·
      refine wc_seq ?_
      refine wc_region ?_
      refine wl_v rfl rfl (ov_move _ rfl) ?_
      refine wl_v rfl rfl (ov_bin _ rfl rfl (binR_lss)) ?_
      refine wl_v rfl rfl (ov_move _ rfl) ?_
      refine wl_split 33 rfl (fun c11 => ?_) (fun c11 => ?_)
      ·
       refine wl_skip rfl rfl ?_
       refine wl_skip rfl rfl ?_
       refine wl_v rfl rfl (ov_pick_true _ rfl rfl) ?_
       refine wl_v rfl rfl (ov_assign _ rfl) ?_
       refine wl_nil ?_
       refine qn_then ?_
       refine wc_cond_true rfl ?_
       refine wc_seq ?_
       refine wc_region ?_
       refine wl_v rfl rfl (ov_assign _ rfl) ?_
       refine wl_nil ?_
       refine qn_then ?_
       refine wc_ret ?_
       refine qn_block_ret ?_
       refine qn_join_ret ?_
       refine qn_then_ret ?_
       refine qn_jump_ret ?_
       refine qn_ret [_] ⟨rfl, trivial⟩ ?_
       have e_ : sizeV s p = 0 := by
         unfold sizeV
         repeat' split
         all_goals first | rfl | (exfalso; omega)
       rw [e_]
       exact ⟨rfl, h⟩
      ·
       refine wl_v rfl rfl (ov_move _ rfl) ?_
       refine wl_v rfl rfl (ov_bin _ rfl rfl (binR_gtr)) ?_
       refine wl_v rfl rfl (ov_pick_false _ rfl rfl) ?_
       refine wl_v rfl rfl (ov_assign _ rfl) ?_
       refine wl_nil ?_
       refine qn_then ?_
       refine wc_cond (by rfl) (fun c12 => ?_) (fun c12 => ?_)
       ·
        refine wc_seq ?_
        refine wc_region ?_
        refine wl_v rfl rfl (ov_assign _ rfl) ?_
        refine wl_nil ?_
        refine qn_then ?_
        refine wc_ret ?_
        refine qn_block_ret ?_
        refine qn_join_ret ?_
        refine qn_then_ret ?_
        refine qn_jump_ret ?_
        refine qn_ret [_] ⟨rfl, trivial⟩ ?_
        have e_ : sizeV s p = 0 := by
          unfold sizeV
          repeat' split
          all_goals first | rfl | (exfalso; omega)
        rw [e_]
        exact ⟨rfl, h⟩
       ·
        refine wc_seq ?_
        refine wc_region ?_
        refine wl_v rfl rfl (ov_move _ rfl) ?_
        refine wl_v rfl rfl (ov_bin _ rfl rfl (binR_lss)) ?_
        refine wl_v rfl rfl (ov_assign _ rfl) ?_
        refine wl_nil ?_
        refine qn_then ?_
        refine wc_cond (by rfl) (fun c13 => ?_) (fun c13 => ?_)
        ·
         refine wc_region ?_
         refine wl_v rfl rfl (ov_assign _ rfl) ?_
         refine wl_nil ?_
         refine qn_block_normal ?_
         refine qn_joined (1, 128, 191) ⟨rfl, rfl, (congrArg (fun z_ => some (Value.int .i64 z_)) (show (1 : Int) = ((1 : Nat) : Int) by rfl)), (congrArg (fun z_ => some (Value.int .u8 z_)) (show (128 : Int) = 128 by rfl)), (congrArg (fun z_ => some (Value.int .u8 z_)) (show (191 : Int) = 191 by rfl)), rfl, trivial⟩ ?_
         show (1 ≤ 3 ∧ sizeGo s p 1 (p + 1) 128 191 = sizeV s p) ∧ _
         exact ⟨⟨by decide, by
           unfold sizeV
           repeat' split
           all_goals first | rfl | (exfalso; omega)⟩, h⟩
        ·
         refine wc_seq ?_
         refine wc_region ?_
         refine wl_v rfl rfl (ov_move _ rfl) ?_
         refine wl_v rfl rfl (ov_bin _ rfl rfl (binR_lss)) ?_
         refine wl_v rfl rfl (ov_assign _ rfl) ?_
         refine wl_nil ?_
         refine qn_then ?_
         refine wc_cond (by rfl) (fun c14 => ?_) (fun c14 => ?_)
         ·
          refine wc_seq ?_
          refine wc_region ?_
          refine wl_v rfl rfl (ov_assign _ rfl) ?_
          refine wl_nil ?_
          refine qn_then ?_
          refine wc_seq ?_
          refine wc_seq ?_
          refine wc_region ?_
          refine wl_v rfl rfl (ov_move _ rfl) ?_
          refine wl_v rfl rfl (ov_bin _ rfl rfl (binR_eql)) ?_
          refine wl_nil ?_
          refine qn_then ?_
          refine wc_cond (by rfl) (fun c15 => ?_) (fun c15 => ?_)
          ·
           refine wc_region ?_
           refine wl_v rfl rfl (ov_assign _ rfl) ?_
           refine wl_nil ?_
           refine qn_then ?_
           refine wc_seq ?_
           refine wc_region ?_
           refine wl_v rfl rfl (ov_move _ rfl) ?_
           refine wl_v rfl rfl (ov_bin _ rfl rfl (binR_eql)) ?_
           refine wl_nil ?_
           refine qn_then ?_
           refine wc_cond (by rfl) (fun c16 => ?_) (fun c16 => ?_)
           ·
            refine wc_region ?_
            refine wl_v rfl rfl (ov_assign _ rfl) ?_
            refine wl_nil ?_
            refine qn_block_normal ?_
            refine qn_joined (2, 160, 159) ⟨rfl, rfl, (congrArg (fun z_ => some (Value.int .i64 z_)) (show (2 : Int) = ((2 : Nat) : Int) by rfl)), (congrArg (fun z_ => some (Value.int .u8 z_)) (show (160 : Int) = 160 by rfl)), (congrArg (fun z_ => some (Value.int .u8 z_)) (show (159 : Int) = 159 by rfl)), rfl, trivial⟩ ?_
            show (2 ≤ 3 ∧ sizeGo s p 2 (p + 1) 160 159 = sizeV s p) ∧ _
            exact ⟨⟨by decide, by
              unfold sizeV
              repeat' split
              all_goals first | rfl | (exfalso; omega)⟩, h⟩
           ·
            refine wc_skip ?_
            refine qn_block_normal ?_
            refine qn_joined (2, 160, 191) ⟨rfl, rfl, (congrArg (fun z_ => some (Value.int .i64 z_)) (show (2 : Int) = ((2 : Nat) : Int) by rfl)), (congrArg (fun z_ => some (Value.int .u8 z_)) (show (160 : Int) = 160 by rfl)), (congrArg (fun z_ => some (Value.int .u8 z_)) (show (191 : Int) = 191 by rfl)), rfl, trivial⟩ ?_
            show (2 ≤ 3 ∧ sizeGo s p 2 (p + 1) 160 191 = sizeV s p) ∧ _
            exact ⟨⟨by decide, by
              unfold sizeV
              repeat' split
              all_goals first | rfl | (exfalso; omega)⟩, h⟩
          ·
           refine wc_skip ?_
           refine qn_then ?_
           refine wc_seq ?_
           refine wc_region ?_
           refine wl_v rfl rfl (ov_move _ rfl) ?_
           refine wl_v rfl rfl (ov_bin _ rfl rfl (binR_eql)) ?_
           refine wl_nil ?_
           refine qn_then ?_
           refine wc_cond (by rfl) (fun c17 => ?_) (fun c17 => ?_)
           ·
            refine wc_region ?_
            refine wl_v rfl rfl (ov_assign _ rfl) ?_
            refine wl_nil ?_
            refine qn_block_normal ?_
            refine qn_joined (2, 128, 159) ⟨rfl, rfl, (congrArg (fun z_ => some (Value.int .i64 z_)) (show (2 : Int) = ((2 : Nat) : Int) by rfl)), (congrArg (fun z_ => some (Value.int .u8 z_)) (show (128 : Int) = 128 by rfl)), (congrArg (fun z_ => some (Value.int .u8 z_)) (show (159 : Int) = 159 by rfl)), rfl, trivial⟩ ?_
            show (2 ≤ 3 ∧ sizeGo s p 2 (p + 1) 128 159 = sizeV s p) ∧ _
            exact ⟨⟨by decide, by
              unfold sizeV
              repeat' split
              all_goals first | rfl | (exfalso; omega)⟩, h⟩
           ·
            refine wc_skip ?_
            refine qn_block_normal ?_
            refine qn_joined (2, 128, 191) ⟨rfl, rfl, (congrArg (fun z_ => some (Value.int .i64 z_)) (show (2 : Int) = ((2 : Nat) : Int) by rfl)), (congrArg (fun z_ => some (Value.int .u8 z_)) (show (128 : Int) = 128 by rfl)), (congrArg (fun z_ => some (Value.int .u8 z_)) (show (191 : Int) = 191 by rfl)), rfl, trivial⟩ ?_
            show (2 ≤ 3 ∧ sizeGo s p 2 (p + 1) 128 191 = sizeV s p) ∧ _
            exact ⟨⟨by decide, by
              unfold sizeV
              repeat' split
              all_goals first | rfl | (exfalso; omega)⟩, h⟩
         ·
          refine wc_seq ?_
          refine wc_region ?_
          refine wl_v rfl rfl (ov_assign _ rfl) ?_
          refine wl_nil ?_
          refine qn_then ?_
          refine wc_seq ?_
          refine wc_seq ?_
          refine wc_region ?_
          refine wl_v rfl rfl (ov_move _ rfl) ?_
          refine wl_v rfl rfl (ov_bin _ rfl rfl (binR_eql)) ?_
          refine wl_nil ?_
          refine qn_then ?_
          refine wc_cond (by rfl) (fun c18 => ?_) (fun c18 => ?_)
          ·
           refine wc_region ?_
           refine wl_v rfl rfl (ov_assign _ rfl) ?_
           refine wl_nil ?_
           refine qn_then ?_
           refine wc_seq ?_
           refine wc_region ?_
           refine wl_v rfl rfl (ov_move _ rfl) ?_
           refine wl_v rfl rfl (ov_bin _ rfl rfl (binR_eql)) ?_
           refine wl_nil ?_
           refine qn_then ?_
           refine wc_cond (by rfl) (fun c19 => ?_) (fun c19 => ?_)
           ·
            refine wc_region ?_
            refine wl_v rfl rfl (ov_assign _ rfl) ?_
            refine wl_nil ?_
            refine qn_block_normal ?_
            refine qn_joined (3, 144, 143) ⟨rfl, rfl, (congrArg (fun z_ => some (Value.int .i64 z_)) (show (3 : Int) = ((3 : Nat) : Int) by rfl)), (congrArg (fun z_ => some (Value.int .u8 z_)) (show (144 : Int) = 144 by rfl)), (congrArg (fun z_ => some (Value.int .u8 z_)) (show (143 : Int) = 143 by rfl)), rfl, trivial⟩ ?_
            show (3 ≤ 3 ∧ sizeGo s p 3 (p + 1) 144 143 = sizeV s p) ∧ _
            exact ⟨⟨by decide, by
              unfold sizeV
              repeat' split
              all_goals first | rfl | (exfalso; omega)⟩, h⟩
           ·
            refine wc_skip ?_
            refine qn_block_normal ?_
            refine qn_joined (3, 144, 191) ⟨rfl, rfl, (congrArg (fun z_ => some (Value.int .i64 z_)) (show (3 : Int) = ((3 : Nat) : Int) by rfl)), (congrArg (fun z_ => some (Value.int .u8 z_)) (show (144 : Int) = 144 by rfl)), (congrArg (fun z_ => some (Value.int .u8 z_)) (show (191 : Int) = 191 by rfl)), rfl, trivial⟩ ?_
            show (3 ≤ 3 ∧ sizeGo s p 3 (p + 1) 144 191 = sizeV s p) ∧ _
            exact ⟨⟨by decide, by
              unfold sizeV
              repeat' split
              all_goals first | rfl | (exfalso; omega)⟩, h⟩
          ·
           refine wc_skip ?_
           refine qn_then ?_
           refine wc_seq ?_
           refine wc_region ?_
           refine wl_v rfl rfl (ov_move _ rfl) ?_
           refine wl_v rfl rfl (ov_bin _ rfl rfl (binR_eql)) ?_
           refine wl_nil ?_
           refine qn_then ?_
           refine wc_cond (by rfl) (fun c20 => ?_) (fun c20 => ?_)
           ·
            refine wc_region ?_
            refine wl_v rfl rfl (ov_assign _ rfl) ?_
            refine wl_nil ?_
            refine qn_block_normal ?_
            refine qn_joined (3, 128, 143) ⟨rfl, rfl, (congrArg (fun z_ => some (Value.int .i64 z_)) (show (3 : Int) = ((3 : Nat) : Int) by rfl)), (congrArg (fun z_ => some (Value.int .u8 z_)) (show (128 : Int) = 128 by rfl)), (congrArg (fun z_ => some (Value.int .u8 z_)) (show (143 : Int) = 143 by rfl)), rfl, trivial⟩ ?_
            show (3 ≤ 3 ∧ sizeGo s p 3 (p + 1) 128 143 = sizeV s p) ∧ _
            exact ⟨⟨by decide, by
              unfold sizeV
              repeat' split
              all_goals first | rfl | (exfalso; omega)⟩, h⟩
           ·
            refine wc_skip ?_
            refine qn_block_normal ?_
            refine qn_joined (3, 128, 191) ⟨rfl, rfl, (congrArg (fun z_ => some (Value.int .i64 z_)) (show (3 : Int) = ((3 : Nat) : Int) by rfl)), (congrArg (fun z_ => some (Value.int .u8 z_)) (show (128 : Int) = 128 by rfl)), (congrArg (fun z_ => some (Value.int .u8 z_)) (show (191 : Int) = 191 by rfl)), rfl, trivial⟩ ?_
            show (3 ≤ 3 ∧ sizeGo s p 3 (p + 1) 128 191 = sizeV s p) ∧ _
            exact ⟨⟨by decide, by
              unfold sizeV
              repeat' split
              all_goals first | rfl | (exfalso; omega)⟩, h⟩
    ·
     rintro ⟨k0, lo0, hi0⟩ w h
     obtain ⟨hJ, h⟩ := h
     replace hJ : k0 ≤ 3 ∧ sizeGo s p k0 (p + 1) lo0 hi0 = sizeV s p := hJ
     replace h : Sx.St w0 F0 ([] ++ R) w := h
     show Sx.QN _ _ _ [(0, .string (s)), (1, .int .i64 (p)), (5, .int .i64 (((k0 : Nat) : Int))), (6, .int .u8 (lo0)), (7, .int .u8 (hi0)), (9, .int .i64 (p + 1))] _
     have hj_ := hJ
     refine qn_then ?_
     refine wc_seq (wc_label (qn_then ?_))
     refine wc_sub [(0, .string (s)), (1, .int .i64 (p)), (5, .int .i64 (((k0 : Nat) : Int))), (6, .int .u8 (lo0)), (7, .int .u8 (hi0)), (9, .int .i64 ((p + 1)))] ⟨rfl, rfl, rfl, rfl, rfl, (congrArg (fun z_ => some (Value.int .i64 z_)) (show (p + 1 : Int) = (p + 1) by omega)), trivial⟩ (hF_ (k0, lo0, hi0, (p + 1)) _ ?_)
     show (k0 ≤ 3 ∧ p < (p + 1) ∧ (p + 1) ≤ (s.size : Int) ∧ 0 ≤ p ∧ sizeGo s p k0 (p + 1) lo0 hi0 = sizeV s p) ∧ _
     exact ⟨⟨hj_.1, by omega, by omega, by omega, hj_.2⟩, h⟩
set_option maxHeartbeats 4000000 in
set_option maxRecDepth 100000 in
theorem Bad_calls {w0 w : World} {F0 : Nat → Prop} {R : List Sx.HP} (s : ByteArray) (hs : s.size ≤ 1125899906842624) (h : Sx.St w0 F0 ([] ++ R) w) : Calls Try.prog 32 #[.string (s)] w (fun e w1 => e = .returned (.int .i64 (badV s)) ∧ Sx.St w0 F0 R w1) := by
 refine Sx.calls_fn (vs := [.string (s)]) Try.func32 rfl Try.ntmps32 rfl ?_
 refine wc_seq ?_
 refine wc_region ?_
 refine wl_v rfl rfl (ov_assign _ rfl) ?_
 refine wl_nil ?_
 refine qn_then ?_
 refine wc_scope 0 rfl (fun (x_ : Nat × Int) => [(0, .string (s)), (3, .int .i64 (x_.2))]) (fun (x_ : Nat × Int) (w : World) => (0 ≤ x_.2 ∧ x_.2 ≤ (s.size : Int) ∧ (s.size : Int) < x_.2 + ((x_.1 : Nat) : Int) ∧ badGo s x_.1 x_.2 = badV s) ∧ Sx.St w0 F0 ([] ++ R) w) (fun (x_ : Nat × Int) => x_.1) ?_ ?_
 ·
  rintro ⟨m, p⟩ w Z_ h hZ_
  obtain ⟨hJ, h⟩ := h
  replace hJ : 0 ≤ p ∧ p ≤ (s.size : Int) ∧ (s.size : Int) < p + ((m : Nat) : Int) ∧ badGo s m p = badV s := hJ
  replace h : Sx.St w0 F0 ([] ++ R) w := h
  show Sx.WC _ _ _ _ [(0, .string (s)), (3, .int .i64 (p))] _
  refine wc_seq ?_
  refine wc_seq ?_
  refine wc_region ?_
  refine wl_v rfl rfl (ov_move _ rfl) ?_
  refine wl_v rfl rfl (ov_move _ rfl) ?_
  refine wl_v rfl rfl (ov_lens _ rfl Try.underlying9) ?_
  refine wl_v rfl rfl (ov_bin _ rfl rfl (binR_eql)) ?_
  refine wl_nil ?_
  refine qn_then ?_
  refine wc_cond (by rfl) (fun c1 => ?_) (fun c1 => ?_)
  ·
   refine wc_seq ?_
   refine wc_region ?_
   refine wl_v rfl rfl (ov_assign _ rfl) ?_
   refine wl_nil ?_
   refine qn_then ?_
   refine wc_ret ?_
   refine qn_then_ret ?_
   refine qn_jump_ret ?_
   refine qn_ret [_] ⟨rfl, trivial⟩ ?_
   obtain ⟨m, rfl⟩ : ∃ q_, m = q_ + 1 := ⟨m - 1, by omega⟩
   have hs_ := hJ.2.2.2
   simp only [badGo] at hs_
   rw [if_pos (by omega)] at hs_
   rw [← hs_]
   exact ⟨rfl, h⟩
  ·
   refine wc_skip ?_
   refine qn_then ?_
   refine wc_seq ?_
   refine wc_region ?_
   refine wl_v rfl rfl (ov_move _ rfl) ?_
   refine wl_v rfl rfl (ov_move _ rfl) ?_
   refine wl_call _ rfl rfl rfl ent43 (RN.size_calls (R := [] ++ R) s p (by omega) (by omega) (by omega) h) ?_
   rintro e_ w_ ⟨rfl, h⟩
   refine ⟨_, rfl, ?_⟩
   have hsz_ := sizeV_bounds s p (by omega) (by omega)
   refine wl_v rfl rfl (ov_assign _ rfl) ?_
   refine wl_nil ?_
   refine qn_then ?_
   refine wc_seq ?_
   refine wc_seq ?_
   refine wc_region ?_
   refine wl_v rfl rfl (ov_move _ rfl) ?_
   refine wl_v rfl rfl (ov_bin _ rfl rfl (binR_eql)) ?_
   refine wl_nil ?_
   refine qn_then ?_
   refine wc_cond (by rfl) (fun c2 => ?_) (fun c2 => ?_)
   ·
    refine wc_seq ?_
    refine wc_region ?_
    refine wl_v rfl rfl (ov_move _ rfl) ?_
    refine wl_v rfl rfl (ov_assign _ rfl) ?_
    refine wl_nil ?_
    refine qn_then ?_
    refine wc_ret ?_
    refine qn_then_ret ?_
    refine qn_jump_ret ?_
    refine qn_ret [_] ⟨rfl, trivial⟩ ?_
    obtain ⟨m, rfl⟩ : ∃ q_, m = q_ + 1 := ⟨m - 1, by omega⟩
    have hs_ := hJ.2.2.2
    simp only [badGo] at hs_
    rw [if_neg (by omega), if_pos (by omega)] at hs_
    rw [← hs_]
    exact ⟨rfl, h⟩
   ·
    refine wc_skip ?_
    refine qn_then ?_
    refine wc_seq ?_
    refine wc_region ?_
    refine wl_v rfl rfl (ov_move _ rfl) ?_
    refine wl_v rfl rfl (ov_move _ rfl) ?_
    refine wl_v rfl rfl (ov_bin _ rfl rfl (binR_add (r := p + (sizeV s p)) (Sx.w64 (by omega)))) ?_
    refine wl_v rfl rfl (ov_assign _ rfl) ?_
    refine wl_nil ?_
    refine qn_then ?_
    refine wc_goto ?_
    refine qn_jump hZ_ ((m - 1), (p + sizeV s p)) (by show (m - 1) < m; omega) ⟨rfl, (congrArg (fun z_ => some (Value.int .i64 z_)) (show (p + (sizeV s p) : Int) = (p + sizeV s p) by omega)), trivial⟩ ?_
    show (0 ≤ (p + sizeV s p) ∧ (p + sizeV s p) ≤ (s.size : Int) ∧ (s.size : Int) < (p + sizeV s p) + (((m - 1) : Nat) : Int) ∧ badGo s (m - 1) (p + sizeV s p) = badV s) ∧ _
    obtain ⟨m, rfl⟩ : ∃ q_, m = q_ + 1 := ⟨m - 1, by omega⟩
    have hs_ := hJ.2.2.2
    simp only [badGo] at hs_
    rw [if_neg (by omega), if_neg (by omega)] at hs_
    exact ⟨⟨by omega, by omega, by omega, hs_⟩, h⟩
 ·
  intro Z_ hF_
  refine wc_seq ?_
  refine wc_region ?_
  refine wl_v rfl rfl (ov_assign _ rfl) ?_
  refine wl_nil ?_
  refine qn_then ?_
  refine wc_seq (wc_label (qn_then ?_))
  refine wc_sub [(0, .string (s)), (3, .int .i64 (0))] ⟨rfl, rfl, trivial⟩ (hF_ ((s.size + 1), 0) _ ?_)
  show (0 ≤ 0 ∧ 0 ≤ (s.size : Int) ∧ (s.size : Int) < 0 + (((s.size + 1) : Nat) : Int) ∧ badGo s (s.size + 1) 0 = badV s) ∧ _
  exact ⟨⟨Int.le_refl _, by show (0 : Int) ≤ s.size; omega, by show (s.size : Int) < 0 + ((s.size + 1 : Nat) : Int); omega, rfl⟩, h⟩
end Go.Proofs.Ytbeihfcjfkddcaa.RN
