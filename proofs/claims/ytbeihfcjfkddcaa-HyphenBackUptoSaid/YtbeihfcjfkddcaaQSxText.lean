/- Pruned by wip/prune.py. -/
import Derived.Test.YtbeihfcjfkddcaaProg
import Derived.Test.YtbeihfcjfkddcaaQSxGlue
import Derived.Test.YtbeihfcjfkddcaaQSxFlow
import Derived.Test.YtbeihfcjfkddcaaQSxIter
import Derived.Test.YtbeihfcjfkddcaaQSxBytes
import Derived.Test.YtbeihfcjfkddcaaQHyTh
import Derived.Test.YtbeihfcjfkddcaaQSxRunes
import Derived.Test.YtbeihfcjfkddcaaQSxLetter
namespace Go.Proofs.Ytbeihfcjfkddcaa.TX
open Go Go.RowKit Go.Proofs.YtbeihfcjfkddcaaW.PrintWords Go.Proofs.Ytbeihfcjfkddcaa.Hy Go.Proofs.Ytbeihfcjfkddcaa.Given Go.Proofs.Ytbeihfcjfkddcaa.Rn Go.Proofs.Ytbeihfcjfkddcaa.Sx 
set_option linter.unusedVariables false
set_option linter.unusedSimpArgs false
theorem infb5 : (Try.prog.info? 5).map (fun i => (i.zero, i.size)) = some (some (.int .u8 (0)), 1) := by kernel_rfl
theorem inf5 : (Try.prog.info? 5).map (fun i => (i.zero, i.size, i.bytes)) = some (some (.int .u8 (0)), 1, 1) := by kernel_rfl
theorem ent45 : Sx.Ent Try.prog 45 := ⟨Try.f45, Try.func45, by kernel_rfl, by kernel_rfl⟩
theorem ent46 : Sx.Ent Try.prog 46 := ⟨Try.f46, Try.func46, by kernel_rfl, by kernel_rfl⟩
theorem ent33 : Sx.Ent Try.prog 33 := ⟨Try.f33, Try.func33, by kernel_rfl, by kernel_rfl⟩
theorem infb44 : (Try.prog.info? 44).map (fun i => (i.zero, i.size)) = some (some (.agg #[.int .i64 (0), .int .i64 (0)]), 2) := by kernel_rfl
theorem inf44 : (Try.prog.info? 44).map (fun i => (i.zero, i.size, i.bytes)) = some (some (.agg #[.int .i64 (0), .int .i64 (0)]), 2, 16) := by kernel_rfl
theorem ent35 : Sx.Ent Try.prog 35 := ⟨Try.f35, Try.func35, by kernel_rfl, by kernel_rfl⟩
set_option maxHeartbeats 4000000 in
set_option maxRecDepth 100000 in
theorem low0_calls {w0 w : World} {F0 : Nat → Prop} {R : List Sx.HP} (r : Int) (h0 : 0 ≤ r) (h : Sx.St w0 F0 ([] ++ R) w) : Calls Try.prog 45 #[.int .i32 (r), .int .i64 (0)] w (fun e w1 => e = .returned (.int .u8 (128 + r % 64)) ∧ Sx.St w0 F0 R w1) := by
 refine Sx.calls_fn (vs := [.int .i32 (r), .int .i64 (0)]) Try.func45 rfl Try.ntmps45 rfl ?_
 refine wc_seq ?_
 refine wc_region ?_
 refine wl_v rfl rfl (ov_assign _ rfl) ?_
 refine wl_nil ?_
 refine qn_then ?_
 refine wc_seq ?_
 refine wc_region ?_
 refine wl_v rfl rfl (ov_move _ rfl) ?_
 refine wl_v rfl rfl (ov_move _ rfl) ?_
 refine wl_v rfl rfl (ov_bin _ rfl rfl (binR_shr (r := r / 1) (by decide) (by decide) rfl)) ?_
 refine wl_v rfl rfl (ov_convint (IntKind.wrap .u8 (r / 1)) rfl Try.underlying21 Try.underlying5 rfl) ?_
 refine wl_v rfl rfl (ov_bin _ rfl rfl (binR_and rfl)) ?_
 refine wl_v rfl rfl (ov_bin _ rfl rfl (binR_or rfl)) ?_
 refine wl_v rfl rfl (ov_assign _ rfl) ?_
 refine wl_nil ?_
 refine qn_then ?_
 refine wc_ret ?_
 refine qn_ret [_] ⟨rfl, trivial⟩ ?_
 exact ⟨congrArg (fun z => Ending.returned (Value.int .u8 z)) ((low_bits (r / 1) (by omega)).trans (by omega)), h⟩
set_option maxHeartbeats 4000000 in
set_option maxRecDepth 100000 in
theorem low6_calls {w0 w : World} {F0 : Nat → Prop} {R : List Sx.HP} (r : Int) (h0 : 0 ≤ r) (h : Sx.St w0 F0 ([] ++ R) w) : Calls Try.prog 45 #[.int .i32 (r), .int .i64 (6)] w (fun e w1 => e = .returned (.int .u8 (128 + r / 64 % 64)) ∧ Sx.St w0 F0 R w1) := by
 refine Sx.calls_fn (vs := [.int .i32 (r), .int .i64 (6)]) Try.func45 rfl Try.ntmps45 rfl ?_
 refine wc_seq ?_
 refine wc_region ?_
 refine wl_v rfl rfl (ov_assign _ rfl) ?_
 refine wl_nil ?_
 refine qn_then ?_
 refine wc_seq ?_
 refine wc_region ?_
 refine wl_v rfl rfl (ov_move _ rfl) ?_
 refine wl_v rfl rfl (ov_move _ rfl) ?_
 refine wl_v rfl rfl (ov_bin _ rfl rfl (binR_shr (r := r / 64) (by decide) (by decide) rfl)) ?_
 refine wl_v rfl rfl (ov_convint (IntKind.wrap .u8 (r / 64)) rfl Try.underlying21 Try.underlying5 rfl) ?_
 refine wl_v rfl rfl (ov_bin _ rfl rfl (binR_and rfl)) ?_
 refine wl_v rfl rfl (ov_bin _ rfl rfl (binR_or rfl)) ?_
 refine wl_v rfl rfl (ov_assign _ rfl) ?_
 refine wl_nil ?_
 refine qn_then ?_
 refine wc_ret ?_
 refine qn_ret [_] ⟨rfl, trivial⟩ ?_
 exact ⟨congrArg (fun z => Ending.returned (Value.int .u8 z)) ((low_bits (r / 64) (by omega)).trans (by omega)), h⟩
set_option maxHeartbeats 4000000 in
set_option maxRecDepth 100000 in
theorem low12_calls {w0 w : World} {F0 : Nat → Prop} {R : List Sx.HP} (r : Int) (h0 : 0 ≤ r) (h : Sx.St w0 F0 ([] ++ R) w) : Calls Try.prog 45 #[.int .i32 (r), .int .i64 (12)] w (fun e w1 => e = .returned (.int .u8 (128 + r / 4096 % 64)) ∧ Sx.St w0 F0 R w1) := by
 refine Sx.calls_fn (vs := [.int .i32 (r), .int .i64 (12)]) Try.func45 rfl Try.ntmps45 rfl ?_
 refine wc_seq ?_
 refine wc_region ?_
 refine wl_v rfl rfl (ov_assign _ rfl) ?_
 refine wl_nil ?_
 refine qn_then ?_
 refine wc_seq ?_
 refine wc_region ?_
 refine wl_v rfl rfl (ov_move _ rfl) ?_
 refine wl_v rfl rfl (ov_move _ rfl) ?_
 refine wl_v rfl rfl (ov_bin _ rfl rfl (binR_shr (r := r / 4096) (by decide) (by decide) rfl)) ?_
 refine wl_v rfl rfl (ov_convint (IntKind.wrap .u8 (r / 4096)) rfl Try.underlying21 Try.underlying5 rfl) ?_
 refine wl_v rfl rfl (ov_bin _ rfl rfl (binR_and rfl)) ?_
 refine wl_v rfl rfl (ov_bin _ rfl rfl (binR_or rfl)) ?_
 refine wl_v rfl rfl (ov_assign _ rfl) ?_
 refine wl_nil ?_
 refine qn_then ?_
 refine wc_ret ?_
 refine qn_ret [_] ⟨rfl, trivial⟩ ?_
 exact ⟨congrArg (fun z => Ending.returned (Value.int .u8 z)) ((low_bits (r / 4096) (by omega)).trans (by omega)), h⟩
set_option maxHeartbeats 4000000 in
set_option maxRecDepth 100000 in
theorem Append_calls {w0 w : World} {F0 : Nat → Prop} {R : List Sx.HP} (A : Option Addr) (c : Nat) (L : List Int) (r : Int) (hC : ∀ cs w, Sx.St w0 F0 (cs ++ R) w → (Kd.int .u8).C w A L.length L) (hL : L.length ≤ 1000000000000) (h : Sx.St w0 F0 ([] ++ R) w) : Calls Try.prog 35 #[.slice (A) (L.length) (c), .int .i32 (r)] w (fun e w1 => ∃ A2 c2, e = .returned (.slice A2 (L ++ bytesV r).length c2) ∧ Sx.St w0 F0 ([Sx.row (Kd.int .u8) 5 (A2) (c2) ((L ++ bytesV r))] ++ R) w1) := by
 refine Sx.calls_fn (vs := [.slice (A) (L.length) (c), .int .i32 (r)]) Try.func35 rfl Try.ntmps35 rfl ?_
 refine wc_seq ?_
 refine wc_region ?_
 refine wl_v rfl rfl (ov_assign _ rfl) ?_
 refine wl_nil ?_
 refine qn_then ?_
 refine wc_seq ?_
 refine wc_region ?_
 refine wl_lit (d := (Kd.int .u8)) [] _ [] ([]) h rfl rfl rfl rfl Try.underlying40 infb5 rfl (by decide) (by kernel_rfl) rfl (fun _ _ _ => (Reps.none _ _)) (fun A1 cp2 _ h => ?_)
 refine wl_v rfl rfl (ov_move _ rfl) ?_
 refine wl_append (d := (Kd.int .u8)) (L := []) 0 _ 1 _ _ _ (L) (Sx.flat_int _) h rfl rfl rfl rfl rfl ((hC [_] _ h)) Try.underlying40 inf5 rfl (by decide) (by decide) (by first | omega | (simp only [List.length_cons, List.length_nil, List.length_append, List.length_set]; omega)) (by first | rfl | simp) (fun A3 cp4 _ h => ?_)
 refine wl_v rfl rfl (ov_assign _ rfl) ?_
 refine wl_nil ?_
 refine qn_then ?_
 refine wc_seq ?_
 refine wc_block ?_
 refine wc_seq ?_
 refine wc_region ?_
 refine wl_v rfl rfl (ov_move _ rfl) ?_
 refine wl_v rfl rfl (ov_bin _ rfl rfl (binR_lss)) ?_
 refine wl_v rfl rfl (ov_move _ rfl) ?_
 refine wl_split 12 rfl (fun c5 => ?_) (fun c5 => ?_)
 ·
  refine wl_skip rfl rfl ?_
  refine wl_skip rfl rfl ?_
  refine wl_v rfl rfl (ov_pick_true _ rfl rfl) ?_
  refine wl_v rfl rfl (ov_move _ rfl) ?_
  refine wl_skip rfl rfl ?_
  refine wl_skip rfl rfl ?_
  refine wl_skip rfl rfl ?_
  refine wl_skip rfl rfl ?_
  refine wl_skip rfl rfl ?_
  refine wl_skip rfl rfl ?_
  refine wl_v rfl rfl (ov_pick_true _ rfl rfl) ?_
  refine wl_v rfl rfl (ov_assign _ rfl) ?_
  refine wl_nil ?_
  refine qn_then ?_
  refine wc_cond_true rfl ?_
  refine wc_seq ?_
  refine wc_region ?_
  refine wl_v rfl rfl (ov_move _ rfl) ?_
  refine wl_v rfl rfl (ov_assign _ rfl) ?_
  refine wl_nil ?_
  refine qn_then ?_
  refine wc_ret ?_
  refine qn_block_ret ?_
  refine qn_then_ret ?_
  have el_ : ([]) ++ L = L ++ bytesV r := by
    unfold bytesV
    first
    | (exfalso; omega)
    | (rw [if_pos (by omega)]; simp)
    | (rw [if_neg (by omega), if_pos (by omega)]; simp)
    | (rw [if_neg (by omega), if_neg (by omega), if_pos (by omega), or192 _ (by omega) (by omega)]; simp)
    | (rw [if_neg (by omega), if_neg (by omega), if_neg (by omega), if_pos (by omega), or224 _ (by omega) (by omega)]; simp)
    | (rw [if_neg (by omega), if_neg (by omega), if_neg (by omega), if_neg (by omega), or240 _ (by omega) (by omega)]; simp)
  refine qn_ret [_] ⟨rfl, trivial⟩ ?_
  rw [el_] at h ⊢
  exact ⟨A3, cp4, rfl, h⟩
 ·
  refine wl_v rfl rfl (ov_move _ rfl) ?_
  refine wl_v rfl rfl (ov_bin _ rfl rfl (binR_gtr)) ?_
  refine wl_v rfl rfl (ov_pick_false _ rfl rfl) ?_
  refine wl_v rfl rfl (ov_move _ rfl) ?_
  refine wl_split 16 rfl (fun c6 => ?_) (fun c6 => ?_)
  ·
   refine wl_skip rfl rfl ?_
   refine wl_skip rfl rfl ?_
   refine wl_skip rfl rfl ?_
   refine wl_skip rfl rfl ?_
   refine wl_skip rfl rfl ?_
   refine wl_skip rfl rfl ?_
   refine wl_v rfl rfl (ov_pick_true _ rfl rfl) ?_
   refine wl_v rfl rfl (ov_assign _ rfl) ?_
   refine wl_nil ?_
   refine qn_then ?_
   refine wc_cond_true rfl ?_
   refine wc_seq ?_
   refine wc_region ?_
   refine wl_v rfl rfl (ov_move _ rfl) ?_
   refine wl_v rfl rfl (ov_assign _ rfl) ?_
   refine wl_nil ?_
   refine qn_then ?_
   refine wc_ret ?_
   refine qn_block_ret ?_
   refine qn_then_ret ?_
   have el_ : ([]) ++ L = L ++ bytesV r := by
     unfold bytesV
     first
     | (exfalso; omega)
     | (rw [if_pos (by omega)]; simp)
     | (rw [if_neg (by omega), if_pos (by omega)]; simp)
     | (rw [if_neg (by omega), if_neg (by omega), if_pos (by omega), or192 _ (by omega) (by omega)]; simp)
     | (rw [if_neg (by omega), if_neg (by omega), if_neg (by omega), if_pos (by omega), or224 _ (by omega) (by omega)]; simp)
     | (rw [if_neg (by omega), if_neg (by omega), if_neg (by omega), if_neg (by omega), or240 _ (by omega) (by omega)]; simp)
   refine qn_ret [_] ⟨rfl, trivial⟩ ?_
   rw [el_] at h ⊢
   exact ⟨A3, cp4, rfl, h⟩
  ·
   refine wl_v rfl rfl (ov_move _ rfl) ?_
   refine wl_v rfl rfl (ov_bin _ rfl rfl (binR_geq)) ?_
   refine wl_v rfl rfl (ov_move _ rfl) ?_
   refine wl_split 19 rfl (fun c7 => ?_) (fun c7 => ?_)
   ·
    refine wl_v rfl rfl (ov_move _ rfl) ?_
    refine wl_v rfl rfl (ov_bin _ rfl rfl (binR_lss)) ?_
    refine wl_v rfl rfl (ov_pick_true _ rfl rfl) ?_
    refine wl_v rfl rfl (ov_pick_false _ rfl rfl) ?_
    refine wl_v rfl rfl (ov_assign _ rfl) ?_
    refine wl_nil ?_
    refine qn_then ?_
    refine wc_cond (by rfl) (fun c8 => ?_) (fun c8 => ?_)
    ·
     refine wc_seq ?_
     refine wc_region ?_
     refine wl_v rfl rfl (ov_move _ rfl) ?_
     refine wl_v rfl rfl (ov_assign _ rfl) ?_
     refine wl_nil ?_
     refine qn_then ?_
     refine wc_ret ?_
     refine qn_block_ret ?_
     refine qn_then_ret ?_
     have el_ : ([]) ++ L = L ++ bytesV r := by
       unfold bytesV
       first
       | (exfalso; omega)
       | (rw [if_pos (by omega)]; simp)
       | (rw [if_neg (by omega), if_pos (by omega)]; simp)
       | (rw [if_neg (by omega), if_neg (by omega), if_pos (by omega), or192 _ (by omega) (by omega)]; simp)
       | (rw [if_neg (by omega), if_neg (by omega), if_neg (by omega), if_pos (by omega), or224 _ (by omega) (by omega)]; simp)
       | (rw [if_neg (by omega), if_neg (by omega), if_neg (by omega), if_neg (by omega), or240 _ (by omega) (by omega)]; simp)
     refine qn_ret [_] ⟨rfl, trivial⟩ ?_
     rw [el_] at h ⊢
     exact ⟨A3, cp4, rfl, h⟩
    ·
     refine wc_seq ?_
     refine wc_region ?_
     refine wl_v rfl rfl (ov_move _ rfl) ?_
     refine wl_v rfl rfl (ov_bin _ rfl rfl (binR_lss)) ?_
     refine wl_v rfl rfl (ov_assign _ rfl) ?_
     refine wl_nil ?_
     refine qn_then ?_
     refine wc_cond (by rfl) (fun c9 => ?_) (fun c9 => ?_)
     ·
      refine wc_seq ?_
      refine wc_region ?_
      refine wl_v rfl rfl (ov_move _ rfl) ?_
      refine wl_v rfl rfl (ov_move _ rfl) ?_
      refine wl_v rfl rfl (ov_convint (r) rfl Try.underlying21 Try.underlying5 (Sx.w8 (by omega))) ?_
      refine wl_lit (d := (Kd.int .u8)) [(0, .int .u8 (r))] _ [.int .u8 (r)] ([r]) h rfl rfl rfl rfl Try.underlying40 infb5 rfl (by decide) (by kernel_rfl) rfl (fun _ _ _ => ((Reps.none _ _).snoc ((Sx.mkInt .u8 (r))) rfl)) (fun A10 cp11 _ h => ?_)
      refine wl_append (d := (Kd.int .u8)) (L := ([]) ++ L) 1 _ 1 _ _ _ ([r]) (Sx.flat_int _) h rfl rfl rfl rfl rfl ((Sx.row_reads h (i := 0) rfl).2) Try.underlying40 inf5 rfl (by decide) (by decide) (by first | omega | (simp only [List.length_cons, List.length_nil, List.length_append, List.length_set]; omega)) (by first | rfl | simp) (fun A12 cp13 _ h => ?_)
      replace h := st_selT [false, true] h
      refine wl_v rfl rfl (ov_assign _ rfl) ?_
      refine wl_nil ?_
      refine qn_then ?_
      refine wc_ret ?_
      refine qn_block_ret ?_
      refine qn_then_ret ?_
      have el_ : (([]) ++ L) ++ ([r]) = L ++ bytesV r := by
        unfold bytesV
        first
        | (exfalso; omega)
        | (rw [if_pos (by omega)]; simp)
        | (rw [if_neg (by omega), if_pos (by omega)]; simp)
        | (rw [if_neg (by omega), if_neg (by omega), if_pos (by omega), or192 _ (by omega) (by omega)]; simp)
        | (rw [if_neg (by omega), if_neg (by omega), if_neg (by omega), if_pos (by omega), or224 _ (by omega) (by omega)]; simp)
        | (rw [if_neg (by omega), if_neg (by omega), if_neg (by omega), if_neg (by omega), or240 _ (by omega) (by omega)]; simp)
      refine qn_ret [_] ⟨rfl, trivial⟩ ?_
      rw [el_] at h ⊢
      exact ⟨A12, cp13, rfl, h⟩
     ·
      refine wc_seq ?_
      refine wc_region ?_
      refine wl_v rfl rfl (ov_move _ rfl) ?_
      refine wl_v rfl rfl (ov_bin _ rfl rfl (binR_lss)) ?_
      refine wl_v rfl rfl (ov_assign _ rfl) ?_
      refine wl_nil ?_
      refine qn_then ?_
      refine wc_cond (by rfl) (fun c14 => ?_) (fun c14 => ?_)
      ·
       refine wc_seq ?_
       refine wc_region ?_
       refine wl_v rfl rfl (ov_move _ rfl) ?_
       refine wl_v rfl rfl (ov_move _ rfl) ?_
       refine wl_v rfl rfl (ov_bin _ rfl rfl (binR_shr (r := r / 64) (by decide) (by decide) rfl)) ?_
       refine wl_v rfl rfl (ov_convint (r / 64) rfl Try.underlying21 Try.underlying5 (Sx.w8 (by omega))) ?_
       refine wl_v rfl rfl (ov_bin _ rfl rfl (binR_or rfl)) ?_
       refine wl_v rfl rfl (ov_move _ rfl) ?_
       refine wl_call _ rfl rfl rfl ent45 (TX.low0_calls (R := [Sx.row (Kd.int .u8) 5 (A3) (cp4) (([]) ++ L)] ++ R) r (by omega) h) ?_
       rintro e_ w_ ⟨rfl, h⟩
       refine ⟨_, rfl, ?_⟩
       refine wl_lit (d := (Kd.int .u8)) [(0, .int .u8 ((Go.bits .or .u8 192 (r / 64)))), (1, .int .u8 (128 + r % 64))] _ [.int .u8 ((Go.bits .or .u8 192 (r / 64))), .int .u8 (128 + r % 64)] ([(Go.bits .or .u8 192 (r / 64)), 128 + r % 64]) h rfl rfl rfl rfl Try.underlying40 infb5 rfl (by decide) (by kernel_rfl) rfl (fun _ _ _ => (((Reps.none _ _).snoc ((Sx.mkInt .u8 ((Go.bits .or .u8 192 (r / 64))))) rfl).snoc ((Sx.mkInt .u8 (128 + r % 64))) rfl)) (fun A15 cp16 _ h => ?_)
       refine wl_append (d := (Kd.int .u8)) (L := ([]) ++ L) 1 _ 1 _ _ _ ([(Go.bits .or .u8 192 (r / 64)), 128 + r % 64]) (Sx.flat_int _) h rfl rfl rfl rfl rfl ((Sx.row_reads h (i := 0) rfl).2) Try.underlying40 inf5 rfl (by decide) (by decide) (by first | omega | (simp only [List.length_cons, List.length_nil, List.length_append, List.length_set]; omega)) (by first | rfl | simp) (fun A17 cp18 _ h => ?_)
       replace h := st_selT [false, true] h
       refine wl_v rfl rfl (ov_assign _ rfl) ?_
       refine wl_nil ?_
       refine qn_then ?_
       refine wc_ret ?_
       refine qn_block_ret ?_
       refine qn_then_ret ?_
       have el_ : (([]) ++ L) ++ ([(Go.bits .or .u8 192 (r / 64)), 128 + r % 64]) = L ++ bytesV r := by
         unfold bytesV
         first
         | (exfalso; omega)
         | (rw [if_pos (by omega)]; simp)
         | (rw [if_neg (by omega), if_pos (by omega)]; simp)
         | (rw [if_neg (by omega), if_neg (by omega), if_pos (by omega), or192 _ (by omega) (by omega)]; simp)
         | (rw [if_neg (by omega), if_neg (by omega), if_neg (by omega), if_pos (by omega), or224 _ (by omega) (by omega)]; simp)
         | (rw [if_neg (by omega), if_neg (by omega), if_neg (by omega), if_neg (by omega), or240 _ (by omega) (by omega)]; simp)
       refine qn_ret [_] ⟨rfl, trivial⟩ ?_
       rw [el_] at h ⊢
       exact ⟨A17, cp18, rfl, h⟩
      ·
       refine wc_seq ?_
       refine wc_region ?_
       refine wl_v rfl rfl (ov_move _ rfl) ?_
       refine wl_v rfl rfl (ov_bin _ rfl rfl (binR_lss)) ?_
       refine wl_v rfl rfl (ov_assign _ rfl) ?_
       refine wl_nil ?_
       refine qn_then ?_
       refine wc_cond (by rfl) (fun c19 => ?_) (fun c19 => ?_)
       ·
        refine wc_seq ?_
        refine wc_region ?_
        refine wl_v rfl rfl (ov_move _ rfl) ?_
        refine wl_v rfl rfl (ov_move _ rfl) ?_
        refine wl_v rfl rfl (ov_bin _ rfl rfl (binR_shr (r := r / 4096) (by decide) (by decide) rfl)) ?_
        refine wl_v rfl rfl (ov_convint (r / 4096) rfl Try.underlying21 Try.underlying5 (Sx.w8 (by omega))) ?_
        refine wl_v rfl rfl (ov_bin _ rfl rfl (binR_or rfl)) ?_
        refine wl_v rfl rfl (ov_move _ rfl) ?_
        refine wl_call _ rfl rfl rfl ent45 (TX.low6_calls (R := [Sx.row (Kd.int .u8) 5 (A3) (cp4) (([]) ++ L)] ++ R) r (by omega) h) ?_
        rintro e_ w_ ⟨rfl, h⟩
        refine ⟨_, rfl, ?_⟩
        refine wl_v rfl rfl (ov_move _ rfl) ?_
        refine wl_call _ rfl rfl rfl ent45 (TX.low0_calls (R := [Sx.row (Kd.int .u8) 5 (A3) (cp4) (([]) ++ L)] ++ R) r (by omega) h) ?_
        rintro e_ w_ ⟨rfl, h⟩
        refine ⟨_, rfl, ?_⟩
        refine wl_lit (d := (Kd.int .u8)) [(0, .int .u8 ((Go.bits .or .u8 224 (r / 4096)))), (1, .int .u8 (128 + r / 64 % 64)), (2, .int .u8 (128 + r % 64))] _ [.int .u8 ((Go.bits .or .u8 224 (r / 4096))), .int .u8 (128 + r / 64 % 64), .int .u8 (128 + r % 64)] ([(Go.bits .or .u8 224 (r / 4096)), 128 + r / 64 % 64, 128 + r % 64]) h rfl rfl rfl rfl Try.underlying40 infb5 rfl (by decide) (by kernel_rfl) rfl (fun _ _ _ => ((((Reps.none _ _).snoc ((Sx.mkInt .u8 ((Go.bits .or .u8 224 (r / 4096))))) rfl).snoc ((Sx.mkInt .u8 (128 + r / 64 % 64))) rfl).snoc ((Sx.mkInt .u8 (128 + r % 64))) rfl)) (fun A20 cp21 _ h => ?_)
        refine wl_append (d := (Kd.int .u8)) (L := ([]) ++ L) 1 _ 1 _ _ _ ([(Go.bits .or .u8 224 (r / 4096)), 128 + r / 64 % 64, 128 + r % 64]) (Sx.flat_int _) h rfl rfl rfl rfl rfl ((Sx.row_reads h (i := 0) rfl).2) Try.underlying40 inf5 rfl (by decide) (by decide) (by first | omega | (simp only [List.length_cons, List.length_nil, List.length_append, List.length_set]; omega)) (by first | rfl | simp) (fun A22 cp23 _ h => ?_)
        replace h := st_selT [false, true] h
        refine wl_v rfl rfl (ov_assign _ rfl) ?_
        refine wl_nil ?_
        refine qn_then ?_
        refine wc_ret ?_
        refine qn_block_ret ?_
        refine qn_then_ret ?_
        have el_ : (([]) ++ L) ++ ([(Go.bits .or .u8 224 (r / 4096)), 128 + r / 64 % 64, 128 + r % 64]) = L ++ bytesV r := by
          unfold bytesV
          first
          | (exfalso; omega)
          | (rw [if_pos (by omega)]; simp)
          | (rw [if_neg (by omega), if_pos (by omega)]; simp)
          | (rw [if_neg (by omega), if_neg (by omega), if_pos (by omega), or192 _ (by omega) (by omega)]; simp)
          | (rw [if_neg (by omega), if_neg (by omega), if_neg (by omega), if_pos (by omega), or224 _ (by omega) (by omega)]; simp)
          | (rw [if_neg (by omega), if_neg (by omega), if_neg (by omega), if_neg (by omega), or240 _ (by omega) (by omega)]; simp)
        refine qn_ret [_] ⟨rfl, trivial⟩ ?_
        rw [el_] at h ⊢
        exact ⟨A22, cp23, rfl, h⟩
       ·
        refine wc_skip ?_
        refine qn_block_normal ?_
        refine qn_then ?_
        refine wc_seq ?_
        refine wc_region ?_
        refine wl_v rfl rfl (ov_move _ rfl) ?_
        refine wl_v rfl rfl (ov_move _ rfl) ?_
        refine wl_v rfl rfl (ov_bin _ rfl rfl (binR_shr (r := r / 262144) (by decide) (by decide) rfl)) ?_
        refine wl_v rfl rfl (ov_convint (r / 262144) rfl Try.underlying21 Try.underlying5 (Sx.w8 (by omega))) ?_
        refine wl_v rfl rfl (ov_bin _ rfl rfl (binR_or rfl)) ?_
        refine wl_v rfl rfl (ov_move _ rfl) ?_
        refine wl_call _ rfl rfl rfl ent45 (TX.low12_calls (R := [Sx.row (Kd.int .u8) 5 (A3) (cp4) (([]) ++ L)] ++ R) r (by omega) h) ?_
        rintro e_ w_ ⟨rfl, h⟩
        refine ⟨_, rfl, ?_⟩
        refine wl_v rfl rfl (ov_move _ rfl) ?_
        refine wl_call _ rfl rfl rfl ent45 (TX.low6_calls (R := [Sx.row (Kd.int .u8) 5 (A3) (cp4) (([]) ++ L)] ++ R) r (by omega) h) ?_
        rintro e_ w_ ⟨rfl, h⟩
        refine ⟨_, rfl, ?_⟩
        refine wl_v rfl rfl (ov_move _ rfl) ?_
        refine wl_call _ rfl rfl rfl ent45 (TX.low0_calls (R := [Sx.row (Kd.int .u8) 5 (A3) (cp4) (([]) ++ L)] ++ R) r (by omega) h) ?_
        rintro e_ w_ ⟨rfl, h⟩
        refine ⟨_, rfl, ?_⟩
        refine wl_lit (d := (Kd.int .u8)) [(0, .int .u8 ((Go.bits .or .u8 240 (r / 262144)))), (1, .int .u8 (128 + r / 4096 % 64)), (2, .int .u8 (128 + r / 64 % 64)), (3, .int .u8 (128 + r % 64))] _ [.int .u8 ((Go.bits .or .u8 240 (r / 262144))), .int .u8 (128 + r / 4096 % 64), .int .u8 (128 + r / 64 % 64), .int .u8 (128 + r % 64)] ([(Go.bits .or .u8 240 (r / 262144)), 128 + r / 4096 % 64, 128 + r / 64 % 64, 128 + r % 64]) h rfl rfl rfl rfl Try.underlying40 infb5 rfl (by decide) (by kernel_rfl) rfl (fun _ _ _ => (((((Reps.none _ _).snoc ((Sx.mkInt .u8 ((Go.bits .or .u8 240 (r / 262144))))) rfl).snoc ((Sx.mkInt .u8 (128 + r / 4096 % 64))) rfl).snoc ((Sx.mkInt .u8 (128 + r / 64 % 64))) rfl).snoc ((Sx.mkInt .u8 (128 + r % 64))) rfl)) (fun A24 cp25 _ h => ?_)
        refine wl_append (d := (Kd.int .u8)) (L := ([]) ++ L) 1 _ 1 _ _ _ ([(Go.bits .or .u8 240 (r / 262144)), 128 + r / 4096 % 64, 128 + r / 64 % 64, 128 + r % 64]) (Sx.flat_int _) h rfl rfl rfl rfl rfl ((Sx.row_reads h (i := 0) rfl).2) Try.underlying40 inf5 rfl (by decide) (by decide) (by first | omega | (simp only [List.length_cons, List.length_nil, List.length_append, List.length_set]; omega)) (by first | rfl | simp) (fun A26 cp27 _ h => ?_)
        replace h := st_selT [false, true] h
        refine wl_v rfl rfl (ov_assign _ rfl) ?_
        refine wl_nil ?_
        refine qn_then ?_
        refine wc_ret ?_
        have el_ : (([]) ++ L) ++ ([(Go.bits .or .u8 240 (r / 262144)), 128 + r / 4096 % 64, 128 + r / 64 % 64, 128 + r % 64]) = L ++ bytesV r := by
          unfold bytesV
          first
          | (exfalso; omega)
          | (rw [if_pos (by omega)]; simp)
          | (rw [if_neg (by omega), if_pos (by omega)]; simp)
          | (rw [if_neg (by omega), if_neg (by omega), if_pos (by omega), or192 _ (by omega) (by omega)]; simp)
          | (rw [if_neg (by omega), if_neg (by omega), if_neg (by omega), if_pos (by omega), or224 _ (by omega) (by omega)]; simp)
          | (rw [if_neg (by omega), if_neg (by omega), if_neg (by omega), if_neg (by omega), or240 _ (by omega) (by omega)]; simp)
        refine qn_ret [_] ⟨rfl, trivial⟩ ?_
        rw [el_] at h ⊢
        exact ⟨A26, cp27, rfl, h⟩
   ·
    refine wl_skip rfl rfl ?_
    refine wl_skip rfl rfl ?_
    refine wl_v rfl rfl (ov_pick_false _ rfl rfl) ?_
    refine wl_v rfl rfl (ov_pick_false _ rfl rfl) ?_
    refine wl_v rfl rfl (ov_assign _ rfl) ?_
    refine wl_nil ?_
    refine qn_then ?_
    refine wc_cond_false rfl ?_
    refine wc_seq ?_
    refine wc_region ?_
    refine wl_v rfl rfl (ov_move _ rfl) ?_
    refine wl_v rfl rfl (ov_bin _ rfl rfl (binR_lss)) ?_
    refine wl_v rfl rfl (ov_assign _ rfl) ?_
    refine wl_nil ?_
    refine qn_then ?_
    refine wc_cond (by rfl) (fun c28 => ?_) (fun c28 => ?_)
    ·
     refine wc_seq ?_
     refine wc_region ?_
     refine wl_v rfl rfl (ov_move _ rfl) ?_
     refine wl_v rfl rfl (ov_move _ rfl) ?_
     refine wl_v rfl rfl (ov_convint (r) rfl Try.underlying21 Try.underlying5 (Sx.w8 (by omega))) ?_
     refine wl_lit (d := (Kd.int .u8)) [(0, .int .u8 (r))] _ [.int .u8 (r)] ([r]) h rfl rfl rfl rfl Try.underlying40 infb5 rfl (by decide) (by kernel_rfl) rfl (fun _ _ _ => ((Reps.none _ _).snoc ((Sx.mkInt .u8 (r))) rfl)) (fun A29 cp30 _ h => ?_)
     refine wl_append (d := (Kd.int .u8)) (L := ([]) ++ L) 1 _ 1 _ _ _ ([r]) (Sx.flat_int _) h rfl rfl rfl rfl rfl ((Sx.row_reads h (i := 0) rfl).2) Try.underlying40 inf5 rfl (by decide) (by decide) (by first | omega | (simp only [List.length_cons, List.length_nil, List.length_append, List.length_set]; omega)) (by first | rfl | simp) (fun A31 cp32 _ h => ?_)
     replace h := st_selT [false, true] h
     refine wl_v rfl rfl (ov_assign _ rfl) ?_
     refine wl_nil ?_
     refine qn_then ?_
     refine wc_ret ?_
     refine qn_block_ret ?_
     refine qn_then_ret ?_
     have el_ : (([]) ++ L) ++ ([r]) = L ++ bytesV r := by
       unfold bytesV
       first
       | (exfalso; omega)
       | (rw [if_pos (by omega)]; simp)
       | (rw [if_neg (by omega), if_pos (by omega)]; simp)
       | (rw [if_neg (by omega), if_neg (by omega), if_pos (by omega), or192 _ (by omega) (by omega)]; simp)
       | (rw [if_neg (by omega), if_neg (by omega), if_neg (by omega), if_pos (by omega), or224 _ (by omega) (by omega)]; simp)
       | (rw [if_neg (by omega), if_neg (by omega), if_neg (by omega), if_neg (by omega), or240 _ (by omega) (by omega)]; simp)
     refine qn_ret [_] ⟨rfl, trivial⟩ ?_
     rw [el_] at h ⊢
     exact ⟨A31, cp32, rfl, h⟩
    ·
     refine wc_seq ?_
     refine wc_region ?_
     refine wl_v rfl rfl (ov_move _ rfl) ?_
     refine wl_v rfl rfl (ov_bin _ rfl rfl (binR_lss)) ?_
     refine wl_v rfl rfl (ov_assign _ rfl) ?_
     refine wl_nil ?_
     refine qn_then ?_
     refine wc_cond (by rfl) (fun c33 => ?_) (fun c33 => ?_)
     ·
      refine wc_seq ?_
      refine wc_region ?_
      refine wl_v rfl rfl (ov_move _ rfl) ?_
      refine wl_v rfl rfl (ov_move _ rfl) ?_
      refine wl_v rfl rfl (ov_bin _ rfl rfl (binR_shr (r := r / 64) (by decide) (by decide) rfl)) ?_
      refine wl_v rfl rfl (ov_convint (r / 64) rfl Try.underlying21 Try.underlying5 (Sx.w8 (by omega))) ?_
      refine wl_v rfl rfl (ov_bin _ rfl rfl (binR_or rfl)) ?_
      refine wl_v rfl rfl (ov_move _ rfl) ?_
      refine wl_call _ rfl rfl rfl ent45 (TX.low0_calls (R := [Sx.row (Kd.int .u8) 5 (A3) (cp4) (([]) ++ L)] ++ R) r (by omega) h) ?_
      rintro e_ w_ ⟨rfl, h⟩
      refine ⟨_, rfl, ?_⟩
      refine wl_lit (d := (Kd.int .u8)) [(0, .int .u8 ((Go.bits .or .u8 192 (r / 64)))), (1, .int .u8 (128 + r % 64))] _ [.int .u8 ((Go.bits .or .u8 192 (r / 64))), .int .u8 (128 + r % 64)] ([(Go.bits .or .u8 192 (r / 64)), 128 + r % 64]) h rfl rfl rfl rfl Try.underlying40 infb5 rfl (by decide) (by kernel_rfl) rfl (fun _ _ _ => (((Reps.none _ _).snoc ((Sx.mkInt .u8 ((Go.bits .or .u8 192 (r / 64))))) rfl).snoc ((Sx.mkInt .u8 (128 + r % 64))) rfl)) (fun A34 cp35 _ h => ?_)
      refine wl_append (d := (Kd.int .u8)) (L := ([]) ++ L) 1 _ 1 _ _ _ ([(Go.bits .or .u8 192 (r / 64)), 128 + r % 64]) (Sx.flat_int _) h rfl rfl rfl rfl rfl ((Sx.row_reads h (i := 0) rfl).2) Try.underlying40 inf5 rfl (by decide) (by decide) (by first | omega | (simp only [List.length_cons, List.length_nil, List.length_append, List.length_set]; omega)) (by first | rfl | simp) (fun A36 cp37 _ h => ?_)
      replace h := st_selT [false, true] h
      refine wl_v rfl rfl (ov_assign _ rfl) ?_
      refine wl_nil ?_
      refine qn_then ?_
      refine wc_ret ?_
      refine qn_block_ret ?_
      refine qn_then_ret ?_
      have el_ : (([]) ++ L) ++ ([(Go.bits .or .u8 192 (r / 64)), 128 + r % 64]) = L ++ bytesV r := by
        unfold bytesV
        first
        | (exfalso; omega)
        | (rw [if_pos (by omega)]; simp)
        | (rw [if_neg (by omega), if_pos (by omega)]; simp)
        | (rw [if_neg (by omega), if_neg (by omega), if_pos (by omega), or192 _ (by omega) (by omega)]; simp)
        | (rw [if_neg (by omega), if_neg (by omega), if_neg (by omega), if_pos (by omega), or224 _ (by omega) (by omega)]; simp)
        | (rw [if_neg (by omega), if_neg (by omega), if_neg (by omega), if_neg (by omega), or240 _ (by omega) (by omega)]; simp)
      refine qn_ret [_] ⟨rfl, trivial⟩ ?_
      rw [el_] at h ⊢
      exact ⟨A36, cp37, rfl, h⟩
     ·
      refine wc_seq ?_
      refine wc_region ?_
      refine wl_v rfl rfl (ov_move _ rfl) ?_
      refine wl_v rfl rfl (ov_bin _ rfl rfl (binR_lss)) ?_
      refine wl_v rfl rfl (ov_assign _ rfl) ?_
      refine wl_nil ?_
      refine qn_then ?_
      refine wc_cond (by rfl) (fun c38 => ?_) (fun c38 => ?_)
      ·
       refine wc_seq ?_
       refine wc_region ?_
       refine wl_v rfl rfl (ov_move _ rfl) ?_
       refine wl_v rfl rfl (ov_move _ rfl) ?_
       refine wl_v rfl rfl (ov_bin _ rfl rfl (binR_shr (r := r / 4096) (by decide) (by decide) rfl)) ?_
       refine wl_v rfl rfl (ov_convint (r / 4096) rfl Try.underlying21 Try.underlying5 (Sx.w8 (by omega))) ?_
       refine wl_v rfl rfl (ov_bin _ rfl rfl (binR_or rfl)) ?_
       refine wl_v rfl rfl (ov_move _ rfl) ?_
       refine wl_call _ rfl rfl rfl ent45 (TX.low6_calls (R := [Sx.row (Kd.int .u8) 5 (A3) (cp4) (([]) ++ L)] ++ R) r (by omega) h) ?_
       rintro e_ w_ ⟨rfl, h⟩
       refine ⟨_, rfl, ?_⟩
       refine wl_v rfl rfl (ov_move _ rfl) ?_
       refine wl_call _ rfl rfl rfl ent45 (TX.low0_calls (R := [Sx.row (Kd.int .u8) 5 (A3) (cp4) (([]) ++ L)] ++ R) r (by omega) h) ?_
       rintro e_ w_ ⟨rfl, h⟩
       refine ⟨_, rfl, ?_⟩
       refine wl_lit (d := (Kd.int .u8)) [(0, .int .u8 ((Go.bits .or .u8 224 (r / 4096)))), (1, .int .u8 (128 + r / 64 % 64)), (2, .int .u8 (128 + r % 64))] _ [.int .u8 ((Go.bits .or .u8 224 (r / 4096))), .int .u8 (128 + r / 64 % 64), .int .u8 (128 + r % 64)] ([(Go.bits .or .u8 224 (r / 4096)), 128 + r / 64 % 64, 128 + r % 64]) h rfl rfl rfl rfl Try.underlying40 infb5 rfl (by decide) (by kernel_rfl) rfl (fun _ _ _ => ((((Reps.none _ _).snoc ((Sx.mkInt .u8 ((Go.bits .or .u8 224 (r / 4096))))) rfl).snoc ((Sx.mkInt .u8 (128 + r / 64 % 64))) rfl).snoc ((Sx.mkInt .u8 (128 + r % 64))) rfl)) (fun A39 cp40 _ h => ?_)
       refine wl_append (d := (Kd.int .u8)) (L := ([]) ++ L) 1 _ 1 _ _ _ ([(Go.bits .or .u8 224 (r / 4096)), 128 + r / 64 % 64, 128 + r % 64]) (Sx.flat_int _) h rfl rfl rfl rfl rfl ((Sx.row_reads h (i := 0) rfl).2) Try.underlying40 inf5 rfl (by decide) (by decide) (by first | omega | (simp only [List.length_cons, List.length_nil, List.length_append, List.length_set]; omega)) (by first | rfl | simp) (fun A41 cp42 _ h => ?_)
       replace h := st_selT [false, true] h
       refine wl_v rfl rfl (ov_assign _ rfl) ?_
       refine wl_nil ?_
       refine qn_then ?_
       refine wc_ret ?_
       refine qn_block_ret ?_
       refine qn_then_ret ?_
       have el_ : (([]) ++ L) ++ ([(Go.bits .or .u8 224 (r / 4096)), 128 + r / 64 % 64, 128 + r % 64]) = L ++ bytesV r := by
         unfold bytesV
         first
         | (exfalso; omega)
         | (rw [if_pos (by omega)]; simp)
         | (rw [if_neg (by omega), if_pos (by omega)]; simp)
         | (rw [if_neg (by omega), if_neg (by omega), if_pos (by omega), or192 _ (by omega) (by omega)]; simp)
         | (rw [if_neg (by omega), if_neg (by omega), if_neg (by omega), if_pos (by omega), or224 _ (by omega) (by omega)]; simp)
         | (rw [if_neg (by omega), if_neg (by omega), if_neg (by omega), if_neg (by omega), or240 _ (by omega) (by omega)]; simp)
       refine qn_ret [_] ⟨rfl, trivial⟩ ?_
       rw [el_] at h ⊢
       exact ⟨A41, cp42, rfl, h⟩
      ·
       refine wc_skip ?_
       refine qn_block_normal ?_
       refine qn_then ?_
       refine wc_seq ?_
       refine wc_region ?_
       refine wl_v rfl rfl (ov_move _ rfl) ?_
       refine wl_v rfl rfl (ov_move _ rfl) ?_
       refine wl_v rfl rfl (ov_bin _ rfl rfl (binR_shr (r := r / 262144) (by decide) (by decide) rfl)) ?_
       refine wl_v rfl rfl (ov_convint (r / 262144) rfl Try.underlying21 Try.underlying5 (Sx.w8 (by omega))) ?_
       refine wl_v rfl rfl (ov_bin _ rfl rfl (binR_or rfl)) ?_
       refine wl_v rfl rfl (ov_move _ rfl) ?_
       refine wl_call _ rfl rfl rfl ent45 (TX.low12_calls (R := [Sx.row (Kd.int .u8) 5 (A3) (cp4) (([]) ++ L)] ++ R) r (by omega) h) ?_
       rintro e_ w_ ⟨rfl, h⟩
       refine ⟨_, rfl, ?_⟩
       refine wl_v rfl rfl (ov_move _ rfl) ?_
       refine wl_call _ rfl rfl rfl ent45 (TX.low6_calls (R := [Sx.row (Kd.int .u8) 5 (A3) (cp4) (([]) ++ L)] ++ R) r (by omega) h) ?_
       rintro e_ w_ ⟨rfl, h⟩
       refine ⟨_, rfl, ?_⟩
       refine wl_v rfl rfl (ov_move _ rfl) ?_
       refine wl_call _ rfl rfl rfl ent45 (TX.low0_calls (R := [Sx.row (Kd.int .u8) 5 (A3) (cp4) (([]) ++ L)] ++ R) r (by omega) h) ?_
       rintro e_ w_ ⟨rfl, h⟩
       refine ⟨_, rfl, ?_⟩
       refine wl_lit (d := (Kd.int .u8)) [(0, .int .u8 ((Go.bits .or .u8 240 (r / 262144)))), (1, .int .u8 (128 + r / 4096 % 64)), (2, .int .u8 (128 + r / 64 % 64)), (3, .int .u8 (128 + r % 64))] _ [.int .u8 ((Go.bits .or .u8 240 (r / 262144))), .int .u8 (128 + r / 4096 % 64), .int .u8 (128 + r / 64 % 64), .int .u8 (128 + r % 64)] ([(Go.bits .or .u8 240 (r / 262144)), 128 + r / 4096 % 64, 128 + r / 64 % 64, 128 + r % 64]) h rfl rfl rfl rfl Try.underlying40 infb5 rfl (by decide) (by kernel_rfl) rfl (fun _ _ _ => (((((Reps.none _ _).snoc ((Sx.mkInt .u8 ((Go.bits .or .u8 240 (r / 262144))))) rfl).snoc ((Sx.mkInt .u8 (128 + r / 4096 % 64))) rfl).snoc ((Sx.mkInt .u8 (128 + r / 64 % 64))) rfl).snoc ((Sx.mkInt .u8 (128 + r % 64))) rfl)) (fun A43 cp44 _ h => ?_)
       refine wl_append (d := (Kd.int .u8)) (L := ([]) ++ L) 1 _ 1 _ _ _ ([(Go.bits .or .u8 240 (r / 262144)), 128 + r / 4096 % 64, 128 + r / 64 % 64, 128 + r % 64]) (Sx.flat_int _) h rfl rfl rfl rfl rfl ((Sx.row_reads h (i := 0) rfl).2) Try.underlying40 inf5 rfl (by decide) (by decide) (by first | omega | (simp only [List.length_cons, List.length_nil, List.length_append, List.length_set]; omega)) (by first | rfl | simp) (fun A45 cp46 _ h => ?_)
       replace h := st_selT [false, true] h
       refine wl_v rfl rfl (ov_assign _ rfl) ?_
       refine wl_nil ?_
       refine qn_then ?_
       refine wc_ret ?_
       have el_ : (([]) ++ L) ++ ([(Go.bits .or .u8 240 (r / 262144)), 128 + r / 4096 % 64, 128 + r / 64 % 64, 128 + r % 64]) = L ++ bytesV r := by
         unfold bytesV
         first
         | (exfalso; omega)
         | (rw [if_pos (by omega)]; simp)
         | (rw [if_neg (by omega), if_pos (by omega)]; simp)
         | (rw [if_neg (by omega), if_neg (by omega), if_pos (by omega), or192 _ (by omega) (by omega)]; simp)
         | (rw [if_neg (by omega), if_neg (by omega), if_neg (by omega), if_pos (by omega), or224 _ (by omega) (by omega)]; simp)
         | (rw [if_neg (by omega), if_neg (by omega), if_neg (by omega), if_neg (by omega), or240 _ (by omega) (by omega)]; simp)
       refine qn_ret [_] ⟨rfl, trivial⟩ ?_
       rw [el_] at h ⊢
       exact ⟨A45, cp46, rfl, h⟩
set_option maxHeartbeats 4000000 in
set_option maxRecDepth 100000 in
theorem boolInt_calls {w0 w : World} {F0 : Nat → Prop} {R : List Sx.HP} (b : Bool) (hb : b = true) (h : Sx.St w0 F0 ([] ++ R) w) : Calls Try.prog 46 #[.bool (b)] w (fun e w1 => e = .returned (.int .i64 1) ∧ Sx.St w0 F0 R w1) := by
 refine Sx.calls_fn (vs := [.bool (b)]) Try.func46 rfl Try.ntmps46 rfl ?_
 refine wc_seq ?_
 refine wc_region ?_
 refine wl_v rfl rfl (ov_assign _ rfl) ?_
 refine wl_nil ?_
 refine qn_then ?_
 refine wc_seq ?_
 refine wc_seq ?_
 refine wc_region ?_
 refine wl_v rfl rfl (ov_move _ rfl) ?_
 refine wl_nil ?_
 refine qn_then ?_
 refine wc_condb (by rfl) (fun c1 => ?_) (fun c1 => ?_)
 ·
  refine wc_seq ?_
  refine wc_region ?_
  refine wl_v rfl rfl (ov_assign _ rfl) ?_
  refine wl_nil ?_
  refine qn_then ?_
  refine wc_ret ?_
  refine qn_then_ret ?_
  refine qn_ret [_] ⟨rfl, trivial⟩ ?_
  exact ⟨rfl, h⟩
 ·
  refine wc_skip ?_
  refine qn_then ?_
  refine wc_seq ?_
  refine wc_region ?_
  refine wl_v rfl rfl (ov_assign _ rfl) ?_
  refine wl_nil ?_
  refine qn_then ?_
  refine wc_ret ?_
  refine qn_ret [_] ⟨rfl, trivial⟩ ?_
  exact absurd (hb.symm.trans (by assumption)) (by decide)
set_option maxHeartbeats 4000000 in
set_option maxRecDepth 100000 in
theorem At_calls {w0 w : World} {F0 : Nat → Prop} {R : List Sx.HP} (s : ByteArray) (n : Nat) (hb : badV s < 0) (hn : n ≤ (refV s).1.length) (hs : s.size ≤ 1000000000) (h : Sx.St w0 F0 ([] ++ R) w) : Calls Try.prog 40 #[.string (s), .int .i64 (((n : Nat) : Int))] w (fun e w1 => e = .returned (.tuple #[.int .i64 (plcV s n), .bool true]) ∧ Sx.St w0 F0 R w1) := by
 have hroom_ := refV_room s
 refine Sx.calls_fn (vs := [.string (s), .int .i64 (((n : Nat) : Int))]) Try.func40 rfl Try.ntmps40 rfl ?_
 refine wc_seq ?_
 refine wc_region ?_
 refine wl_v rfl rfl (ov_assign _ rfl) ?_
 refine wl_v rfl rfl (ov_assign _ rfl) ?_
 refine wl_nil ?_
 refine qn_then ?_
 refine wc_seq ?_
 refine wc_seq ?_
 refine wc_region ?_
 refine wl_v rfl rfl (ov_move _ rfl) ?_
 refine wl_v rfl rfl (ov_bin _ rfl rfl (binR_lss)) ?_
 refine wl_nil ?_
 refine qn_then ?_
 refine wc_cond (by rfl) (fun c1 => ?_) (fun c1 => ?_)
 ·
  refine wc_seq ?_
  refine wc_region ?_
  refine wl_v rfl rfl (ov_assign _ rfl) ?_
  refine wl_v rfl rfl (ov_assign _ rfl) ?_
  refine wl_nil ?_
  refine qn_then ?_
  refine wc_ret ?_
  refine qn_then_ret ?_
  refine qn_ret [_, _] ⟨rfl, rfl, trivial⟩ ?_
  exfalso; omega
 ·
  refine wc_skip ?_
  refine qn_then ?_
  refine wc_seq ?_
  refine wc_seq ?_
  refine wc_region ?_
  refine wl_v rfl rfl (ov_move _ rfl) ?_
  refine wl_range _ h rfl rfl rfl Try.underlying9 (fun b2 _ h => ?_)
  refine wl_nil ?_
  refine qn_then ?_
  refine wc_block ?_
  refine wc_loop (fun (x_ : Nat × (List (Int × Int)) × Nat) => [(0, .string (s)), (1, .int .i64 (((x_.2.2 : Nat) : Int))), (10, .pointer (some ⟨b2, 0, none⟩))]) (fun (x_ : Nat × (List (Int × Int)) × Nat) (w : World) => (Par s ((x_.1 : Nat) : Int) x_.2.1 s.size ∧ (x_.2.1.map (·.1) ++ [(s.size : Int)]).getD x_.2.2 0 = plcV s n ∧ x_.2.2 ≤ x_.2.1.length ∧ x_.2.2 ≤ n) ∧ Sx.St w0 F0 ([Sx.siter b2 (s) (x_.1)] ++ R) w) (fun (x_ : Nat × (List (Int × Int)) × Nat) => s.size - x_.1) (0, (refV s).1, n) ?_ ?_ ?_
  · exact ⟨rfl, rfl, rfl, trivial⟩
  · exact ⟨⟨bad_par hb, rfl, hn, Nat.le_refl _⟩, h⟩
  rintro ⟨p, rest, k⟩ w h
  obtain ⟨hJ, h⟩ := h
  replace hJ : Par s ((p : Nat) : Int) rest s.size ∧ (rest.map (·.1) ++ [(s.size : Int)]).getD k 0 = plcV s n ∧ k ≤ rest.length ∧ k ≤ n := hJ
  replace h : Sx.St w0 F0 ([Sx.siter b2 (s) (p)] ++ R) w := h
  show Sx.WC _ _ _ _ [(0, .string (s)), (1, .int .i64 (((k : Nat) : Int))), (10, .pointer (some ⟨b2, 0, none⟩))] _
  refine wc_seq ?_
  refine wc_region ?_
  refine wl_next (i := 0) h rfl rfl rfl rfl (fun c3 _ h => ?_) (fun c3 _ h => ?_)
  ·
   have hple_ := par_le hJ.1
   obtain ⟨r, l, rfl, hok_, hr_, hd1_, hd2_, hpar_, hby_⟩ := par_next hJ.1 c3
   rw [hr_]
   refine wl_v rfl rfl (ov_extract [.bool true, .int .i64 ((((p : Nat)) : Int)), .int .i32 (r)] _ rfl rfl) ?_
   refine wl_nil ?_
   refine qn_then ?_
   refine wc_seq ?_
   refine wc_cond_true rfl ?_
   refine wc_skip ?_
   refine qn_then ?_
   refine wc_block ?_
   refine wc_seq ?_
   refine wc_region ?_
   refine wl_v rfl rfl (ov_extract [.bool true, .int .i64 ((((p : Nat)) : Int)), .int .i32 (r)] _ rfl rfl) ?_
   refine wl_v rfl rfl (ov_assign _ rfl) ?_
   refine wl_nil ?_
   refine qn_then ?_
   refine wc_seq ?_
   refine wc_seq ?_
   refine wc_region ?_
   refine wl_v rfl rfl (ov_move _ rfl) ?_
   refine wl_v rfl rfl (ov_bin _ rfl rfl (binR_eql)) ?_
   refine wl_nil ?_
   refine qn_then ?_
   refine wc_cond (by rfl) (fun c4 => ?_) (fun c4 => ?_)
   ·
    refine wc_seq ?_
    refine wc_region ?_
    refine wl_v rfl rfl (ov_move _ rfl) ?_
    refine wl_v rfl rfl (ov_assign _ rfl) ?_
    refine wl_v rfl rfl (ov_assign _ rfl) ?_
    refine wl_nil ?_
    refine qn_then ?_
    refine wc_ret ?_
    refine qn_then_ret ?_
    refine qn_block_ret ?_
    refine qn_then_ret ?_
    refine qn_block_ret ?_
    refine qn_then_ret ?_
    replace h := st_selT [false] h
    refine qn_ret [_, _] ⟨rfl, rfl, trivial⟩ ?_
    have e_ := hJ.2.1
    obtain rfl : k = 0 := by omega
    rw [← e_]
    exact ⟨rfl, h⟩
   ·
    refine wc_skip ?_
    refine qn_then ?_
    refine wc_region ?_
    refine wl_v rfl rfl (ov_move _ rfl) ?_
    refine wl_v rfl rfl (ov_bin _ rfl rfl (binR_sub (r := (((k : Nat) : Int)) - 1) (Sx.w64 (by omega)))) ?_
    refine wl_v rfl rfl (ov_assign _ rfl) ?_
    refine wl_nil ?_
    refine qn_block_normal ?_
    refine qn_next ((p + (Utf8.decode s p).2), l, (k - 1)) (by show s.size - (p + (Utf8.decode s p).2) < s.size - p; omega) ⟨rfl, (congrArg (fun z_ => some (Value.int .i64 z_)) (show ((((k : Nat) : Int)) - 1 : Int) = (((k - 1) : Nat) : Int) by omega)), rfl, trivial⟩ ?_
    show (Par s (((p + (Utf8.decode s p).2) : Nat) : Int) l s.size ∧ (l.map (·.1) ++ [(s.size : Int)]).getD (k - 1) 0 = plcV s n ∧ (k - 1) ≤ l.length ∧ (k - 1) ≤ n) ∧ _
    obtain ⟨k, rfl⟩ : ∃ q_, k = q_ + 1 := ⟨k - 1, by omega⟩
    have q_ := hJ.2.2.1
    simp only [List.length_cons] at q_
    exact ⟨⟨hpar_, by rw [← hJ.2.1]; rfl, by show k ≤ l.length; omega, by show k ≤ n; omega⟩, h⟩
  ·
   have hple_ := par_le hJ.1
   obtain rfl := par_stop hJ.1 c3
   have q_ := hJ.2.2.1
   have hk0_ : k = 0 := by simpa using q_
   refine wl_v rfl rfl (ov_extract [.bool false] _ rfl rfl) ?_
   refine wl_nil ?_
   refine qn_then ?_
   refine wc_seq ?_
   refine wc_cond_false rfl ?_
   refine wc_exit ?_
   refine qn_then_exit ?_
   refine qn_then_exit ?_
   refine qn_block_exit ?_
   refine qn_then ?_
   refine wc_seq ?_
   refine wc_region ?_
   refine wl_v rfl rfl (ov_move _ rfl) ?_
   refine wl_v rfl rfl (ov_lens _ rfl Try.underlying9) ?_
   refine wl_v rfl rfl (ov_move _ rfl) ?_
   refine wl_v rfl rfl (ov_bin _ rfl rfl (binR_eql)) ?_
   refine wl_call _ rfl rfl rfl ent46 (TX.boolInt_calls (R := [Sx.siter b2 (s) (p)] ++ R) (decide ((((k : Nat) : Int) : Int) = 0)) (by first | rfl | exact decide_eq_true (by omega)) h) ?_
   rintro e_ w_ ⟨rfl, h⟩
   refine ⟨_, rfl, ?_⟩
   refine wl_v rfl rfl (ov_bin _ rfl rfl (binR_mul (r := (((s).size : Int)) * 1) (Sx.w64 (by omega)))) ?_
   refine wl_v rfl rfl (ov_move _ rfl) ?_
   refine wl_v rfl rfl (ov_bin _ rfl rfl (binR_eql)) ?_
   refine wl_v rfl rfl (ov_assign _ rfl) ?_
   refine wl_v rfl rfl (ov_assign _ rfl) ?_
   refine wl_nil ?_
   refine qn_then ?_
   refine wc_ret ?_
   replace h := st_selT [false] h
   refine qn_ret [_, _] ⟨rfl, rfl, trivial⟩ ?_
   have e_ := hJ.2.1
   subst hk0_
   rw [← e_]
   rw [show (decide (((0 : Nat) : Int) = 0)) = true from rfl]
   exact ⟨congrArg (fun z => Ending.returned (Value.tuple #[.int .i64 z, .bool true])) (by simp), h⟩
set_option maxHeartbeats 4000000 in
set_option maxRecDepth 100000 in
theorem Words_calls {w0 w : World} {F0 : Nat → Prop} {R : List Sx.HP} (s : ByteArray) (hb : badV s < 0) (hs : s.size ≤ 1000000000) (h : Sx.St w0 F0 ([] ++ R) w) : Calls Try.prog 18 #[.string (s)] w (fun e w1 => ∃ A c, e = .returned (.slice A (wordsV s).length c) ∧ Sx.St w0 F0 ([Sx.row kPr 44 (A) (c) ((wordsV s))] ++ R) w1) := by
 refine Sx.calls_fn (vs := [.string (s)]) Try.func18 rfl Try.ntmps18 rfl ?_
 refine wc_seq ?_
 refine wc_region ?_
 refine wl_v rfl rfl (ov_assign _ rfl) ?_
 refine wl_nil ?_
 refine qn_then ?_
 refine wc_seq ?_
 refine wc_region ?_
 refine wl_v rfl rfl (ov_assign _ rfl) ?_
 refine wl_nil ?_
 refine qn_then ?_
 refine wc_seq ?_
 refine wc_region ?_
 refine wl_v rfl rfl (ov_assign _ rfl) ?_
 refine wl_nil ?_
 refine qn_then ?_
 refine wc_seq ?_
 refine wc_seq ?_
 refine wc_region ?_
 refine wl_v rfl rfl (ov_move _ rfl) ?_
 refine wl_range _ h rfl rfl rfl Try.underlying9 (fun b1 _ h => ?_)
 refine wl_nil ?_
 refine qn_then ?_
 refine wc_block ?_
 replace h := st_nilrow kPr 44 h
 replace h := st_front 1 h
 refine wc_loop (fun (x_ : Nat × (List (Int × Int)) × Int × (Option Addr) × Nat × (List (Int × Int))) => [(0, .string (s)), (3, .slice (x_.2.2.2.1) ((x_.2.2.2.2.2).length) (x_.2.2.2.2.1)), (4, .int .i64 (x_.2.2.1)), (8, .pointer (some ⟨b1, 0, none⟩))]) (fun (x_ : Nat × (List (Int × Int)) × Int × (Option Addr) × Nat × (List (Int × Int))) (w : World) => (Par s ((x_.1 : Nat) : Int) x_.2.1 s.size ∧ wordsGo s.size x_.2.1 x_.2.2.1 x_.2.2.2.2.2 = wordsV s ∧ (-1 ≤ x_.2.2.1 ∧ x_.2.2.1 ≤ ((x_.1 : Nat) : Int)) ∧ (x_.2.2.2.2.2).length ≤ x_.1) ∧ Sx.St w0 F0 ([Sx.siter b1 (s) (x_.1), Sx.row kPr 44 (x_.2.2.2.1) (x_.2.2.2.2.1) (x_.2.2.2.2.2)] ++ R) w) (fun (x_ : Nat × (List (Int × Int)) × Int × (Option Addr) × Nat × (List (Int × Int))) => s.size - x_.1) (0, (refV s).1, (-1), none, 0, []) ?_ ?_ ?_
 · exact ⟨rfl, (congrArg (fun z_ => some (Value.slice (none) z_ (0))) (show (0 : Nat) = ([]).length by first | rfl | simp)), (congrArg (fun z_ => some (Value.int .i64 z_)) (show (-1 : Int) = (-1) by omega)), rfl, trivial⟩
 · exact ⟨⟨bad_par hb, rfl, ⟨Int.le_refl _, show (-1 : Int) ≤ ((0 : Nat) : Int) by decide⟩, Nat.le_refl _⟩, h⟩
 rintro ⟨p, rest, f, A, c, L⟩ w h
 obtain ⟨hJ, h⟩ := h
 replace hJ : Par s ((p : Nat) : Int) rest s.size ∧ wordsGo s.size rest f L = wordsV s ∧ (-1 ≤ f ∧ f ≤ ((p : Nat) : Int)) ∧ (L).length ≤ p := hJ
 replace h : Sx.St w0 F0 ([Sx.siter b1 (s) (p), Sx.row kPr 44 (A) (c) (L)] ++ R) w := h
 show Sx.WC _ _ _ _ [(0, .string (s)), (3, .slice (A) ((L).length) (c)), (4, .int .i64 (f)), (8, .pointer (some ⟨b1, 0, none⟩))] _
 refine wc_seq ?_
 refine wc_region ?_
 refine wl_next (i := 0) h rfl rfl rfl rfl (fun c2 _ h => ?_) (fun c2 _ h => ?_)
 ·
  have hple_ := par_le hJ.1
  obtain ⟨r, l, rfl, hok_, hr_, hd1_, hd2_, hpar_, hby_⟩ := par_next hJ.1 c2
  rw [hr_]
  refine wl_v rfl rfl (ov_extract [.bool true, .int .i64 ((((p : Nat)) : Int)), .int .i32 (r)] _ rfl rfl) ?_
  refine wl_nil ?_
  refine qn_then ?_
  refine wc_seq ?_
  refine wc_cond_true rfl ?_
  refine wc_skip ?_
  refine qn_then ?_
  refine wc_block ?_
  refine wc_seq ?_
  refine wc_region ?_
  refine wl_v rfl rfl (ov_extract [.bool true, .int .i64 ((((p : Nat)) : Int)), .int .i32 (r)] _ rfl rfl) ?_
  refine wl_v rfl rfl (ov_extract [.bool true, .int .i64 ((((p : Nat)) : Int)), .int .i32 (r)] _ rfl rfl) ?_
  refine wl_v rfl rfl (ov_assign _ rfl) ?_
  refine wl_v rfl rfl (ov_assign _ rfl) ?_
  refine wl_nil ?_
  refine qn_then ?_
  refine wc_seq ?_
  refine wc_seq ?_
  refine wc_region ?_
  refine wl_v rfl rfl (ov_move _ rfl) ?_
  refine wl_call _ rfl rfl rfl ent33 (LT.hLetter_calls (R := [Sx.siter b1 (s) (p + (Utf8.decode (s) (p)).2), Sx.row kPr 44 (A) (c) (L)] ++ R) r (by omega) (by omega) h) ?_
  rintro e_ w_ ⟨rfl, h⟩
  refine ⟨_, rfl, ?_⟩
  refine wl_nil ?_
  refine qn_then ?_
  refine wc_cond (by rfl) (fun c3 => ?_) (fun c3 => ?_)
  ·
   refine wc_seq ?_
   refine wc_seq ?_
   refine wc_region ?_
   refine wl_v rfl rfl (ov_move _ rfl) ?_
   refine wl_v rfl rfl (ov_bin _ rfl rfl (binR_lss)) ?_
   refine wl_nil ?_
   refine qn_then ?_
   refine wc_cond (by rfl) (fun c4 => ?_) (fun c4 => ?_)
   ·
    refine wc_region ?_
    refine wl_v rfl rfl (ov_move _ rfl) ?_
    refine wl_v rfl rfl (ov_assign _ rfl) ?_
    refine wl_nil ?_
    refine qn_then ?_
    refine wc_exit ?_
    refine qn_then_exit ?_
    refine qn_block_exit ?_
    replace h := st_front 1 h
    replace h := st_front 1 h
    refine qn_next ((p + (Utf8.decode s p).2), l, ((((p : Nat)) : Int)), A, c, (L)) (by show s.size - (p + (Utf8.decode s p).2) < s.size - p; omega) ⟨rfl, (congrArg (fun z_ => some (Value.slice (A) z_ (c))) (show ((L).length : Nat) = ((L)).length by first | rfl | simp)), (congrArg (fun z_ => some (Value.int .i64 z_)) (show ((((p : Nat)) : Int) : Int) = ((((p : Nat)) : Int)) by omega)), rfl, trivial⟩ ?_
    show (Par s (((p + (Utf8.decode s p).2) : Nat) : Int) l s.size ∧ wordsGo s.size l ((((p : Nat)) : Int)) (L) = wordsV s ∧ (-1 ≤ ((((p : Nat)) : Int)) ∧ ((((p : Nat)) : Int)) ≤ (((p + (Utf8.decode s p).2) : Nat) : Int)) ∧ ((L)).length ≤ (p + (Utf8.decode s p).2)) ∧ _
    have e_ := hJ.2.1
    simp only [wordsGo] at e_
    first
    | rw [if_pos (by assumption), if_pos (by omega)] at e_
    | rw [if_pos (by assumption), if_neg (by omega)] at e_
    | rw [if_neg (by assumption), if_pos (by omega)] at e_
    | rw [if_neg (by assumption), if_neg (by omega)] at e_
    exact ⟨⟨hpar_, e_, by omega, by first | omega | (simp only [List.length_append, List.length_cons, List.length_nil]; omega)⟩, h⟩
   ·
    refine wc_skip ?_
    refine qn_then ?_
    refine wc_exit ?_
    refine qn_then_exit ?_
    refine qn_block_exit ?_
    replace h := st_front 1 h
    replace h := st_front 1 h
    refine qn_next ((p + (Utf8.decode s p).2), l, (f), A, c, (L)) (by show s.size - (p + (Utf8.decode s p).2) < s.size - p; omega) ⟨rfl, (congrArg (fun z_ => some (Value.slice (A) z_ (c))) (show ((L).length : Nat) = ((L)).length by first | rfl | simp)), (congrArg (fun z_ => some (Value.int .i64 z_)) (show (f : Int) = (f) by omega)), rfl, trivial⟩ ?_
    show (Par s (((p + (Utf8.decode s p).2) : Nat) : Int) l s.size ∧ wordsGo s.size l (f) (L) = wordsV s ∧ (-1 ≤ (f) ∧ (f) ≤ (((p + (Utf8.decode s p).2) : Nat) : Int)) ∧ ((L)).length ≤ (p + (Utf8.decode s p).2)) ∧ _
    have e_ := hJ.2.1
    simp only [wordsGo] at e_
    first
    | rw [if_pos (by assumption), if_pos (by omega)] at e_
    | rw [if_pos (by assumption), if_neg (by omega)] at e_
    | rw [if_neg (by assumption), if_pos (by omega)] at e_
    | rw [if_neg (by assumption), if_neg (by omega)] at e_
    exact ⟨⟨hpar_, e_, by omega, by first | omega | (simp only [List.length_append, List.length_cons, List.length_nil]; omega)⟩, h⟩
  ·
   refine wc_skip ?_
   refine qn_then ?_
   refine wc_seq ?_
   refine wc_region ?_
   refine wl_v rfl rfl (ov_move _ rfl) ?_
   refine wl_v rfl rfl (ov_bin _ rfl rfl (binR_geq)) ?_
   refine wl_nil ?_
   refine qn_then ?_
   refine wc_cond (by rfl) (fun c5 => ?_) (fun c5 => ?_)
   ·
    refine wc_seq ?_
    refine wc_region ?_
    refine wl_v rfl rfl (ov_move _ rfl) ?_
    refine wl_v rfl rfl (ov_move _ rfl) ?_
    refine wl_v rfl rfl (ov_move _ rfl) ?_
    refine wl_v rfl rfl (ov_build [(0, .int .i64 (f)), (1, .int .i64 ((((p : Nat)) : Int)))] [.int .i64 (f), .int .i64 ((((p : Nat)) : Int))] rfl rfl (by kernel_rfl)) ?_
    refine wl_lit (d := kPr) [(0, .agg #[.int .i64 (f), .int .i64 ((((p : Nat)) : Int))])] _ [.int .i64 (f), .int .i64 ((((p : Nat)) : Int))] ([((f, (((p : Nat)) : Int)) : Int × Int)]) h rfl rfl rfl rfl Try.underlying42 infb44 rfl (by decide) (by kernel_rfl) rfl (fun _ _ _ => ((Reps.none _ _).snoc (kPr_mkM _ _ _ (((f, (((p : Nat)) : Int)) : Int × Int))) rfl)) (fun A6 cp7 _ h => ?_)
    refine wl_append (d := kPr) (L := L) 2 _ 16 _ _ _ ([((f, (((p : Nat)) : Int)) : Int × Int)]) flatPr h rfl rfl rfl rfl rfl ((Sx.row_reads h (i := 0) rfl).2) Try.underlying42 inf44 rfl (by decide) (by decide) (by first | omega | (simp only [List.length_cons, List.length_nil, List.length_append, List.length_set]; omega)) (by first | rfl | simp) (fun A8 cp9 _ h => ?_)
    replace h := st_selT [false, true, true] h
    refine wl_v rfl rfl (ov_assign _ rfl) ?_
    refine wl_nil ?_
    refine qn_then ?_
    refine wc_region ?_
    refine wl_v rfl rfl (ov_assign _ rfl) ?_
    refine wl_nil ?_
    refine qn_block_normal ?_
    replace h := st_front 1 h
    replace h := st_front 1 h
    refine qn_next ((p + (Utf8.decode s p).2), l, (-1), A8, cp9, (L ++ ([((f, (((p : Nat)) : Int)) : Int × Int)]))) (by show s.size - (p + (Utf8.decode s p).2) < s.size - p; omega) ⟨rfl, (congrArg (fun z_ => some (Value.slice (A8) z_ (cp9))) (show ((L ++ ([((f, (((p : Nat)) : Int)) : Int × Int)])).length : Nat) = ((L ++ ([((f, (((p : Nat)) : Int)) : Int × Int)]))).length by first | rfl | simp)), (congrArg (fun z_ => some (Value.int .i64 z_)) (show (-1 : Int) = (-1) by omega)), rfl, trivial⟩ ?_
    show (Par s (((p + (Utf8.decode s p).2) : Nat) : Int) l s.size ∧ wordsGo s.size l (-1) (L ++ ([((f, (((p : Nat)) : Int)) : Int × Int)])) = wordsV s ∧ (-1 ≤ (-1) ∧ (-1) ≤ (((p + (Utf8.decode s p).2) : Nat) : Int)) ∧ ((L ++ ([((f, (((p : Nat)) : Int)) : Int × Int)]))).length ≤ (p + (Utf8.decode s p).2)) ∧ _
    have e_ := hJ.2.1
    simp only [wordsGo] at e_
    first
    | rw [if_pos (by assumption), if_pos (by omega)] at e_
    | rw [if_pos (by assumption), if_neg (by omega)] at e_
    | rw [if_neg (by assumption), if_pos (by omega)] at e_
    | rw [if_neg (by assumption), if_neg (by omega)] at e_
    exact ⟨⟨hpar_, e_, by omega, by first | omega | (simp only [List.length_append, List.length_cons, List.length_nil]; omega)⟩, h⟩
   ·
    refine wc_skip ?_
    refine qn_block_normal ?_
    replace h := st_front 1 h
    replace h := st_front 1 h
    refine qn_next ((p + (Utf8.decode s p).2), l, (f), A, c, (L)) (by show s.size - (p + (Utf8.decode s p).2) < s.size - p; omega) ⟨rfl, (congrArg (fun z_ => some (Value.slice (A) z_ (c))) (show ((L).length : Nat) = ((L)).length by first | rfl | simp)), (congrArg (fun z_ => some (Value.int .i64 z_)) (show (f : Int) = (f) by omega)), rfl, trivial⟩ ?_
    show (Par s (((p + (Utf8.decode s p).2) : Nat) : Int) l s.size ∧ wordsGo s.size l (f) (L) = wordsV s ∧ (-1 ≤ (f) ∧ (f) ≤ (((p + (Utf8.decode s p).2) : Nat) : Int)) ∧ ((L)).length ≤ (p + (Utf8.decode s p).2)) ∧ _
    have e_ := hJ.2.1
    simp only [wordsGo] at e_
    first
    | rw [if_pos (by assumption), if_pos (by omega)] at e_
    | rw [if_pos (by assumption), if_neg (by omega)] at e_
    | rw [if_neg (by assumption), if_pos (by omega)] at e_
    | rw [if_neg (by assumption), if_neg (by omega)] at e_
    exact ⟨⟨hpar_, e_, by omega, by first | omega | (simp only [List.length_append, List.length_cons, List.length_nil]; omega)⟩, h⟩
 ·
  have hple_ := par_le hJ.1
  obtain rfl := par_stop hJ.1 c2
  refine wl_v rfl rfl (ov_extract [.bool false] _ rfl rfl) ?_
  refine wl_nil ?_
  refine qn_then ?_
  refine wc_seq ?_
  refine wc_cond_false rfl ?_
  refine wc_exit ?_
  refine qn_then_exit ?_
  refine qn_then_exit ?_
  refine qn_block_exit ?_
  refine qn_then ?_
  refine wc_seq ?_
  refine wc_seq ?_
  refine wc_region ?_
  refine wl_v rfl rfl (ov_move _ rfl) ?_
  refine wl_v rfl rfl (ov_bin _ rfl rfl (binR_geq)) ?_
  refine wl_nil ?_
  refine qn_then ?_
  refine wc_cond (by rfl) (fun c10 => ?_) (fun c10 => ?_)
  ·
   refine wc_region ?_
   refine wl_v rfl rfl (ov_move _ rfl) ?_
   refine wl_v rfl rfl (ov_move _ rfl) ?_
   refine wl_v rfl rfl (ov_move _ rfl) ?_
   refine wl_v rfl rfl (ov_lens _ rfl Try.underlying9) ?_
   refine wl_v rfl rfl (ov_build [(0, .int .i64 (f)), (1, .int .i64 (((s).size : Int)))] [.int .i64 (f), .int .i64 (((s).size : Int))] rfl rfl (by kernel_rfl)) ?_
   refine wl_lit (d := kPr) [(0, .agg #[.int .i64 (f), .int .i64 (((s).size : Int))])] _ [.int .i64 (f), .int .i64 (((s).size : Int))] ([((f, ((s).size : Int)) : Int × Int)]) h rfl rfl rfl rfl Try.underlying42 infb44 rfl (by decide) (by kernel_rfl) rfl (fun _ _ _ => ((Reps.none _ _).snoc (kPr_mkM _ _ _ (((f, ((s).size : Int)) : Int × Int))) rfl)) (fun A11 cp12 _ h => ?_)
   refine wl_append (d := kPr) (L := L) 2 _ 16 _ _ _ ([((f, ((s).size : Int)) : Int × Int)]) flatPr h rfl rfl rfl rfl rfl ((Sx.row_reads h (i := 0) rfl).2) Try.underlying42 inf44 rfl (by decide) (by decide) (by first | omega | (simp only [List.length_cons, List.length_nil, List.length_append, List.length_set]; omega)) (by first | rfl | simp) (fun A13 cp14 _ h => ?_)
   replace h := st_selT [false, true, true] h
   refine wl_v rfl rfl (ov_assign _ rfl) ?_
   refine wl_nil ?_
   refine qn_then ?_
   refine wc_seq ?_
   refine wc_region ?_
   refine wl_v rfl rfl (ov_move _ rfl) ?_
   refine wl_v rfl rfl (ov_assign _ rfl) ?_
   refine wl_nil ?_
   refine qn_then ?_
   refine wc_ret ?_
   have e_ := hJ.2.1
   simp only [wordsGo] at e_
   rw [if_pos (by omega)] at e_
   replace h := st_front 1 h
   replace h := st_selT [true, false] h
   refine qn_ret [_] ⟨rfl, trivial⟩ ?_
   rw [← e_]
   exact ⟨A13, cp14, rfl, h⟩
  ·
   refine wc_skip ?_
   refine qn_then ?_
   refine wc_seq ?_
   refine wc_region ?_
   refine wl_v rfl rfl (ov_move _ rfl) ?_
   refine wl_v rfl rfl (ov_assign _ rfl) ?_
   refine wl_nil ?_
   refine qn_then ?_
   refine wc_ret ?_
   have e_ := hJ.2.1
   simp only [wordsGo] at e_
   rw [if_neg (by omega)] at e_
   replace h := st_front 1 h
   replace h := st_selT [true, false] h
   refine qn_ret [_] ⟨rfl, trivial⟩ ?_
   rw [← e_]
   exact ⟨A, c, rfl, h⟩
set_option maxHeartbeats 4000000 in
set_option maxRecDepth 100000 in
theorem Strip_calls {w0 w : World} {F0 : Nat → Prop} {R : List Sx.HP} (s : ByteArray) (hb : badV s < 0) (hs : s.size ≤ 1000000000) (h : Sx.St w0 F0 ([] ++ R) w) : Calls Try.prog 23 #[.string (s)] w (fun e w1 => e = .returned (.string (strOfNums (stripV s))) ∧ Sx.St w0 F0 R w1) := by
 refine Sx.calls_fn (vs := [.string (s)]) Try.func23 rfl Try.ntmps23 rfl ?_
 refine wc_seq ?_
 refine wc_region ?_
 refine wl_v rfl rfl (ov_assign _ rfl) ?_
 refine wl_nil ?_
 refine qn_then ?_
 refine wc_seq ?_
 refine wc_region ?_
 refine wl_v rfl rfl (ov_assign _ rfl) ?_
 refine wl_nil ?_
 refine qn_then ?_
 refine wc_seq ?_
 refine wc_seq ?_
 refine wc_region ?_
 refine wl_v rfl rfl (ov_move _ rfl) ?_
 refine wl_range _ h rfl rfl rfl Try.underlying9 (fun b1 _ h => ?_)
 refine wl_nil ?_
 refine qn_then ?_
 refine wc_block ?_
 replace h := st_nilrow (Kd.int .u8) 5 h
 replace h := st_front 1 h
 refine wc_loop (fun (x_ : Nat × (List (Int × Int)) × (Option Addr) × Nat × (List Int)) => [(3, .slice (x_.2.2.1) ((x_.2.2.2.2).length) (x_.2.2.2.1)), (7, .pointer (some ⟨b1, 0, none⟩))]) (fun (x_ : Nat × (List (Int × Int)) × (Option Addr) × Nat × (List Int)) (w : World) => (Par s ((x_.1 : Nat) : Int) x_.2.1 s.size ∧ x_.2.2.2.2 ++ stripGo x_.2.1 = stripV s ∧ (x_.2.2.2.2).length ≤ x_.1) ∧ Sx.St w0 F0 ([Sx.siter b1 (s) (x_.1), Sx.row (Kd.int .u8) 5 (x_.2.2.1) (x_.2.2.2.1) (x_.2.2.2.2)] ++ R) w) (fun (x_ : Nat × (List (Int × Int)) × (Option Addr) × Nat × (List Int)) => s.size - x_.1) (0, (refV s).1, none, 0, []) ?_ ?_ ?_
 · exact ⟨(congrArg (fun z_ => some (Value.slice (none) z_ (0))) (show (0 : Nat) = ([]).length by first | rfl | simp)), rfl, trivial⟩
 · exact ⟨⟨bad_par hb, rfl, Nat.le_refl _⟩, h⟩
 rintro ⟨p, rest, A, c, L⟩ w h
 obtain ⟨hJ, h⟩ := h
 replace hJ : Par s ((p : Nat) : Int) rest s.size ∧ L ++ stripGo rest = stripV s ∧ (L).length ≤ p := hJ
 replace h : Sx.St w0 F0 ([Sx.siter b1 (s) (p), Sx.row (Kd.int .u8) 5 (A) (c) (L)] ++ R) w := h
 show Sx.WC _ _ _ _ [(3, .slice (A) ((L).length) (c)), (7, .pointer (some ⟨b1, 0, none⟩))] _
 refine wc_seq ?_
 refine wc_region ?_
 refine wl_next (i := 0) h rfl rfl rfl rfl (fun c2 _ h => ?_) (fun c2 _ h => ?_)
 ·
  have hple_ := par_le hJ.1
  obtain ⟨r, l, rfl, hok_, hr_, hd1_, hd2_, hpar_, hby_⟩ := par_next hJ.1 c2
  rw [hr_]
  refine wl_v rfl rfl (ov_extract [.bool true, .int .i64 ((((p : Nat)) : Int)), .int .i32 (r)] _ rfl rfl) ?_
  refine wl_nil ?_
  refine qn_then ?_
  refine wc_seq ?_
  refine wc_cond_true rfl ?_
  refine wc_skip ?_
  refine qn_then ?_
  refine wc_block ?_
  refine wc_seq ?_
  refine wc_region ?_
  refine wl_v rfl rfl (ov_extract [.bool true, .int .i64 ((((p : Nat)) : Int)), .int .i32 (r)] _ rfl rfl) ?_
  refine wl_v rfl rfl (ov_assign _ rfl) ?_
  refine wl_nil ?_
  refine qn_then ?_
  refine wc_seq ?_
  refine wc_region ?_
  refine wl_v rfl rfl (ov_move _ rfl) ?_
  refine wl_v rfl rfl (ov_bin _ rfl rfl (binR_neq)) ?_
  refine wl_nil ?_
  refine qn_then ?_
  refine wc_cond (by rfl) (fun c3 => ?_) (fun c3 => ?_)
  ·
   refine wc_region ?_
   refine wl_v rfl rfl (ov_move _ rfl) ?_
   refine wl_v rfl rfl (ov_move _ rfl) ?_
   refine wl_call _ rfl rfl rfl ent35 (TX.Append_calls (R := [Sx.siter b1 (s) (p + (Utf8.decode (s) (p)).2), Sx.row (Kd.int .u8) 5 (A) (c) (L)] ++ R) (A) (c) (L) (r) (Sx.row_reads_at (R := [Sx.siter b1 (s) (p + (Utf8.decode (s) (p)).2), Sx.row (Kd.int .u8) 5 (A) (c) (L)] ++ R) (j := 1) rfl) (by omega) h) ?_
   rintro e_ w_ ⟨Au4, cu4, rfl, h⟩
   refine ⟨_, rfl, ?_⟩
   have hblu4 := bytes_le (r)
   replace h : Sx.St w0 F0 ([Sx.row (Kd.int .u8) 5 (Au4) (cu4) ((L ++ bytesV r)), Sx.siter b1 (s) (p + (Utf8.decode (s) (p)).2), Sx.row (Kd.int .u8) 5 (A) (c) (L)] ++ R) _ := h
   replace h := st_selT [true, true, false] h
   refine wl_v rfl rfl (ov_assign _ rfl) ?_
   refine wl_nil ?_
   refine qn_block_normal ?_
   replace h := st_front 1 h
   refine qn_next ((p + (Utf8.decode s p).2), l, Au4, cu4, ((L ++ bytesV r))) (by show s.size - (p + (Utf8.decode s p).2) < s.size - p; omega) ⟨(congrArg (fun z_ => some (Value.slice (Au4) z_ (cu4))) (show ((L ++ bytesV r).length : Nat) = (((L ++ bytesV r))).length by first | rfl | simp)), rfl, trivial⟩ ?_
   show (Par s (((p + (Utf8.decode s p).2) : Nat) : Int) l s.size ∧ ((L ++ bytesV r)) ++ stripGo l = stripV s ∧ (((L ++ bytesV r))).length ≤ (p + (Utf8.decode s p).2)) ∧ _
   have e_ := hJ.2.1
   simp only [stripGo] at e_
   first
   | rw [if_pos (by omega)] at e_
   | rw [if_neg (by omega), ← List.append_assoc] at e_
   exact ⟨⟨hpar_, e_, by have q_ := congrArg List.length hby_; rw [bytesAt_len] at q_; first | omega | (simp only [List.length_append]; omega)⟩, h⟩
  ·
   refine wc_skip ?_
   refine qn_block_normal ?_
   replace h := st_front 1 h
   replace h := st_front 1 h
   refine qn_next ((p + (Utf8.decode s p).2), l, A, c, (L)) (by show s.size - (p + (Utf8.decode s p).2) < s.size - p; omega) ⟨(congrArg (fun z_ => some (Value.slice (A) z_ (c))) (show ((L).length : Nat) = ((L)).length by first | rfl | simp)), rfl, trivial⟩ ?_
   show (Par s (((p + (Utf8.decode s p).2) : Nat) : Int) l s.size ∧ (L) ++ stripGo l = stripV s ∧ ((L)).length ≤ (p + (Utf8.decode s p).2)) ∧ _
   have e_ := hJ.2.1
   simp only [stripGo] at e_
   first
   | rw [if_pos (by omega)] at e_
   | rw [if_neg (by omega), ← List.append_assoc] at e_
   exact ⟨⟨hpar_, e_, by have q_ := congrArg List.length hby_; rw [bytesAt_len] at q_; first | omega | (simp only [List.length_append]; omega)⟩, h⟩
 ·
  have hple_ := par_le hJ.1
  obtain rfl := par_stop hJ.1 c2
  refine wl_v rfl rfl (ov_extract [.bool false] _ rfl rfl) ?_
  refine wl_nil ?_
  refine qn_then ?_
  refine wc_seq ?_
  refine wc_cond_false rfl ?_
  refine wc_exit ?_
  refine qn_then_exit ?_
  refine qn_then_exit ?_
  refine qn_block_exit ?_
  refine qn_then ?_
  refine wc_seq ?_
  refine wc_region ?_
  refine wl_v rfl rfl (ov_move _ rfl) ?_
  refine wl_v rfl rfl (ov_string rfl ((Sx.row_reads h (i := 1) rfl).2) Try.underlying40 Try.underlying5 Try.underlying9) ?_
  refine wl_v rfl rfl (ov_assign _ rfl) ?_
  refine wl_nil ?_
  refine qn_then ?_
  refine wc_ret ?_
  replace h := st_selT [false, false] h
  refine qn_ret [_] ⟨rfl, trivial⟩ ?_
  have e_ := hJ.2.1
  simp only [stripGo, List.append_nil] at e_
  rw [← e_]
  exact ⟨rfl, h⟩
end Go.Proofs.Ytbeihfcjfkddcaa.TX
