/- Pruned by wip/prune.py. -/
import Derived.Test.YtbeihfcjfkddcaaProg
import Derived.Test.YtbeihfcjfkddcaaQSxGlue
import Derived.Test.YtbeihfcjfkddcaaQSxFlow
import Derived.Test.YtbeihfcjfkddcaaQSxIter
import Derived.Test.YtbeihfcjfkddcaaQSxBytes
import Derived.Test.YtbeihfcjfkddcaaQHyTh
import Derived.Test.YtbeihfcjfkddcaaQSxRunes
import Derived.Test.YtbeihfcjfkddcaaQSxLetter
namespace Go.Proofs.Ytbeihfcjfkddcaa.TX
open Go Go.RowKit Go.Proofs.YtbeihfcjfkddcaaW.PrintWords Go.Proofs.Ytbeihfcjfkddcaa.Hy Go.Proofs.Ytbeihfcjfkddcaa.Given Go.Proofs.Ytbeihfcjfkddcaa.Rn Go.Proofs.Ytbeihfcjfkddcaa.Sx 
set_option linter.unusedVariables false
set_option linter.unusedSimpArgs false
theorem infb5 : (Try.prog.info? 5).map (fun i => (i.zero, i.size)) = some (some (.int .u8 (0)), 1) := by kernel_rfl
theorem inf5 : (Try.prog.info? 5).map (fun i => (i.zero, i.size, i.bytes)) = some (some (.int .u8 (0)), 1, 1) := by kernel_rfl
theorem ent45 : Sx.Ent Try.prog 45 := ⟨Try.f45, Try.func45, by kernel_rfl, by kernel_rfl⟩
theorem ent33 : Sx.Ent Try.prog 33 := ⟨Try.f33, Try.func33, by kernel_rfl, by kernel_rfl⟩
theorem ent35 : Sx.Ent Try.prog 35 := ⟨Try.f35, Try.func35, by kernel_rfl, by kernel_rfl⟩
set_option maxHeartbeats 4000000 in
set_option maxRecDepth 100000 in
theorem low0_calls {w0 w : World} {F0 : Nat → Prop} {R : List Sx.HP} (r : Int) (h0 : 0 ≤ r) (h : Sx.St w0 F0 ([] ++ R) w) : Calls Try.prog 45 #[.int .i32 (r), .int .i64 (0)] w (fun e w1 => e = .returned (.int .u8 (128 + r % 64)) ∧ Sx.St w0 F0 R w1) := by
 refine Sx.calls_fn (vs := [.int .i32 (r), .int .i64 (0)]) Try.func45 rfl Try.ntmps45 rfl ?_
 refine wc_seq ?_
 refine wc_region ?_
 refine wl_v rfl rfl (ov_assign _ rfl) ?_
 refine wl_nil ?_
 refine qn_then ?_
 refine wc_seq ?_
 refine wc_region ?_
 refine wl_v rfl rfl (ov_move _ rfl) ?_
 refine wl_v rfl rfl (ov_move _ rfl) ?_
 refine wl_v rfl rfl (ov_bin _ rfl rfl (binR_shr (r := r / 1) (by decide) (by decide) rfl)) ?_
 refine wl_v rfl rfl (ov_convint (IntKind.wrap .u8 (r / 1)) rfl Try.underlying21 Try.underlying5 rfl) ?_
 refine wl_v rfl rfl (ov_bin _ rfl rfl (binR_and rfl)) ?_
 refine wl_v rfl rfl (ov_bin _ rfl rfl (binR_or rfl)) ?_
 refine wl_v rfl rfl (ov_assign _ rfl) ?_
 refine wl_nil ?_
 refine qn_then ?_
 refine wc_ret ?_
 refine qn_ret [_] ⟨rfl, trivial⟩ ?_
 exact ⟨congrArg (fun z => Ending.returned (Value.int .u8 z)) ((low_bits (r / 1) (by omega)).trans (by omega)), h⟩
set_option maxHeartbeats 4000000 in
set_option maxRecDepth 100000 in
theorem low6_calls {w0 w : World} {F0 : Nat → Prop} {R : List Sx.HP} (r : Int) (h0 : 0 ≤ r) (h : Sx.St w0 F0 ([] ++ R) w) : Calls Try.prog 45 #[.int .i32 (r), .int .i64 (6)] w (fun e w1 => e = .returned (.int .u8 (128 + r / 64 % 64)) ∧ Sx.St w0 F0 R w1) := by
 refine Sx.calls_fn (vs := [.int .i32 (r), .int .i64 (6)]) Try.func45 rfl Try.ntmps45 rfl ?_
 refine wc_seq ?_
 refine wc_region ?_
 refine wl_v rfl rfl (ov_assign _ rfl) ?_
 refine wl_nil ?_
 refine qn_then ?_
 refine wc_seq ?_
 refine wc_region ?_
 refine wl_v rfl rfl (ov_move _ rfl) ?_
 refine wl_v rfl rfl (ov_move _ rfl) ?_
 refine wl_v rfl rfl (ov_bin _ rfl rfl (binR_shr (r := r / 64) (by decide) (by decide) rfl)) ?_
 refine wl_v rfl rfl (ov_convint (IntKind.wrap .u8 (r / 64)) rfl Try.underlying21 Try.underlying5 rfl) ?_
 refine wl_v rfl rfl (ov_bin _ rfl rfl (binR_and rfl)) ?_
 refine wl_v rfl rfl (ov_bin _ rfl rfl (binR_or rfl)) ?_
 refine wl_v rfl rfl (ov_assign _ rfl) ?_
 refine wl_nil ?_
 refine qn_then ?_
 refine wc_ret ?_
 refine qn_ret [_] ⟨rfl, trivial⟩ ?_
 exact ⟨congrArg (fun z => Ending.returned (Value.int .u8 z)) ((low_bits (r / 64) (by omega)).trans (by omega)), h⟩
set_option maxHeartbeats 4000000 in
set_option maxRecDepth 100000 in
theorem low12_calls {w0 w : World} {F0 : Nat → Prop} {R : List Sx.HP} (r : Int) (h0 : 0 ≤ r) (h : Sx.St w0 F0 ([] ++ R) w) : Calls Try.prog 45 #[.int .i32 (r), .int .i64 (12)] w (fun e w1 => e = .returned (.int .u8 (128 + r / 4096 % 64)) ∧ Sx.St w0 F0 R w1) := by
 refine Sx.calls_fn (vs := [.int .i32 (r), .int .i64 (12)]) Try.func45 rfl Try.ntmps45 rfl ?_
 refine wc_seq ?_
 refine wc_region ?_
 refine wl_v rfl rfl (ov_assign _ rfl) ?_
 refine wl_nil ?_
 refine qn_then ?_
 refine wc_seq ?_
 refine wc_region ?_
 refine wl_v rfl rfl (ov_move _ rfl) ?_
 refine wl_v rfl rfl (ov_move _ rfl) ?_
 refine wl_v rfl rfl (ov_bin _ rfl rfl (binR_shr (r := r / 4096) (by decide) (by decide) rfl)) ?_
 refine wl_v rfl rfl (ov_convint (IntKind.wrap .u8 (r / 4096)) rfl Try.underlying21 Try.underlying5 rfl) ?_
 refine wl_v rfl rfl (ov_bin _ rfl rfl (binR_and rfl)) ?_
 refine wl_v rfl rfl (ov_bin _ rfl rfl (binR_or rfl)) ?_
 refine wl_v rfl rfl (ov_assign _ rfl) ?_
 refine wl_nil ?_
 refine qn_then ?_
 refine wc_ret ?_
 refine qn_ret [_] ⟨rfl, trivial⟩ ?_
 exact ⟨congrArg (fun z => Ending.returned (Value.int .u8 z)) ((low_bits (r / 4096) (by omega)).trans (by omega)), h⟩
set_option maxHeartbeats 4000000 in
set_option maxRecDepth 100000 in
theorem Append_calls {w0 w : World} {F0 : Nat → Prop} {R : List Sx.HP} (A : Option Addr) (c : Nat) (L : List Int) (r : Int) (hC : ∀ cs w, Sx.St w0 F0 (cs ++ R) w → (Kd.int .u8).C w A L.length L) (hL : L.length ≤ 1000000000000) (h : Sx.St w0 F0 ([] ++ R) w) : Calls Try.prog 35 #[.slice (A) (L.length) (c), .int .i32 (r)] w (fun e w1 => ∃ A2 c2, e = .returned (.slice A2 (L ++ bytesV r).length c2) ∧ Sx.St w0 F0 ([Sx.row (Kd.int .u8) 5 (A2) (c2) ((L ++ bytesV r))] ++ R) w1) := by
 refine Sx.calls_fn (vs := [.slice (A) (L.length) (c), .int .i32 (r)]) Try.func35 rfl Try.ntmps35 rfl ?_
 refine wc_seq ?_
 refine wc_region ?_
 refine wl_v rfl rfl (ov_assign _ rfl) ?_
 refine wl_nil ?_
 refine qn_then ?_
 refine wc_seq ?_
 refine wc_region ?_
 refine wl_lit (d := (Kd.int .u8)) [] _ [] ([]) h rfl rfl rfl rfl Try.underlying40 infb5 rfl (by decide) (by kernel_rfl) rfl (fun _ _ _ => (Reps.none _ _)) (fun A1 cp2 _ h => ?_)
 refine wl_v rfl rfl (ov_move _ rfl) ?_
 refine wl_append (d := (Kd.int .u8)) (L := []) 0 _ 1 _ _ _ (L) (Sx.flat_int _) h rfl rfl rfl rfl rfl ((hC [_] _ h)) Try.underlying40 inf5 rfl (by decide) (by decide) (by first | omega | (simp only [List.length_cons, List.length_nil, List.length_append, List.length_set]; omega)) (by first | rfl | simp) (fun A3 cp4 _ h => ?_)
 refine wl_v rfl rfl (ov_assign _ rfl) ?_
 refine wl_nil ?_
 refine qn_then ?_
 refine wc_seq ?_
 refine wc_block ?_
 refine wc_seq ?_
 refine wc_region ?_
 refine wl_v rfl rfl (ov_move _ rfl) ?_
 refine wl_v rfl rfl (ov_bin _ rfl rfl (binR_lss)) ?_
 refine wl_v rfl rfl (ov_move _ rfl) ?_
 refine wl_split 12 rfl (fun c5 => ?_) (fun c5 => ?_)
 ·
  refine wl_skip rfl rfl ?_
  refine wl_skip rfl rfl ?_
  refine wl_v rfl rfl (ov_pick_true _ rfl rfl) ?_
  refine wl_v rfl rfl (ov_move _ rfl) ?_
  refine wl_skip rfl rfl ?_
  refine wl_skip rfl rfl ?_
  refine wl_skip rfl rfl ?_
  refine wl_skip rfl rfl ?_
  refine wl_skip rfl rfl ?_
  refine wl_skip rfl rfl ?_
  refine wl_v rfl rfl (ov_pick_true _ rfl rfl) ?_
  refine wl_v rfl rfl (ov_assign _ rfl) ?_
  refine wl_nil ?_
  refine qn_then ?_
  refine wc_cond_true rfl ?_
  refine wc_seq ?_
  refine wc_region ?_
  refine wl_v rfl rfl (ov_move _ rfl) ?_
  refine wl_v rfl rfl (ov_assign _ rfl) ?_
  refine wl_nil ?_
  refine qn_then ?_
  refine wc_ret ?_
  refine qn_block_ret ?_
  refine qn_then_ret ?_
  have el_ : ([]) ++ L = L ++ bytesV r := by
    unfold bytesV
    first
    | (exfalso; omega)
    | (rw [if_pos (by omega)]; simp)
    | (rw [if_neg (by omega), if_pos (by omega)]; simp)
    | (rw [if_neg (by omega), if_neg (by omega), if_pos (by omega), or192 _ (by omega) (by omega)]; simp)
    | (rw [if_neg (by omega), if_neg (by omega), if_neg (by omega), if_pos (by omega), or224 _ (by omega) (by omega)]; simp)
    | (rw [if_neg (by omega), if_neg (by omega), if_neg (by omega), if_neg (by omega), or240 _ (by omega) (by omega)]; simp)
  refine qn_ret [_] ⟨rfl, trivial⟩ ?_
  rw [el_] at h ⊢
  exact ⟨A3, cp4, rfl, h⟩
 ·
  refine wl_v rfl rfl (ov_move _ rfl) ?_
  refine wl_v rfl rfl (ov_bin _ rfl rfl (binR_gtr)) ?_
  refine wl_v rfl rfl (ov_pick_false _ rfl rfl) ?_
  refine wl_v rfl rfl (ov_move _ rfl) ?_
  refine wl_split 16 rfl (fun c6 => ?_) (fun c6 => ?_)
  ·
   refine wl_skip rfl rfl ?_
   refine wl_skip rfl rfl ?_
   refine wl_skip rfl rfl ?_
   refine wl_skip rfl rfl ?_
   refine wl_skip rfl rfl ?_
   refine wl_skip rfl rfl ?_
   refine wl_v rfl rfl (ov_pick_true _ rfl rfl) ?_
   refine wl_v rfl rfl (ov_assign _ rfl) ?_
   refine wl_nil ?_
   refine qn_then ?_
   refine wc_cond_true rfl ?_
   refine wc_seq ?_
   refine wc_region ?_
   refine wl_v rfl rfl (ov_move _ rfl) ?_
   refine wl_v rfl rfl (ov_assign _ rfl) ?_
   refine wl_nil ?_
   refine qn_then ?_
   refine wc_ret ?_
   refine qn_block_ret ?_
   refine qn_then_ret ?_
   have el_ : ([]) ++ L = L ++ bytesV r := by
     unfold bytesV
     first
     | (exfalso; omega)
     | (rw [if_pos (by omega)]; simp)
     | (rw [if_neg (by omega), if_pos (by omega)]; simp)
     | (rw [if_neg (by omega), if_neg (by omega), if_pos (by omega), or192 _ (by omega) (by omega)]; simp)
     | (rw [if_neg (by omega), if_neg (by omega), if_neg (by omega), if_pos (by omega), or224 _ (by omega) (by omega)]; simp)
     | (rw [if_neg (by omega), if_neg (by omega), if_neg (by omega), if_neg (by omega), or240 _ (by omega) (by omega)]; simp)
   refine qn_ret [_] ⟨rfl, trivial⟩ ?_
   rw [el_] at h ⊢
   exact ⟨A3, cp4, rfl, h⟩
  ·
   refine wl_v rfl rfl (ov_move _ rfl) ?_
   refine wl_v rfl rfl (ov_bin _ rfl rfl (binR_geq)) ?_
   refine wl_v rfl rfl (ov_move _ rfl) ?_
   refine wl_split 19 rfl (fun c7 => ?_) (fun c7 => ?_)
   ·
    refine wl_v rfl rfl (ov_move _ rfl) ?_
    refine wl_v rfl rfl (ov_bin _ rfl rfl (binR_lss)) ?_
    refine wl_v rfl rfl (ov_pick_true _ rfl rfl) ?_
    refine wl_v rfl rfl (ov_pick_false _ rfl rfl) ?_
    refine wl_v rfl rfl (ov_assign _ rfl) ?_
    refine wl_nil ?_
    refine qn_then ?_
    refine wc_cond (by rfl) (fun c8 => ?_) (fun c8 => ?_)
    ·
     refine wc_seq ?_
     refine wc_region ?_
     refine wl_v rfl rfl (ov_move _ rfl) ?_
     refine wl_v rfl rfl (ov_assign _ rfl) ?_
     refine wl_nil ?_
     refine qn_then ?_
     refine wc_ret ?_
     refine qn_block_ret ?_
     refine qn_then_ret ?_
     have el_ : ([]) ++ L = L ++ bytesV r := by
       unfold bytesV
       first
       | (exfalso; omega)
       | (rw [if_pos (by omega)]; simp)
       | (rw [if_neg (by omega), if_pos (by omega)]; simp)
       | (rw [if_neg (by omega), if_neg (by omega), if_pos (by omega), or192 _ (by omega) (by omega)]; simp)
       | (rw [if_neg (by omega), if_neg (by omega), if_neg (by omega), if_pos (by omega), or224 _ (by omega) (by omega)]; simp)
       | (rw [if_neg (by omega), if_neg (by omega), if_neg (by omega), if_neg (by omega), or240 _ (by omega) (by omega)]; simp)
     refine qn_ret [_] ⟨rfl, trivial⟩ ?_
     rw [el_] at h ⊢
     exact ⟨A3, cp4, rfl, h⟩
    ·
     refine wc_seq ?_
     refine wc_region ?_
     refine wl_v rfl rfl (ov_move _ rfl) ?_
     refine wl_v rfl rfl (ov_bin _ rfl rfl (binR_lss)) ?_
     refine wl_v rfl rfl (ov_assign _ rfl) ?_
     refine wl_nil ?_
     refine qn_then ?_
     refine wc_cond (by rfl) (fun c9 => ?_) (fun c9 => ?_)
     ·
      refine wc_seq ?_
      refine wc_region ?_
      refine wl_v rfl rfl (ov_move _ rfl) ?_
      refine wl_v rfl rfl (ov_move _ rfl) ?_
      refine wl_v rfl rfl (ov_convint (r) rfl Try.underlying21 Try.underlying5 (Sx.w8 (by omega))) ?_
      refine wl_lit (d := (Kd.int .u8)) [(0, .int .u8 (r))] _ [.int .u8 (r)] ([r]) h rfl rfl rfl rfl Try.underlying40 infb5 rfl (by decide) (by kernel_rfl) rfl (fun _ _ _ => ((Reps.none _ _).snoc ((Sx.mkInt .u8 (r))) rfl)) (fun A10 cp11 _ h => ?_)
      refine wl_append (d := (Kd.int .u8)) (L := ([]) ++ L) 1 _ 1 _ _ _ ([r]) (Sx.flat_int _) h rfl rfl rfl rfl rfl ((Sx.row_reads h (i := 0) rfl).2) Try.underlying40 inf5 rfl (by decide) (by decide) (by first | omega | (simp only [List.length_cons, List.length_nil, List.length_append, List.length_set]; omega)) (by first | rfl | simp) (fun A12 cp13 _ h => ?_)
      replace h := st_selT [false, true] h
      refine wl_v rfl rfl (ov_assign _ rfl) ?_
      refine wl_nil ?_
      refine qn_then ?_
      refine wc_ret ?_
      refine qn_block_ret ?_
      refine qn_then_ret ?_
      have el_ : (([]) ++ L) ++ ([r]) = L ++ bytesV r := by
        unfold bytesV
        first
        | (exfalso; omega)
        | (rw [if_pos (by omega)]; simp)
        | (rw [if_neg (by omega), if_pos (by omega)]; simp)
        | (rw [if_neg (by omega), if_neg (by omega), if_pos (by omega), or192 _ (by omega) (by omega)]; simp)
        | (rw [if_neg (by omega), if_neg (by omega), if_neg (by omega), if_pos (by omega), or224 _ (by omega) (by omega)]; simp)
        | (rw [if_neg (by omega), if_neg (by omega), if_neg (by omega), if_neg (by omega), or240 _ (by omega) (by omega)]; simp)
      refine qn_ret [_] ⟨rfl, trivial⟩ ?_
      rw [el_] at h ⊢
      exact ⟨A12, cp13, rfl, h⟩
     ·
      refine wc_seq ?_
      refine wc_region ?_
      refine wl_v rfl rfl (ov_move _ rfl) ?_
      refine wl_v rfl rfl (ov_bin _ rfl rfl (binR_lss)) ?_
      refine wl_v rfl rfl (ov_assign _ rfl) ?_
      refine wl_nil ?_
      refine qn_then ?_
      refine wc_cond (by rfl) (fun c14 => ?_) (fun c14 => ?_)
      ·
       refine wc_seq ?_
       refine wc_region ?_
       refine wl_v rfl rfl (ov_move _ rfl) ?_
       refine wl_v rfl rfl (ov_move _ rfl) ?_
       refine wl_v rfl rfl (ov_bin _ rfl rfl (binR_shr (r := r / 64) (by decide) (by decide) rfl)) ?_
       refine wl_v rfl rfl (ov_convint (r / 64) rfl Try.underlying21 Try.underlying5 (Sx.w8 (by omega))) ?_
       refine wl_v rfl rfl (ov_bin _ rfl rfl (binR_or rfl)) ?_
       refine wl_v rfl rfl (ov_move _ rfl) ?_
       refine wl_call _ rfl rfl rfl ent45 (TX.low0_calls (R := [Sx.row (Kd.int .u8) 5 (A3) (cp4) (([]) ++ L)] ++ R) r (by omega) h) ?_
       rintro e_ w_ ⟨rfl, h⟩
       refine ⟨_, rfl, ?_⟩
       refine wl_lit (d := (Kd.int .u8)) [(0, .int .u8 ((Go.bits .or .u8 192 (r / 64)))), (1, .int .u8 (128 + r % 64))] _ [.int .u8 ((Go.bits .or .u8 192 (r / 64))), .int .u8 (128 + r % 64)] ([(Go.bits .or .u8 192 (r / 64)), 128 + r % 64]) h rfl rfl rfl rfl Try.underlying40 infb5 rfl (by decide) (by kernel_rfl) rfl (fun _ _ _ => (((Reps.none _ _).snoc ((Sx.mkInt .u8 ((Go.bits .or .u8 192 (r / 64))))) rfl).snoc ((Sx.mkInt .u8 (128 + r % 64))) rfl)) (fun A15 cp16 _ h => ?_)
       refine wl_append (d := (Kd.int .u8)) (L := ([]) ++ L) 1 _ 1 _ _ _ ([(Go.bits .or .u8 192 (r / 64)), 128 + r % 64]) (Sx.flat_int _) h rfl rfl rfl rfl rfl ((Sx.row_reads h (i := 0) rfl).2) Try.underlying40 inf5 rfl (by decide) (by decide) (by first | omega | (simp only [List.length_cons, List.length_nil, List.length_append, List.length_set]; omega)) (by first | rfl | simp) (fun A17 cp18 _ h => ?_)
       replace h := st_selT [false, true] h
       refine wl_v rfl rfl (ov_assign _ rfl) ?_
       refine wl_nil ?_
       refine qn_then ?_
       refine wc_ret ?_
       refine qn_block_ret ?_
       refine qn_then_ret ?_
       have el_ : (([]) ++ L) ++ ([(Go.bits .or .u8 192 (r / 64)), 128 + r % 64]) = L ++ bytesV r := by
         unfold bytesV
         first
         | (exfalso; omega)
         | (rw [if_pos (by omega)]; simp)
         | (rw [if_neg (by omega), if_pos (by omega)]; simp)
         | (rw [if_neg (by omega), if_neg (by omega), if_pos (by omega), or192 _ (by omega) (by omega)]; simp)
         | (rw [if_neg (by omega), if_neg (by omega), if_neg (by omega), if_pos (by omega), or224 _ (by omega) (by omega)]; simp)
         | (rw [if_neg (by omega), if_neg (by omega), if_neg (by omega), if_neg (by omega), or240 _ (by omega) (by omega)]; simp)
       refine qn_ret [_] ⟨rfl, trivial⟩ ?_
       rw [el_] at h ⊢
       exact ⟨A17, cp18, rfl, h⟩
      ·
       refine wc_seq ?_
       refine wc_region ?_
       refine wl_v rfl rfl (ov_move _ rfl) ?_
       refine wl_v rfl rfl (ov_bin _ rfl rfl (binR_lss)) ?_
       refine wl_v rfl rfl (ov_assign _ rfl) ?_
       refine wl_nil ?_
       refine qn_then ?_
       refine wc_cond (by rfl) (fun c19 => ?_) (fun c19 => ?_)
       ·
        refine wc_seq ?_
        refine wc_region ?_
        refine wl_v rfl rfl (ov_move _ rfl) ?_
        refine wl_v rfl rfl (ov_move _ rfl) ?_
        refine wl_v rfl rfl (ov_bin _ rfl rfl (binR_shr (r := r / 4096) (by decide) (by decide) rfl)) ?_
        refine wl_v rfl rfl (ov_convint (r / 4096) rfl Try.underlying21 Try.underlying5 (Sx.w8 (by omega))) ?_
        refine wl_v rfl rfl (ov_bin _ rfl rfl (binR_or rfl)) ?_
        refine wl_v rfl rfl (ov_move _ rfl) ?_
        refine wl_call _ rfl rfl rfl ent45 (TX.low6_calls (R := [Sx.row (Kd.int .u8) 5 (A3) (cp4) (([]) ++ L)] ++ R) r (by omega) h) ?_
        rintro e_ w_ ⟨rfl, h⟩
        refine ⟨_, rfl, ?_⟩
        refine wl_v rfl rfl (ov_move _ rfl) ?_
        refine wl_call _ rfl rfl rfl ent45 (TX.low0_calls (R := [Sx.row (Kd.int .u8) 5 (A3) (cp4) (([]) ++ L)] ++ R) r (by omega) h) ?_
        rintro e_ w_ ⟨rfl, h⟩
        refine ⟨_, rfl, ?_⟩
        refine wl_lit (d := (Kd.int .u8)) [(0, .int .u8 ((Go.bits .or .u8 224 (r / 4096)))), (1, .int .u8 (128 + r / 64 % 64)), (2, .int .u8 (128 + r % 64))] _ [.int .u8 ((Go.bits .or .u8 224 (r / 4096))), .int .u8 (128 + r / 64 % 64), .int .u8 (128 + r % 64)] ([(Go.bits .or .u8 224 (r / 4096)), 128 + r / 64 % 64, 128 + r % 64]) h rfl rfl rfl rfl Try.underlying40 infb5 rfl (by decide) (by kernel_rfl) rfl (fun _ _ _ => ((((Reps.none _ _).snoc ((Sx.mkInt .u8 ((Go.bits .or .u8 224 (r / 4096))))) rfl).snoc ((Sx.mkInt .u8 (128 + r / 64 % 64))) rfl).snoc ((Sx.mkInt .u8 (128 + r % 64))) rfl)) (fun A20 cp21 _ h => ?_)
        refine wl_append (d := (Kd.int .u8)) (L := ([]) ++ L) 1 _ 1 _ _ _ ([(Go.bits .or .u8 224 (r / 4096)), 128 + r / 64 % 64, 128 + r % 64]) (Sx.flat_int _) h rfl rfl rfl rfl rfl ((Sx.row_reads h (i := 0) rfl).2) Try.underlying40 inf5 rfl (by decide) (by decide) (by first | omega | (simp only [List.length_cons, List.length_nil, List.length_append, List.length_set]; omega)) (by first | rfl | simp) (fun A22 cp23 _ h => ?_)
        replace h := st_selT [false, true] h
        refine wl_v rfl rfl (ov_assign _ rfl) ?_
        refine wl_nil ?_
        refine qn_then ?_
        refine wc_ret ?_
        refine qn_block_ret ?_
        refine qn_then_ret ?_
        have el_ : (([]) ++ L) ++ ([(Go.bits .or .u8 224 (r / 4096)), 128 + r / 64 % 64, 128 + r % 64]) = L ++ bytesV r := by
          unfold bytesV
          first
          | (exfalso; omega)
          | (rw [if_pos (by omega)]; simp)
          | (rw [if_neg (by omega), if_pos (by omega)]; simp)
          | (rw [if_neg (by omega), if_neg (by omega), if_pos (by omega), or192 _ (by omega) (by omega)]; simp)
          | (rw [if_neg (by omega), if_neg (by omega), if_neg (by omega), if_pos (by omega), or224 _ (by omega) (by omega)]; simp)
          | (rw [if_neg (by omega), if_neg (by omega), if_neg (by omega), if_neg (by omega), or240 _ (by omega) (by omega)]; simp)
        refine qn_ret [_] ⟨rfl, trivial⟩ ?_
        rw [el_] at h ⊢
        exact ⟨A22, cp23, rfl, h⟩
       ·
        refine wc_skip ?_
        refine qn_block_normal ?_
        refine qn_then ?_
        refine wc_seq ?_
        refine wc_region ?_
        refine wl_v rfl rfl (ov_move _ rfl) ?_
        refine wl_v rfl rfl (ov_move _ rfl) ?_
        refine wl_v rfl rfl (ov_bin _ rfl rfl (binR_shr (r := r / 262144) (by decide) (by decide) rfl)) ?_
        refine wl_v rfl rfl (ov_convint (r / 262144) rfl Try.underlying21 Try.underlying5 (Sx.w8 (by omega))) ?_
        refine wl_v rfl rfl (ov_bin _ rfl rfl (binR_or rfl)) ?_
        refine wl_v rfl rfl (ov_move _ rfl) ?_
        refine wl_call _ rfl rfl rfl ent45 (TX.low12_calls (R := [Sx.row (Kd.int .u8) 5 (A3) (cp4) (([]) ++ L)] ++ R) r (by omega) h) ?_
        rintro e_ w_ ⟨rfl, h⟩
        refine ⟨_, rfl, ?_⟩
        refine wl_v rfl rfl (ov_move _ rfl) ?_
        refine wl_call _ rfl rfl rfl ent45 (TX.low6_calls (R := [Sx.row (Kd.int .u8) 5 (A3) (cp4) (([]) ++ L)] ++ R) r (by omega) h) ?_
        rintro e_ w_ ⟨rfl, h⟩
        refine ⟨_, rfl, ?_⟩
        refine wl_v rfl rfl (ov_move _ rfl) ?_
        refine wl_call _ rfl rfl rfl ent45 (TX.low0_calls (R := [Sx.row (Kd.int .u8) 5 (A3) (cp4) (([]) ++ L)] ++ R) r (by omega) h) ?_
        rintro e_ w_ ⟨rfl, h⟩
        refine ⟨_, rfl, ?_⟩
        refine wl_lit (d := (Kd.int .u8)) [(0, .int .u8 ((Go.bits .or .u8 240 (r / 262144)))), (1, .int .u8 (128 + r / 4096 % 64)), (2, .int .u8 (128 + r / 64 % 64)), (3, .int .u8 (128 + r % 64))] _ [.int .u8 ((Go.bits .or .u8 240 (r / 262144))), .int .u8 (128 + r / 4096 % 64), .int .u8 (128 + r / 64 % 64), .int .u8 (128 + r % 64)] ([(Go.bits .or .u8 240 (r / 262144)), 128 + r / 4096 % 64, 128 + r / 64 % 64, 128 + r % 64]) h rfl rfl rfl rfl Try.underlying40 infb5 rfl (by decide) (by kernel_rfl) rfl (fun _ _ _ => (((((Reps.none _ _).snoc ((Sx.mkInt .u8 ((Go.bits .or .u8 240 (r / 262144))))) rfl).snoc ((Sx.mkInt .u8 (128 + r / 4096 % 64))) rfl).snoc ((Sx.mkInt .u8 (128 + r / 64 % 64))) rfl).snoc ((Sx.mkInt .u8 (128 + r % 64))) rfl)) (fun A24 cp25 _ h => ?_)
        refine wl_append (d := (Kd.int .u8)) (L := ([]) ++ L) 1 _ 1 _ _ _ ([(Go.bits .or .u8 240 (r / 262144)), 128 + r / 4096 % 64, 128 + r / 64 % 64, 128 + r % 64]) (Sx.flat_int _) h rfl rfl rfl rfl rfl ((Sx.row_reads h (i := 0) rfl).2) Try.underlying40 inf5 rfl (by decide) (by decide) (by first | omega | (simp only [List.length_cons, List.length_nil, List.length_append, List.length_set]; omega)) (by first | rfl | simp) (fun A26 cp27 _ h => ?_)
        replace h := st_selT [false, true] h
        refine wl_v rfl rfl (ov_assign _ rfl) ?_
        refine wl_nil ?_
        refine qn_then ?_
        refine wc_ret ?_
        have el_ : (([]) ++ L) ++ ([(Go.bits .or .u8 240 (r / 262144)), 128 + r / 4096 % 64, 128 + r / 64 % 64, 128 + r % 64]) = L ++ bytesV r := by
          unfold bytesV
          first
          | (exfalso; omega)
          | (rw [if_pos (by omega)]; simp)
          | (rw [if_neg (by omega), if_pos (by omega)]; simp)
          | (rw [if_neg (by omega), if_neg (by omega), if_pos (by omega), or192 _ (by omega) (by omega)]; simp)
          | (rw [if_neg (by omega), if_neg (by omega), if_neg (by omega), if_pos (by omega), or224 _ (by omega) (by omega)]; simp)
          | (rw [if_neg (by omega), if_neg (by omega), if_neg (by omega), if_neg (by omega), or240 _ (by omega) (by omega)]; simp)
        refine qn_ret [_] ⟨rfl, trivial⟩ ?_
        rw [el_] at h ⊢
        exact ⟨A26, cp27, rfl, h⟩
   ·
    refine wl_skip rfl rfl ?_
    refine wl_skip rfl rfl ?_
    refine wl_v rfl rfl (ov_pick_false _ rfl rfl) ?_
    refine wl_v rfl rfl (ov_pick_false _ rfl rfl) ?_
    refine wl_v rfl rfl (ov_assign _ rfl) ?_
    refine wl_nil ?_
    refine qn_then ?_
    refine wc_cond_false rfl ?_
    refine wc_seq ?_
    refine wc_region ?_
    refine wl_v rfl rfl (ov_move _ rfl) ?_
    refine wl_v rfl rfl (ov_bin _ rfl rfl (binR_lss)) ?_
    refine wl_v rfl rfl (ov_assign _ rfl) ?_
    refine wl_nil ?_
    refine qn_then ?_
    refine wc_cond (by rfl) (fun c28 => ?_) (fun c28 => ?_)
    ·
     refine wc_seq ?_
     refine wc_region ?_
     refine wl_v rfl rfl (ov_move _ rfl) ?_
     refine wl_v rfl rfl (ov_move _ rfl) ?_
     refine wl_v rfl rfl (ov_convint (r) rfl Try.underlying21 Try.underlying5 (Sx.w8 (by omega))) ?_
     refine wl_lit (d := (Kd.int .u8)) [(0, .int .u8 (r))] _ [.int .u8 (r)] ([r]) h rfl rfl rfl rfl Try.underlying40 infb5 rfl (by decide) (by kernel_rfl) rfl (fun _ _ _ => ((Reps.none _ _).snoc ((Sx.mkInt .u8 (r))) rfl)) (fun A29 cp30 _ h => ?_)
     refine wl_append (d := (Kd.int .u8)) (L := ([]) ++ L) 1 _ 1 _ _ _ ([r]) (Sx.flat_int _) h rfl rfl rfl rfl rfl ((Sx.row_reads h (i := 0) rfl).2) Try.underlying40 inf5 rfl (by decide) (by decide) (by first | omega | (simp only [List.length_cons, List.length_nil, List.length_append, List.length_set]; omega)) (by first | rfl | simp) (fun A31 cp32 _ h => ?_)
     replace h := st_selT [false, true] h
     refine wl_v rfl rfl (ov_assign _ rfl) ?_
     refine wl_nil ?_
     refine qn_then ?_
     refine wc_ret ?_
     refine qn_block_ret ?_
     refine qn_then_ret ?_
     have el_ : (([]) ++ L) ++ ([r]) = L ++ bytesV r := by
       unfold bytesV
       first
       | (exfalso; omega)
       | (rw [if_pos (by omega)]; simp)
       | (rw [if_neg (by omega), if_pos (by omega)]; simp)
       | (rw [if_neg (by omega), if_neg (by omega), if_pos (by omega), or192 _ (by omega) (by omega)]; simp)
       | (rw [if_neg (by omega), if_neg (by omega), if_neg (by omega), if_pos (by omega), or224 _ (by omega) (by omega)]; simp)
       | (rw [if_neg (by omega), if_neg (by omega), if_neg (by omega), if_neg (by omega), or240 _ (by omega) (by omega)]; simp)
     refine qn_ret [_] ⟨rfl, trivial⟩ ?_
     rw [el_] at h ⊢
     exact ⟨A31, cp32, rfl, h⟩
    ·
     refine wc_seq ?_
     refine wc_region ?_
     refine wl_v rfl rfl (ov_move _ rfl) ?_
     refine wl_v rfl rfl (ov_bin _ rfl rfl (binR_lss)) ?_
     refine wl_v rfl rfl (ov_assign _ rfl) ?_
     refine wl_nil ?_
     refine qn_then ?_
     refine wc_cond (by rfl) (fun c33 => ?_) (fun c33 => ?_)
     ·
      refine wc_seq ?_
      refine wc_region ?_
      refine wl_v rfl rfl (ov_move _ rfl) ?_
      refine wl_v rfl rfl (ov_move _ rfl) ?_
      refine wl_v rfl rfl (ov_bin _ rfl rfl (binR_shr (r := r / 64) (by decide) (by decide) rfl)) ?_
      refine wl_v rfl rfl (ov_convint (r / 64) rfl Try.underlying21 Try.underlying5 (Sx.w8 (by omega))) ?_
      refine wl_v rfl rfl (ov_bin _ rfl rfl (binR_or rfl)) ?_
      refine wl_v rfl rfl (ov_move _ rfl) ?_
      refine wl_call _ rfl rfl rfl ent45 (TX.low0_calls (R := [Sx.row (Kd.int .u8) 5 (A3) (cp4) (([]) ++ L)] ++ R) r (by omega) h) ?_
      rintro e_ w_ ⟨rfl, h⟩
      refine ⟨_, rfl, ?_⟩
      refine wl_lit (d := (Kd.int .u8)) [(0, .int .u8 ((Go.bits .or .u8 192 (r / 64)))), (1, .int .u8 (128 + r % 64))] _ [.int .u8 ((Go.bits .or .u8 192 (r / 64))), .int .u8 (128 + r % 64)] ([(Go.bits .or .u8 192 (r / 64)), 128 + r % 64]) h rfl rfl rfl rfl Try.underlying40 infb5 rfl (by decide) (by kernel_rfl) rfl (fun _ _ _ => (((Reps.none _ _).snoc ((Sx.mkInt .u8 ((Go.bits .or .u8 192 (r / 64))))) rfl).snoc ((Sx.mkInt .u8 (128 + r % 64))) rfl)) (fun A34 cp35 _ h => ?_)
      refine wl_append (d := (Kd.int .u8)) (L := ([]) ++ L) 1 _ 1 _ _ _ ([(Go.bits .or .u8 192 (r / 64)), 128 + r % 64]) (Sx.flat_int _) h rfl rfl rfl rfl rfl ((Sx.row_reads h (i := 0) rfl).2) Try.underlying40 inf5 rfl (by decide) (by decide) (by first | omega | (simp only [List.length_cons, List.length_nil, List.length_append, List.length_set]; omega)) (by first | rfl | simp) (fun A36 cp37 _ h => ?_)
      replace h := st_selT [false, true] h
      refine wl_v rfl rfl (ov_assign _ rfl) ?_
      refine wl_nil ?_
      refine qn_then ?_
      refine wc_ret ?_
      refine qn_block_ret ?_
      refine qn_then_ret ?_
      have el_ : (([]) ++ L) ++ ([(Go.bits .or .u8 192 (r / 64)), 128 + r % 64]) = L ++ bytesV r := by
        unfold bytesV
        first
        | (exfalso; omega)
        | (rw [if_pos (by omega)]; simp)
        | (rw [if_neg (by omega), if_pos (by omega)]; simp)
        | (rw [if_neg (by omega), if_neg (by omega), if_pos (by omega), or192 _ (by omega) (by omega)]; simp)
        | (rw [if_neg (by omega), if_neg (by omega), if_neg (by omega), if_pos (by omega), or224 _ (by omega) (by omega)]; simp)
        | (rw [if_neg (by omega), if_neg (by omega), if_neg (by omega), if_neg (by omega), or240 _ (by omega) (by omega)]; simp)
      refine qn_ret [_] ⟨rfl, trivial⟩ ?_
      rw [el_] at h ⊢
      exact ⟨A36, cp37, rfl, h⟩
     ·
      refine wc_seq ?_
      refine wc_region ?_
      refine wl_v rfl rfl (ov_move _ rfl) ?_
      refine wl_v rfl rfl (ov_bin _ rfl rfl (binR_lss)) ?_
      refine wl_v rfl rfl (ov_assign _ rfl) ?_
      refine wl_nil ?_
      refine qn_then ?_
      refine wc_cond (by rfl) (fun c38 => ?_) (fun c38 => ?_)
      ·
       refine wc_seq ?_
       refine wc_region ?_
       refine wl_v rfl rfl (ov_move _ rfl) ?_
       refine wl_v rfl rfl (ov_move _ rfl) ?_
       refine wl_v rfl rfl (ov_bin _ rfl rfl (binR_shr (r := r / 4096) (by decide) (by decide) rfl)) ?_
       refine wl_v rfl rfl (ov_convint (r / 4096) rfl Try.underlying21 Try.underlying5 (Sx.w8 (by omega))) ?_
       refine wl_v rfl rfl (ov_bin _ rfl rfl (binR_or rfl)) ?_
       refine wl_v rfl rfl (ov_move _ rfl) ?_
       refine wl_call _ rfl rfl rfl ent45 (TX.low6_calls (R := [Sx.row (Kd.int .u8) 5 (A3) (cp4) (([]) ++ L)] ++ R) r (by omega) h) ?_
       rintro e_ w_ ⟨rfl, h⟩
       refine ⟨_, rfl, ?_⟩
       refine wl_v rfl rfl (ov_move _ rfl) ?_
       refine wl_call _ rfl rfl rfl ent45 (TX.low0_calls (R := [Sx.row (Kd.int .u8) 5 (A3) (cp4) (([]) ++ L)] ++ R) r (by omega) h) ?_
       rintro e_ w_ ⟨rfl, h⟩
       refine ⟨_, rfl, ?_⟩
       refine wl_lit (d := (Kd.int .u8)) [(0, .int .u8 ((Go.bits .or .u8 224 (r / 4096)))), (1, .int .u8 (128 + r / 64 % 64)), (2, .int .u8 (128 + r % 64))] _ [.int .u8 ((Go.bits .or .u8 224 (r / 4096))), .int .u8 (128 + r / 64 % 64), .int .u8 (128 + r % 64)] ([(Go.bits .or .u8 224 (r / 4096)), 128 + r / 64 % 64, 128 + r % 64]) h rfl rfl rfl rfl Try.underlying40 infb5 rfl (by decide) (by kernel_rfl) rfl (fun _ _ _ => ((((Reps.none _ _).snoc ((Sx.mkInt .u8 ((Go.bits .or .u8 224 (r / 4096))))) rfl).snoc ((Sx.mkInt .u8 (128 + r / 64 % 64))) rfl).snoc ((Sx.mkInt .u8 (128 + r % 64))) rfl)) (fun A39 cp40 _ h => ?_)
       refine wl_append (d := (Kd.int .u8)) (L := ([]) ++ L) 1 _ 1 _ _ _ ([(Go.bits .or .u8 224 (r / 4096)), 128 + r / 64 % 64, 128 + r % 64]) (Sx.flat_int _) h rfl rfl rfl rfl rfl ((Sx.row_reads h (i := 0) rfl).2) Try.underlying40 inf5 rfl (by decide) (by decide) (by first | omega | (simp only [List.length_cons, List.length_nil, List.length_append, List.length_set]; omega)) (by first | rfl | simp) (fun A41 cp42 _ h => ?_)
       replace h := st_selT [false, true] h
       refine wl_v rfl rfl (ov_assign _ rfl) ?_
       refine wl_nil ?_
       refine qn_then ?_
       refine wc_ret ?_
       refine qn_block_ret ?_
       refine qn_then_ret ?_
       have el_ : (([]) ++ L) ++ ([(Go.bits .or .u8 224 (r / 4096)), 128 + r / 64 % 64, 128 + r % 64]) = L ++ bytesV r := by
         unfold bytesV
         first
         | (exfalso; omega)
         | (rw [if_pos (by omega)]; simp)
         | (rw [if_neg (by omega), if_pos (by omega)]; simp)
         | (rw [if_neg (by omega), if_neg (by omega), if_pos (by omega), or192 _ (by omega) (by omega)]; simp)
         | (rw [if_neg (by omega), if_neg (by omega), if_neg (by omega), if_pos (by omega), or224 _ (by omega) (by omega)]; simp)
         | (rw [if_neg (by omega), if_neg (by omega), if_neg (by omega), if_neg (by omega), or240 _ (by omega) (by omega)]; simp)
       refine qn_ret [_] ⟨rfl, trivial⟩ ?_
       rw [el_] at h ⊢
       exact ⟨A41, cp42, rfl, h⟩
      ·
       refine wc_skip ?_
       refine qn_block_normal ?_
       refine qn_then ?_
       refine wc_seq ?_
       refine wc_region ?_
       refine wl_v rfl rfl (ov_move _ rfl) ?_
       refine wl_v rfl rfl (ov_move _ rfl) ?_
       refine wl_v rfl rfl (ov_bin _ rfl rfl (binR_shr (r := r / 262144) (by decide) (by decide) rfl)) ?_
       refine wl_v rfl rfl (ov_convint (r / 262144) rfl Try.underlying21 Try.underlying5 (Sx.w8 (by omega))) ?_
       refine wl_v rfl rfl (ov_bin _ rfl rfl (binR_or rfl)) ?_
       refine wl_v rfl rfl (ov_move _ rfl) ?_
       refine wl_call _ rfl rfl rfl ent45 (TX.low12_calls (R := [Sx.row (Kd.int .u8) 5 (A3) (cp4) (([]) ++ L)] ++ R) r (by omega) h) ?_
       rintro e_ w_ ⟨rfl, h⟩
       refine ⟨_, rfl, ?_⟩
       refine wl_v rfl rfl (ov_move _ rfl) ?_
       refine wl_call _ rfl rfl rfl ent45 (TX.low6_calls (R := [Sx.row (Kd.int .u8) 5 (A3) (cp4) (([]) ++ L)] ++ R) r (by omega) h) ?_
       rintro e_ w_ ⟨rfl, h⟩
       refine ⟨_, rfl, ?_⟩
       refine wl_v rfl rfl (ov_move _ rfl) ?_
       refine wl_call _ rfl rfl rfl ent45 (TX.low0_calls (R := [Sx.row (Kd.int .u8) 5 (A3) (cp4) (([]) ++ L)] ++ R) r (by omega) h) ?_
       rintro e_ w_ ⟨rfl, h⟩
       refine ⟨_, rfl, ?_⟩
       refine wl_lit (d := (Kd.int .u8)) [(0, .int .u8 ((Go.bits .or .u8 240 (r / 262144)))), (1, .int .u8 (128 + r / 4096 % 64)), (2, .int .u8 (128 + r / 64 % 64)), (3, .int .u8 (128 + r % 64))] _ [.int .u8 ((Go.bits .or .u8 240 (r / 262144))), .int .u8 (128 + r / 4096 % 64), .int .u8 (128 + r / 64 % 64), .int .u8 (128 + r % 64)] ([(Go.bits .or .u8 240 (r / 262144)), 128 + r / 4096 % 64, 128 + r / 64 % 64, 128 + r % 64]) h rfl rfl rfl rfl Try.underlying40 infb5 rfl (by decide) (by kernel_rfl) rfl (fun _ _ _ => (((((Reps.none _ _).snoc ((Sx.mkInt .u8 ((Go.bits .or .u8 240 (r / 262144))))) rfl).snoc ((Sx.mkInt .u8 (128 + r / 4096 % 64))) rfl).snoc ((Sx.mkInt .u8 (128 + r / 64 % 64))) rfl).snoc ((Sx.mkInt .u8 (128 + r % 64))) rfl)) (fun A43 cp44 _ h => ?_)
       refine wl_append (d := (Kd.int .u8)) (L := ([]) ++ L) 1 _ 1 _ _ _ ([(Go.bits .or .u8 240 (r / 262144)), 128 + r / 4096 % 64, 128 + r / 64 % 64, 128 + r % 64]) (Sx.flat_int _) h rfl rfl rfl rfl rfl ((Sx.row_reads h (i := 0) rfl).2) Try.underlying40 inf5 rfl (by decide) (by decide) (by first | omega | (simp only [List.length_cons, List.length_nil, List.length_append, List.length_set]; omega)) (by first | rfl | simp) (fun A45 cp46 _ h => ?_)
       replace h := st_selT [false, true] h
       refine wl_v rfl rfl (ov_assign _ rfl) ?_
       refine wl_nil ?_
       refine qn_then ?_
       refine wc_ret ?_
       have el_ : (([]) ++ L) ++ ([(Go.bits .or .u8 240 (r / 262144)), 128 + r / 4096 % 64, 128 + r / 64 % 64, 128 + r % 64]) = L ++ bytesV r := by
         unfold bytesV
         first
         | (exfalso; omega)
         | (rw [if_pos (by omega)]; simp)
         | (rw [if_neg (by omega), if_pos (by omega)]; simp)
         | (rw [if_neg (by omega), if_neg (by omega), if_pos (by omega), or192 _ (by omega) (by omega)]; simp)
         | (rw [if_neg (by omega), if_neg (by omega), if_neg (by omega), if_pos (by omega), or224 _ (by omega) (by omega)]; simp)
         | (rw [if_neg (by omega), if_neg (by omega), if_neg (by omega), if_neg (by omega), or240 _ (by omega) (by omega)]; simp)
       refine qn_ret [_] ⟨rfl, trivial⟩ ?_
       rw [el_] at h ⊢
       exact ⟨A45, cp46, rfl, h⟩
end Go.Proofs.Ytbeihfcjfkddcaa.TX
