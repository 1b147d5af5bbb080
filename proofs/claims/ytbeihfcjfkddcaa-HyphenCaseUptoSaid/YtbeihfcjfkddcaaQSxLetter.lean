/- Pruned by wip/prune.py. -/
import Derived.Test.YtbeihfcjfkddcaaProg
import Derived.Test.YtbeihfcjfkddcaaQSxGlue
import Derived.Test.YtbeihfcjfkddcaaQSxFlow
import Derived.Test.YtbeihfcjfkddcaaQSxIter
import Derived.Test.YtbeihfcjfkddcaaQSxBytes
import Derived.Test.YtbeihfcjfkddcaaQHyTh
import Derived.Test.YtbeihfcjfkddcaaQSxRunes
namespace Go.Proofs.Ytbeihfcjfkddcaa.LT
open Go Go.RowKit Go.Proofs.YtbeihfcjfkddcaaW.PrintWords Go.Proofs.Ytbeihfcjfkddcaa.Hy Go.Proofs.Ytbeihfcjfkddcaa.Given Go.Proofs.Ytbeihfcjfkddcaa.Rn Go.Proofs.Ytbeihfcjfkddcaa.Sx 
set_option linter.unusedVariables false
set_option linter.unusedSimpArgs false
theorem infb3 : (Try.prog.info? 3).map (fun i => (i.zero, i.size)) = some (some (.int .i64 (0)), 1) := by kernel_rfl
theorem infb36 : (Try.prog.info? 36).map (fun i => (i.zero, i.size)) = some (some (.slice (none) (0) (0)), 1) := by kernel_rfl
theorem es90 : Sx.elemSz Try.prog 90 = some (36, 1) := by kernel_rfl
theorem sh36 : Sx.shapeOf Try.prog 36 = some (false, 1) := by kernel_rfl
theorem es36 : Sx.elemSz Try.prog 36 = some (3, 1) := by kernel_rfl
theorem sh3 : Sx.shapeOf Try.prog 3 = some (false, 1) := by kernel_rfl
theorem ent34 : Sx.Ent Try.prog 34 := ⟨Try.f34, Try.func34, by kernel_rfl, by kernel_rfl⟩
theorem ent44 : Sx.Ent Try.prog 44 := ⟨Try.f44, Try.func44, by kernel_rfl, by kernel_rfl⟩
theorem ent37 : Sx.Ent Try.prog 37 := ⟨Try.f37, Try.func37, by kernel_rfl, by kernel_rfl⟩
theorem ent42 : Sx.Ent Try.prog 42 := ⟨Try.f42, Try.func42, by kernel_rfl, by kernel_rfl⟩
set_option maxHeartbeats 4000000 in
set_option maxRecDepth 100000 in
theorem hLower_calls {w0 w : World} {F0 : Nat → Prop} {R : List Sx.HP} (r : Int) (h0 : -1 ≤ r) (h1 : r ≤ 1114111) (h : Sx.St w0 F0 ([] ++ R) w) : Calls Try.prog 34 #[.int .i32 (r)] w (fun e w1 => e = .returned (.int .i32 (lowV r)) ∧ Sx.St w0 F0 R w1) := by
 refine Sx.calls_fn (vs := [.int .i32 (r)]) Try.func34 rfl Try.ntmps34 rfl ?_
 refine wc_seq ?_
 refine wc_region ?_
 refine wl_v rfl rfl (ov_assign _ rfl) ?_
 refine wl_nil ?_
 refine qn_then ?_
 refine wc_seq ?_
 refine wc_seq ?_
 refine wc_region ?_
 refine wl_v rfl rfl (ov_move _ rfl) ?_
 refine wl_v rfl rfl (ov_bin _ rfl rfl (binR_geq)) ?_
 refine wl_v rfl rfl (ov_move _ rfl) ?_
 refine wl_split 5 rfl (fun c1 => ?_) (fun c1 => ?_)
 ·
  refine wl_v rfl rfl (ov_move _ rfl) ?_
  refine wl_v rfl rfl (ov_bin _ rfl rfl (binR_leq)) ?_
  refine wl_v rfl rfl (ov_pick_true _ rfl rfl) ?_
  refine wl_nil ?_
  refine qn_then ?_
  refine wc_cond (by rfl) (fun c2 => ?_) (fun c2 => ?_)
  ·
   refine wc_seq ?_
   refine wc_region ?_
   refine wl_v rfl rfl (ov_move _ rfl) ?_
   refine wl_v rfl rfl (ov_bin _ rfl rfl (binR_add (r := r + 97) (Sx.w32 (by omega)))) ?_
   refine wl_v rfl rfl (ov_bin _ rfl rfl (binR_sub (r := (r + 97) - 65) (Sx.w32 (by omega)))) ?_
   refine wl_v rfl rfl (ov_assign _ rfl) ?_
   refine wl_nil ?_
   refine qn_then ?_
   refine wc_ret ?_
   refine qn_then_ret ?_
   refine qn_ret [_] ⟨rfl, trivial⟩ ?_
   have e_ : lowV r = (r + 97) - 65 := by unfold lowV; split <;> omega
   rw [e_]
   exact ⟨rfl, h⟩
  ·
   refine wc_skip ?_
   refine qn_then ?_
   refine wc_seq ?_
   refine wc_region ?_
   refine wl_v rfl rfl (ov_move _ rfl) ?_
   refine wl_v rfl rfl (ov_assign _ rfl) ?_
   refine wl_nil ?_
   refine qn_then ?_
   refine wc_ret ?_
   refine qn_ret [_] ⟨rfl, trivial⟩ ?_
   have e_ : lowV r = r := by unfold lowV; split <;> omega
   rw [e_]
   exact ⟨rfl, h⟩
 ·
  refine wl_skip rfl rfl ?_
  refine wl_skip rfl rfl ?_
  refine wl_v rfl rfl (ov_pick_false _ rfl rfl) ?_
  refine wl_nil ?_
  refine qn_then ?_
  refine wc_cond_false rfl ?_
  refine wc_skip ?_
  refine qn_then ?_
  refine wc_seq ?_
  refine wc_region ?_
  refine wl_v rfl rfl (ov_move _ rfl) ?_
  refine wl_v rfl rfl (ov_assign _ rfl) ?_
  refine wl_nil ?_
  refine qn_then ?_
  refine wc_ret ?_
  refine qn_ret [_] ⟨rfl, trivial⟩ ?_
  have e_ : lowV r = r := by unfold lowV; split <;> omega
  rw [e_]
  exact ⟨rfl, h⟩
set_option maxHeartbeats 4000000 in
set_option maxRecDepth 100000 in
theorem rLower_calls {w0 w : World} {F0 : Nat → Prop} {R : List Sx.HP} (r : Int) (h0 : -1 ≤ r) (h1 : r ≤ 1114111) (h : Sx.St w0 F0 ([] ++ R) w) : Calls Try.prog 37 #[.int .i64 (r)] w (fun e w1 => e = .returned (.int .i64 (lowV r)) ∧ Sx.St w0 F0 R w1) := by
 refine Sx.calls_fn (vs := [.int .i64 (r)]) Try.func37 rfl Try.ntmps37 rfl ?_
 refine wc_seq ?_
 refine wc_region ?_
 refine wl_v rfl rfl (ov_assign _ rfl) ?_
 refine wl_nil ?_
 refine qn_then ?_
 refine wc_seq ?_
 refine wc_seq ?_
 refine wc_region ?_
 refine wl_v rfl rfl (ov_move _ rfl) ?_
 refine wl_v rfl rfl (ov_bin _ rfl rfl (binR_geq)) ?_
 refine wl_v rfl rfl (ov_move _ rfl) ?_
 refine wl_split 5 rfl (fun c1 => ?_) (fun c1 => ?_)
 ·
  refine wl_v rfl rfl (ov_move _ rfl) ?_
  refine wl_v rfl rfl (ov_bin _ rfl rfl (binR_leq)) ?_
  refine wl_v rfl rfl (ov_pick_true _ rfl rfl) ?_
  refine wl_nil ?_
  refine qn_then ?_
  refine wc_cond (by rfl) (fun c2 => ?_) (fun c2 => ?_)
  ·
   refine wc_seq ?_
   refine wc_region ?_
   refine wl_v rfl rfl (ov_move _ rfl) ?_
   refine wl_v rfl rfl (ov_bin _ rfl rfl (binR_add (r := r + 32) (Sx.w64 (by omega)))) ?_
   refine wl_v rfl rfl (ov_assign _ rfl) ?_
   refine wl_nil ?_
   refine qn_then ?_
   refine wc_ret ?_
   refine qn_then_ret ?_
   refine qn_ret [_] ⟨rfl, trivial⟩ ?_
   have e_ : lowV r = r + 32 := by unfold lowV; split <;> omega
   rw [e_]
   exact ⟨rfl, h⟩
  ·
   refine wc_skip ?_
   refine qn_then ?_
   refine wc_seq ?_
   refine wc_region ?_
   refine wl_v rfl rfl (ov_move _ rfl) ?_
   refine wl_v rfl rfl (ov_assign _ rfl) ?_
   refine wl_nil ?_
   refine qn_then ?_
   refine wc_ret ?_
   refine qn_ret [_] ⟨rfl, trivial⟩ ?_
   have e_ : lowV r = r := by unfold lowV; split <;> omega
   rw [e_]
   exact ⟨rfl, h⟩
 ·
  refine wl_skip rfl rfl ?_
  refine wl_skip rfl rfl ?_
  refine wl_v rfl rfl (ov_pick_false _ rfl rfl) ?_
  refine wl_nil ?_
  refine qn_then ?_
  refine wc_cond_false rfl ?_
  refine wc_skip ?_
  refine qn_then ?_
  refine wc_seq ?_
  refine wc_region ?_
  refine wl_v rfl rfl (ov_move _ rfl) ?_
  refine wl_v rfl rfl (ov_assign _ rfl) ?_
  refine wl_nil ?_
  refine qn_then ?_
  refine wc_ret ?_
  refine qn_ret [_] ⟨rfl, trivial⟩ ?_
  have e_ : lowV r = r := by unfold lowV; split <;> omega
  rw [e_]
  exact ⟨rfl, h⟩
set_option maxHeartbeats 4000000 in
set_option maxRecDepth 100000 in
theorem Kind_calls {w0 w : World} {F0 : Nat → Prop} {R : List Sx.HP} (r : Int)  (h : Sx.St w0 F0 ([] ++ R) w) : Calls Try.prog 44 #[.int .i32 (r)] w (fun e w1 => ∃ k : Int, e = .returned (.int .i64 k) ∧ (k = 0 ↔ ¬ Sp r) ∧ Sx.St w0 F0 R w1) := by
 refine Sx.calls_fn (vs := [.int .i32 (r)]) Try.func44 rfl Try.ntmps44 rfl ?_
 refine wc_seq ?_
 refine wc_region ?_
 refine wl_v rfl rfl (ov_assign _ rfl) ?_
 refine wl_nil ?_
 refine qn_then ?_
 refine wc_seq ?_
 refine wc_seq ?_
 refine wc_region ?_
 refine wl_v rfl rfl (ov_move _ rfl) ?_
 refine wl_nil ?_
 refine qn_then ?_
 refine wc_block ?_
 refine wc_seq ?_
 refine wc_seq ?_
 refine wc_region ?_
 refine wl_v rfl rfl (ov_bin _ rfl rfl (binR_eql)) ?_
 refine wl_v rfl rfl (ov_assign _ rfl) ?_
 refine wl_nil ?_
 refine qn_then ?_
 refine wc_cond (by rfl) (fun c1 => ?_) (fun c1 => ?_)
 ·
  refine wc_skip ?_
  refine qn_then ?_
  refine wc_cond (by rfl) (fun c2 => ?_) (fun c2 => ?_)
  ·
   refine wc_seq ?_
   refine wc_region ?_
   refine wl_v rfl rfl (ov_assign _ rfl) ?_
   refine wl_nil ?_
   refine qn_then ?_
   refine wc_ret ?_
   refine qn_block_ret ?_
   refine qn_then_ret ?_
   refine qn_ret [_] ⟨rfl, trivial⟩ ?_
   exact ⟨1, rfl, by unfold Sp; omega, h⟩
  ·
   exact absurd c1 c2
 ·
  refine wc_region ?_
  refine wl_v rfl rfl (ov_bin _ rfl rfl (binR_eql)) ?_
  refine wl_v rfl rfl (ov_assign _ rfl) ?_
  refine wl_nil ?_
  refine qn_then ?_
  refine wc_cond (by rfl) (fun c3 => ?_) (fun c3 => ?_)
  ·
   refine wc_seq ?_
   refine wc_region ?_
   refine wl_v rfl rfl (ov_assign _ rfl) ?_
   refine wl_nil ?_
   refine qn_then ?_
   refine wc_ret ?_
   refine qn_block_ret ?_
   refine qn_then_ret ?_
   refine qn_ret [_] ⟨rfl, trivial⟩ ?_
   exact ⟨1, rfl, by unfold Sp; omega, h⟩
  ·
   refine wc_seq ?_
   refine wc_seq ?_
   refine wc_region ?_
   refine wl_v rfl rfl (ov_bin _ rfl rfl (binR_eql)) ?_
   refine wl_v rfl rfl (ov_assign _ rfl) ?_
   refine wl_nil ?_
   refine qn_then ?_
   refine wc_cond (by rfl) (fun c4 => ?_) (fun c4 => ?_)
   ·
    refine wc_skip ?_
    refine qn_then ?_
    refine wc_cond (by rfl) (fun c5 => ?_) (fun c5 => ?_)
    ·
     refine wc_seq ?_
     refine wc_region ?_
     refine wl_v rfl rfl (ov_assign _ rfl) ?_
     refine wl_nil ?_
     refine qn_then ?_
     refine wc_ret ?_
     refine qn_block_ret ?_
     refine qn_then_ret ?_
     refine qn_ret [_] ⟨rfl, trivial⟩ ?_
     exact ⟨2, rfl, by unfold Sp; omega, h⟩
    ·
     exact absurd c4 c5
   ·
    refine wc_region ?_
    refine wl_v rfl rfl (ov_bin _ rfl rfl (binR_eql)) ?_
    refine wl_v rfl rfl (ov_assign _ rfl) ?_
    refine wl_nil ?_
    refine qn_then ?_
    refine wc_cond (by rfl) (fun c6 => ?_) (fun c6 => ?_)
    ·
     refine wc_seq ?_
     refine wc_region ?_
     refine wl_v rfl rfl (ov_assign _ rfl) ?_
     refine wl_nil ?_
     refine qn_then ?_
     refine wc_ret ?_
     refine qn_block_ret ?_
     refine qn_then_ret ?_
     refine qn_ret [_] ⟨rfl, trivial⟩ ?_
     exact ⟨2, rfl, by unfold Sp; omega, h⟩
    ·
     refine wc_seq ?_
     refine wc_region ?_
     refine wl_v rfl rfl (ov_bin _ rfl rfl (binR_eql)) ?_
     refine wl_v rfl rfl (ov_assign _ rfl) ?_
     refine wl_nil ?_
     refine qn_then ?_
     refine wc_cond (by rfl) (fun c7 => ?_) (fun c7 => ?_)
     ·
      refine wc_seq ?_
      refine wc_region ?_
      refine wl_v rfl rfl (ov_assign _ rfl) ?_
      refine wl_nil ?_
      refine qn_then ?_
      refine wc_ret ?_
      refine qn_block_ret ?_
      refine qn_then_ret ?_
      refine qn_ret [_] ⟨rfl, trivial⟩ ?_
      exact ⟨3, rfl, by unfold Sp; omega, h⟩
     ·
      refine wc_seq ?_
      refine wc_region ?_
      refine wl_v rfl rfl (ov_bin _ rfl rfl (binR_eql)) ?_
      refine wl_v rfl rfl (ov_assign _ rfl) ?_
      refine wl_nil ?_
      refine qn_then ?_
      refine wc_cond (by rfl) (fun c8 => ?_) (fun c8 => ?_)
      ·
       refine wc_seq ?_
       refine wc_region ?_
       refine wl_v rfl rfl (ov_assign _ rfl) ?_
       refine wl_nil ?_
       refine qn_then ?_
       refine wc_ret ?_
       refine qn_block_ret ?_
       refine qn_then_ret ?_
       refine qn_ret [_] ⟨rfl, trivial⟩ ?_
       exact ⟨4, rfl, by unfold Sp; omega, h⟩
      ·
       refine wc_seq ?_
       refine wc_seq ?_
       refine wc_region ?_
       refine wl_v rfl rfl (ov_bin _ rfl rfl (binR_eql)) ?_
       refine wl_v rfl rfl (ov_assign _ rfl) ?_
       refine wl_nil ?_
       refine qn_then ?_
       refine wc_cond (by rfl) (fun c9 => ?_) (fun c9 => ?_)
       ·
        refine wc_skip ?_
        refine qn_then ?_
        refine wc_cond (by rfl) (fun c10 => ?_) (fun c10 => ?_)
        ·
         refine wc_seq ?_
         refine wc_region ?_
         refine wl_v rfl rfl (ov_assign _ rfl) ?_
         refine wl_nil ?_
         refine qn_then ?_
         refine wc_ret ?_
         refine qn_block_ret ?_
         refine qn_then_ret ?_
         refine qn_ret [_] ⟨rfl, trivial⟩ ?_
         exact ⟨5, rfl, by unfold Sp; omega, h⟩
        ·
         exact absurd c9 c10
       ·
        refine wc_region ?_
        refine wl_v rfl rfl (ov_bin _ rfl rfl (binR_eql)) ?_
        refine wl_v rfl rfl (ov_assign _ rfl) ?_
        refine wl_nil ?_
        refine qn_then ?_
        refine wc_cond (by rfl) (fun c11 => ?_) (fun c11 => ?_)
        ·
         refine wc_seq ?_
         refine wc_region ?_
         refine wl_v rfl rfl (ov_assign _ rfl) ?_
         refine wl_nil ?_
         refine qn_then ?_
         refine wc_ret ?_
         refine qn_block_ret ?_
         refine qn_then_ret ?_
         refine qn_ret [_] ⟨rfl, trivial⟩ ?_
         exact ⟨5, rfl, by unfold Sp; omega, h⟩
        ·
         refine wc_seq ?_
         refine wc_seq ?_
         refine wc_region ?_
         refine wl_v rfl rfl (ov_bin _ rfl rfl (binR_eql)) ?_
         refine wl_v rfl rfl (ov_assign _ rfl) ?_
         refine wl_nil ?_
         refine qn_then ?_
         refine wc_cond (by rfl) (fun c12 => ?_) (fun c12 => ?_)
         ·
          refine wc_skip ?_
          refine qn_then ?_
          refine wc_cond (by rfl) (fun c13 => ?_) (fun c13 => ?_)
          ·
           refine wc_seq ?_
           refine wc_region ?_
           refine wl_v rfl rfl (ov_assign _ rfl) ?_
           refine wl_nil ?_
           refine qn_then ?_
           refine wc_ret ?_
           refine qn_block_ret ?_
           refine qn_then_ret ?_
           refine qn_ret [_] ⟨rfl, trivial⟩ ?_
           exact ⟨6, rfl, by unfold Sp; omega, h⟩
          ·
           exact absurd c12 c13
         ·
          refine wc_region ?_
          refine wl_v rfl rfl (ov_bin _ rfl rfl (binR_eql)) ?_
          refine wl_v rfl rfl (ov_assign _ rfl) ?_
          refine wl_nil ?_
          refine qn_then ?_
          refine wc_cond (by rfl) (fun c14 => ?_) (fun c14 => ?_)
          ·
           refine wc_seq ?_
           refine wc_region ?_
           refine wl_v rfl rfl (ov_assign _ rfl) ?_
           refine wl_nil ?_
           refine qn_then ?_
           refine wc_ret ?_
           refine qn_block_ret ?_
           refine qn_then_ret ?_
           refine qn_ret [_] ⟨rfl, trivial⟩ ?_
           exact ⟨6, rfl, by unfold Sp; omega, h⟩
          ·
           refine wc_seq ?_
           refine wc_region ?_
           refine wl_v rfl rfl (ov_bin _ rfl rfl (binR_eql)) ?_
           refine wl_v rfl rfl (ov_assign _ rfl) ?_
           refine wl_nil ?_
           refine qn_then ?_
           refine wc_cond (by rfl) (fun c15 => ?_) (fun c15 => ?_)
           ·
            refine wc_seq ?_
            refine wc_region ?_
            refine wl_v rfl rfl (ov_assign _ rfl) ?_
            refine wl_nil ?_
            refine qn_then ?_
            refine wc_ret ?_
            refine qn_block_ret ?_
            refine qn_then_ret ?_
            refine qn_ret [_] ⟨rfl, trivial⟩ ?_
            exact ⟨7, rfl, by unfold Sp; omega, h⟩
           ·
            refine wc_seq ?_
            refine wc_region ?_
            refine wl_v rfl rfl (ov_bin _ rfl rfl (binR_eql)) ?_
            refine wl_v rfl rfl (ov_assign _ rfl) ?_
            refine wl_nil ?_
            refine qn_then ?_
            refine wc_cond (by rfl) (fun c16 => ?_) (fun c16 => ?_)
            ·
             refine wc_seq ?_
             refine wc_region ?_
             refine wl_v rfl rfl (ov_assign _ rfl) ?_
             refine wl_nil ?_
             refine qn_then ?_
             refine wc_ret ?_
             refine qn_block_ret ?_
             refine qn_then_ret ?_
             refine qn_ret [_] ⟨rfl, trivial⟩ ?_
             exact ⟨8, rfl, by unfold Sp; omega, h⟩
            ·
             refine wc_skip ?_
             refine qn_block_normal ?_
             refine qn_then ?_
             refine wc_seq ?_
             refine wc_region ?_
             refine wl_v rfl rfl (ov_assign _ rfl) ?_
             refine wl_nil ?_
             refine qn_then ?_
             refine wc_ret ?_
             refine qn_ret [_] ⟨rfl, trivial⟩ ?_
             exact ⟨0, rfl, by unfold Sp; omega, h⟩
set_option maxHeartbeats 4000000 in
set_option maxRecDepth 100000 in
theorem rKind_calls {w0 w : World} {F0 : Nat → Prop} {R : List Sx.HP} (r : Int)  (h : Sx.St w0 F0 ([] ++ R) w) : Calls Try.prog 42 #[.int .i64 (r)] w (fun e w1 => ∃ k : Int, e = .returned (.int .i64 k) ∧ (k = 0 ↔ ¬ Sp r) ∧ Sx.St w0 F0 R w1) := by
 refine Sx.calls_fn (vs := [.int .i64 (r)]) Try.func42 rfl Try.ntmps42 rfl ?_
 refine wc_seq ?_
 refine wc_region ?_
 refine wl_v rfl rfl (ov_assign _ rfl) ?_
 refine wl_nil ?_
 refine qn_then ?_
 refine wc_seq ?_
 refine wc_region ?_
 refine wl_lit (d := (Kd.int .i64)) [] _ [] ([]) h rfl rfl rfl rfl Try.underlying36 infb3 rfl (by decide) (by kernel_rfl) rfl (fun _ _ _ => (Reps.none _ _)) (fun A1 cp2 _ h => ?_)
 refine wl_lit (d := (Kd.int .i64)) [(0, .int .i64 (32)), (1, .int .i64 (9))] _ [.int .i64 (32), .int .i64 (9)] ([32, 9]) h rfl rfl rfl rfl Try.underlying36 infb3 rfl (by decide) (by kernel_rfl) rfl (fun _ _ _ => (((Reps.none _ _).snoc ((Sx.mkInt .i64 (32))) rfl).snoc ((Sx.mkInt .i64 (9))) rfl)) (fun A3 cp4 _ h => ?_)
 obtain ⟨ad5, rfl⟩ := Sx.C_some ((Sx.row_reads h (i := 0) rfl).2) (k := 0) (by first | exact Nat.le_of_ble_eq_true rfl | assumption | omega)
 refine wl_lit (d := (Kd.int .i64)) [(0, .int .i64 (160)), (1, .int .i64 (8239))] _ [.int .i64 (160), .int .i64 (8239)] ([160, 8239]) h rfl rfl rfl rfl Try.underlying36 infb3 rfl (by decide) (by kernel_rfl) rfl (fun _ _ _ => (((Reps.none _ _).snoc ((Sx.mkInt .i64 (160))) rfl).snoc ((Sx.mkInt .i64 (8239))) rfl)) (fun A6 cp7 _ h => ?_)
 obtain ⟨ad8, rfl⟩ := Sx.C_some ((Sx.row_reads h (i := 0) rfl).2) (k := 0) (by first | exact Nat.le_of_ble_eq_true rfl | assumption | omega)
 refine wl_lit (d := (Kd.int .i64)) [(0, .int .i64 (173))] _ [.int .i64 (173)] ([173]) h rfl rfl rfl rfl Try.underlying36 infb3 rfl (by decide) (by kernel_rfl) rfl (fun _ _ _ => ((Reps.none _ _).snoc ((Sx.mkInt .i64 (173))) rfl)) (fun A9 cp10 _ h => ?_)
 obtain ⟨ad11, rfl⟩ := Sx.C_some ((Sx.row_reads h (i := 0) rfl).2) (k := 0) (by first | exact Nat.le_of_ble_eq_true rfl | assumption | omega)
 refine wl_lit (d := (Kd.int .i64)) [(0, .int .i64 (8203))] _ [.int .i64 (8203)] ([8203]) h rfl rfl rfl rfl Try.underlying36 infb3 rfl (by decide) (by kernel_rfl) rfl (fun _ _ _ => ((Reps.none _ _).snoc ((Sx.mkInt .i64 (8203))) rfl)) (fun A12 cp13 _ h => ?_)
 obtain ⟨ad14, rfl⟩ := Sx.C_some ((Sx.row_reads h (i := 0) rfl).2) (k := 0) (by first | exact Nat.le_of_ble_eq_true rfl | assumption | omega)
 refine wl_lit (d := (Kd.int .i64)) [(0, .int .i64 (8288)), (1, .int .i64 (65279))] _ [.int .i64 (8288), .int .i64 (65279)] ([8288, 65279]) h rfl rfl rfl rfl Try.underlying36 infb3 rfl (by decide) (by kernel_rfl) rfl (fun _ _ _ => (((Reps.none _ _).snoc ((Sx.mkInt .i64 (8288))) rfl).snoc ((Sx.mkInt .i64 (65279))) rfl)) (fun A15 cp16 _ h => ?_)
 obtain ⟨ad17, rfl⟩ := Sx.C_some ((Sx.row_reads h (i := 0) rfl).2) (k := 0) (by first | exact Nat.le_of_ble_eq_true rfl | assumption | omega)
 refine wl_lit (d := (Kd.int .i64)) [(0, .int .i64 (45)), (1, .int .i64 (8208))] _ [.int .i64 (45), .int .i64 (8208)] ([45, 8208]) h rfl rfl rfl rfl Try.underlying36 infb3 rfl (by decide) (by kernel_rfl) rfl (fun _ _ _ => (((Reps.none _ _).snoc ((Sx.mkInt .i64 (45))) rfl).snoc ((Sx.mkInt .i64 (8208))) rfl)) (fun A18 cp19 _ h => ?_)
 obtain ⟨ad20, rfl⟩ := Sx.C_some ((Sx.row_reads h (i := 0) rfl).2) (k := 0) (by first | exact Nat.le_of_ble_eq_true rfl | assumption | omega)
 refine wl_lit (d := (Kd.int .i64)) [(0, .int .i64 (8232))] _ [.int .i64 (8232)] ([8232]) h rfl rfl rfl rfl Try.underlying36 infb3 rfl (by decide) (by kernel_rfl) rfl (fun _ _ _ => ((Reps.none _ _).snoc ((Sx.mkInt .i64 (8232))) rfl)) (fun A21 cp22 _ h => ?_)
 obtain ⟨ad23, rfl⟩ := Sx.C_some ((Sx.row_reads h (i := 0) rfl).2) (k := 0) (by first | exact Nat.le_of_ble_eq_true rfl | assumption | omega)
 refine wl_lit (d := (Kd.int .i64)) [(0, .int .i64 (10))] _ [.int .i64 (10)] ([10]) h rfl rfl rfl rfl Try.underlying36 infb3 rfl (by decide) (by kernel_rfl) rfl (fun _ _ _ => ((Reps.none _ _).snoc ((Sx.mkInt .i64 (10))) rfl)) (fun A24 cp25 _ h => ?_)
 obtain ⟨ad26, rfl⟩ := Sx.C_some ((Sx.row_reads h (i := 0) rfl).2) (k := 0) (by first | exact Nat.le_of_ble_eq_true rfl | assumption | omega)
 refine wl_lit (d := Sx.kHdr) [(0, .slice (A1) (0) (cp2)), (1, .slice (some ad5) (2) (cp4)), (2, .slice (some ad8) (2) (cp7)), (3, .slice (some ad11) (1) (cp10)), (4, .slice (some ad14) (1) (cp13)), (5, .slice (some ad17) (2) (cp16)), (6, .slice (some ad20) (2) (cp19)), (7, .slice (some ad23) (1) (cp22)), (8, .slice (some ad26) (1) (cp25))] _ [.slice (A1) (0) (cp2), .slice (some ad5) (2) (cp4), .slice (some ad8) (2) (cp7), .slice (some ad11) (1) (cp10), .slice (some ad14) (1) (cp13), .slice (some ad17) (2) (cp16), .slice (some ad20) (2) (cp19), .slice (some ad23) (1) (cp22), .slice (some ad26) (1) (cp25)] ([(⟨A1, 0, cp2⟩ : Sx.Hdr), (⟨some ad5, 2, cp4⟩ : Sx.Hdr), (⟨some ad8, 2, cp7⟩ : Sx.Hdr), (⟨some ad11, 1, cp10⟩ : Sx.Hdr), (⟨some ad14, 1, cp13⟩ : Sx.Hdr), (⟨some ad17, 2, cp16⟩ : Sx.Hdr), (⟨some ad20, 2, cp19⟩ : Sx.Hdr), (⟨some ad23, 1, cp22⟩ : Sx.Hdr), (⟨some ad26, 1, cp25⟩ : Sx.Hdr)]) h rfl rfl rfl rfl Try.underlying90 infb36 rfl (by decide) (by kernel_rfl) rfl (fun _ _ _ => ((((((((((Reps.none _ _).snoc (Sx.kHdr_mkM _ _ _ ((⟨A1, 0, cp2⟩ : Sx.Hdr))) rfl).snoc (Sx.kHdr_mkM _ _ _ ((⟨some ad5, 2, cp4⟩ : Sx.Hdr))) rfl).snoc (Sx.kHdr_mkM _ _ _ ((⟨some ad8, 2, cp7⟩ : Sx.Hdr))) rfl).snoc (Sx.kHdr_mkM _ _ _ ((⟨some ad11, 1, cp10⟩ : Sx.Hdr))) rfl).snoc (Sx.kHdr_mkM _ _ _ ((⟨some ad14, 1, cp13⟩ : Sx.Hdr))) rfl).snoc (Sx.kHdr_mkM _ _ _ ((⟨some ad17, 2, cp16⟩ : Sx.Hdr))) rfl).snoc (Sx.kHdr_mkM _ _ _ ((⟨some ad20, 2, cp19⟩ : Sx.Hdr))) rfl).snoc (Sx.kHdr_mkM _ _ _ ((⟨some ad23, 1, cp22⟩ : Sx.Hdr))) rfl).snoc (Sx.kHdr_mkM _ _ _ ((⟨some ad26, 1, cp25⟩ : Sx.Hdr))) rfl)) (fun A27 cp28 _ h => ?_)
 obtain ⟨ad29, rfl⟩ := Sx.C_some ((Sx.row_reads h (i := 0) rfl).2) (k := 0) (by first | exact Nat.le_of_ble_eq_true rfl | assumption | omega)
 refine wl_v rfl rfl (ov_assign _ rfl) ?_
 refine wl_nil ?_
 refine qn_then ?_
 refine wc_seq ?_
 refine wc_seq ?_
 refine wc_region ?_
 refine wl_v rfl rfl (ov_assign _ rfl) ?_
 refine wl_nil ?_
 refine qn_then ?_
 refine wc_block ?_
 refine wc_rounds 20 ?_
 refine Sx.wr_step ?_
 refine wc_seq ?_
 refine wc_seq ?_
 refine wc_region ?_
 refine wl_v rfl rfl (ov_move _ rfl) ?_
 refine wl_v rfl rfl (ov_move _ rfl) ?_
 refine wl_v rfl rfl (ov_len _ _ _ _ _ rfl es90) ?_
 refine wl_v rfl rfl (ov_bin (.bool true) rfl rfl (binR_lss)) ?_
 refine wl_nil ?_
 refine qn_then ?_
 refine wc_cond_true rfl ?_
 refine wc_skip ?_
 refine qn_then ?_
 refine wc_seq ?_
 refine wc_block ?_
 refine wc_seq ?_
 refine wc_region ?_
 refine wl_v rfl rfl (ov_assign _ rfl) ?_
 refine wl_nil ?_
 refine qn_then ?_
 refine wc_block ?_
 refine wc_rounds 20 ?_
 refine Sx.wr_step ?_
 refine wc_seq ?_
 refine wc_seq ?_
 refine wc_region ?_
 refine wl_v rfl rfl (ov_move _ rfl) ?_
 refine wl_v rfl rfl (ov_move _ rfl) ?_
 refine wl_v rfl rfl (ov_move _ rfl) ?_
 refine wl_v rfl rfl (ov_indexAddrN _ _ _ _ _ 1 rfl rfl es90 rfl (by first | exact Nat.le_of_ble_eq_true rfl | assumption | omega | (simp only [List.length_take, List.length_drop, List.length_set]; omega))) ?_
 obtain ⟨cl32, _, hk31, hc30⟩ := Sx.C_cells ((Sx.row_reads h (i := 0) rfl).2) (z := (⟨none, 0, 0⟩ : Sx.Hdr)) (k := 1) (Nat.le_of_ble_eq_true rfl)
 obtain rfl := Sx.kHdr_open hk31
 refine wl_v rfl rfl (ov_load1 _ _ rfl sh36 ((hc30 0 _ rfl))) ?_
 refine wl_v rfl rfl (ov_len _ _ _ _ _ rfl es36) ?_
 refine wl_v rfl rfl (ov_bin (.bool true) rfl rfl (binR_lss)) ?_
 refine wl_nil ?_
 refine qn_then ?_
 refine wc_cond_true rfl ?_
 refine wc_skip ?_
 refine qn_then ?_
 refine wc_seq ?_
 refine wc_block ?_
 refine wc_seq ?_
 refine wc_region ?_
 refine wl_v rfl rfl (ov_move _ rfl) ?_
 refine wl_v rfl rfl (ov_move _ rfl) ?_
 refine wl_v rfl rfl (ov_indexAddrN _ _ _ _ _ 1 rfl rfl es90 rfl (by first | exact Nat.le_of_ble_eq_true rfl | assumption | omega | (simp only [List.length_take, List.length_drop, List.length_set]; omega))) ?_
 obtain ⟨cl35, _, hk34, hc33⟩ := Sx.C_cells ((Sx.row_reads h (i := 0) rfl).2) (z := (⟨none, 0, 0⟩ : Sx.Hdr)) (k := 1) (Nat.le_of_ble_eq_true rfl)
 obtain rfl := Sx.kHdr_open hk34
 refine wl_v rfl rfl (ov_load1 _ _ rfl sh36 ((hc33 0 _ rfl))) ?_
 refine wl_v rfl rfl (ov_move _ rfl) ?_
 refine wl_v rfl rfl (ov_indexAddrN _ _ _ _ _ 0 rfl rfl es36 rfl (by first | exact Nat.le_of_ble_eq_true rfl | assumption | omega | (simp only [List.length_take, List.length_drop, List.length_set]; omega))) ?_
 obtain ⟨cl38, _, hk37, hc36⟩ := Sx.C_cells ((Sx.row_reads h (i := 8) rfl).2) (z := (0 : Int)) (k := 0) (Nat.le_of_ble_eq_true rfl)
 obtain rfl : cl38 = [.int .i64 _] := hk37
 refine wl_v rfl rfl (ov_load1 _ _ rfl sh3 ((hc36 0 _ rfl))) ?_
 refine wl_v rfl rfl (ov_move _ rfl) ?_
 refine wl_v rfl rfl (ov_bin _ rfl rfl (binR_eql)) ?_
 refine wl_nil ?_
 refine qn_then ?_
 refine wc_cond (by rfl) (fun c39 => ?_) (fun c39 => ?_)
 ·
  replace c39 : (32 : Int) = r := c39
  refine wc_seq ?_
  refine wc_region ?_
  refine wl_v rfl rfl (ov_move _ rfl) ?_
  refine wl_v rfl rfl (ov_assign _ rfl) ?_
  refine wl_nil ?_
  refine qn_then ?_
  refine wc_ret ?_
  refine qn_block_ret ?_
  refine qn_then_ret ?_
  refine qn_then_ret ?_
  refine qn_block_ret ?_
  refine qn_block_ret ?_
  refine qn_then_ret ?_
  refine qn_then_ret ?_
  refine qn_block_ret ?_
  refine qn_then_ret ?_
  replace h := st_selT [false, false, false, false, false, false, false, false, false, false] h
  refine qn_ret [_] ⟨rfl, trivial⟩ ?_
  exact ⟨1, rfl, by unfold Sp; omega, h⟩
 ·
  replace c39 : ¬ ((32 : Int) = r) := c39
  refine wc_skip ?_
  refine qn_block_normal ?_
  refine qn_then ?_
  refine wc_region ?_
  refine wl_v rfl rfl (ov_move _ rfl) ?_
  refine wl_v rfl rfl (ov_bin _ rfl rfl (binR_add (r := 1) (Sx.w64 (by omega)))) ?_
  refine wl_v rfl rfl (ov_assign _ rfl) ?_
  refine wl_nil ?_
  refine qn_round ?_
  refine Sx.wr_step ?_
  refine wc_seq ?_
  refine wc_seq ?_
  refine wc_region ?_
  refine wl_v rfl rfl (ov_move _ rfl) ?_
  refine wl_v rfl rfl (ov_move _ rfl) ?_
  refine wl_v rfl rfl (ov_move _ rfl) ?_
  refine wl_v rfl rfl (ov_indexAddrN _ _ _ _ _ 1 rfl rfl es90 rfl (by first | exact Nat.le_of_ble_eq_true rfl | assumption | omega | (simp only [List.length_take, List.length_drop, List.length_set]; omega))) ?_
  obtain ⟨cl42, _, hk41, hc40⟩ := Sx.C_cells ((Sx.row_reads h (i := 0) rfl).2) (z := (⟨none, 0, 0⟩ : Sx.Hdr)) (k := 1) (Nat.le_of_ble_eq_true rfl)
  obtain rfl := Sx.kHdr_open hk41
  refine wl_v rfl rfl (ov_load1 _ _ rfl sh36 ((hc40 0 _ rfl))) ?_
  refine wl_v rfl rfl (ov_len _ _ _ _ _ rfl es36) ?_
  refine wl_v rfl rfl (ov_bin (.bool true) rfl rfl (binR_lss)) ?_
  refine wl_nil ?_
  refine qn_then ?_
  refine wc_cond_true rfl ?_
  refine wc_skip ?_
  refine qn_then ?_
  refine wc_seq ?_
  refine wc_block ?_
  refine wc_seq ?_
  refine wc_region ?_
  refine wl_v rfl rfl (ov_move _ rfl) ?_
  refine wl_v rfl rfl (ov_move _ rfl) ?_
  refine wl_v rfl rfl (ov_indexAddrN _ _ _ _ _ 1 rfl rfl es90 rfl (by first | exact Nat.le_of_ble_eq_true rfl | assumption | omega | (simp only [List.length_take, List.length_drop, List.length_set]; omega))) ?_
  obtain ⟨cl45, _, hk44, hc43⟩ := Sx.C_cells ((Sx.row_reads h (i := 0) rfl).2) (z := (⟨none, 0, 0⟩ : Sx.Hdr)) (k := 1) (Nat.le_of_ble_eq_true rfl)
  obtain rfl := Sx.kHdr_open hk44
  refine wl_v rfl rfl (ov_load1 _ _ rfl sh36 ((hc43 0 _ rfl))) ?_
  refine wl_v rfl rfl (ov_move _ rfl) ?_
  refine wl_v rfl rfl (ov_indexAddrN _ _ _ _ _ 1 rfl rfl es36 rfl (by first | exact Nat.le_of_ble_eq_true rfl | assumption | omega | (simp only [List.length_take, List.length_drop, List.length_set]; omega))) ?_
  obtain ⟨cl48, _, hk47, hc46⟩ := Sx.C_cells ((Sx.row_reads h (i := 8) rfl).2) (z := (0 : Int)) (k := 1) (Nat.le_of_ble_eq_true rfl)
  obtain rfl : cl48 = [.int .i64 _] := hk47
  refine wl_v rfl rfl (ov_load1 _ _ rfl sh3 ((hc46 0 _ rfl))) ?_
  refine wl_v rfl rfl (ov_move _ rfl) ?_
  refine wl_v rfl rfl (ov_bin _ rfl rfl (binR_eql)) ?_
  refine wl_nil ?_
  refine qn_then ?_
  refine wc_cond (by rfl) (fun c49 => ?_) (fun c49 => ?_)
  ·
   replace c49 : (9 : Int) = r := c49
   refine wc_seq ?_
   refine wc_region ?_
   refine wl_v rfl rfl (ov_move _ rfl) ?_
   refine wl_v rfl rfl (ov_assign _ rfl) ?_
   refine wl_nil ?_
   refine qn_then ?_
   refine wc_ret ?_
   refine qn_block_ret ?_
   refine qn_then_ret ?_
   refine qn_then_ret ?_
   refine qn_block_ret ?_
   refine qn_block_ret ?_
   refine qn_then_ret ?_
   refine qn_then_ret ?_
   refine qn_block_ret ?_
   refine qn_then_ret ?_
   replace h := st_selT [false, false, false, false, false, false, false, false, false, false] h
   refine qn_ret [_] ⟨rfl, trivial⟩ ?_
   exact ⟨1, rfl, by unfold Sp; omega, h⟩
  ·
   replace c49 : ¬ ((9 : Int) = r) := c49
   refine wc_skip ?_
   refine qn_block_normal ?_
   refine qn_then ?_
   refine wc_region ?_
   refine wl_v rfl rfl (ov_move _ rfl) ?_
   refine wl_v rfl rfl (ov_bin _ rfl rfl (binR_add (r := 2) (Sx.w64 (by omega)))) ?_
   refine wl_v rfl rfl (ov_assign _ rfl) ?_
   refine wl_nil ?_
   refine qn_round ?_
   refine Sx.wr_step ?_
   refine wc_seq ?_
   refine wc_seq ?_
   refine wc_region ?_
   refine wl_v rfl rfl (ov_move _ rfl) ?_
   refine wl_v rfl rfl (ov_move _ rfl) ?_
   refine wl_v rfl rfl (ov_move _ rfl) ?_
   refine wl_v rfl rfl (ov_indexAddrN _ _ _ _ _ 1 rfl rfl es90 rfl (by first | exact Nat.le_of_ble_eq_true rfl | assumption | omega | (simp only [List.length_take, List.length_drop, List.length_set]; omega))) ?_
   obtain ⟨cl52, _, hk51, hc50⟩ := Sx.C_cells ((Sx.row_reads h (i := 0) rfl).2) (z := (⟨none, 0, 0⟩ : Sx.Hdr)) (k := 1) (Nat.le_of_ble_eq_true rfl)
   obtain rfl := Sx.kHdr_open hk51
   refine wl_v rfl rfl (ov_load1 _ _ rfl sh36 ((hc50 0 _ rfl))) ?_
   refine wl_v rfl rfl (ov_len _ _ _ _ _ rfl es36) ?_
   refine wl_v rfl rfl (ov_bin (.bool false) rfl rfl (binR_lss)) ?_
   refine wl_nil ?_
   refine qn_then ?_
   refine wc_cond_false rfl ?_
   refine wc_exit ?_
   refine qn_then_exit ?_
   refine qn_then_exit ?_
   refine qn_block_exit ?_
   refine qn_block_normal ?_
   refine qn_then ?_
   refine wc_region ?_
   refine wl_v rfl rfl (ov_move _ rfl) ?_
   refine wl_v rfl rfl (ov_bin _ rfl rfl (binR_add (r := 2) (Sx.w64 (by omega)))) ?_
   refine wl_v rfl rfl (ov_assign _ rfl) ?_
   refine wl_nil ?_
   refine qn_round ?_
   refine Sx.wr_step ?_
   refine wc_seq ?_
   refine wc_seq ?_
   refine wc_region ?_
   refine wl_v rfl rfl (ov_move _ rfl) ?_
   refine wl_v rfl rfl (ov_move _ rfl) ?_
   refine wl_v rfl rfl (ov_len _ _ _ _ _ rfl es90) ?_
   refine wl_v rfl rfl (ov_bin (.bool true) rfl rfl (binR_lss)) ?_
   refine wl_nil ?_
   refine qn_then ?_
   refine wc_cond_true rfl ?_
   refine wc_skip ?_
   refine qn_then ?_
   refine wc_seq ?_
   refine wc_block ?_
   refine wc_seq ?_
   refine wc_region ?_
   refine wl_v rfl rfl (ov_assign _ rfl) ?_
   refine wl_nil ?_
   refine qn_then ?_
   refine wc_block ?_
   refine wc_rounds 20 ?_
   refine Sx.wr_step ?_
   refine wc_seq ?_
   refine wc_seq ?_
   refine wc_region ?_
   refine wl_v rfl rfl (ov_move _ rfl) ?_
   refine wl_v rfl rfl (ov_move _ rfl) ?_
   refine wl_v rfl rfl (ov_move _ rfl) ?_
   refine wl_v rfl rfl (ov_indexAddrN _ _ _ _ _ 2 rfl rfl es90 rfl (by first | exact Nat.le_of_ble_eq_true rfl | assumption | omega | (simp only [List.length_take, List.length_drop, List.length_set]; omega))) ?_
   obtain ⟨cl55, _, hk54, hc53⟩ := Sx.C_cells ((Sx.row_reads h (i := 0) rfl).2) (z := (⟨none, 0, 0⟩ : Sx.Hdr)) (k := 2) (Nat.le_of_ble_eq_true rfl)
   obtain rfl := Sx.kHdr_open hk54
   refine wl_v rfl rfl (ov_load1 _ _ rfl sh36 ((hc53 0 _ rfl))) ?_
   refine wl_v rfl rfl (ov_len _ _ _ _ _ rfl es36) ?_
   refine wl_v rfl rfl (ov_bin (.bool true) rfl rfl (binR_lss)) ?_
   refine wl_nil ?_
   refine qn_then ?_
   refine wc_cond_true rfl ?_
   refine wc_skip ?_
   refine qn_then ?_
   refine wc_seq ?_
   refine wc_block ?_
   refine wc_seq ?_
   refine wc_region ?_
   refine wl_v rfl rfl (ov_move _ rfl) ?_
   refine wl_v rfl rfl (ov_move _ rfl) ?_
   refine wl_v rfl rfl (ov_indexAddrN _ _ _ _ _ 2 rfl rfl es90 rfl (by first | exact Nat.le_of_ble_eq_true rfl | assumption | omega | (simp only [List.length_take, List.length_drop, List.length_set]; omega))) ?_
   obtain ⟨cl58, _, hk57, hc56⟩ := Sx.C_cells ((Sx.row_reads h (i := 0) rfl).2) (z := (⟨none, 0, 0⟩ : Sx.Hdr)) (k := 2) (Nat.le_of_ble_eq_true rfl)
   obtain rfl := Sx.kHdr_open hk57
   refine wl_v rfl rfl (ov_load1 _ _ rfl sh36 ((hc56 0 _ rfl))) ?_
   refine wl_v rfl rfl (ov_move _ rfl) ?_
   refine wl_v rfl rfl (ov_indexAddrN _ _ _ _ _ 0 rfl rfl es36 rfl (by first | exact Nat.le_of_ble_eq_true rfl | assumption | omega | (simp only [List.length_take, List.length_drop, List.length_set]; omega))) ?_
   obtain ⟨cl61, _, hk60, hc59⟩ := Sx.C_cells ((Sx.row_reads h (i := 7) rfl).2) (z := (0 : Int)) (k := 0) (Nat.le_of_ble_eq_true rfl)
   obtain rfl : cl61 = [.int .i64 _] := hk60
   refine wl_v rfl rfl (ov_load1 _ _ rfl sh3 ((hc59 0 _ rfl))) ?_
   refine wl_v rfl rfl (ov_move _ rfl) ?_
   refine wl_v rfl rfl (ov_bin _ rfl rfl (binR_eql)) ?_
   refine wl_nil ?_
   refine qn_then ?_
   refine wc_cond (by rfl) (fun c62 => ?_) (fun c62 => ?_)
   ·
    replace c62 : (160 : Int) = r := c62
    refine wc_seq ?_
    refine wc_region ?_
    refine wl_v rfl rfl (ov_move _ rfl) ?_
    refine wl_v rfl rfl (ov_assign _ rfl) ?_
    refine wl_nil ?_
    refine qn_then ?_
    refine wc_ret ?_
    refine qn_block_ret ?_
    refine qn_then_ret ?_
    refine qn_then_ret ?_
    refine qn_block_ret ?_
    refine qn_block_ret ?_
    refine qn_then_ret ?_
    refine qn_then_ret ?_
    refine qn_block_ret ?_
    refine qn_then_ret ?_
    replace h := st_selT [false, false, false, false, false, false, false, false, false, false] h
    refine qn_ret [_] ⟨rfl, trivial⟩ ?_
    exact ⟨2, rfl, by unfold Sp; omega, h⟩
   ·
    replace c62 : ¬ ((160 : Int) = r) := c62
    refine wc_skip ?_
    refine qn_block_normal ?_
    refine qn_then ?_
    refine wc_region ?_
    refine wl_v rfl rfl (ov_move _ rfl) ?_
    refine wl_v rfl rfl (ov_bin _ rfl rfl (binR_add (r := 1) (Sx.w64 (by omega)))) ?_
    refine wl_v rfl rfl (ov_assign _ rfl) ?_
    refine wl_nil ?_
    refine qn_round ?_
    refine Sx.wr_step ?_
    refine wc_seq ?_
    refine wc_seq ?_
    refine wc_region ?_
    refine wl_v rfl rfl (ov_move _ rfl) ?_
    refine wl_v rfl rfl (ov_move _ rfl) ?_
    refine wl_v rfl rfl (ov_move _ rfl) ?_
    refine wl_v rfl rfl (ov_indexAddrN _ _ _ _ _ 2 rfl rfl es90 rfl (by first | exact Nat.le_of_ble_eq_true rfl | assumption | omega | (simp only [List.length_take, List.length_drop, List.length_set]; omega))) ?_
    obtain ⟨cl65, _, hk64, hc63⟩ := Sx.C_cells ((Sx.row_reads h (i := 0) rfl).2) (z := (⟨none, 0, 0⟩ : Sx.Hdr)) (k := 2) (Nat.le_of_ble_eq_true rfl)
    obtain rfl := Sx.kHdr_open hk64
    refine wl_v rfl rfl (ov_load1 _ _ rfl sh36 ((hc63 0 _ rfl))) ?_
    refine wl_v rfl rfl (ov_len _ _ _ _ _ rfl es36) ?_
    refine wl_v rfl rfl (ov_bin (.bool true) rfl rfl (binR_lss)) ?_
    refine wl_nil ?_
    refine qn_then ?_
    refine wc_cond_true rfl ?_
    refine wc_skip ?_
    refine qn_then ?_
    refine wc_seq ?_
    refine wc_block ?_
    refine wc_seq ?_
    refine wc_region ?_
    refine wl_v rfl rfl (ov_move _ rfl) ?_
    refine wl_v rfl rfl (ov_move _ rfl) ?_
    refine wl_v rfl rfl (ov_indexAddrN _ _ _ _ _ 2 rfl rfl es90 rfl (by first | exact Nat.le_of_ble_eq_true rfl | assumption | omega | (simp only [List.length_take, List.length_drop, List.length_set]; omega))) ?_
    obtain ⟨cl68, _, hk67, hc66⟩ := Sx.C_cells ((Sx.row_reads h (i := 0) rfl).2) (z := (⟨none, 0, 0⟩ : Sx.Hdr)) (k := 2) (Nat.le_of_ble_eq_true rfl)
    obtain rfl := Sx.kHdr_open hk67
    refine wl_v rfl rfl (ov_load1 _ _ rfl sh36 ((hc66 0 _ rfl))) ?_
    refine wl_v rfl rfl (ov_move _ rfl) ?_
    refine wl_v rfl rfl (ov_indexAddrN _ _ _ _ _ 1 rfl rfl es36 rfl (by first | exact Nat.le_of_ble_eq_true rfl | assumption | omega | (simp only [List.length_take, List.length_drop, List.length_set]; omega))) ?_
    obtain ⟨cl71, _, hk70, hc69⟩ := Sx.C_cells ((Sx.row_reads h (i := 7) rfl).2) (z := (0 : Int)) (k := 1) (Nat.le_of_ble_eq_true rfl)
    obtain rfl : cl71 = [.int .i64 _] := hk70
    refine wl_v rfl rfl (ov_load1 _ _ rfl sh3 ((hc69 0 _ rfl))) ?_
    refine wl_v rfl rfl (ov_move _ rfl) ?_
    refine wl_v rfl rfl (ov_bin _ rfl rfl (binR_eql)) ?_
    refine wl_nil ?_
    refine qn_then ?_
    refine wc_cond (by rfl) (fun c72 => ?_) (fun c72 => ?_)
    ·
     replace c72 : (8239 : Int) = r := c72
     refine wc_seq ?_
     refine wc_region ?_
     refine wl_v rfl rfl (ov_move _ rfl) ?_
     refine wl_v rfl rfl (ov_assign _ rfl) ?_
     refine wl_nil ?_
     refine qn_then ?_
     refine wc_ret ?_
     refine qn_block_ret ?_
     refine qn_then_ret ?_
     refine qn_then_ret ?_
     refine qn_block_ret ?_
     refine qn_block_ret ?_
     refine qn_then_ret ?_
     refine qn_then_ret ?_
     refine qn_block_ret ?_
     refine qn_then_ret ?_
     replace h := st_selT [false, false, false, false, false, false, false, false, false, false] h
     refine qn_ret [_] ⟨rfl, trivial⟩ ?_
     exact ⟨2, rfl, by unfold Sp; omega, h⟩
    ·
     replace c72 : ¬ ((8239 : Int) = r) := c72
     refine wc_skip ?_
     refine qn_block_normal ?_
     refine qn_then ?_
     refine wc_region ?_
     refine wl_v rfl rfl (ov_move _ rfl) ?_
     refine wl_v rfl rfl (ov_bin _ rfl rfl (binR_add (r := 2) (Sx.w64 (by omega)))) ?_
     refine wl_v rfl rfl (ov_assign _ rfl) ?_
     refine wl_nil ?_
     refine qn_round ?_
     refine Sx.wr_step ?_
     refine wc_seq ?_
     refine wc_seq ?_
     refine wc_region ?_
     refine wl_v rfl rfl (ov_move _ rfl) ?_
     refine wl_v rfl rfl (ov_move _ rfl) ?_
     refine wl_v rfl rfl (ov_move _ rfl) ?_
     refine wl_v rfl rfl (ov_indexAddrN _ _ _ _ _ 2 rfl rfl es90 rfl (by first | exact Nat.le_of_ble_eq_true rfl | assumption | omega | (simp only [List.length_take, List.length_drop, List.length_set]; omega))) ?_
     obtain ⟨cl75, _, hk74, hc73⟩ := Sx.C_cells ((Sx.row_reads h (i := 0) rfl).2) (z := (⟨none, 0, 0⟩ : Sx.Hdr)) (k := 2) (Nat.le_of_ble_eq_true rfl)
     obtain rfl := Sx.kHdr_open hk74
     refine wl_v rfl rfl (ov_load1 _ _ rfl sh36 ((hc73 0 _ rfl))) ?_
     refine wl_v rfl rfl (ov_len _ _ _ _ _ rfl es36) ?_
     refine wl_v rfl rfl (ov_bin (.bool false) rfl rfl (binR_lss)) ?_
     refine wl_nil ?_
     refine qn_then ?_
     refine wc_cond_false rfl ?_
     refine wc_exit ?_
     refine qn_then_exit ?_
     refine qn_then_exit ?_
     refine qn_block_exit ?_
     refine qn_block_normal ?_
     refine qn_then ?_
     refine wc_region ?_
     refine wl_v rfl rfl (ov_move _ rfl) ?_
     refine wl_v rfl rfl (ov_bin _ rfl rfl (binR_add (r := 3) (Sx.w64 (by omega)))) ?_
     refine wl_v rfl rfl (ov_assign _ rfl) ?_
     refine wl_nil ?_
     refine qn_round ?_
     refine Sx.wr_step ?_
     refine wc_seq ?_
     refine wc_seq ?_
     refine wc_region ?_
     refine wl_v rfl rfl (ov_move _ rfl) ?_
     refine wl_v rfl rfl (ov_move _ rfl) ?_
     refine wl_v rfl rfl (ov_len _ _ _ _ _ rfl es90) ?_
     refine wl_v rfl rfl (ov_bin (.bool true) rfl rfl (binR_lss)) ?_
     refine wl_nil ?_
     refine qn_then ?_
     refine wc_cond_true rfl ?_
     refine wc_skip ?_
     refine qn_then ?_
     refine wc_seq ?_
     refine wc_block ?_
     refine wc_seq ?_
     refine wc_region ?_
     refine wl_v rfl rfl (ov_assign _ rfl) ?_
     refine wl_nil ?_
     refine qn_then ?_
     refine wc_block ?_
     refine wc_rounds 20 ?_
     refine Sx.wr_step ?_
     refine wc_seq ?_
     refine wc_seq ?_
     refine wc_region ?_
     refine wl_v rfl rfl (ov_move _ rfl) ?_
     refine wl_v rfl rfl (ov_move _ rfl) ?_
     refine wl_v rfl rfl (ov_move _ rfl) ?_
     refine wl_v rfl rfl (ov_indexAddrN _ _ _ _ _ 3 rfl rfl es90 rfl (by first | exact Nat.le_of_ble_eq_true rfl | assumption | omega | (simp only [List.length_take, List.length_drop, List.length_set]; omega))) ?_
     obtain ⟨cl78, _, hk77, hc76⟩ := Sx.C_cells ((Sx.row_reads h (i := 0) rfl).2) (z := (⟨none, 0, 0⟩ : Sx.Hdr)) (k := 3) (Nat.le_of_ble_eq_true rfl)
     obtain rfl := Sx.kHdr_open hk77
     refine wl_v rfl rfl (ov_load1 _ _ rfl sh36 ((hc76 0 _ rfl))) ?_
     refine wl_v rfl rfl (ov_len _ _ _ _ _ rfl es36) ?_
     refine wl_v rfl rfl (ov_bin (.bool true) rfl rfl (binR_lss)) ?_
     refine wl_nil ?_
     refine qn_then ?_
     refine wc_cond_true rfl ?_
     refine wc_skip ?_
     refine qn_then ?_
     refine wc_seq ?_
     refine wc_block ?_
     refine wc_seq ?_
     refine wc_region ?_
     refine wl_v rfl rfl (ov_move _ rfl) ?_
     refine wl_v rfl rfl (ov_move _ rfl) ?_
     refine wl_v rfl rfl (ov_indexAddrN _ _ _ _ _ 3 rfl rfl es90 rfl (by first | exact Nat.le_of_ble_eq_true rfl | assumption | omega | (simp only [List.length_take, List.length_drop, List.length_set]; omega))) ?_
     obtain ⟨cl81, _, hk80, hc79⟩ := Sx.C_cells ((Sx.row_reads h (i := 0) rfl).2) (z := (⟨none, 0, 0⟩ : Sx.Hdr)) (k := 3) (Nat.le_of_ble_eq_true rfl)
     obtain rfl := Sx.kHdr_open hk80
     refine wl_v rfl rfl (ov_load1 _ _ rfl sh36 ((hc79 0 _ rfl))) ?_
     refine wl_v rfl rfl (ov_move _ rfl) ?_
     refine wl_v rfl rfl (ov_indexAddrN _ _ _ _ _ 0 rfl rfl es36 rfl (by first | exact Nat.le_of_ble_eq_true rfl | assumption | omega | (simp only [List.length_take, List.length_drop, List.length_set]; omega))) ?_
     obtain ⟨cl84, _, hk83, hc82⟩ := Sx.C_cells ((Sx.row_reads h (i := 6) rfl).2) (z := (0 : Int)) (k := 0) (Nat.le_of_ble_eq_true rfl)
     obtain rfl : cl84 = [.int .i64 _] := hk83
     refine wl_v rfl rfl (ov_load1 _ _ rfl sh3 ((hc82 0 _ rfl))) ?_
     refine wl_v rfl rfl (ov_move _ rfl) ?_
     refine wl_v rfl rfl (ov_bin _ rfl rfl (binR_eql)) ?_
     refine wl_nil ?_
     refine qn_then ?_
     refine wc_cond (by rfl) (fun c85 => ?_) (fun c85 => ?_)
     ·
      replace c85 : (173 : Int) = r := c85
      refine wc_seq ?_
      refine wc_region ?_
      refine wl_v rfl rfl (ov_move _ rfl) ?_
      refine wl_v rfl rfl (ov_assign _ rfl) ?_
      refine wl_nil ?_
      refine qn_then ?_
      refine wc_ret ?_
      refine qn_block_ret ?_
      refine qn_then_ret ?_
      refine qn_then_ret ?_
      refine qn_block_ret ?_
      refine qn_block_ret ?_
      refine qn_then_ret ?_
      refine qn_then_ret ?_
      refine qn_block_ret ?_
      refine qn_then_ret ?_
      replace h := st_selT [false, false, false, false, false, false, false, false, false, false] h
      refine qn_ret [_] ⟨rfl, trivial⟩ ?_
      exact ⟨3, rfl, by unfold Sp; omega, h⟩
     ·
      replace c85 : ¬ ((173 : Int) = r) := c85
      refine wc_skip ?_
      refine qn_block_normal ?_
      refine qn_then ?_
      refine wc_region ?_
      refine wl_v rfl rfl (ov_move _ rfl) ?_
      refine wl_v rfl rfl (ov_bin _ rfl rfl (binR_add (r := 1) (Sx.w64 (by omega)))) ?_
      refine wl_v rfl rfl (ov_assign _ rfl) ?_
      refine wl_nil ?_
      refine qn_round ?_
      refine Sx.wr_step ?_
      refine wc_seq ?_
      refine wc_seq ?_
      refine wc_region ?_
      refine wl_v rfl rfl (ov_move _ rfl) ?_
      refine wl_v rfl rfl (ov_move _ rfl) ?_
      refine wl_v rfl rfl (ov_move _ rfl) ?_
      refine wl_v rfl rfl (ov_indexAddrN _ _ _ _ _ 3 rfl rfl es90 rfl (by first | exact Nat.le_of_ble_eq_true rfl | assumption | omega | (simp only [List.length_take, List.length_drop, List.length_set]; omega))) ?_
      obtain ⟨cl88, _, hk87, hc86⟩ := Sx.C_cells ((Sx.row_reads h (i := 0) rfl).2) (z := (⟨none, 0, 0⟩ : Sx.Hdr)) (k := 3) (Nat.le_of_ble_eq_true rfl)
      obtain rfl := Sx.kHdr_open hk87
      refine wl_v rfl rfl (ov_load1 _ _ rfl sh36 ((hc86 0 _ rfl))) ?_
      refine wl_v rfl rfl (ov_len _ _ _ _ _ rfl es36) ?_
      refine wl_v rfl rfl (ov_bin (.bool false) rfl rfl (binR_lss)) ?_
      refine wl_nil ?_
      refine qn_then ?_
      refine wc_cond_false rfl ?_
      refine wc_exit ?_
      refine qn_then_exit ?_
      refine qn_then_exit ?_
      refine qn_block_exit ?_
      refine qn_block_normal ?_
      refine qn_then ?_
      refine wc_region ?_
      refine wl_v rfl rfl (ov_move _ rfl) ?_
      refine wl_v rfl rfl (ov_bin _ rfl rfl (binR_add (r := 4) (Sx.w64 (by omega)))) ?_
      refine wl_v rfl rfl (ov_assign _ rfl) ?_
      refine wl_nil ?_
      refine qn_round ?_
      refine Sx.wr_step ?_
      refine wc_seq ?_
      refine wc_seq ?_
      refine wc_region ?_
      refine wl_v rfl rfl (ov_move _ rfl) ?_
      refine wl_v rfl rfl (ov_move _ rfl) ?_
      refine wl_v rfl rfl (ov_len _ _ _ _ _ rfl es90) ?_
      refine wl_v rfl rfl (ov_bin (.bool true) rfl rfl (binR_lss)) ?_
      refine wl_nil ?_
      refine qn_then ?_
      refine wc_cond_true rfl ?_
      refine wc_skip ?_
      refine qn_then ?_
      refine wc_seq ?_
      refine wc_block ?_
      refine wc_seq ?_
      refine wc_region ?_
      refine wl_v rfl rfl (ov_assign _ rfl) ?_
      refine wl_nil ?_
      refine qn_then ?_
      refine wc_block ?_
      refine wc_rounds 20 ?_
      refine Sx.wr_step ?_
      refine wc_seq ?_
      refine wc_seq ?_
      refine wc_region ?_
      refine wl_v rfl rfl (ov_move _ rfl) ?_
      refine wl_v rfl rfl (ov_move _ rfl) ?_
      refine wl_v rfl rfl (ov_move _ rfl) ?_
      refine wl_v rfl rfl (ov_indexAddrN _ _ _ _ _ 4 rfl rfl es90 rfl (by first | exact Nat.le_of_ble_eq_true rfl | assumption | omega | (simp only [List.length_take, List.length_drop, List.length_set]; omega))) ?_
      obtain ⟨cl91, _, hk90, hc89⟩ := Sx.C_cells ((Sx.row_reads h (i := 0) rfl).2) (z := (⟨none, 0, 0⟩ : Sx.Hdr)) (k := 4) (Nat.le_of_ble_eq_true rfl)
      obtain rfl := Sx.kHdr_open hk90
      refine wl_v rfl rfl (ov_load1 _ _ rfl sh36 ((hc89 0 _ rfl))) ?_
      refine wl_v rfl rfl (ov_len _ _ _ _ _ rfl es36) ?_
      refine wl_v rfl rfl (ov_bin (.bool true) rfl rfl (binR_lss)) ?_
      refine wl_nil ?_
      refine qn_then ?_
      refine wc_cond_true rfl ?_
      refine wc_skip ?_
      refine qn_then ?_
      refine wc_seq ?_
      refine wc_block ?_
      refine wc_seq ?_
      refine wc_region ?_
      refine wl_v rfl rfl (ov_move _ rfl) ?_
      refine wl_v rfl rfl (ov_move _ rfl) ?_
      refine wl_v rfl rfl (ov_indexAddrN _ _ _ _ _ 4 rfl rfl es90 rfl (by first | exact Nat.le_of_ble_eq_true rfl | assumption | omega | (simp only [List.length_take, List.length_drop, List.length_set]; omega))) ?_
      obtain ⟨cl94, _, hk93, hc92⟩ := Sx.C_cells ((Sx.row_reads h (i := 0) rfl).2) (z := (⟨none, 0, 0⟩ : Sx.Hdr)) (k := 4) (Nat.le_of_ble_eq_true rfl)
      obtain rfl := Sx.kHdr_open hk93
      refine wl_v rfl rfl (ov_load1 _ _ rfl sh36 ((hc92 0 _ rfl))) ?_
      refine wl_v rfl rfl (ov_move _ rfl) ?_
      refine wl_v rfl rfl (ov_indexAddrN _ _ _ _ _ 0 rfl rfl es36 rfl (by first | exact Nat.le_of_ble_eq_true rfl | assumption | omega | (simp only [List.length_take, List.length_drop, List.length_set]; omega))) ?_
      obtain ⟨cl97, _, hk96, hc95⟩ := Sx.C_cells ((Sx.row_reads h (i := 5) rfl).2) (z := (0 : Int)) (k := 0) (Nat.le_of_ble_eq_true rfl)
      obtain rfl : cl97 = [.int .i64 _] := hk96
      refine wl_v rfl rfl (ov_load1 _ _ rfl sh3 ((hc95 0 _ rfl))) ?_
      refine wl_v rfl rfl (ov_move _ rfl) ?_
      refine wl_v rfl rfl (ov_bin _ rfl rfl (binR_eql)) ?_
      refine wl_nil ?_
      refine qn_then ?_
      refine wc_cond (by rfl) (fun c98 => ?_) (fun c98 => ?_)
      ·
       replace c98 : (8203 : Int) = r := c98
       refine wc_seq ?_
       refine wc_region ?_
       refine wl_v rfl rfl (ov_move _ rfl) ?_
       refine wl_v rfl rfl (ov_assign _ rfl) ?_
       refine wl_nil ?_
       refine qn_then ?_
       refine wc_ret ?_
       refine qn_block_ret ?_
       refine qn_then_ret ?_
       refine qn_then_ret ?_
       refine qn_block_ret ?_
       refine qn_block_ret ?_
       refine qn_then_ret ?_
       refine qn_then_ret ?_
       refine qn_block_ret ?_
       refine qn_then_ret ?_
       replace h := st_selT [false, false, false, false, false, false, false, false, false, false] h
       refine qn_ret [_] ⟨rfl, trivial⟩ ?_
       exact ⟨4, rfl, by unfold Sp; omega, h⟩
      ·
       replace c98 : ¬ ((8203 : Int) = r) := c98
       refine wc_skip ?_
       refine qn_block_normal ?_
       refine qn_then ?_
       refine wc_region ?_
       refine wl_v rfl rfl (ov_move _ rfl) ?_
       refine wl_v rfl rfl (ov_bin _ rfl rfl (binR_add (r := 1) (Sx.w64 (by omega)))) ?_
       refine wl_v rfl rfl (ov_assign _ rfl) ?_
       refine wl_nil ?_
       refine qn_round ?_
       refine Sx.wr_step ?_
       refine wc_seq ?_
       refine wc_seq ?_
       refine wc_region ?_
       refine wl_v rfl rfl (ov_move _ rfl) ?_
       refine wl_v rfl rfl (ov_move _ rfl) ?_
       refine wl_v rfl rfl (ov_move _ rfl) ?_
       refine wl_v rfl rfl (ov_indexAddrN _ _ _ _ _ 4 rfl rfl es90 rfl (by first | exact Nat.le_of_ble_eq_true rfl | assumption | omega | (simp only [List.length_take, List.length_drop, List.length_set]; omega))) ?_
       obtain ⟨cl101, _, hk100, hc99⟩ := Sx.C_cells ((Sx.row_reads h (i := 0) rfl).2) (z := (⟨none, 0, 0⟩ : Sx.Hdr)) (k := 4) (Nat.le_of_ble_eq_true rfl)
       obtain rfl := Sx.kHdr_open hk100
       refine wl_v rfl rfl (ov_load1 _ _ rfl sh36 ((hc99 0 _ rfl))) ?_
       refine wl_v rfl rfl (ov_len _ _ _ _ _ rfl es36) ?_
       refine wl_v rfl rfl (ov_bin (.bool false) rfl rfl (binR_lss)) ?_
       refine wl_nil ?_
       refine qn_then ?_
       refine wc_cond_false rfl ?_
       refine wc_exit ?_
       refine qn_then_exit ?_
       refine qn_then_exit ?_
       refine qn_block_exit ?_
       refine qn_block_normal ?_
       refine qn_then ?_
       refine wc_region ?_
       refine wl_v rfl rfl (ov_move _ rfl) ?_
       refine wl_v rfl rfl (ov_bin _ rfl rfl (binR_add (r := 5) (Sx.w64 (by omega)))) ?_
       refine wl_v rfl rfl (ov_assign _ rfl) ?_
       refine wl_nil ?_
       refine qn_round ?_
       refine Sx.wr_step ?_
       refine wc_seq ?_
       refine wc_seq ?_
       refine wc_region ?_
       refine wl_v rfl rfl (ov_move _ rfl) ?_
       refine wl_v rfl rfl (ov_move _ rfl) ?_
       refine wl_v rfl rfl (ov_len _ _ _ _ _ rfl es90) ?_
       refine wl_v rfl rfl (ov_bin (.bool true) rfl rfl (binR_lss)) ?_
       refine wl_nil ?_
       refine qn_then ?_
       refine wc_cond_true rfl ?_
       refine wc_skip ?_
       refine qn_then ?_
       refine wc_seq ?_
       refine wc_block ?_
       refine wc_seq ?_
       refine wc_region ?_
       refine wl_v rfl rfl (ov_assign _ rfl) ?_
       refine wl_nil ?_
       refine qn_then ?_
       refine wc_block ?_
       refine wc_rounds 20 ?_
       refine Sx.wr_step ?_
       refine wc_seq ?_
       refine wc_seq ?_
       refine wc_region ?_
       refine wl_v rfl rfl (ov_move _ rfl) ?_
       refine wl_v rfl rfl (ov_move _ rfl) ?_
       refine wl_v rfl rfl (ov_move _ rfl) ?_
       refine wl_v rfl rfl (ov_indexAddrN _ _ _ _ _ 5 rfl rfl es90 rfl (by first | exact Nat.le_of_ble_eq_true rfl | assumption | omega | (simp only [List.length_take, List.length_drop, List.length_set]; omega))) ?_
       obtain ⟨cl104, _, hk103, hc102⟩ := Sx.C_cells ((Sx.row_reads h (i := 0) rfl).2) (z := (⟨none, 0, 0⟩ : Sx.Hdr)) (k := 5) (Nat.le_of_ble_eq_true rfl)
       obtain rfl := Sx.kHdr_open hk103
       refine wl_v rfl rfl (ov_load1 _ _ rfl sh36 ((hc102 0 _ rfl))) ?_
       refine wl_v rfl rfl (ov_len _ _ _ _ _ rfl es36) ?_
       refine wl_v rfl rfl (ov_bin (.bool true) rfl rfl (binR_lss)) ?_
       refine wl_nil ?_
       refine qn_then ?_
       refine wc_cond_true rfl ?_
       refine wc_skip ?_
       refine qn_then ?_
       refine wc_seq ?_
       refine wc_block ?_
       refine wc_seq ?_
       refine wc_region ?_
       refine wl_v rfl rfl (ov_move _ rfl) ?_
       refine wl_v rfl rfl (ov_move _ rfl) ?_
       refine wl_v rfl rfl (ov_indexAddrN _ _ _ _ _ 5 rfl rfl es90 rfl (by first | exact Nat.le_of_ble_eq_true rfl | assumption | omega | (simp only [List.length_take, List.length_drop, List.length_set]; omega))) ?_
       obtain ⟨cl107, _, hk106, hc105⟩ := Sx.C_cells ((Sx.row_reads h (i := 0) rfl).2) (z := (⟨none, 0, 0⟩ : Sx.Hdr)) (k := 5) (Nat.le_of_ble_eq_true rfl)
       obtain rfl := Sx.kHdr_open hk106
       refine wl_v rfl rfl (ov_load1 _ _ rfl sh36 ((hc105 0 _ rfl))) ?_
       refine wl_v rfl rfl (ov_move _ rfl) ?_
       refine wl_v rfl rfl (ov_indexAddrN _ _ _ _ _ 0 rfl rfl es36 rfl (by first | exact Nat.le_of_ble_eq_true rfl | assumption | omega | (simp only [List.length_take, List.length_drop, List.length_set]; omega))) ?_
       obtain ⟨cl110, _, hk109, hc108⟩ := Sx.C_cells ((Sx.row_reads h (i := 4) rfl).2) (z := (0 : Int)) (k := 0) (Nat.le_of_ble_eq_true rfl)
       obtain rfl : cl110 = [.int .i64 _] := hk109
       refine wl_v rfl rfl (ov_load1 _ _ rfl sh3 ((hc108 0 _ rfl))) ?_
       refine wl_v rfl rfl (ov_move _ rfl) ?_
       refine wl_v rfl rfl (ov_bin _ rfl rfl (binR_eql)) ?_
       refine wl_nil ?_
       refine qn_then ?_
       refine wc_cond (by rfl) (fun c111 => ?_) (fun c111 => ?_)
       ·
        replace c111 : (8288 : Int) = r := c111
        refine wc_seq ?_
        refine wc_region ?_
        refine wl_v rfl rfl (ov_move _ rfl) ?_
        refine wl_v rfl rfl (ov_assign _ rfl) ?_
        refine wl_nil ?_
        refine qn_then ?_
        refine wc_ret ?_
        refine qn_block_ret ?_
        refine qn_then_ret ?_
        refine qn_then_ret ?_
        refine qn_block_ret ?_
        refine qn_block_ret ?_
        refine qn_then_ret ?_
        refine qn_then_ret ?_
        refine qn_block_ret ?_
        refine qn_then_ret ?_
        replace h := st_selT [false, false, false, false, false, false, false, false, false, false] h
        refine qn_ret [_] ⟨rfl, trivial⟩ ?_
        exact ⟨5, rfl, by unfold Sp; omega, h⟩
       ·
        replace c111 : ¬ ((8288 : Int) = r) := c111
        refine wc_skip ?_
        refine qn_block_normal ?_
        refine qn_then ?_
        refine wc_region ?_
        refine wl_v rfl rfl (ov_move _ rfl) ?_
        refine wl_v rfl rfl (ov_bin _ rfl rfl (binR_add (r := 1) (Sx.w64 (by omega)))) ?_
        refine wl_v rfl rfl (ov_assign _ rfl) ?_
        refine wl_nil ?_
        refine qn_round ?_
        refine Sx.wr_step ?_
        refine wc_seq ?_
        refine wc_seq ?_
        refine wc_region ?_
        refine wl_v rfl rfl (ov_move _ rfl) ?_
        refine wl_v rfl rfl (ov_move _ rfl) ?_
        refine wl_v rfl rfl (ov_move _ rfl) ?_
        refine wl_v rfl rfl (ov_indexAddrN _ _ _ _ _ 5 rfl rfl es90 rfl (by first | exact Nat.le_of_ble_eq_true rfl | assumption | omega | (simp only [List.length_take, List.length_drop, List.length_set]; omega))) ?_
        obtain ⟨cl114, _, hk113, hc112⟩ := Sx.C_cells ((Sx.row_reads h (i := 0) rfl).2) (z := (⟨none, 0, 0⟩ : Sx.Hdr)) (k := 5) (Nat.le_of_ble_eq_true rfl)
        obtain rfl := Sx.kHdr_open hk113
        refine wl_v rfl rfl (ov_load1 _ _ rfl sh36 ((hc112 0 _ rfl))) ?_
        refine wl_v rfl rfl (ov_len _ _ _ _ _ rfl es36) ?_
        refine wl_v rfl rfl (ov_bin (.bool true) rfl rfl (binR_lss)) ?_
        refine wl_nil ?_
        refine qn_then ?_
        refine wc_cond_true rfl ?_
        refine wc_skip ?_
        refine qn_then ?_
        refine wc_seq ?_
        refine wc_block ?_
        refine wc_seq ?_
        refine wc_region ?_
        refine wl_v rfl rfl (ov_move _ rfl) ?_
        refine wl_v rfl rfl (ov_move _ rfl) ?_
        refine wl_v rfl rfl (ov_indexAddrN _ _ _ _ _ 5 rfl rfl es90 rfl (by first | exact Nat.le_of_ble_eq_true rfl | assumption | omega | (simp only [List.length_take, List.length_drop, List.length_set]; omega))) ?_
        obtain ⟨cl117, _, hk116, hc115⟩ := Sx.C_cells ((Sx.row_reads h (i := 0) rfl).2) (z := (⟨none, 0, 0⟩ : Sx.Hdr)) (k := 5) (Nat.le_of_ble_eq_true rfl)
        obtain rfl := Sx.kHdr_open hk116
        refine wl_v rfl rfl (ov_load1 _ _ rfl sh36 ((hc115 0 _ rfl))) ?_
        refine wl_v rfl rfl (ov_move _ rfl) ?_
        refine wl_v rfl rfl (ov_indexAddrN _ _ _ _ _ 1 rfl rfl es36 rfl (by first | exact Nat.le_of_ble_eq_true rfl | assumption | omega | (simp only [List.length_take, List.length_drop, List.length_set]; omega))) ?_
        obtain ⟨cl120, _, hk119, hc118⟩ := Sx.C_cells ((Sx.row_reads h (i := 4) rfl).2) (z := (0 : Int)) (k := 1) (Nat.le_of_ble_eq_true rfl)
        obtain rfl : cl120 = [.int .i64 _] := hk119
        refine wl_v rfl rfl (ov_load1 _ _ rfl sh3 ((hc118 0 _ rfl))) ?_
        refine wl_v rfl rfl (ov_move _ rfl) ?_
        refine wl_v rfl rfl (ov_bin _ rfl rfl (binR_eql)) ?_
        refine wl_nil ?_
        refine qn_then ?_
        refine wc_cond (by rfl) (fun c121 => ?_) (fun c121 => ?_)
        ·
         replace c121 : (65279 : Int) = r := c121
         refine wc_seq ?_
         refine wc_region ?_
         refine wl_v rfl rfl (ov_move _ rfl) ?_
         refine wl_v rfl rfl (ov_assign _ rfl) ?_
         refine wl_nil ?_
         refine qn_then ?_
         refine wc_ret ?_
         refine qn_block_ret ?_
         refine qn_then_ret ?_
         refine qn_then_ret ?_
         refine qn_block_ret ?_
         refine qn_block_ret ?_
         refine qn_then_ret ?_
         refine qn_then_ret ?_
         refine qn_block_ret ?_
         refine qn_then_ret ?_
         replace h := st_selT [false, false, false, false, false, false, false, false, false, false] h
         refine qn_ret [_] ⟨rfl, trivial⟩ ?_
         exact ⟨5, rfl, by unfold Sp; omega, h⟩
        ·
         replace c121 : ¬ ((65279 : Int) = r) := c121
         refine wc_skip ?_
         refine qn_block_normal ?_
         refine qn_then ?_
         refine wc_region ?_
         refine wl_v rfl rfl (ov_move _ rfl) ?_
         refine wl_v rfl rfl (ov_bin _ rfl rfl (binR_add (r := 2) (Sx.w64 (by omega)))) ?_
         refine wl_v rfl rfl (ov_assign _ rfl) ?_
         refine wl_nil ?_
         refine qn_round ?_
         refine Sx.wr_step ?_
         refine wc_seq ?_
         refine wc_seq ?_
         refine wc_region ?_
         refine wl_v rfl rfl (ov_move _ rfl) ?_
         refine wl_v rfl rfl (ov_move _ rfl) ?_
         refine wl_v rfl rfl (ov_move _ rfl) ?_
         refine wl_v rfl rfl (ov_indexAddrN _ _ _ _ _ 5 rfl rfl es90 rfl (by first | exact Nat.le_of_ble_eq_true rfl | assumption | omega | (simp only [List.length_take, List.length_drop, List.length_set]; omega))) ?_
         obtain ⟨cl124, _, hk123, hc122⟩ := Sx.C_cells ((Sx.row_reads h (i := 0) rfl).2) (z := (⟨none, 0, 0⟩ : Sx.Hdr)) (k := 5) (Nat.le_of_ble_eq_true rfl)
         obtain rfl := Sx.kHdr_open hk123
         refine wl_v rfl rfl (ov_load1 _ _ rfl sh36 ((hc122 0 _ rfl))) ?_
         refine wl_v rfl rfl (ov_len _ _ _ _ _ rfl es36) ?_
         refine wl_v rfl rfl (ov_bin (.bool false) rfl rfl (binR_lss)) ?_
         refine wl_nil ?_
         refine qn_then ?_
         refine wc_cond_false rfl ?_
         refine wc_exit ?_
         refine qn_then_exit ?_
         refine qn_then_exit ?_
         refine qn_block_exit ?_
         refine qn_block_normal ?_
         refine qn_then ?_
         refine wc_region ?_
         refine wl_v rfl rfl (ov_move _ rfl) ?_
         refine wl_v rfl rfl (ov_bin _ rfl rfl (binR_add (r := 6) (Sx.w64 (by omega)))) ?_
         refine wl_v rfl rfl (ov_assign _ rfl) ?_
         refine wl_nil ?_
         refine qn_round ?_
         refine Sx.wr_step ?_
         refine wc_seq ?_
         refine wc_seq ?_
         refine wc_region ?_
         refine wl_v rfl rfl (ov_move _ rfl) ?_
         refine wl_v rfl rfl (ov_move _ rfl) ?_
         refine wl_v rfl rfl (ov_len _ _ _ _ _ rfl es90) ?_
         refine wl_v rfl rfl (ov_bin (.bool true) rfl rfl (binR_lss)) ?_
         refine wl_nil ?_
         refine qn_then ?_
         refine wc_cond_true rfl ?_
         refine wc_skip ?_
         refine qn_then ?_
         refine wc_seq ?_
         refine wc_block ?_
         refine wc_seq ?_
         refine wc_region ?_
         refine wl_v rfl rfl (ov_assign _ rfl) ?_
         refine wl_nil ?_
         refine qn_then ?_
         refine wc_block ?_
         refine wc_rounds 20 ?_
         refine Sx.wr_step ?_
         refine wc_seq ?_
         refine wc_seq ?_
         refine wc_region ?_
         refine wl_v rfl rfl (ov_move _ rfl) ?_
         refine wl_v rfl rfl (ov_move _ rfl) ?_
         refine wl_v rfl rfl (ov_move _ rfl) ?_
         refine wl_v rfl rfl (ov_indexAddrN _ _ _ _ _ 6 rfl rfl es90 rfl (by first | exact Nat.le_of_ble_eq_true rfl | assumption | omega | (simp only [List.length_take, List.length_drop, List.length_set]; omega))) ?_
         obtain ⟨cl127, _, hk126, hc125⟩ := Sx.C_cells ((Sx.row_reads h (i := 0) rfl).2) (z := (⟨none, 0, 0⟩ : Sx.Hdr)) (k := 6) (Nat.le_of_ble_eq_true rfl)
         obtain rfl := Sx.kHdr_open hk126
         refine wl_v rfl rfl (ov_load1 _ _ rfl sh36 ((hc125 0 _ rfl))) ?_
         refine wl_v rfl rfl (ov_len _ _ _ _ _ rfl es36) ?_
         refine wl_v rfl rfl (ov_bin (.bool true) rfl rfl (binR_lss)) ?_
         refine wl_nil ?_
         refine qn_then ?_
         refine wc_cond_true rfl ?_
         refine wc_skip ?_
         refine qn_then ?_
         refine wc_seq ?_
         refine wc_block ?_
         refine wc_seq ?_
         refine wc_region ?_
         refine wl_v rfl rfl (ov_move _ rfl) ?_
         refine wl_v rfl rfl (ov_move _ rfl) ?_
         refine wl_v rfl rfl (ov_indexAddrN _ _ _ _ _ 6 rfl rfl es90 rfl (by first | exact Nat.le_of_ble_eq_true rfl | assumption | omega | (simp only [List.length_take, List.length_drop, List.length_set]; omega))) ?_
         obtain ⟨cl130, _, hk129, hc128⟩ := Sx.C_cells ((Sx.row_reads h (i := 0) rfl).2) (z := (⟨none, 0, 0⟩ : Sx.Hdr)) (k := 6) (Nat.le_of_ble_eq_true rfl)
         obtain rfl := Sx.kHdr_open hk129
         refine wl_v rfl rfl (ov_load1 _ _ rfl sh36 ((hc128 0 _ rfl))) ?_
         refine wl_v rfl rfl (ov_move _ rfl) ?_
         refine wl_v rfl rfl (ov_indexAddrN _ _ _ _ _ 0 rfl rfl es36 rfl (by first | exact Nat.le_of_ble_eq_true rfl | assumption | omega | (simp only [List.length_take, List.length_drop, List.length_set]; omega))) ?_
         obtain ⟨cl133, _, hk132, hc131⟩ := Sx.C_cells ((Sx.row_reads h (i := 3) rfl).2) (z := (0 : Int)) (k := 0) (Nat.le_of_ble_eq_true rfl)
         obtain rfl : cl133 = [.int .i64 _] := hk132
         refine wl_v rfl rfl (ov_load1 _ _ rfl sh3 ((hc131 0 _ rfl))) ?_
         refine wl_v rfl rfl (ov_move _ rfl) ?_
         refine wl_v rfl rfl (ov_bin _ rfl rfl (binR_eql)) ?_
         refine wl_nil ?_
         refine qn_then ?_
         refine wc_cond (by rfl) (fun c134 => ?_) (fun c134 => ?_)
         ·
          replace c134 : (45 : Int) = r := c134
          refine wc_seq ?_
          refine wc_region ?_
          refine wl_v rfl rfl (ov_move _ rfl) ?_
          refine wl_v rfl rfl (ov_assign _ rfl) ?_
          refine wl_nil ?_
          refine qn_then ?_
          refine wc_ret ?_
          refine qn_block_ret ?_
          refine qn_then_ret ?_
          refine qn_then_ret ?_
          refine qn_block_ret ?_
          refine qn_block_ret ?_
          refine qn_then_ret ?_
          refine qn_then_ret ?_
          refine qn_block_ret ?_
          refine qn_then_ret ?_
          replace h := st_selT [false, false, false, false, false, false, false, false, false, false] h
          refine qn_ret [_] ⟨rfl, trivial⟩ ?_
          exact ⟨6, rfl, by unfold Sp; omega, h⟩
         ·
          replace c134 : ¬ ((45 : Int) = r) := c134
          refine wc_skip ?_
          refine qn_block_normal ?_
          refine qn_then ?_
          refine wc_region ?_
          refine wl_v rfl rfl (ov_move _ rfl) ?_
          refine wl_v rfl rfl (ov_bin _ rfl rfl (binR_add (r := 1) (Sx.w64 (by omega)))) ?_
          refine wl_v rfl rfl (ov_assign _ rfl) ?_
          refine wl_nil ?_
          refine qn_round ?_
          refine Sx.wr_step ?_
          refine wc_seq ?_
          refine wc_seq ?_
          refine wc_region ?_
          refine wl_v rfl rfl (ov_move _ rfl) ?_
          refine wl_v rfl rfl (ov_move _ rfl) ?_
          refine wl_v rfl rfl (ov_move _ rfl) ?_
          refine wl_v rfl rfl (ov_indexAddrN _ _ _ _ _ 6 rfl rfl es90 rfl (by first | exact Nat.le_of_ble_eq_true rfl | assumption | omega | (simp only [List.length_take, List.length_drop, List.length_set]; omega))) ?_
          obtain ⟨cl137, _, hk136, hc135⟩ := Sx.C_cells ((Sx.row_reads h (i := 0) rfl).2) (z := (⟨none, 0, 0⟩ : Sx.Hdr)) (k := 6) (Nat.le_of_ble_eq_true rfl)
          obtain rfl := Sx.kHdr_open hk136
          refine wl_v rfl rfl (ov_load1 _ _ rfl sh36 ((hc135 0 _ rfl))) ?_
          refine wl_v rfl rfl (ov_len _ _ _ _ _ rfl es36) ?_
          refine wl_v rfl rfl (ov_bin (.bool true) rfl rfl (binR_lss)) ?_
          refine wl_nil ?_
          refine qn_then ?_
          refine wc_cond_true rfl ?_
          refine wc_skip ?_
          refine qn_then ?_
          refine wc_seq ?_
          refine wc_block ?_
          refine wc_seq ?_
          refine wc_region ?_
          refine wl_v rfl rfl (ov_move _ rfl) ?_
          refine wl_v rfl rfl (ov_move _ rfl) ?_
          refine wl_v rfl rfl (ov_indexAddrN _ _ _ _ _ 6 rfl rfl es90 rfl (by first | exact Nat.le_of_ble_eq_true rfl | assumption | omega | (simp only [List.length_take, List.length_drop, List.length_set]; omega))) ?_
          obtain ⟨cl140, _, hk139, hc138⟩ := Sx.C_cells ((Sx.row_reads h (i := 0) rfl).2) (z := (⟨none, 0, 0⟩ : Sx.Hdr)) (k := 6) (Nat.le_of_ble_eq_true rfl)
          obtain rfl := Sx.kHdr_open hk139
          refine wl_v rfl rfl (ov_load1 _ _ rfl sh36 ((hc138 0 _ rfl))) ?_
          refine wl_v rfl rfl (ov_move _ rfl) ?_
          refine wl_v rfl rfl (ov_indexAddrN _ _ _ _ _ 1 rfl rfl es36 rfl (by first | exact Nat.le_of_ble_eq_true rfl | assumption | omega | (simp only [List.length_take, List.length_drop, List.length_set]; omega))) ?_
          obtain ⟨cl143, _, hk142, hc141⟩ := Sx.C_cells ((Sx.row_reads h (i := 3) rfl).2) (z := (0 : Int)) (k := 1) (Nat.le_of_ble_eq_true rfl)
          obtain rfl : cl143 = [.int .i64 _] := hk142
          refine wl_v rfl rfl (ov_load1 _ _ rfl sh3 ((hc141 0 _ rfl))) ?_
          refine wl_v rfl rfl (ov_move _ rfl) ?_
          refine wl_v rfl rfl (ov_bin _ rfl rfl (binR_eql)) ?_
          refine wl_nil ?_
          refine qn_then ?_
          refine wc_cond (by rfl) (fun c144 => ?_) (fun c144 => ?_)
          ·
           replace c144 : (8208 : Int) = r := c144
           refine wc_seq ?_
           refine wc_region ?_
           refine wl_v rfl rfl (ov_move _ rfl) ?_
           refine wl_v rfl rfl (ov_assign _ rfl) ?_
           refine wl_nil ?_
           refine qn_then ?_
           refine wc_ret ?_
           refine qn_block_ret ?_
           refine qn_then_ret ?_
           refine qn_then_ret ?_
           refine qn_block_ret ?_
           refine qn_block_ret ?_
           refine qn_then_ret ?_
           refine qn_then_ret ?_
           refine qn_block_ret ?_
           refine qn_then_ret ?_
           replace h := st_selT [false, false, false, false, false, false, false, false, false, false] h
           refine qn_ret [_] ⟨rfl, trivial⟩ ?_
           exact ⟨6, rfl, by unfold Sp; omega, h⟩
          ·
           replace c144 : ¬ ((8208 : Int) = r) := c144
           refine wc_skip ?_
           refine qn_block_normal ?_
           refine qn_then ?_
           refine wc_region ?_
           refine wl_v rfl rfl (ov_move _ rfl) ?_
           refine wl_v rfl rfl (ov_bin _ rfl rfl (binR_add (r := 2) (Sx.w64 (by omega)))) ?_
           refine wl_v rfl rfl (ov_assign _ rfl) ?_
           refine wl_nil ?_
           refine qn_round ?_
           refine Sx.wr_step ?_
           refine wc_seq ?_
           refine wc_seq ?_
           refine wc_region ?_
           refine wl_v rfl rfl (ov_move _ rfl) ?_
           refine wl_v rfl rfl (ov_move _ rfl) ?_
           refine wl_v rfl rfl (ov_move _ rfl) ?_
           refine wl_v rfl rfl (ov_indexAddrN _ _ _ _ _ 6 rfl rfl es90 rfl (by first | exact Nat.le_of_ble_eq_true rfl | assumption | omega | (simp only [List.length_take, List.length_drop, List.length_set]; omega))) ?_
           obtain ⟨cl147, _, hk146, hc145⟩ := Sx.C_cells ((Sx.row_reads h (i := 0) rfl).2) (z := (⟨none, 0, 0⟩ : Sx.Hdr)) (k := 6) (Nat.le_of_ble_eq_true rfl)
           obtain rfl := Sx.kHdr_open hk146
           refine wl_v rfl rfl (ov_load1 _ _ rfl sh36 ((hc145 0 _ rfl))) ?_
           refine wl_v rfl rfl (ov_len _ _ _ _ _ rfl es36) ?_
           refine wl_v rfl rfl (ov_bin (.bool false) rfl rfl (binR_lss)) ?_
           refine wl_nil ?_
           refine qn_then ?_
           refine wc_cond_false rfl ?_
           refine wc_exit ?_
           refine qn_then_exit ?_
           refine qn_then_exit ?_
           refine qn_block_exit ?_
           refine qn_block_normal ?_
           refine qn_then ?_
           refine wc_region ?_
           refine wl_v rfl rfl (ov_move _ rfl) ?_
           refine wl_v rfl rfl (ov_bin _ rfl rfl (binR_add (r := 7) (Sx.w64 (by omega)))) ?_
           refine wl_v rfl rfl (ov_assign _ rfl) ?_
           refine wl_nil ?_
           refine qn_round ?_
           refine Sx.wr_step ?_
           refine wc_seq ?_
           refine wc_seq ?_
           refine wc_region ?_
           refine wl_v rfl rfl (ov_move _ rfl) ?_
           refine wl_v rfl rfl (ov_move _ rfl) ?_
           refine wl_v rfl rfl (ov_len _ _ _ _ _ rfl es90) ?_
           refine wl_v rfl rfl (ov_bin (.bool true) rfl rfl (binR_lss)) ?_
           refine wl_nil ?_
           refine qn_then ?_
           refine wc_cond_true rfl ?_
           refine wc_skip ?_
           refine qn_then ?_
           refine wc_seq ?_
           refine wc_block ?_
           refine wc_seq ?_
           refine wc_region ?_
           refine wl_v rfl rfl (ov_assign _ rfl) ?_
           refine wl_nil ?_
           refine qn_then ?_
           refine wc_block ?_
           refine wc_rounds 20 ?_
           refine Sx.wr_step ?_
           refine wc_seq ?_
           refine wc_seq ?_
           refine wc_region ?_
           refine wl_v rfl rfl (ov_move _ rfl) ?_
           refine wl_v rfl rfl (ov_move _ rfl) ?_
           refine wl_v rfl rfl (ov_move _ rfl) ?_
           refine wl_v rfl rfl (ov_indexAddrN _ _ _ _ _ 7 rfl rfl es90 rfl (by first | exact Nat.le_of_ble_eq_true rfl | assumption | omega | (simp only [List.length_take, List.length_drop, List.length_set]; omega))) ?_
           obtain ⟨cl150, _, hk149, hc148⟩ := Sx.C_cells ((Sx.row_reads h (i := 0) rfl).2) (z := (⟨none, 0, 0⟩ : Sx.Hdr)) (k := 7) (Nat.le_of_ble_eq_true rfl)
           obtain rfl := Sx.kHdr_open hk149
           refine wl_v rfl rfl (ov_load1 _ _ rfl sh36 ((hc148 0 _ rfl))) ?_
           refine wl_v rfl rfl (ov_len _ _ _ _ _ rfl es36) ?_
           refine wl_v rfl rfl (ov_bin (.bool true) rfl rfl (binR_lss)) ?_
           refine wl_nil ?_
           refine qn_then ?_
           refine wc_cond_true rfl ?_
           refine wc_skip ?_
           refine qn_then ?_
           refine wc_seq ?_
           refine wc_block ?_
           refine wc_seq ?_
           refine wc_region ?_
           refine wl_v rfl rfl (ov_move _ rfl) ?_
           refine wl_v rfl rfl (ov_move _ rfl) ?_
           refine wl_v rfl rfl (ov_indexAddrN _ _ _ _ _ 7 rfl rfl es90 rfl (by first | exact Nat.le_of_ble_eq_true rfl | assumption | omega | (simp only [List.length_take, List.length_drop, List.length_set]; omega))) ?_
           obtain ⟨cl153, _, hk152, hc151⟩ := Sx.C_cells ((Sx.row_reads h (i := 0) rfl).2) (z := (⟨none, 0, 0⟩ : Sx.Hdr)) (k := 7) (Nat.le_of_ble_eq_true rfl)
           obtain rfl := Sx.kHdr_open hk152
           refine wl_v rfl rfl (ov_load1 _ _ rfl sh36 ((hc151 0 _ rfl))) ?_
           refine wl_v rfl rfl (ov_move _ rfl) ?_
           refine wl_v rfl rfl (ov_indexAddrN _ _ _ _ _ 0 rfl rfl es36 rfl (by first | exact Nat.le_of_ble_eq_true rfl | assumption | omega | (simp only [List.length_take, List.length_drop, List.length_set]; omega))) ?_
           obtain ⟨cl156, _, hk155, hc154⟩ := Sx.C_cells ((Sx.row_reads h (i := 2) rfl).2) (z := (0 : Int)) (k := 0) (Nat.le_of_ble_eq_true rfl)
           obtain rfl : cl156 = [.int .i64 _] := hk155
           refine wl_v rfl rfl (ov_load1 _ _ rfl sh3 ((hc154 0 _ rfl))) ?_
           refine wl_v rfl rfl (ov_move _ rfl) ?_
           refine wl_v rfl rfl (ov_bin _ rfl rfl (binR_eql)) ?_
           refine wl_nil ?_
           refine qn_then ?_
           refine wc_cond (by rfl) (fun c157 => ?_) (fun c157 => ?_)
           ·
            replace c157 : (8232 : Int) = r := c157
            refine wc_seq ?_
            refine wc_region ?_
            refine wl_v rfl rfl (ov_move _ rfl) ?_
            refine wl_v rfl rfl (ov_assign _ rfl) ?_
            refine wl_nil ?_
            refine qn_then ?_
            refine wc_ret ?_
            refine qn_block_ret ?_
            refine qn_then_ret ?_
            refine qn_then_ret ?_
            refine qn_block_ret ?_
            refine qn_block_ret ?_
            refine qn_then_ret ?_
            refine qn_then_ret ?_
            refine qn_block_ret ?_
            refine qn_then_ret ?_
            replace h := st_selT [false, false, false, false, false, false, false, false, false, false] h
            refine qn_ret [_] ⟨rfl, trivial⟩ ?_
            exact ⟨7, rfl, by unfold Sp; omega, h⟩
           ·
            replace c157 : ¬ ((8232 : Int) = r) := c157
            refine wc_skip ?_
            refine qn_block_normal ?_
            refine qn_then ?_
            refine wc_region ?_
            refine wl_v rfl rfl (ov_move _ rfl) ?_
            refine wl_v rfl rfl (ov_bin _ rfl rfl (binR_add (r := 1) (Sx.w64 (by omega)))) ?_
            refine wl_v rfl rfl (ov_assign _ rfl) ?_
            refine wl_nil ?_
            refine qn_round ?_
            refine Sx.wr_step ?_
            refine wc_seq ?_
            refine wc_seq ?_
            refine wc_region ?_
            refine wl_v rfl rfl (ov_move _ rfl) ?_
            refine wl_v rfl rfl (ov_move _ rfl) ?_
            refine wl_v rfl rfl (ov_move _ rfl) ?_
            refine wl_v rfl rfl (ov_indexAddrN _ _ _ _ _ 7 rfl rfl es90 rfl (by first | exact Nat.le_of_ble_eq_true rfl | assumption | omega | (simp only [List.length_take, List.length_drop, List.length_set]; omega))) ?_
            obtain ⟨cl160, _, hk159, hc158⟩ := Sx.C_cells ((Sx.row_reads h (i := 0) rfl).2) (z := (⟨none, 0, 0⟩ : Sx.Hdr)) (k := 7) (Nat.le_of_ble_eq_true rfl)
            obtain rfl := Sx.kHdr_open hk159
            refine wl_v rfl rfl (ov_load1 _ _ rfl sh36 ((hc158 0 _ rfl))) ?_
            refine wl_v rfl rfl (ov_len _ _ _ _ _ rfl es36) ?_
            refine wl_v rfl rfl (ov_bin (.bool false) rfl rfl (binR_lss)) ?_
            refine wl_nil ?_
            refine qn_then ?_
            refine wc_cond_false rfl ?_
            refine wc_exit ?_
            refine qn_then_exit ?_
            refine qn_then_exit ?_
            refine qn_block_exit ?_
            refine qn_block_normal ?_
            refine qn_then ?_
            refine wc_region ?_
            refine wl_v rfl rfl (ov_move _ rfl) ?_
            refine wl_v rfl rfl (ov_bin _ rfl rfl (binR_add (r := 8) (Sx.w64 (by omega)))) ?_
            refine wl_v rfl rfl (ov_assign _ rfl) ?_
            refine wl_nil ?_
            refine qn_round ?_
            refine Sx.wr_step ?_
            refine wc_seq ?_
            refine wc_seq ?_
            refine wc_region ?_
            refine wl_v rfl rfl (ov_move _ rfl) ?_
            refine wl_v rfl rfl (ov_move _ rfl) ?_
            refine wl_v rfl rfl (ov_len _ _ _ _ _ rfl es90) ?_
            refine wl_v rfl rfl (ov_bin (.bool true) rfl rfl (binR_lss)) ?_
            refine wl_nil ?_
            refine qn_then ?_
            refine wc_cond_true rfl ?_
            refine wc_skip ?_
            refine qn_then ?_
            refine wc_seq ?_
            refine wc_block ?_
            refine wc_seq ?_
            refine wc_region ?_
            refine wl_v rfl rfl (ov_assign _ rfl) ?_
            refine wl_nil ?_
            refine qn_then ?_
            refine wc_block ?_
            refine wc_rounds 20 ?_
            refine Sx.wr_step ?_
            refine wc_seq ?_
            refine wc_seq ?_
            refine wc_region ?_
            refine wl_v rfl rfl (ov_move _ rfl) ?_
            refine wl_v rfl rfl (ov_move _ rfl) ?_
            refine wl_v rfl rfl (ov_move _ rfl) ?_
            refine wl_v rfl rfl (ov_indexAddrN _ _ _ _ _ 8 rfl rfl es90 rfl (by first | exact Nat.le_of_ble_eq_true rfl | assumption | omega | (simp only [List.length_take, List.length_drop, List.length_set]; omega))) ?_
            obtain ⟨cl163, _, hk162, hc161⟩ := Sx.C_cells ((Sx.row_reads h (i := 0) rfl).2) (z := (⟨none, 0, 0⟩ : Sx.Hdr)) (k := 8) (Nat.le_of_ble_eq_true rfl)
            obtain rfl := Sx.kHdr_open hk162
            refine wl_v rfl rfl (ov_load1 _ _ rfl sh36 ((hc161 0 _ rfl))) ?_
            refine wl_v rfl rfl (ov_len _ _ _ _ _ rfl es36) ?_
            refine wl_v rfl rfl (ov_bin (.bool true) rfl rfl (binR_lss)) ?_
            refine wl_nil ?_
            refine qn_then ?_
            refine wc_cond_true rfl ?_
            refine wc_skip ?_
            refine qn_then ?_
            refine wc_seq ?_
            refine wc_block ?_
            refine wc_seq ?_
            refine wc_region ?_
            refine wl_v rfl rfl (ov_move _ rfl) ?_
            refine wl_v rfl rfl (ov_move _ rfl) ?_
            refine wl_v rfl rfl (ov_indexAddrN _ _ _ _ _ 8 rfl rfl es90 rfl (by first | exact Nat.le_of_ble_eq_true rfl | assumption | omega | (simp only [List.length_take, List.length_drop, List.length_set]; omega))) ?_
            obtain ⟨cl166, _, hk165, hc164⟩ := Sx.C_cells ((Sx.row_reads h (i := 0) rfl).2) (z := (⟨none, 0, 0⟩ : Sx.Hdr)) (k := 8) (Nat.le_of_ble_eq_true rfl)
            obtain rfl := Sx.kHdr_open hk165
            refine wl_v rfl rfl (ov_load1 _ _ rfl sh36 ((hc164 0 _ rfl))) ?_
            refine wl_v rfl rfl (ov_move _ rfl) ?_
            refine wl_v rfl rfl (ov_indexAddrN _ _ _ _ _ 0 rfl rfl es36 rfl (by first | exact Nat.le_of_ble_eq_true rfl | assumption | omega | (simp only [List.length_take, List.length_drop, List.length_set]; omega))) ?_
            obtain ⟨cl169, _, hk168, hc167⟩ := Sx.C_cells ((Sx.row_reads h (i := 1) rfl).2) (z := (0 : Int)) (k := 0) (Nat.le_of_ble_eq_true rfl)
            obtain rfl : cl169 = [.int .i64 _] := hk168
            refine wl_v rfl rfl (ov_load1 _ _ rfl sh3 ((hc167 0 _ rfl))) ?_
            refine wl_v rfl rfl (ov_move _ rfl) ?_
            refine wl_v rfl rfl (ov_bin _ rfl rfl (binR_eql)) ?_
            refine wl_nil ?_
            refine qn_then ?_
            refine wc_cond (by rfl) (fun c170 => ?_) (fun c170 => ?_)
            ·
             replace c170 : (10 : Int) = r := c170
             refine wc_seq ?_
             refine wc_region ?_
             refine wl_v rfl rfl (ov_move _ rfl) ?_
             refine wl_v rfl rfl (ov_assign _ rfl) ?_
             refine wl_nil ?_
             refine qn_then ?_
             refine wc_ret ?_
             refine qn_block_ret ?_
             refine qn_then_ret ?_
             refine qn_then_ret ?_
             refine qn_block_ret ?_
             refine qn_block_ret ?_
             refine qn_then_ret ?_
             refine qn_then_ret ?_
             refine qn_block_ret ?_
             refine qn_then_ret ?_
             replace h := st_selT [false, false, false, false, false, false, false, false, false, false] h
             refine qn_ret [_] ⟨rfl, trivial⟩ ?_
             exact ⟨8, rfl, by unfold Sp; omega, h⟩
            ·
             replace c170 : ¬ ((10 : Int) = r) := c170
             refine wc_skip ?_
             refine qn_block_normal ?_
             refine qn_then ?_
             refine wc_region ?_
             refine wl_v rfl rfl (ov_move _ rfl) ?_
             refine wl_v rfl rfl (ov_bin _ rfl rfl (binR_add (r := 1) (Sx.w64 (by omega)))) ?_
             refine wl_v rfl rfl (ov_assign _ rfl) ?_
             refine wl_nil ?_
             refine qn_round ?_
             refine Sx.wr_step ?_
             refine wc_seq ?_
             refine wc_seq ?_
             refine wc_region ?_
             refine wl_v rfl rfl (ov_move _ rfl) ?_
             refine wl_v rfl rfl (ov_move _ rfl) ?_
             refine wl_v rfl rfl (ov_move _ rfl) ?_
             refine wl_v rfl rfl (ov_indexAddrN _ _ _ _ _ 8 rfl rfl es90 rfl (by first | exact Nat.le_of_ble_eq_true rfl | assumption | omega | (simp only [List.length_take, List.length_drop, List.length_set]; omega))) ?_
             obtain ⟨cl173, _, hk172, hc171⟩ := Sx.C_cells ((Sx.row_reads h (i := 0) rfl).2) (z := (⟨none, 0, 0⟩ : Sx.Hdr)) (k := 8) (Nat.le_of_ble_eq_true rfl)
             obtain rfl := Sx.kHdr_open hk172
             refine wl_v rfl rfl (ov_load1 _ _ rfl sh36 ((hc171 0 _ rfl))) ?_
             refine wl_v rfl rfl (ov_len _ _ _ _ _ rfl es36) ?_
             refine wl_v rfl rfl (ov_bin (.bool false) rfl rfl (binR_lss)) ?_
             refine wl_nil ?_
             refine qn_then ?_
             refine wc_cond_false rfl ?_
             refine wc_exit ?_
             refine qn_then_exit ?_
             refine qn_then_exit ?_
             refine qn_block_exit ?_
             refine qn_block_normal ?_
             refine qn_then ?_
             refine wc_region ?_
             refine wl_v rfl rfl (ov_move _ rfl) ?_
             refine wl_v rfl rfl (ov_bin _ rfl rfl (binR_add (r := 9) (Sx.w64 (by omega)))) ?_
             refine wl_v rfl rfl (ov_assign _ rfl) ?_
             refine wl_nil ?_
             refine qn_round ?_
             refine Sx.wr_step ?_
             refine wc_seq ?_
             refine wc_seq ?_
             refine wc_region ?_
             refine wl_v rfl rfl (ov_move _ rfl) ?_
             refine wl_v rfl rfl (ov_move _ rfl) ?_
             refine wl_v rfl rfl (ov_len _ _ _ _ _ rfl es90) ?_
             refine wl_v rfl rfl (ov_bin (.bool false) rfl rfl (binR_lss)) ?_
             refine wl_nil ?_
             refine qn_then ?_
             refine wc_cond_false rfl ?_
             refine wc_exit ?_
             refine qn_then_exit ?_
             refine qn_then_exit ?_
             refine qn_block_exit ?_
             refine qn_then ?_
             refine wc_seq ?_
             refine wc_region ?_
             refine wl_v rfl rfl (ov_assign _ rfl) ?_
             refine wl_nil ?_
             refine qn_then ?_
             refine wc_ret ?_
             replace h := st_selT [false, false, false, false, false, false, false, false, false, false] h
             refine qn_ret [_] ⟨rfl, trivial⟩ ?_
             exact ⟨0, rfl, by unfold Sp; omega, h⟩
set_option maxHeartbeats 4000000 in
set_option maxRecDepth 100000 in
theorem hLetter_calls {w0 w : World} {F0 : Nat → Prop} {R : List Sx.HP} (r : Int) (h0 : -1 ≤ r) (h1 : r ≤ 1114111) (h : Sx.St w0 F0 ([] ++ R) w) : Calls Try.prog 33 #[.int .i32 (r)] w (fun e w1 => e = .returned (.bool (decide (LetP r))) ∧ Sx.St w0 F0 R w1) := by
 refine Sx.calls_fn (vs := [.int .i32 (r)]) Try.func33 rfl Try.ntmps33 rfl ?_
 refine wc_seq ?_
 refine wc_region ?_
 refine wl_v rfl rfl (ov_assign _ rfl) ?_
 refine wl_nil ?_
 refine qn_then ?_
 refine wc_seq ?_
 refine wc_region ?_
 refine wl_v rfl rfl (ov_move _ rfl) ?_
 refine wl_call _ rfl rfl rfl ent34 (LT.hLower_calls (R := [] ++ R) r (by omega) (by omega) h) ?_
 rintro e_ w_ ⟨rfl, h⟩
 refine ⟨_, rfl, ?_⟩
 have hlb1 := lowV_bd r
 refine wl_v rfl rfl (ov_assign _ rfl) ?_
 refine wl_nil ?_
 refine qn_then ?_
 refine wc_seq ?_
 refine wc_region ?_
 refine wl_v rfl rfl (ov_move _ rfl) ?_
 refine wl_v rfl rfl (ov_bin _ rfl rfl (binR_geq)) ?_
 refine wl_v rfl rfl (ov_move _ rfl) ?_
 refine wl_split 7 rfl (fun c2 => ?_) (fun c2 => ?_)
 ·
  refine wl_v rfl rfl (ov_move _ rfl) ?_
  refine wl_v rfl rfl (ov_bin _ rfl rfl (binR_leq)) ?_
  refine wl_v rfl rfl (ov_pick_true _ rfl rfl) ?_
  refine wl_v rfl rfl (ov_move _ rfl) ?_
  refine wl_split 11 rfl (fun c3 => ?_) (fun c3 => ?_)
  ·
   refine wl_skip rfl rfl ?_
   refine wl_skip rfl rfl ?_
   refine wl_skip rfl rfl ?_
   refine wl_skip rfl rfl ?_
   refine wl_skip rfl rfl ?_
   refine wl_skip rfl rfl ?_
   refine wl_skip rfl rfl ?_
   refine wl_skip rfl rfl ?_
   refine wl_skip rfl rfl ?_
   refine wl_skip rfl rfl ?_
   refine wl_skip rfl rfl ?_
   refine wl_skip rfl rfl ?_
   refine wl_skip rfl rfl ?_
   refine wl_skip rfl rfl ?_
   refine wl_skip rfl rfl ?_
   refine wl_v rfl rfl (ov_pick_true _ rfl rfl) ?_
   refine wl_v rfl rfl (ov_assign _ rfl) ?_
   refine wl_nil ?_
   refine qn_then ?_
   refine wc_ret ?_
   refine qn_ret [_] ⟨rfl, trivial⟩ ?_
   have q_ := lowV_eq r
   have e_ : LetP r := by
     unfold LetP Sp
     omega
   rw [show decide (LetP r) = true from decide_eq_true e_]
   exact ⟨rfl, h⟩
  ·
   refine wl_v rfl rfl (ov_move _ rfl) ?_
   refine wl_v rfl rfl (ov_bin _ rfl rfl (binR_geq)) ?_
   refine wl_v rfl rfl (ov_move _ rfl) ?_
   refine wl_split 14 rfl (fun c4 => ?_) (fun c4 => ?_)
   ·
    refine wl_v rfl rfl (ov_move _ rfl) ?_
    refine wl_v rfl rfl (ov_bin _ rfl rfl (binR_neq)) ?_
    refine wl_v rfl rfl (ov_pick_true _ rfl rfl) ?_
    refine wl_v rfl rfl (ov_move _ rfl) ?_
    refine wl_split 18 rfl (fun c5 => ?_) (fun c5 => ?_)
    ·
     refine wl_v rfl rfl (ov_move _ rfl) ?_
     refine wl_v rfl rfl (ov_bin _ rfl rfl (binR_neq)) ?_
     refine wl_v rfl rfl (ov_pick_true _ rfl rfl) ?_
     refine wl_v rfl rfl (ov_move _ rfl) ?_
     refine wl_split 22 rfl (fun c6 => ?_) (fun c6 => ?_)
     ·
      refine wl_v rfl rfl (ov_move _ rfl) ?_
      refine wl_call _ rfl rfl rfl ent44 (LT.Kind_calls (R := [] ++ R) (lowV r) h) ?_
      rintro e_ w_ ⟨kk7, rfl, hkk8, h⟩
      refine ⟨_, rfl, ?_⟩
      refine wl_v rfl rfl (ov_bin _ rfl rfl (binR_eql)) ?_
      refine wl_v rfl rfl (ov_pick_true _ rfl rfl) ?_
      refine wl_v rfl rfl (ov_pick_false _ rfl rfl) ?_
      refine wl_v rfl rfl (ov_assign _ rfl) ?_
      refine wl_nil ?_
      refine qn_then ?_
      refine wc_ret ?_
      refine qn_ret [_] ⟨rfl, trivial⟩ ?_
      have q_ := lowV_eq r
      have hk_ := hkk8
      try rw [show lowV r = r by omega] at hk_
      unfold Sp at hk_
      have e_ : (LetP r) ↔ ((kk7 : Int) = 0) := by
        unfold LetP Sp
        omega
      rw [decide_eq_decide.2 e_]
      exact ⟨rfl, h⟩
     ·
      refine wl_skip rfl rfl ?_
      refine wl_skip rfl rfl ?_
      refine wl_skip rfl rfl ?_
      refine wl_v rfl rfl (ov_pick_false _ rfl rfl) ?_
      refine wl_v rfl rfl (ov_pick_false _ rfl rfl) ?_
      refine wl_v rfl rfl (ov_assign _ rfl) ?_
      refine wl_nil ?_
      refine qn_then ?_
      refine wc_ret ?_
      refine qn_ret [_] ⟨rfl, trivial⟩ ?_
      have q_ := lowV_eq r
      have e_ : ¬ LetP r := by
        unfold LetP Sp
        omega
      rw [show decide (LetP r) = false from decide_eq_false e_]
      exact ⟨rfl, h⟩
    ·
     refine wl_skip rfl rfl ?_
     refine wl_skip rfl rfl ?_
     refine wl_v rfl rfl (ov_pick_false _ rfl rfl) ?_
     refine wl_v rfl rfl (ov_move _ rfl) ?_
     refine wl_skip rfl rfl ?_
     refine wl_skip rfl rfl ?_
     refine wl_skip rfl rfl ?_
     refine wl_v rfl rfl (ov_pick_false _ rfl rfl) ?_
     refine wl_v rfl rfl (ov_pick_false _ rfl rfl) ?_
     refine wl_v rfl rfl (ov_assign _ rfl) ?_
     refine wl_nil ?_
     refine qn_then ?_
     refine wc_ret ?_
     refine qn_ret [_] ⟨rfl, trivial⟩ ?_
     have q_ := lowV_eq r
     have e_ : ¬ LetP r := by
       unfold LetP Sp
       omega
     rw [show decide (LetP r) = false from decide_eq_false e_]
     exact ⟨rfl, h⟩
   ·
    refine wl_skip rfl rfl ?_
    refine wl_skip rfl rfl ?_
    refine wl_v rfl rfl (ov_pick_false _ rfl rfl) ?_
    refine wl_v rfl rfl (ov_move _ rfl) ?_
    refine wl_skip rfl rfl ?_
    refine wl_skip rfl rfl ?_
    refine wl_v rfl rfl (ov_pick_false _ rfl rfl) ?_
    refine wl_v rfl rfl (ov_move _ rfl) ?_
    refine wl_skip rfl rfl ?_
    refine wl_skip rfl rfl ?_
    refine wl_skip rfl rfl ?_
    refine wl_v rfl rfl (ov_pick_false _ rfl rfl) ?_
    refine wl_v rfl rfl (ov_pick_false _ rfl rfl) ?_
    refine wl_v rfl rfl (ov_assign _ rfl) ?_
    refine wl_nil ?_
    refine qn_then ?_
    refine wc_ret ?_
    refine qn_ret [_] ⟨rfl, trivial⟩ ?_
    have q_ := lowV_eq r
    have e_ : ¬ LetP r := by
      unfold LetP Sp
      omega
    rw [show decide (LetP r) = false from decide_eq_false e_]
    exact ⟨rfl, h⟩
 ·
  refine wl_skip rfl rfl ?_
  refine wl_skip rfl rfl ?_
  refine wl_v rfl rfl (ov_pick_false _ rfl rfl) ?_
  refine wl_v rfl rfl (ov_move _ rfl) ?_
  refine wl_v rfl rfl (ov_move _ rfl) ?_
  refine wl_v rfl rfl (ov_bin _ rfl rfl (binR_geq)) ?_
  refine wl_v rfl rfl (ov_move _ rfl) ?_
  refine wl_split 14 rfl (fun c9 => ?_) (fun c9 => ?_)
  ·
   refine wl_v rfl rfl (ov_move _ rfl) ?_
   refine wl_v rfl rfl (ov_bin _ rfl rfl (binR_neq)) ?_
   refine wl_v rfl rfl (ov_pick_true _ rfl rfl) ?_
   refine wl_v rfl rfl (ov_move _ rfl) ?_
   refine wl_split 18 rfl (fun c10 => ?_) (fun c10 => ?_)
   ·
    refine wl_v rfl rfl (ov_move _ rfl) ?_
    refine wl_v rfl rfl (ov_bin _ rfl rfl (binR_neq)) ?_
    refine wl_v rfl rfl (ov_pick_true _ rfl rfl) ?_
    refine wl_v rfl rfl (ov_move _ rfl) ?_
    refine wl_split 22 rfl (fun c11 => ?_) (fun c11 => ?_)
    ·
     refine wl_v rfl rfl (ov_move _ rfl) ?_
     refine wl_call _ rfl rfl rfl ent44 (LT.Kind_calls (R := [] ++ R) (lowV r) h) ?_
     rintro e_ w_ ⟨kk12, rfl, hkk13, h⟩
     refine ⟨_, rfl, ?_⟩
     refine wl_v rfl rfl (ov_bin _ rfl rfl (binR_eql)) ?_
     refine wl_v rfl rfl (ov_pick_true _ rfl rfl) ?_
     refine wl_v rfl rfl (ov_pick_false _ rfl rfl) ?_
     refine wl_v rfl rfl (ov_assign _ rfl) ?_
     refine wl_nil ?_
     refine qn_then ?_
     refine wc_ret ?_
     refine qn_ret [_] ⟨rfl, trivial⟩ ?_
     have q_ := lowV_eq r
     have hk_ := hkk13
     try rw [show lowV r = r by omega] at hk_
     unfold Sp at hk_
     have e_ : (LetP r) ↔ ((kk12 : Int) = 0) := by
       unfold LetP Sp
       omega
     rw [decide_eq_decide.2 e_]
     exact ⟨rfl, h⟩
    ·
     refine wl_skip rfl rfl ?_
     refine wl_skip rfl rfl ?_
     refine wl_skip rfl rfl ?_
     refine wl_v rfl rfl (ov_pick_false _ rfl rfl) ?_
     refine wl_v rfl rfl (ov_pick_false _ rfl rfl) ?_
     refine wl_v rfl rfl (ov_assign _ rfl) ?_
     refine wl_nil ?_
     refine qn_then ?_
     refine wc_ret ?_
     refine qn_ret [_] ⟨rfl, trivial⟩ ?_
     have q_ := lowV_eq r
     have e_ : ¬ LetP r := by
       unfold LetP Sp
       omega
     rw [show decide (LetP r) = false from decide_eq_false e_]
     exact ⟨rfl, h⟩
   ·
    refine wl_skip rfl rfl ?_
    refine wl_skip rfl rfl ?_
    refine wl_v rfl rfl (ov_pick_false _ rfl rfl) ?_
    refine wl_v rfl rfl (ov_move _ rfl) ?_
    refine wl_skip rfl rfl ?_
    refine wl_skip rfl rfl ?_
    refine wl_skip rfl rfl ?_
    refine wl_v rfl rfl (ov_pick_false _ rfl rfl) ?_
    refine wl_v rfl rfl (ov_pick_false _ rfl rfl) ?_
    refine wl_v rfl rfl (ov_assign _ rfl) ?_
    refine wl_nil ?_
    refine qn_then ?_
    refine wc_ret ?_
    refine qn_ret [_] ⟨rfl, trivial⟩ ?_
    have q_ := lowV_eq r
    have e_ : ¬ LetP r := by
      unfold LetP Sp
      omega
    rw [show decide (LetP r) = false from decide_eq_false e_]
    exact ⟨rfl, h⟩
  ·
   refine wl_skip rfl rfl ?_
   refine wl_skip rfl rfl ?_
   refine wl_v rfl rfl (ov_pick_false _ rfl rfl) ?_
   refine wl_v rfl rfl (ov_move _ rfl) ?_
   refine wl_skip rfl rfl ?_
   refine wl_skip rfl rfl ?_
   refine wl_v rfl rfl (ov_pick_false _ rfl rfl) ?_
   refine wl_v rfl rfl (ov_move _ rfl) ?_
   refine wl_skip rfl rfl ?_
   refine wl_skip rfl rfl ?_
   refine wl_skip rfl rfl ?_
   refine wl_v rfl rfl (ov_pick_false _ rfl rfl) ?_
   refine wl_v rfl rfl (ov_pick_false _ rfl rfl) ?_
   refine wl_v rfl rfl (ov_assign _ rfl) ?_
   refine wl_nil ?_
   refine qn_then ?_
   refine wc_ret ?_
   refine qn_ret [_] ⟨rfl, trivial⟩ ?_
   have q_ := lowV_eq r
   have e_ : ¬ LetP r := by
     unfold LetP Sp
     omega
   rw [show decide (LetP r) = false from decide_eq_false e_]
   exact ⟨rfl, h⟩
set_option maxHeartbeats 4000000 in
set_option maxRecDepth 100000 in
theorem rLetter_calls {w0 w : World} {F0 : Nat → Prop} {R : List Sx.HP} (r : Int) (h0 : -1 ≤ r) (h1 : r ≤ 1114111) (h : Sx.St w0 F0 ([] ++ R) w) : Calls Try.prog 25 #[.int .i64 (r)] w (fun e w1 => e = .returned (.bool (decide (LetP r))) ∧ Sx.St w0 F0 R w1) := by
 refine Sx.calls_fn (vs := [.int .i64 (r)]) Try.func25 rfl Try.ntmps25 rfl ?_
 refine wc_seq ?_
 refine wc_region ?_
 refine wl_v rfl rfl (ov_assign _ rfl) ?_
 refine wl_nil ?_
 refine qn_then ?_
 refine wc_seq ?_
 refine wc_seq ?_
 refine wc_region ?_
 refine wl_v rfl rfl (ov_move _ rfl) ?_
 refine wl_call _ rfl rfl rfl ent37 (LT.rLower_calls (R := [] ++ R) r (by omega) (by omega) h) ?_
 rintro e_ w_ ⟨rfl, h⟩
 refine ⟨_, rfl, ?_⟩
 have hlb1 := lowV_bd r
 refine wl_v rfl rfl (ov_bin _ rfl rfl (binR_geq)) ?_
 refine wl_v rfl rfl (ov_move _ rfl) ?_
 refine wl_split 6 rfl (fun c2 => ?_) (fun c2 => ?_)
 ·
  refine wl_v rfl rfl (ov_move _ rfl) ?_
  refine wl_call _ rfl rfl rfl ent37 (LT.rLower_calls (R := [] ++ R) r (by omega) (by omega) h) ?_
  rintro e_ w_ ⟨rfl, h⟩
  refine ⟨_, rfl, ?_⟩
  have hlb3 := lowV_bd r
  refine wl_v rfl rfl (ov_bin _ rfl rfl (binR_leq)) ?_
  refine wl_v rfl rfl (ov_pick_true _ rfl rfl) ?_
  refine wl_nil ?_
  refine qn_then ?_
  refine wc_cond (by rfl) (fun c4 => ?_) (fun c4 => ?_)
  ·
   refine wc_seq ?_
   refine wc_region ?_
   refine wl_v rfl rfl (ov_assign _ rfl) ?_
   refine wl_nil ?_
   refine qn_then ?_
   refine wc_ret ?_
   refine qn_then_ret ?_
   refine qn_ret [_] ⟨rfl, trivial⟩ ?_
   have q_ := lowV_eq r
   have e_ : LetP r := by
     unfold LetP Sp
     omega
   rw [show decide (LetP r) = true from decide_eq_true e_]
   exact ⟨rfl, h⟩
  ·
   refine wc_skip ?_
   refine qn_then ?_
   refine wc_seq ?_
   refine wc_region ?_
   refine wl_v rfl rfl (ov_move _ rfl) ?_
   refine wl_v rfl rfl (ov_bin _ rfl rfl (binR_geq)) ?_
   refine wl_v rfl rfl (ov_move _ rfl) ?_
   refine wl_split 13 rfl (fun c5 => ?_) (fun c5 => ?_)
   ·
    refine wl_v rfl rfl (ov_move _ rfl) ?_
    refine wl_v rfl rfl (ov_bin _ rfl rfl (binR_neq)) ?_
    refine wl_v rfl rfl (ov_pick_true _ rfl rfl) ?_
    refine wl_v rfl rfl (ov_move _ rfl) ?_
    refine wl_split 17 rfl (fun c6 => ?_) (fun c6 => ?_)
    ·
     refine wl_v rfl rfl (ov_move _ rfl) ?_
     refine wl_v rfl rfl (ov_bin _ rfl rfl (binR_neq)) ?_
     refine wl_v rfl rfl (ov_pick_true _ rfl rfl) ?_
     refine wl_v rfl rfl (ov_move _ rfl) ?_
     refine wl_split 21 rfl (fun c7 => ?_) (fun c7 => ?_)
     ·
      refine wl_v rfl rfl (ov_move _ rfl) ?_
      refine wl_call _ rfl rfl rfl ent42 (LT.rKind_calls (R := [] ++ R) (r) h) ?_
      rintro e_ w_ ⟨kk8, rfl, hkk9, h⟩
      refine ⟨_, rfl, ?_⟩
      refine wl_v rfl rfl (ov_bin _ rfl rfl (binR_eql)) ?_
      refine wl_v rfl rfl (ov_pick_true _ rfl rfl) ?_
      refine wl_v rfl rfl (ov_assign _ rfl) ?_
      refine wl_nil ?_
      refine qn_then ?_
      refine wc_ret ?_
      refine qn_ret [_] ⟨rfl, trivial⟩ ?_
      have q_ := lowV_eq r
      have hk_ := hkk9
      try rw [show lowV r = r by omega] at hk_
      unfold Sp at hk_
      have e_ : (LetP r) ↔ ((kk8 : Int) = 0) := by
        unfold LetP Sp
        omega
      rw [decide_eq_decide.2 e_]
      exact ⟨rfl, h⟩
     ·
      refine wl_skip rfl rfl ?_
      refine wl_skip rfl rfl ?_
      refine wl_skip rfl rfl ?_
      refine wl_v rfl rfl (ov_pick_false _ rfl rfl) ?_
      refine wl_v rfl rfl (ov_assign _ rfl) ?_
      refine wl_nil ?_
      refine qn_then ?_
      refine wc_ret ?_
      refine qn_ret [_] ⟨rfl, trivial⟩ ?_
      have q_ := lowV_eq r
      have e_ : ¬ LetP r := by
        unfold LetP Sp
        omega
      rw [show decide (LetP r) = false from decide_eq_false e_]
      exact ⟨rfl, h⟩
    ·
     refine wl_skip rfl rfl ?_
     refine wl_skip rfl rfl ?_
     refine wl_v rfl rfl (ov_pick_false _ rfl rfl) ?_
     refine wl_v rfl rfl (ov_move _ rfl) ?_
     refine wl_skip rfl rfl ?_
     refine wl_skip rfl rfl ?_
     refine wl_skip rfl rfl ?_
     refine wl_v rfl rfl (ov_pick_false _ rfl rfl) ?_
     refine wl_v rfl rfl (ov_assign _ rfl) ?_
     refine wl_nil ?_
     refine qn_then ?_
     refine wc_ret ?_
     refine qn_ret [_] ⟨rfl, trivial⟩ ?_
     have q_ := lowV_eq r
     have e_ : ¬ LetP r := by
       unfold LetP Sp
       omega
     rw [show decide (LetP r) = false from decide_eq_false e_]
     exact ⟨rfl, h⟩
   ·
    refine wl_skip rfl rfl ?_
    refine wl_skip rfl rfl ?_
    refine wl_v rfl rfl (ov_pick_false _ rfl rfl) ?_
    refine wl_v rfl rfl (ov_move _ rfl) ?_
    refine wl_skip rfl rfl ?_
    refine wl_skip rfl rfl ?_
    refine wl_v rfl rfl (ov_pick_false _ rfl rfl) ?_
    refine wl_v rfl rfl (ov_move _ rfl) ?_
    refine wl_skip rfl rfl ?_
    refine wl_skip rfl rfl ?_
    refine wl_skip rfl rfl ?_
    refine wl_v rfl rfl (ov_pick_false _ rfl rfl) ?_
    refine wl_v rfl rfl (ov_assign _ rfl) ?_
    refine wl_nil ?_
    refine qn_then ?_
    refine wc_ret ?_
    refine qn_ret [_] ⟨rfl, trivial⟩ ?_
    have q_ := lowV_eq r
    have e_ : ¬ LetP r := by
      unfold LetP Sp
      omega
    rw [show decide (LetP r) = false from decide_eq_false e_]
    exact ⟨rfl, h⟩
 ·
  refine wl_skip rfl rfl ?_
  refine wl_skip rfl rfl ?_
  refine wl_skip rfl rfl ?_
  refine wl_v rfl rfl (ov_pick_false _ rfl rfl) ?_
  refine wl_nil ?_
  refine qn_then ?_
  refine wc_cond_false rfl ?_
  refine wc_skip ?_
  refine qn_then ?_
  refine wc_seq ?_
  refine wc_region ?_
  refine wl_v rfl rfl (ov_move _ rfl) ?_
  refine wl_v rfl rfl (ov_bin _ rfl rfl (binR_geq)) ?_
  refine wl_v rfl rfl (ov_move _ rfl) ?_
  refine wl_split 13 rfl (fun c10 => ?_) (fun c10 => ?_)
  ·
   refine wl_v rfl rfl (ov_move _ rfl) ?_
   refine wl_v rfl rfl (ov_bin _ rfl rfl (binR_neq)) ?_
   refine wl_v rfl rfl (ov_pick_true _ rfl rfl) ?_
   refine wl_v rfl rfl (ov_move _ rfl) ?_
   refine wl_split 17 rfl (fun c11 => ?_) (fun c11 => ?_)
   ·
    refine wl_v rfl rfl (ov_move _ rfl) ?_
    refine wl_v rfl rfl (ov_bin _ rfl rfl (binR_neq)) ?_
    refine wl_v rfl rfl (ov_pick_true _ rfl rfl) ?_
    refine wl_v rfl rfl (ov_move _ rfl) ?_
    refine wl_split 21 rfl (fun c12 => ?_) (fun c12 => ?_)
    ·
     refine wl_v rfl rfl (ov_move _ rfl) ?_
     refine wl_call _ rfl rfl rfl ent42 (LT.rKind_calls (R := [] ++ R) (r) h) ?_
     rintro e_ w_ ⟨kk13, rfl, hkk14, h⟩
     refine ⟨_, rfl, ?_⟩
     refine wl_v rfl rfl (ov_bin _ rfl rfl (binR_eql)) ?_
     refine wl_v rfl rfl (ov_pick_true _ rfl rfl) ?_
     refine wl_v rfl rfl (ov_assign _ rfl) ?_
     refine wl_nil ?_
     refine qn_then ?_
     refine wc_ret ?_
     refine qn_ret [_] ⟨rfl, trivial⟩ ?_
     have q_ := lowV_eq r
     have hk_ := hkk14
     try rw [show lowV r = r by omega] at hk_
     unfold Sp at hk_
     have e_ : (LetP r) ↔ ((kk13 : Int) = 0) := by
       unfold LetP Sp
       omega
     rw [decide_eq_decide.2 e_]
     exact ⟨rfl, h⟩
    ·
     refine wl_skip rfl rfl ?_
     refine wl_skip rfl rfl ?_
     refine wl_skip rfl rfl ?_
     refine wl_v rfl rfl (ov_pick_false _ rfl rfl) ?_
     refine wl_v rfl rfl (ov_assign _ rfl) ?_
     refine wl_nil ?_
     refine qn_then ?_
     refine wc_ret ?_
     refine qn_ret [_] ⟨rfl, trivial⟩ ?_
     have q_ := lowV_eq r
     have e_ : ¬ LetP r := by
       unfold LetP Sp
       omega
     rw [show decide (LetP r) = false from decide_eq_false e_]
     exact ⟨rfl, h⟩
   ·
    refine wl_skip rfl rfl ?_
    refine wl_skip rfl rfl ?_
    refine wl_v rfl rfl (ov_pick_false _ rfl rfl) ?_
    refine wl_v rfl rfl (ov_move _ rfl) ?_
    refine wl_skip rfl rfl ?_
    refine wl_skip rfl rfl ?_
    refine wl_skip rfl rfl ?_
    refine wl_v rfl rfl (ov_pick_false _ rfl rfl) ?_
    refine wl_v rfl rfl (ov_assign _ rfl) ?_
    refine wl_nil ?_
    refine qn_then ?_
    refine wc_ret ?_
    refine qn_ret [_] ⟨rfl, trivial⟩ ?_
    have q_ := lowV_eq r
    have e_ : ¬ LetP r := by
      unfold LetP Sp
      omega
    rw [show decide (LetP r) = false from decide_eq_false e_]
    exact ⟨rfl, h⟩
  ·
   refine wl_skip rfl rfl ?_
   refine wl_skip rfl rfl ?_
   refine wl_v rfl rfl (ov_pick_false _ rfl rfl) ?_
   refine wl_v rfl rfl (ov_move _ rfl) ?_
   refine wl_skip rfl rfl ?_
   refine wl_skip rfl rfl ?_
   refine wl_v rfl rfl (ov_pick_false _ rfl rfl) ?_
   refine wl_v rfl rfl (ov_move _ rfl) ?_
   refine wl_skip rfl rfl ?_
   refine wl_skip rfl rfl ?_
   refine wl_skip rfl rfl ?_
   refine wl_v rfl rfl (ov_pick_false _ rfl rfl) ?_
   refine wl_v rfl rfl (ov_assign _ rfl) ?_
   refine wl_nil ?_
   refine qn_then ?_
   refine wc_ret ?_
   refine qn_ret [_] ⟨rfl, trivial⟩ ?_
   have q_ := lowV_eq r
   have e_ : ¬ LetP r := by
     unfold LetP Sp
     omega
   rw [show decide (LetP r) = false from decide_eq_false e_]
   exact ⟨rfl, h⟩
end Go.Proofs.Ytbeihfcjfkddcaa.LT
