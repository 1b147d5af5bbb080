/- Pruned by wip/prune.py. -/
import Derived.Test.YtmlkajmlhmfdgaaProg
import Derived.Test.YtmlkajmlhmfdgaaQSxGlue
import Derived.Test.YtmlkajmlhmfdgaaQSxArr
import Derived.Test.YtmlkajmlhmfdgaaQSxKinds
import Derived.Test.YtmlkajmlhmfdgaaQRunsTh
import Derived.Test.YtmlkajmlhmfdgaaQSxRunsR
import Derived.Test.YtmlkajmlhmfdgaaQCaP
import Derived.Test.YtmlkajmlhmfdgaaQCaRef
import Derived.Test.YtmlkajmlhmfdgaaQSxCKey
import Derived.Test.YtmlkajmlhmfdgaaQSxRowI
import Derived.Test.YtmlkajmlhmfdgaaQSxCaI
import Derived.Test.YtmlkajmlhmfdgaaQSxKeys
import Derived.Test.YtmlkajmlhmfdgaaQSxRefs
import Derived.Test.YtmlkajmlhmfdgaaQCaAwk
import Derived.Test.YtmlkajmlhmfdgaaQSxPlayed
import Derived.Test.YtmlkajmlhmfdgaaQSxAwake
import Derived.Test.YtmlkajmlhmfdgaaQSxRowS
import Derived.Test.YtmlkajmlhmfdgaaQSxCaS
namespace Go.Proofs.Ytmlkajmlhmfdgaa.L
open Go Go.RowKit Go.Proofs.YtmlkajmlhmfdgaaW.PrintWords Go.Proofs.Ytmlkajmlhmfdgaa.Kinds Go.Proofs.Ytmlkajmlhmfdgaa.Runs Go.Proofs.Ytmlkajmlhmfdgaa.RW Go.Proofs.Ytmlkajmlhmfdgaa.Ca Go.Proofs.Ytmlkajmlhmfdgaa.Sx Go.Proofs.Ytmlkajmlhmfdgaa.RI Go.Proofs.Ytmlkajmlhmfdgaa.CCI Go.Proofs.Ytmlkajmlhmfdgaa.Kinds 
set_option linter.unusedVariables false
set_option linter.unusedSimpArgs false
theorem ent9 : Sx.Ent Try.prog 9 := ⟨Try.f9, Try.func9, by kernel_rfl, by kernel_rfl⟩
theorem ent10 : Sx.Ent Try.prog 10 := ⟨Try.f10, Try.func10, by kernel_rfl, by kernel_rfl⟩
theorem ent11 : Sx.Ent Try.prog 11 := ⟨Try.f11, Try.func11, by kernel_rfl, by kernel_rfl⟩
theorem ent12 : Sx.Ent Try.prog 12 := ⟨Try.f12, Try.func12, by kernel_rfl, by kernel_rfl⟩
theorem ent13 : Sx.Ent Try.prog 13 := ⟨Try.f13, Try.func13, by kernel_rfl, by kernel_rfl⟩
theorem ent14 : Sx.Ent Try.prog 14 := ⟨Try.f14, Try.func14, by kernel_rfl, by kernel_rfl⟩
set_option maxHeartbeats 400000 in
set_option maxRecDepth 100000 in
theorem CacheRooms_calls {w0 w : World} {F0 : Nat → Prop} {R : List Sx.HP} {v0 : World} (room : Int) (hv : Sx.RO v0 w0 F0) (h : Sx.St w0 F0 ([] ++ R) w) : Calls Try.prog 3 #[.int .i64 (room)] w (fun e w1 => e = .returned (.bool true) ∧ Sx.St w0 F0 R w1) := by
 refine Sx.calls_fn (vs := [.int .i64 (room)]) Try.func3 rfl Try.ntmps3 rfl ?_
 refine wc_seq ?_
 refine wc_region ?_
 refine wl_v rfl rfl (ov_assign _ rfl) ?_
 refine wl_nil ?_
 refine qn_then ?_
 refine wc_seq ?_
 refine wc_seq ?_
 refine wc_region ?_
 refine wl_call _ rfl rfl rfl ent9 (AW.awake_calls (R := [] ++ R) h) ?_
 rintro e_ w_ ⟨rfl, h⟩
 refine ⟨_, rfl, ?_⟩
 refine wl_v rfl rfl (ov_notb _ rfl) ?_
 refine wl_nil ?_
 refine qn_then ?_
 refine wc_cond_false rfl ?_
 refine wc_skip ?_
 refine qn_then ?_
 refine wc_seq ?_
 refine wc_region ?_
 refine wl_v rfl rfl (ov_move _ rfl) ?_
 refine wl_call _ rfl rfl rfl ent10 (CCS.New_calls (R := [] ++ R) room h) ?_
 rintro e_ w_ (⟨hny1, rfl, h⟩ | ⟨hry1, hqy1, gy1, rfl, h⟩)
 ·
  refine ⟨_, rfl, ?_⟩
  refine wl_v rfl rfl (ov_move _ rfl) ?_
  refine wl_v rfl rfl (ov_extract [.pointer none, .int .i64 (1)] _ rfl rfl) ?_
  refine wl_v rfl rfl (ov_extract [.pointer none, .int .i64 (1)] _ rfl rfl) ?_
  refine wl_v rfl rfl (ov_assign _ rfl) ?_
  refine wl_v rfl rfl (ov_assign _ rfl) ?_
  refine wl_nil ?_
  refine qn_then ?_
  refine wc_seq ?_
  refine wc_seq ?_
  refine wc_region ?_
  refine wl_v rfl rfl (ov_move _ rfl) ?_
  refine wl_v rfl rfl (ov_bin _ rfl rfl (binR_lss)) ?_
  refine wl_v rfl rfl (ov_move _ rfl) ?_
  refine wl_split 16 rfl (fun c2 => ?_) (fun c2 => ?_)
  ·
   refine wl_skip rfl rfl ?_
   refine wl_skip rfl rfl ?_
   refine wl_v rfl rfl (ov_pick_true _ rfl rfl) ?_
   refine wl_nil ?_
   refine qn_then ?_
   refine wc_cond_true rfl ?_
   refine wc_seq ?_
   refine wc_region ?_
   refine wl_v rfl rfl (ov_move _ rfl) ?_
   refine wl_v rfl rfl (ov_bin (.bool true) rfl rfl (binR_eqnil Try.underlying23)) ?_
   refine wl_v rfl rfl (ov_move _ rfl) ?_
   refine wl_v rfl rfl (ov_move _ rfl) ?_
   refine wl_v rfl rfl (ov_bin (.bool true) rfl rfl (binR_eql)) ?_
   refine wl_v rfl rfl (ov_pick_true _ rfl rfl) ?_
   refine wl_v rfl rfl (ov_assign _ rfl) ?_
   refine wl_nil ?_
   refine qn_then ?_
   refine wc_ret ?_
   refine qn_then_ret ?_
   refine qn_ret [_] ⟨rfl, trivial⟩ ?_
   exact ⟨rfl, h⟩
  ·
   refine wl_v rfl rfl (ov_move _ rfl) ?_
   refine wl_v rfl rfl (ov_bin _ rfl rfl (binR_gtr)) ?_
   refine wl_v rfl rfl (ov_pick_false _ rfl rfl) ?_
   refine wl_nil ?_
   refine qn_then ?_
   refine wc_cond (by rfl) (fun c3 => ?_) (fun c3 => ?_)
   ·
    refine wc_seq ?_
    refine wc_region ?_
    refine wl_v rfl rfl (ov_move _ rfl) ?_
    refine wl_v rfl rfl (ov_bin (.bool true) rfl rfl (binR_eqnil Try.underlying23)) ?_
    refine wl_v rfl rfl (ov_move _ rfl) ?_
    refine wl_v rfl rfl (ov_move _ rfl) ?_
    refine wl_v rfl rfl (ov_bin (.bool true) rfl rfl (binR_eql)) ?_
    refine wl_v rfl rfl (ov_pick_true _ rfl rfl) ?_
    refine wl_v rfl rfl (ov_assign _ rfl) ?_
    refine wl_nil ?_
    refine qn_then ?_
    refine wc_ret ?_
    refine qn_then_ret ?_
    refine qn_ret [_] ⟨rfl, trivial⟩ ?_
    exact ⟨rfl, h⟩
   ·
    refine wc_skip ?_
    refine qn_then ?_
    refine wc_seq ?_
    refine wc_seq ?_
    refine wc_region ?_
    refine wl_v rfl rfl (ov_move _ rfl) ?_
    refine wl_v rfl rfl (ov_bin (.bool true) rfl rfl (binR_eqnil Try.underlying23)) ?_
    refine wl_v rfl rfl (ov_move _ rfl) ?_
    refine wl_skip rfl rfl ?_
    refine wl_skip rfl rfl ?_
    refine wl_v rfl rfl (ov_pick_true _ rfl rfl) ?_
    refine wl_v rfl rfl (ov_move _ rfl) ?_
    refine wl_skip rfl rfl ?_
    refine wl_skip rfl rfl ?_
    refine wl_skip rfl rfl ?_
    refine wl_skip rfl rfl ?_
    refine wl_v rfl rfl (ov_pick_true _ rfl rfl) ?_
    refine wl_v rfl rfl (ov_move _ rfl) ?_
    refine wl_skip rfl rfl ?_
    refine wl_skip rfl rfl ?_
    refine wl_skip rfl rfl ?_
    refine wl_v rfl rfl (ov_pick_true _ rfl rfl) ?_
    refine wl_nil ?_
    refine qn_then ?_
    refine wc_cond_true rfl ?_
    refine wc_seq ?_
    refine wc_region ?_
    refine wl_v rfl rfl (ov_assign _ rfl) ?_
    refine wl_nil ?_
    refine qn_then ?_
    refine wc_ret ?_
    refine qn_then_ret ?_
    refine qn_ret [_] ⟨rfl, trivial⟩ ?_
    exfalso
    first | omega | contradiction | (simp_all; done) | (simp_all; omega)
 ·
  replace h : Sx.St w0 F0 ([cacheP 73 76 71 Value.string gy1 (room) ([] : LM ByteArray) (0) (0)] ++ R) _ := h
  refine ⟨_, rfl, ?_⟩
  refine wl_v rfl rfl (ov_move _ rfl) ?_
  refine wl_v rfl rfl (ov_extract [.pointer (some ⟨gy1, 0, none⟩), .int .i64 (0)] _ rfl rfl) ?_
  refine wl_v rfl rfl (ov_extract [.pointer (some ⟨gy1, 0, none⟩), .int .i64 (0)] _ rfl rfl) ?_
  refine wl_v rfl rfl (ov_assign _ rfl) ?_
  refine wl_v rfl rfl (ov_assign _ rfl) ?_
  refine wl_nil ?_
  refine qn_then ?_
  refine wc_seq ?_
  refine wc_seq ?_
  refine wc_region ?_
  refine wl_v rfl rfl (ov_move _ rfl) ?_
  refine wl_v rfl rfl (ov_bin _ rfl rfl (binR_lss)) ?_
  refine wl_v rfl rfl (ov_move _ rfl) ?_
  refine wl_split 16 rfl (fun c4 => ?_) (fun c4 => ?_)
  ·
   refine wl_skip rfl rfl ?_
   refine wl_skip rfl rfl ?_
   refine wl_v rfl rfl (ov_pick_true _ rfl rfl) ?_
   refine wl_nil ?_
   refine qn_then ?_
   refine wc_cond_true rfl ?_
   refine wc_seq ?_
   refine wc_region ?_
   refine wl_v rfl rfl (ov_move _ rfl) ?_
   refine wl_v rfl rfl (ov_bin (.bool false) rfl rfl (binR_eqnil Try.underlying23)) ?_
   refine wl_v rfl rfl (ov_move _ rfl) ?_
   refine wl_skip rfl rfl ?_
   refine wl_skip rfl rfl ?_
   refine wl_v rfl rfl (ov_pick_false _ rfl rfl) ?_
   refine wl_v rfl rfl (ov_assign _ rfl) ?_
   refine wl_nil ?_
   refine qn_then ?_
   refine wc_ret ?_
   refine qn_then_ret ?_
   replace h := st_selT [false] h
   refine qn_ret [_] ⟨rfl, trivial⟩ ?_
   exfalso
   first | omega | contradiction | (simp_all; done) | (simp_all; omega)
  ·
   refine wl_v rfl rfl (ov_move _ rfl) ?_
   refine wl_v rfl rfl (ov_bin _ rfl rfl (binR_gtr)) ?_
   refine wl_v rfl rfl (ov_pick_false _ rfl rfl) ?_
   refine wl_nil ?_
   refine qn_then ?_
   refine wc_cond (by rfl) (fun c5 => ?_) (fun c5 => ?_)
   ·
    refine wc_seq ?_
    refine wc_region ?_
    refine wl_v rfl rfl (ov_move _ rfl) ?_
    refine wl_v rfl rfl (ov_bin (.bool false) rfl rfl (binR_eqnil Try.underlying23)) ?_
    refine wl_v rfl rfl (ov_move _ rfl) ?_
    refine wl_skip rfl rfl ?_
    refine wl_skip rfl rfl ?_
    refine wl_v rfl rfl (ov_pick_false _ rfl rfl) ?_
    refine wl_v rfl rfl (ov_assign _ rfl) ?_
    refine wl_nil ?_
    refine qn_then ?_
    refine wc_ret ?_
    refine qn_then_ret ?_
    replace h := st_selT [false] h
    refine qn_ret [_] ⟨rfl, trivial⟩ ?_
    exfalso
    first | omega | contradiction | (simp_all; done) | (simp_all; omega)
   ·
    refine wc_skip ?_
    refine qn_then ?_
    refine wc_seq ?_
    refine wc_seq ?_
    refine wc_region ?_
    refine wl_v rfl rfl (ov_move _ rfl) ?_
    refine wl_v rfl rfl (ov_bin (.bool false) rfl rfl (binR_eqnil Try.underlying23)) ?_
    refine wl_v rfl rfl (ov_move _ rfl) ?_
    refine wl_v rfl rfl (ov_move _ rfl) ?_
    refine wl_v rfl rfl (ov_bin (.bool false) rfl rfl (binR_neq)) ?_
    refine wl_v rfl rfl (ov_pick_false _ rfl rfl) ?_
    refine wl_v rfl rfl (ov_move _ rfl) ?_
    refine wl_v rfl rfl (ov_move _ rfl) ?_
    refine wl_call _ rfl rfl rfl ent11 (CCS.Room_calls (R := [] ++ R) gy1 (room) (0) (0) ([] : LM ByteArray) h) ?_
    rintro e_ w_ ⟨rfl, h⟩
    refine ⟨_, rfl, ?_⟩
    refine wl_v rfl rfl (ov_move _ rfl) ?_
    refine wl_v rfl rfl (ov_bin _ rfl rfl (binR_neq)) ?_
    refine wl_v rfl rfl (ov_pick_false _ rfl rfl) ?_
    refine wl_v rfl rfl (ov_move _ rfl) ?_
    refine wl_split 38 rfl (fun c6 => ?_) (fun c6 => ?_)
    ·
     exact absurd rfl c6
    ·
     refine wl_v rfl rfl (ov_move _ rfl) ?_
     refine wl_call _ rfl rfl rfl ent12 (CCS.Len_calls (R := [] ++ R) gy1 (room) (0) (0) ([] : LM ByteArray) h) ?_
     rintro e_ w_ ⟨rfl, h⟩
     refine ⟨_, rfl, ?_⟩
     refine wl_v rfl rfl (ov_bin _ rfl rfl (binR_neq)) ?_
     refine wl_v rfl rfl (ov_pick_false _ rfl rfl) ?_
     refine wl_nil ?_
     refine qn_then ?_
     refine wc_cond (by rfl) (fun c7 => ?_) (fun c7 => ?_)
     ·
      exact absurd rfl c7
     ·
      refine wc_skip ?_
      refine qn_then ?_
      refine wc_seq ?_
      refine wc_region ?_
      refine wl_v rfl rfl (ov_move _ rfl) ?_
      refine wl_v rfl rfl (ov_build [] [.string (ByteArray.empty), .slice (none) (0) (0), .int .i64 (0), .int .i64 (0), .int .i64 (0), .int .i64 (0), .int .i64 (0), .int .i64 (0), .int .i64 (0), .int .i64 (0), .int .i64 (0)] rfl rfl (by kernel_rfl)) ?_
      refine wl_call _ rfl rfl rfl ent13 (CCS.Put_calls (R := [] ++ R) gy1 (room) (0) (0) ([] : LM ByteArray) (⟨ByteArray.empty, [], 0, 0, ⟨0, 0, 0, 0, 0, 0, 0⟩⟩ : KV) (none) (0) (ByteArray.mk #[120]) (by first | exact Nat.zero_le _ | (have z_ := putM_len room ([] : LM ByteArray) (⟨ByteArray.empty, [], 0, 0, ⟨0, 0, 0, 0, 0, 0, 0⟩⟩ : KV) (ByteArray.mk #[120]) (by omega) (by show ((0 : Nat) : Int) ≤ room; omega); exact Nat.le_trans z_.2.1 (by decide))) (by decide) ⟨by decide, fun r_ hr_ => by cases hr_⟩ (by decide) (fun _ _ _ => Kd.C_nil _ _) h) ?_
      rintro e_ w_ ⟨rfl, h⟩
      refine ⟨_, rfl, ?_⟩
      refine wl_nil ?_
      refine qn_then ?_
      refine wc_seq ?_
      refine wc_region ?_
      refine wl_v rfl rfl (ov_move _ rfl) ?_
      refine wl_v rfl rfl (ov_build [] [.string (ByteArray.empty), .slice (none) (0) (0), .int .i64 (0), .int .i64 (0), .int .i64 (0), .int .i64 (0), .int .i64 (0), .int .i64 (0), .int .i64 (0), .int .i64 (0), .int .i64 (0)] rfl rfl (by kernel_rfl)) ?_
      refine wl_call _ rfl rfl rfl ent14 (CCS.Get_calls (R := [] ++ R) gy1 (room) (0) (0) (putM room ([] : LM ByteArray) (⟨ByteArray.empty, [], 0, 0, ⟨0, 0, 0, 0, 0, 0, 0⟩⟩ : KV) (ByteArray.mk #[120])) (⟨ByteArray.empty, [], 0, 0, ⟨0, 0, 0, 0, 0, 0, 0⟩⟩ : KV) (none) (0) (by first | exact Nat.zero_le _ | (have z_ := putM_len room ([] : LM ByteArray) (⟨ByteArray.empty, [], 0, 0, ⟨0, 0, 0, 0, 0, 0, 0⟩⟩ : KV) (ByteArray.mk #[120]) (by omega) (by show ((0 : Nat) : Int) ≤ room; omega); exact Nat.le_trans z_.2.1 (by decide))) (by decide) ⟨by decide, fun r_ hr_ => by cases hr_⟩ (by decide) (fun _ _ _ => Kd.C_nil _ _) h) ?_
      rintro e_ w_ ⟨rfl, h⟩
      refine ⟨_, rfl, ?_⟩
      replace h : Sx.St w0 F0 ([cacheP 73 76 71 Value.string gy1 (room) ((getM (putM room ([] : LM ByteArray) (⟨ByteArray.empty, [], 0, 0, ⟨0, 0, 0, 0, 0, 0, 0⟩⟩ : KV) (ByteArray.mk #[120])) (⟨ByteArray.empty, [], 0, 0, ⟨0, 0, 0, 0, 0, 0, 0⟩⟩ : KV)).1) ((if (getM (putM room ([] : LM ByteArray) (⟨ByteArray.empty, [], 0, 0, ⟨0, 0, 0, 0, 0, 0, 0⟩⟩ : KV) (ByteArray.mk #[120])) (⟨ByteArray.empty, [], 0, 0, ⟨0, 0, 0, 0, 0, 0, 0⟩⟩ : KV)).2.isSome then (0) + 1 else (0))) ((if (getM (putM room ([] : LM ByteArray) (⟨ByteArray.empty, [], 0, 0, ⟨0, 0, 0, 0, 0, 0, 0⟩⟩ : KV) (ByteArray.mk #[120])) (⟨ByteArray.empty, [], 0, 0, ⟨0, 0, 0, 0, 0, 0, 0⟩⟩ : KV)).2.isSome then (0) else (0) + 1))] ++ R) _ := h
      rcases put_one (room := room) (⟨ByteArray.empty, [], 0, 0, ⟨0, 0, 0, 0, 0, 0, 0⟩⟩ : KV) (ByteArray.mk #[120]) (by omega) with ⟨q1_, q2_, q3_⟩ | ⟨q1_, q2_, q3_⟩
      ·
       rw [q3_] at h ⊢
       replace h : Sx.St w0 F0 ([cacheP 73 76 71 Value.string gy1 (room) ([] : LM ByteArray) (0) (1)] ++ R) _ := h
       refine wl_v rfl rfl (ov_move _ rfl) ?_
       refine wl_v rfl rfl (ov_extract [.string (ByteArray.empty), .bool false] _ rfl rfl) ?_
       refine wl_v rfl rfl (ov_extract [.string (ByteArray.empty), .bool false] _ rfl rfl) ?_
       refine wl_v rfl rfl (ov_assign _ rfl) ?_
       refine wl_v rfl rfl (ov_assign _ rfl) ?_
       refine wl_nil ?_
       refine qn_then ?_
       refine wc_seq ?_
       refine wc_region ?_
       refine wl_v rfl rfl (ov_move _ rfl) ?_
       refine wl_v rfl rfl (ov_move _ rfl) ?_
       refine wl_v rfl rfl (ov_bin _ rfl rfl (binR_gtr)) ?_
       refine wl_v rfl rfl (ov_bin _ rfl rfl (binR_eqb Try.underlying4)) ?_
       refine wl_v rfl rfl (ov_move _ rfl) ?_
       refine wl_split 56 rfl (fun c8 => ?_) (fun c8 => ?_)
       ·
        refine wl_v rfl rfl (ov_move _ rfl) ?_
        refine wl_v rfl rfl (ov_move _ rfl) ?_
        refine wl_skip rfl rfl ?_
        refine wl_skip rfl rfl ?_
        refine wl_v rfl rfl (ov_pick_false _ rfl rfl) ?_
        refine wl_v rfl rfl (ov_move _ rfl) ?_
        refine wl_v rfl rfl (ov_move _ rfl) ?_
        refine wl_v rfl rfl (ov_notb _ rfl) ?_
        refine wl_v rfl rfl (ov_move _ rfl) ?_
        refine wl_v rfl rfl (ov_move _ rfl) ?_
        refine wl_v rfl rfl (ov_bin _ rfl rfl (binR_eqs)) ?_
        refine wl_v rfl rfl (ov_pick_true _ rfl rfl) ?_
        refine wl_v rfl rfl (ov_pick_false _ rfl rfl) ?_
        refine wl_v rfl rfl (ov_pick_true _ rfl rfl) ?_
        refine wl_v rfl rfl (ov_move _ rfl) ?_
        refine wl_split 71 rfl (fun c9 => ?_) (fun c9 => ?_)
        ·
         refine wl_v rfl rfl (ov_move _ rfl) ?_
         refine wl_call _ rfl rfl rfl ent12 (CCS.Len_calls (R := [] ++ R) gy1 (room) (0) (1) ([] : LM ByteArray) h) ?_
         rintro e_ w_ ⟨rfl, h⟩
         refine ⟨_, rfl, ?_⟩
         refine wl_v rfl rfl (ov_move _ rfl) ?_
         refine wl_v rfl rfl (ov_min _ _ _ (min room 1) rfl rfl rfl) ?_
         refine wl_v rfl rfl (ov_bin _ rfl rfl (binR_eql)) ?_
         refine wl_v rfl rfl (ov_pick_true _ rfl rfl) ?_
         refine wl_v rfl rfl (ov_assign _ rfl) ?_
         refine wl_nil ?_
         refine qn_then ?_
         refine wc_ret ?_
         replace h := st_selT [false] h
         refine qn_ret [_] ⟨rfl, trivial⟩ ?_
         have b_ : (decide ((((([] : LM ByteArray).length : Nat) : Int) : Int) = (min room 1))) = true := by
           apply decide_eq_true
           first
           | omega
           | rfl
           | (simp; omega)
         exact ⟨congrArg (fun z => Ending.returned (Value.bool z)) b_, h⟩
        ·
         refine wl_skip rfl rfl ?_
         refine wl_skip rfl rfl ?_
         refine wl_skip rfl rfl ?_
         refine wl_skip rfl rfl ?_
         refine wl_skip rfl rfl ?_
         refine wl_v rfl rfl (ov_pick_false _ rfl rfl) ?_
         refine wl_v rfl rfl (ov_assign _ rfl) ?_
         refine wl_nil ?_
         refine qn_then ?_
         refine wc_ret ?_
         replace h := st_selT [false] h
         refine qn_ret [_] ⟨rfl, trivial⟩ ?_
         exfalso
         first | omega | contradiction | (simp_all; done) | (simp_all; omega)
       ·
        refine wl_skip rfl rfl ?_
        refine wl_skip rfl rfl ?_
        refine wl_skip rfl rfl ?_
        refine wl_skip rfl rfl ?_
        refine wl_skip rfl rfl ?_
        refine wl_skip rfl rfl ?_
        refine wl_skip rfl rfl ?_
        refine wl_skip rfl rfl ?_
        refine wl_skip rfl rfl ?_
        refine wl_skip rfl rfl ?_
        refine wl_skip rfl rfl ?_
        refine wl_skip rfl rfl ?_
        refine wl_skip rfl rfl ?_
        refine wl_v rfl rfl (ov_pick_false _ rfl rfl) ?_
        refine wl_v rfl rfl (ov_move _ rfl) ?_
        refine wl_skip rfl rfl ?_
        refine wl_skip rfl rfl ?_
        refine wl_skip rfl rfl ?_
        refine wl_skip rfl rfl ?_
        refine wl_skip rfl rfl ?_
        refine wl_v rfl rfl (ov_pick_false _ rfl rfl) ?_
        refine wl_v rfl rfl (ov_assign _ rfl) ?_
        refine wl_nil ?_
        refine qn_then ?_
        refine wc_ret ?_
        replace h := st_selT [false] h
        refine qn_ret [_] ⟨rfl, trivial⟩ ?_
        exfalso
        first | omega | contradiction | (simp_all; done) | (simp_all; omega)
      ·
       rw [q3_] at h ⊢
       replace h : Sx.St w0 F0 ([cacheP 73 76 71 Value.string gy1 (room) ([((⟨ByteArray.empty, [], 0, 0, ⟨0, 0, 0, 0, 0, 0, 0⟩⟩ : KV), ByteArray.mk #[120])]) (1) (0)] ++ R) _ := h
       refine wl_v rfl rfl (ov_move _ rfl) ?_
       refine wl_v rfl rfl (ov_extract [.string (ByteArray.mk #[120]), .bool true] _ rfl rfl) ?_
       refine wl_v rfl rfl (ov_extract [.string (ByteArray.mk #[120]), .bool true] _ rfl rfl) ?_
       refine wl_v rfl rfl (ov_assign _ rfl) ?_
       refine wl_v rfl rfl (ov_assign _ rfl) ?_
       refine wl_nil ?_
       refine qn_then ?_
       refine wc_seq ?_
       refine wc_region ?_
       refine wl_v rfl rfl (ov_move _ rfl) ?_
       refine wl_v rfl rfl (ov_move _ rfl) ?_
       refine wl_v rfl rfl (ov_bin _ rfl rfl (binR_gtr)) ?_
       refine wl_v rfl rfl (ov_bin _ rfl rfl (binR_eqb Try.underlying4)) ?_
       refine wl_v rfl rfl (ov_move _ rfl) ?_
       refine wl_split 56 rfl (fun c10 => ?_) (fun c10 => ?_)
       ·
        refine wl_v rfl rfl (ov_move _ rfl) ?_
        refine wl_v rfl rfl (ov_move _ rfl) ?_
        refine wl_v rfl rfl (ov_move _ rfl) ?_
        refine wl_v rfl rfl (ov_bin _ rfl rfl (binR_eqs)) ?_
        refine wl_v rfl rfl (ov_pick_true _ rfl rfl) ?_
        refine wl_v rfl rfl (ov_move _ rfl) ?_
        refine wl_split 62 rfl (fun c11 => ?_) (fun c11 => ?_)
        ·
         refine wl_skip rfl rfl ?_
         refine wl_skip rfl rfl ?_
         refine wl_skip rfl rfl ?_
         refine wl_skip rfl rfl ?_
         refine wl_skip rfl rfl ?_
         refine wl_skip rfl rfl ?_
         refine wl_v rfl rfl (ov_pick_true _ rfl rfl) ?_
         refine wl_v rfl rfl (ov_pick_true _ rfl rfl) ?_
         refine wl_v rfl rfl (ov_move _ rfl) ?_
         refine wl_v rfl rfl (ov_move _ rfl) ?_
         refine wl_call _ rfl rfl rfl ent12 (CCS.Len_calls (R := [] ++ R) gy1 (room) (1) (0) ([((⟨ByteArray.empty, [], 0, 0, ⟨0, 0, 0, 0, 0, 0, 0⟩⟩ : KV), ByteArray.mk #[120])]) h) ?_
         rintro e_ w_ ⟨rfl, h⟩
         refine ⟨_, rfl, ?_⟩
         refine wl_v rfl rfl (ov_move _ rfl) ?_
         refine wl_v rfl rfl (ov_min _ _ _ (min room 1) rfl rfl rfl) ?_
         refine wl_v rfl rfl (ov_bin _ rfl rfl (binR_eql)) ?_
         refine wl_v rfl rfl (ov_pick_true _ rfl rfl) ?_
         refine wl_v rfl rfl (ov_assign _ rfl) ?_
         refine wl_nil ?_
         refine qn_then ?_
         refine wc_ret ?_
         replace h := st_selT [false] h
         refine qn_ret [_] ⟨rfl, trivial⟩ ?_
         have b_ : (decide ((((([((⟨ByteArray.empty, [], 0, 0, ⟨0, 0, 0, 0, 0, 0, 0⟩⟩ : KV), ByteArray.mk #[120])]).length : Nat) : Int) : Int) = (min room 1))) = true := by
           apply decide_eq_true
           first
           | omega
           | rfl
           | (simp; omega)
         exact ⟨congrArg (fun z => Ending.returned (Value.bool z)) b_, h⟩
        ·
         refine wl_v rfl rfl (ov_move _ rfl) ?_
         refine wl_v rfl rfl (ov_notb _ rfl) ?_
         refine wl_v rfl rfl (ov_move _ rfl) ?_
         refine wl_skip rfl rfl ?_
         refine wl_skip rfl rfl ?_
         refine wl_v rfl rfl (ov_pick_false _ rfl rfl) ?_
         refine wl_v rfl rfl (ov_pick_false _ rfl rfl) ?_
         refine wl_v rfl rfl (ov_pick_true _ rfl rfl) ?_
         refine wl_v rfl rfl (ov_move _ rfl) ?_
         refine wl_skip rfl rfl ?_
         refine wl_skip rfl rfl ?_
         refine wl_skip rfl rfl ?_
         refine wl_skip rfl rfl ?_
         refine wl_skip rfl rfl ?_
         refine wl_v rfl rfl (ov_pick_false _ rfl rfl) ?_
         refine wl_v rfl rfl (ov_assign _ rfl) ?_
         refine wl_nil ?_
         refine qn_then ?_
         refine wc_ret ?_
         replace h := st_selT [false] h
         refine qn_ret [_] ⟨rfl, trivial⟩ ?_
         exfalso
         first | omega | contradiction | (simp_all; done) | (simp_all; omega)
       ·
        refine wl_skip rfl rfl ?_
        refine wl_skip rfl rfl ?_
        refine wl_skip rfl rfl ?_
        refine wl_skip rfl rfl ?_
        refine wl_skip rfl rfl ?_
        refine wl_skip rfl rfl ?_
        refine wl_skip rfl rfl ?_
        refine wl_skip rfl rfl ?_
        refine wl_skip rfl rfl ?_
        refine wl_skip rfl rfl ?_
        refine wl_skip rfl rfl ?_
        refine wl_skip rfl rfl ?_
        refine wl_skip rfl rfl ?_
        refine wl_v rfl rfl (ov_pick_false _ rfl rfl) ?_
        refine wl_v rfl rfl (ov_move _ rfl) ?_
        refine wl_skip rfl rfl ?_
        refine wl_skip rfl rfl ?_
        refine wl_skip rfl rfl ?_
        refine wl_skip rfl rfl ?_
        refine wl_skip rfl rfl ?_
        refine wl_v rfl rfl (ov_pick_false _ rfl rfl) ?_
        refine wl_v rfl rfl (ov_assign _ rfl) ?_
        refine wl_nil ?_
        refine qn_then ?_
        refine wc_ret ?_
        replace h := st_selT [false] h
        refine qn_ret [_] ⟨rfl, trivial⟩ ?_
        exfalso
        first | omega | contradiction | (simp_all; done) | (simp_all; omega)
end Go.Proofs.Ytmlkajmlhmfdgaa.L
