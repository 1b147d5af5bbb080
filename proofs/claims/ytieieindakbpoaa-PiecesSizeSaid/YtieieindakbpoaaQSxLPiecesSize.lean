/- Pruned by wip/prune.py. -/
import Derived.Test.YtieieindakbpoaaProg
import Derived.Test.YtieieindakbpoaaQSxGlue
import Derived.Test.YtieieindakbpoaaQSxRanged
import Derived.Test.YtieieindakbpoaaQSxRange1
import Derived.Test.YtieieindakbpoaaQSxFlow
import Derived.Test.YtieieindakbpoaaQSxBytes
import Derived.Test.YtieieindakbpoaaQSxKinds
import Derived.Test.YtieieindakbpoaaQPcText
import Derived.Test.YtieieindakbpoaaQPcWalk
import Derived.Test.YtieieindakbpoaaQPcRead
import Derived.Test.YtieieindakbpoaaQSxTree
import Derived.Test.YtieieindakbpoaaQSxRunes
import Derived.Test.YtieieindakbpoaaQSxLast
import Derived.Test.YtieieindakbpoaaQSxWalk
import Derived.Test.YtieieindakbpoaaQSxChunks
import Derived.Test.YtieieindakbpoaaQPcTx
import Derived.Test.YtieieindakbpoaaQSxRead
import Derived.Test.YtieieindakbpoaaQSxSplitR
import Derived.Test.YtieieindakbpoaaQSxString
import Derived.Test.YtieieindakbpoaaQSxText
import Derived.Test.YtieieindakbpoaaQSxEdit
import Derived.Test.YtieieindakbpoaaQSxWhole
import Derived.Test.YtieieindakbpoaaQPcEdit
import Derived.Test.YtieieindakbpoaaQSxPlayed
import Derived.Test.YtieieindakbpoaaQSxAwake
import Derived.Test.YtieieindakbpoaaQPcSize
namespace Go.Proofs.Ytieieindakbpoaa.L
open Go Go.RowKit Go.Proofs.YtieieindakbpoaaW.PrintWords Go.Proofs.Ytieieindakbpoaa.Kinds Go.Proofs.Ytieieindakbpoaa.Given Go.Proofs.Ytieieindakbpoaa.Rn Go.Proofs.Ytieieindakbpoaa.Sx Go.Proofs.Ytieieindakbpoaa.Pc 
set_option linter.unusedVariables false
set_option linter.unusedSimpArgs false
theorem ent12 : Sx.Ent Try.prog 12 := ⟨Try.f12, Try.func12, by kernel_rfl, by kernel_rfl⟩
theorem inf5 : (Try.prog.info? 5).map (fun i => (i.zero, i.size, i.bytes)) = some (some (.int .u8 (0)), 1, 1) := by kernel_rfl
theorem es41 : Sx.elemSz Try.prog 41 = some (5, 1) := by kernel_rfl
theorem szf5 : (Try.prog.info? 5).map (·.size) = some 1 := by kernel_rfl
theorem ent13 : Sx.Ent Try.prog 13 := ⟨Try.f13, Try.func13, by kernel_rfl, by kernel_rfl⟩
theorem ent25 : Sx.Ent Try.prog 25 := ⟨Try.f25, Try.func25, by kernel_rfl, by kernel_rfl⟩
theorem ent16 : Sx.Ent Try.prog 16 := ⟨Try.f16, Try.func16, by kernel_rfl, by kernel_rfl⟩
theorem ent21 : Sx.Ent Try.prog 21 := ⟨Try.f21, Try.func21, by kernel_rfl, by kernel_rfl⟩
set_option maxHeartbeats 4000000 in
set_option maxRecDepth 100000 in
theorem PiecesSize_calls {w0 w : World} {F0 : Nat → Prop} {R : List Sx.HP} {v0 : World} (n : Int) (more : Int) (hv : Sx.RO v0 w0 F0) (h : Sx.St w0 F0 ([] ++ R) w) : Calls Try.prog 7 #[.int .i64 (n), .int .i64 (more)] w (fun e w1 => e = .returned (.bool true) ∧ Sx.St w0 F0 R w1) := by
 refine Sx.calls_fn (vs := [.int .i64 (n), .int .i64 (more)]) Try.func7 rfl Try.ntmps7 rfl ?_
 refine wc_seq ?_
 refine wc_region ?_
 refine wl_v rfl rfl (ov_assign _ rfl) ?_
 refine wl_nil ?_
 refine qn_then ?_
 refine wc_seq ?_
 refine wc_seq ?_
 refine wc_region ?_
 refine wl_call _ rfl rfl rfl ent12 (AW.awake_calls (R := [] ++ R) h) ?_
 rintro e_ w_ ⟨rfl, h⟩
 refine ⟨_, rfl, ?_⟩
 refine wl_v rfl rfl (ov_notb _ rfl) ?_
 refine wl_nil ?_
 refine qn_then ?_
 refine wc_cond_false rfl ?_
 refine wc_skip ?_
 refine qn_then ?_
 refine wc_seq ?_
 refine wc_seq ?_
 refine wc_region ?_
 refine wl_v rfl rfl (ov_move _ rfl) ?_
 refine wl_v rfl rfl (ov_bin _ rfl rfl (binR_lss)) ?_
 refine wl_v rfl rfl (ov_move _ rfl) ?_
 refine wl_split 16 rfl (fun c1 => ?_) (fun c1 => ?_)
 ·
  refine wl_skip rfl rfl ?_
  refine wl_skip rfl rfl ?_
  refine wl_v rfl rfl (ov_pick_true _ rfl rfl) ?_
  refine wl_v rfl rfl (ov_move _ rfl) ?_
  refine wl_skip rfl rfl ?_
  refine wl_skip rfl rfl ?_
  refine wl_v rfl rfl (ov_pick_true _ rfl rfl) ?_
  refine wl_v rfl rfl (ov_move _ rfl) ?_
  refine wl_skip rfl rfl ?_
  refine wl_skip rfl rfl ?_
  refine wl_v rfl rfl (ov_pick_true _ rfl rfl) ?_
  refine wl_nil ?_
  refine qn_then ?_
  refine wc_cond_true rfl ?_
  refine wc_seq ?_
  refine wc_region ?_
  refine wl_v rfl rfl (ov_assign _ rfl) ?_
  refine wl_nil ?_
  refine qn_then ?_
  refine wc_ret ?_
  refine qn_then_ret ?_
  refine qn_ret [_] ⟨rfl, trivial⟩ ?_
  exact ⟨rfl, h⟩
 ·
  refine wl_v rfl rfl (ov_move _ rfl) ?_
  refine wl_v rfl rfl (ov_bin _ rfl rfl (binR_lss)) ?_
  refine wl_v rfl rfl (ov_pick_false _ rfl rfl) ?_
  refine wl_v rfl rfl (ov_move _ rfl) ?_
  refine wl_split 20 rfl (fun c2 => ?_) (fun c2 => ?_)
  ·
   refine wl_skip rfl rfl ?_
   refine wl_skip rfl rfl ?_
   refine wl_v rfl rfl (ov_pick_true _ rfl rfl) ?_
   refine wl_v rfl rfl (ov_move _ rfl) ?_
   refine wl_skip rfl rfl ?_
   refine wl_skip rfl rfl ?_
   refine wl_v rfl rfl (ov_pick_true _ rfl rfl) ?_
   refine wl_nil ?_
   refine qn_then ?_
   refine wc_cond_true rfl ?_
   refine wc_seq ?_
   refine wc_region ?_
   refine wl_v rfl rfl (ov_assign _ rfl) ?_
   refine wl_nil ?_
   refine qn_then ?_
   refine wc_ret ?_
   refine qn_then_ret ?_
   refine qn_ret [_] ⟨rfl, trivial⟩ ?_
   exact ⟨rfl, h⟩
  ·
   refine wl_v rfl rfl (ov_move _ rfl) ?_
   refine wl_v rfl rfl (ov_bin _ rfl rfl (binR_gtr)) ?_
   refine wl_v rfl rfl (ov_pick_false _ rfl rfl) ?_
   refine wl_v rfl rfl (ov_move _ rfl) ?_
   refine wl_split 24 rfl (fun c3 => ?_) (fun c3 => ?_)
   ·
    refine wl_skip rfl rfl ?_
    refine wl_skip rfl rfl ?_
    refine wl_v rfl rfl (ov_pick_true _ rfl rfl) ?_
    refine wl_nil ?_
    refine qn_then ?_
    refine wc_cond_true rfl ?_
    refine wc_seq ?_
    refine wc_region ?_
    refine wl_v rfl rfl (ov_assign _ rfl) ?_
    refine wl_nil ?_
    refine qn_then ?_
    refine wc_ret ?_
    refine qn_then_ret ?_
    refine qn_ret [_] ⟨rfl, trivial⟩ ?_
    exact ⟨rfl, h⟩
   ·
    refine wl_v rfl rfl (ov_move _ rfl) ?_
    refine wl_v rfl rfl (ov_bin _ rfl rfl (binR_gtr)) ?_
    refine wl_v rfl rfl (ov_pick_false _ rfl rfl) ?_
    refine wl_nil ?_
    refine qn_then ?_
    refine wc_cond (by rfl) (fun c4 => ?_) (fun c4 => ?_)
    ·
     refine wc_seq ?_
     refine wc_region ?_
     refine wl_v rfl rfl (ov_assign _ rfl) ?_
     refine wl_nil ?_
     refine qn_then ?_
     refine wc_ret ?_
     refine qn_then_ret ?_
     refine qn_ret [_] ⟨rfl, trivial⟩ ?_
     exact ⟨rfl, h⟩
    ·
     refine wc_skip ?_
     refine qn_then ?_
     refine wc_seq ?_
     refine wc_region ?_
     refine wl_v rfl rfl (ov_move _ rfl) ?_
     refine wl_make (d := (Kd.int .u8)) _ 1 (0 : Int) (n) h rfl rfl rfl rfl Try.underlying41 inf5 rfl (by decide) (by decide) (fun _ _ _ => (Sx.mkInt .u8 ((0 : Int)))) (by omega) (by omega) (fun A5 cp6 _ h => ?_)
     refine wl_v rfl rfl (ov_assign _ rfl) ?_
     refine wl_nil ?_
     refine qn_then ?_
     refine wc_seq ?_
     refine wc_region ?_
     refine wl_v rfl rfl (ov_move _ rfl) ?_
     refine wl_make (d := (Kd.int .u8)) _ 1 (0 : Int) (more) h rfl rfl rfl rfl Try.underlying41 inf5 rfl (by decide) (by decide) (fun _ _ _ => (Sx.mkInt .u8 ((0 : Int)))) (by omega) (by omega) (fun A7 cp8 _ h => ?_)
     refine wl_v rfl rfl (ov_assign _ rfl) ?_
     refine wl_nil ?_
     refine qn_then ?_
     refine wc_seq ?_
     refine wc_seq ?_
     refine wc_region ?_
     refine wl_v rfl rfl (ov_assign _ rfl) ?_
     refine wl_nil ?_
     refine qn_then ?_
     refine wc_block ?_
     have e_ : List.replicate (n : Int).toNat (0 : Int) = PE.fill 97 n.toNat 0 := by exact (PE.fill_none _ _).symm
     replace h := st_cast (congrArg (fun z_ => ([Sx.row (Kd.int .u8) 5 (A7) (cp8) (List.replicate (more : Int).toNat (0 : Int)), Sx.row (Kd.int .u8) 5 (A5) (cp6) (z_)] ++ R)) e_) h
     clear e_
     replace h := st_front 1 h
     refine wc_loop (fun (x_ : Nat × (Option Addr)) => [(0, .int .i64 (n)), (1, .int .i64 (more)), (5, .slice (x_.2) ((PE.fill 97 n.toNat x_.1).length) (cp6)), (6, .slice (A7) ((List.replicate (more : Int).toNat (0 : Int)).length) (cp8)), (7, .int .i64 (((x_.1 : Nat) : Int)))]) (fun (x_ : Nat × (Option Addr)) (w : World) => (x_.1 ≤ n.toNat) ∧ Sx.St w0 F0 ([Sx.row (Kd.int .u8) 5 (x_.2) (cp6) (PE.fill 97 n.toNat x_.1), Sx.row (Kd.int .u8) 5 (A7) (cp8) (List.replicate (more : Int).toNat (0 : Int))] ++ R) w) (fun (x_ : Nat × (Option Addr)) => n.toNat - x_.1) (0, A5) ?_ ?_ ?_
     · exact ⟨rfl, rfl, (congrArg (fun z_ => some (Value.slice (A5) z_ (cp6))) (show ((List.replicate (n : Int).toNat (0 : Int)).length : Nat) = (PE.fill 97 n.toNat 0).length by first | rfl | simp)), rfl, (congrArg (fun z_ => some (Value.int .i64 z_)) (show (0 : Int) = ((0 : Nat) : Int) by omega)), trivial⟩
     · exact ⟨Nat.zero_le _, h⟩
     rintro ⟨i5, A5⟩ w h
     obtain ⟨hJ, h⟩ := h
     replace hJ : i5 ≤ n.toNat := hJ
     replace h : Sx.St w0 F0 ([Sx.row (Kd.int .u8) 5 (A5) (cp6) (PE.fill 97 n.toNat i5), Sx.row (Kd.int .u8) 5 (A7) (cp8) (List.replicate (more : Int).toNat (0 : Int))] ++ R) w := h
     show Sx.WC _ _ _ _ [(0, .int .i64 (n)), (1, .int .i64 (more)), (5, .slice (A5) ((PE.fill 97 n.toNat i5).length) (cp6)), (6, .slice (A7) ((List.replicate (more : Int).toNat (0 : Int)).length) (cp8)), (7, .int .i64 (((i5 : Nat) : Int)))] _
     have hfl5_ : (PE.fill 97 n.toNat i5).length = n.toNat := PE.fill_len hJ
     refine wc_seq ?_
     refine wc_seq ?_
     refine wc_region ?_
     refine wl_v rfl rfl (ov_move _ rfl) ?_
     refine wl_v rfl rfl (ov_move _ rfl) ?_
     refine wl_v rfl rfl (ov_bin _ rfl rfl (binR_lss)) ?_
     refine wl_nil ?_
     refine qn_then ?_
     refine wc_cond (by rfl) (fun c9 => ?_) (fun c9 => ?_)
     ·
      refine wc_skip ?_
      refine qn_then ?_
      refine wc_seq ?_
      refine wc_block ?_
      refine wc_region ?_
      refine wl_v rfl rfl (ov_move _ rfl) ?_
      refine wl_v rfl rfl (ov_move _ rfl) ?_
      obtain ⟨ad10, rfl⟩ := Sx.C_some ((Sx.row_reads h (i := 0) rfl).2) (k := (i5 : Nat)) (by first | assumption | omega)
      refine wl_v rfl rfl (ov_indexAddrN _ _ _ _ _ (i5 : Nat) rfl rfl es41 rfl (by first | assumption | omega | (simp only [List.length_take, List.length_drop, List.length_set]; omega))) ?_
      refine wl_storeeN 0 (i5 : Nat) 0 (.int .u8 (97)) [.int .u8 (97)] (0 : Int) (97) h rfl rfl rfl (by first | rfl | simp) rfl rfl (by simp [Value.oneCell']) szf5 (by first | assumption | omega | (simp only [List.length_set]; omega)) (Nat.le_of_ble_eq_true rfl) (by intro cl hcl hM; obtain ⟨_, _, _, hM⟩ := hM; obtain rfl : cl = [.int .u8 _] := hM; intro _ _ _; exact (Sx.mkInt .u8 (97))) (fun _ h => ?_)
      refine wl_nil ?_
      refine qn_block_normal ?_
      refine qn_then ?_
      refine wc_region ?_
      refine wl_v rfl rfl (ov_move _ rfl) ?_
      refine wl_v rfl rfl (ov_bin _ rfl rfl (binR_add (r := (((i5 : Nat) : Int)) + 1) (Sx.w64 (by omega)))) ?_
      refine wl_v rfl rfl (ov_assign _ rfl) ?_
      refine wl_nil ?_
      have e_ : (PE.fill 97 n.toNat i5).set (i5 : Nat) (97) = PE.fill 97 n.toNat (i5 + 1) := by exact PE.fill_set (by omega)
      replace h := st_cast (congrArg (fun z_ => ([Sx.row (Kd.int .u8) 5 (some ad10) (cp6) (z_), Sx.row (Kd.int .u8) 5 (A7) (cp8) (List.replicate (more : Int).toNat (0 : Int))] ++ R)) e_) h
      clear e_
      replace h := st_front 1 h
      replace h := st_front 1 h
      refine qn_next ((i5 + 1), some ad10) (by show n.toNat - (i5 + 1) < n.toNat - i5; omega) ⟨rfl, rfl, (congrArg (fun z_ => some (Value.slice (some ad10) z_ (cp6))) (hfl5_.trans (PE.fill_len (by omega)).symm)), rfl, (congrArg (fun z_ => some (Value.int .i64 z_)) (show ((((i5 : Nat) : Int)) + 1 : Int) = (((i5 + 1) : Nat) : Int) by omega)), trivial⟩ ?_
      show ((i5 + 1) ≤ n.toNat) ∧ _
      exact ⟨by omega, h⟩
     ·
      refine wc_exit ?_
      refine qn_then_exit ?_
      refine qn_then_exit ?_
      refine qn_block_exit ?_
      refine qn_then ?_
      refine wc_seq ?_
      refine wc_seq ?_
      refine wc_region ?_
      refine wl_v rfl rfl (ov_assign _ rfl) ?_
      refine wl_nil ?_
      refine qn_then ?_
      refine wc_block ?_
      have e_ : List.replicate (more : Int).toNat (0 : Int) = PE.fill 10 more.toNat 0 := by exact (PE.fill_none _ _).symm
      replace h := st_cast (congrArg (fun z_ => ([Sx.row (Kd.int .u8) 5 (A5) (cp6) (PE.fill 97 n.toNat i5), Sx.row (Kd.int .u8) 5 (A7) (cp8) (z_)] ++ R)) e_) h
      clear e_
      replace h := st_front 1 h
      refine wc_loop (fun (x_ : Nat × (Option Addr)) => [(0, .int .i64 (n)), (1, .int .i64 (more)), (5, .slice (A5) ((PE.fill 97 n.toNat i5).length) (cp6)), (6, .slice (x_.2) ((PE.fill 10 more.toNat x_.1).length) (cp8)), (8, .int .i64 (((x_.1 : Nat) : Int)))]) (fun (x_ : Nat × (Option Addr)) (w : World) => (x_.1 ≤ more.toNat) ∧ Sx.St w0 F0 ([Sx.row (Kd.int .u8) 5 (x_.2) (cp8) (PE.fill 10 more.toNat x_.1), Sx.row (Kd.int .u8) 5 (A5) (cp6) (PE.fill 97 n.toNat i5)] ++ R) w) (fun (x_ : Nat × (Option Addr)) => more.toNat - x_.1) (0, A7) ?_ ?_ ?_
      · exact ⟨rfl, rfl, rfl, (congrArg (fun z_ => some (Value.slice (A7) z_ (cp8))) (show ((List.replicate (more : Int).toNat (0 : Int)).length : Nat) = (PE.fill 10 more.toNat 0).length by first | rfl | simp)), (congrArg (fun z_ => some (Value.int .i64 z_)) (show (0 : Int) = ((0 : Nat) : Int) by omega)), trivial⟩
      · exact ⟨Nat.zero_le _, h⟩
      rintro ⟨i6, A6⟩ w h
      obtain ⟨hJ, h⟩ := h
      replace hJ : i6 ≤ more.toNat := hJ
      replace h : Sx.St w0 F0 ([Sx.row (Kd.int .u8) 5 (A6) (cp8) (PE.fill 10 more.toNat i6), Sx.row (Kd.int .u8) 5 (A5) (cp6) (PE.fill 97 n.toNat i5)] ++ R) w := h
      show Sx.WC _ _ _ _ [(0, .int .i64 (n)), (1, .int .i64 (more)), (5, .slice (A5) ((PE.fill 97 n.toNat i5).length) (cp6)), (6, .slice (A6) ((PE.fill 10 more.toNat i6).length) (cp8)), (8, .int .i64 (((i6 : Nat) : Int)))] _
      have hfl6_ : (PE.fill 10 more.toNat i6).length = more.toNat := PE.fill_len hJ
      refine wc_seq ?_
      refine wc_seq ?_
      refine wc_region ?_
      refine wl_v rfl rfl (ov_move _ rfl) ?_
      refine wl_v rfl rfl (ov_move _ rfl) ?_
      refine wl_v rfl rfl (ov_bin _ rfl rfl (binR_lss)) ?_
      refine wl_nil ?_
      refine qn_then ?_
      refine wc_cond (by rfl) (fun c11 => ?_) (fun c11 => ?_)
      ·
       refine wc_skip ?_
       refine qn_then ?_
       refine wc_seq ?_
       refine wc_block ?_
       refine wc_region ?_
       refine wl_v rfl rfl (ov_move _ rfl) ?_
       refine wl_v rfl rfl (ov_move _ rfl) ?_
       obtain ⟨ad12, rfl⟩ := Sx.C_some ((Sx.row_reads h (i := 0) rfl).2) (k := (i6 : Nat)) (by first | assumption | omega)
       refine wl_v rfl rfl (ov_indexAddrN _ _ _ _ _ (i6 : Nat) rfl rfl es41 rfl (by first | assumption | omega | (simp only [List.length_take, List.length_drop, List.length_set]; omega))) ?_
       refine wl_storeeN 0 (i6 : Nat) 0 (.int .u8 (10)) [.int .u8 (10)] (0 : Int) (10) h rfl rfl rfl (by first | rfl | simp) rfl rfl (by simp [Value.oneCell']) szf5 (by first | assumption | omega | (simp only [List.length_set]; omega)) (Nat.le_of_ble_eq_true rfl) (by intro cl hcl hM; obtain ⟨_, _, _, hM⟩ := hM; obtain rfl : cl = [.int .u8 _] := hM; intro _ _ _; exact (Sx.mkInt .u8 (10))) (fun _ h => ?_)
       refine wl_nil ?_
       refine qn_block_normal ?_
       refine qn_then ?_
       refine wc_region ?_
       refine wl_v rfl rfl (ov_move _ rfl) ?_
       refine wl_v rfl rfl (ov_bin _ rfl rfl (binR_add (r := (((i6 : Nat) : Int)) + 1) (Sx.w64 (by omega)))) ?_
       refine wl_v rfl rfl (ov_assign _ rfl) ?_
       refine wl_nil ?_
       have e_ : (PE.fill 10 more.toNat i6).set (i6 : Nat) (10) = PE.fill 10 more.toNat (i6 + 1) := by exact PE.fill_set (by omega)
       replace h := st_cast (congrArg (fun z_ => ([Sx.row (Kd.int .u8) 5 (some ad12) (cp8) (z_), Sx.row (Kd.int .u8) 5 (A5) (cp6) (PE.fill 97 n.toNat i5)] ++ R)) e_) h
       clear e_
       replace h := st_front 1 h
       replace h := st_front 1 h
       refine qn_next ((i6 + 1), some ad12) (by show more.toNat - (i6 + 1) < more.toNat - i6; omega) ⟨rfl, rfl, rfl, (congrArg (fun z_ => some (Value.slice (some ad12) z_ (cp8))) (hfl6_.trans (PE.fill_len (by omega)).symm)), (congrArg (fun z_ => some (Value.int .i64 z_)) (show ((((i6 : Nat) : Int)) + 1 : Int) = (((i6 + 1) : Nat) : Int) by omega)), trivial⟩ ?_
       show ((i6 + 1) ≤ more.toNat) ∧ _
       exact ⟨by omega, h⟩
      ·
       refine wc_exit ?_
       refine qn_then_exit ?_
       refine qn_then_exit ?_
       refine qn_block_exit ?_
       refine qn_then ?_
       refine wc_seq ?_
       refine wc_region ?_
       refine wl_v rfl rfl (ov_move _ rfl) ?_
       refine wl_v rfl rfl (ov_string rfl ((Sx.row_reads h (i := 1) rfl).2) Try.underlying41 Try.underlying5 Try.underlying9) ?_
       have hT13_ : strOfNums (PE.fill 97 n.toNat i5) = PE.rep 97 n.toNat := by rw [show i5 = n.toNat by omega, PE.fill_all]; rfl
       rw [hT13_]
       refine wl_call _ rfl rfl rfl ent13 (TX.New_calls (R := [Sx.row (Kd.int .u8) 5 (A6) (cp8) (PE.fill 10 more.toNat i6), Sx.row (Kd.int .u8) 5 (A5) (cp6) (PE.fill 97 n.toNat i5)] ++ R) (PE.rep 97 n.toNat) h) ?_
       rintro e_ w_ (⟨hnw20, rfl, h⟩ | ⟨hnw20, g14, D15, d16, Φ17, rfl, hD18, hDl19, h⟩)
       ·
        refine ⟨_, rfl, ?_⟩
        have hnb_ : TX.newV (PE.rep 97 n.toNat) = if 65536 < n.toNat then 31 else 0 := by
          split
          · exact PE.rep_big (by assumption)
          · exact PE.rep_new (by omega)
        have hnc_ : 65536 < n.toNat := by
          rcases Nat.lt_or_ge 65536 n.toNat with z_ | z_
          · exact z_
          · exact absurd (PE.rep_new z_) hnw20
        have hnd_ := PE.rep_big hnc_
        refine wl_v rfl rfl (ov_move _ rfl) ?_
        refine wl_v rfl rfl (ov_extract [.pointer none, .int .i64 (TX.newV (PE.rep 97 n.toNat))] _ rfl rfl) ?_
        refine wl_v rfl rfl (ov_extract [.pointer none, .int .i64 (TX.newV (PE.rep 97 n.toNat))] _ rfl rfl) ?_
        refine wl_v rfl rfl (ov_assign _ rfl) ?_
        refine wl_v rfl rfl (ov_assign _ rfl) ?_
        refine wl_nil ?_
        refine qn_then ?_
        refine wc_seq ?_
        refine wc_seq ?_
        refine wc_region ?_
        refine wl_v rfl rfl (ov_move _ rfl) ?_
        refine wl_v rfl rfl (ov_bin _ rfl rfl (binR_gtr)) ?_
        refine wl_nil ?_
        refine qn_then ?_
        refine wc_cond (by rfl) (fun c21 => ?_) (fun c21 => ?_)
        ·
         refine wc_seq ?_
         refine wc_region ?_
         refine wl_v rfl rfl (ov_move _ rfl) ?_
         refine wl_v rfl rfl (ov_bin _ rfl rfl (binR_eql)) ?_
         refine wl_v rfl rfl (ov_move _ rfl) ?_
         refine wl_split 58 rfl (fun c22 => ?_) (fun c22 => ?_)
         ·
          refine wl_v rfl rfl (ov_move _ rfl) ?_
          refine wl_v rfl rfl (ov_bin (.bool true) rfl rfl (binR_eqnil Try.underlying23)) ?_
          refine wl_v rfl rfl (ov_pick_true _ rfl rfl) ?_
          refine wl_v rfl rfl (ov_assign _ rfl) ?_
          refine wl_nil ?_
          refine qn_then ?_
          refine wc_ret ?_
          refine qn_then_ret ?_
          replace h := st_selT [false, false] h
          refine qn_ret [_] ⟨rfl, trivial⟩ ?_
          exact ⟨rfl, h⟩
         ·
          refine wl_skip rfl rfl ?_
          refine wl_skip rfl rfl ?_
          refine wl_v rfl rfl (ov_pick_false _ rfl rfl) ?_
          refine wl_v rfl rfl (ov_assign _ rfl) ?_
          refine wl_nil ?_
          refine qn_then ?_
          refine wc_ret ?_
          refine qn_then_ret ?_
          replace h := st_selT [false, false] h
          refine qn_ret [_] ⟨rfl, trivial⟩ ?_
          exfalso
          first | omega | contradiction | (simp_all; done) | (simp_all; omega)
        ·
         refine wc_skip ?_
         refine qn_then ?_
         refine wc_seq ?_
         refine wc_seq ?_
         refine wc_region ?_
         refine wl_v rfl rfl (ov_move _ rfl) ?_
         refine wl_v rfl rfl (ov_bin _ rfl rfl (binR_neq)) ?_
         refine wl_v rfl rfl (ov_move _ rfl) ?_
         refine wl_split 64 rfl (fun c23 => ?_) (fun c23 => ?_)
         ·
          refine wl_skip rfl rfl ?_
          refine wl_skip rfl rfl ?_
          refine wl_v rfl rfl (ov_pick_true _ rfl rfl) ?_
          refine wl_nil ?_
          refine qn_then ?_
          refine wc_cond_true rfl ?_
          refine wc_seq ?_
          refine wc_region ?_
          refine wl_v rfl rfl (ov_assign _ rfl) ?_
          refine wl_nil ?_
          refine qn_then ?_
          refine wc_ret ?_
          refine qn_then_ret ?_
          replace h := st_selT [false, false] h
          refine qn_ret [_] ⟨rfl, trivial⟩ ?_
          exfalso
          first | omega | contradiction | (simp_all; done) | (simp_all; omega)
         ·
          refine wl_v rfl rfl (ov_move _ rfl) ?_
          refine wl_v rfl rfl (ov_bin (.bool true) rfl rfl (binR_eqnil Try.underlying23)) ?_
          refine wl_v rfl rfl (ov_pick_false _ rfl rfl) ?_
          refine wl_nil ?_
          refine qn_then ?_
          refine wc_cond_true rfl ?_
          refine wc_seq ?_
          refine wc_region ?_
          refine wl_v rfl rfl (ov_assign _ rfl) ?_
          refine wl_nil ?_
          refine qn_then ?_
          refine wc_ret ?_
          refine qn_then_ret ?_
          replace h := st_selT [false, false] h
          refine qn_ret [_] ⟨rfl, trivial⟩ ?_
          exfalso
          first | omega | contradiction | (simp_all; done) | (simp_all; omega)
       ·
        refine ⟨_, rfl, ?_⟩
        replace h : Sx.St w0 F0 ([Pc.tx (Φ17) g14 (D15) (d16), Pc.lib (Φ17), Sx.row (Kd.int .u8) 5 (A6) (cp8) (PE.fill 10 more.toNat i6), Sx.row (Kd.int .u8) 5 (A5) (cp6) (PE.fill 97 n.toNat i5)] ++ R) _ := h
        have hfc_ := Pc.tx_facts h
        have hfs_ := hfc_.size
        rw [hD18, PE.rep_size] at hfs_
        have hr1_ := PE.rep_size 97 n.toNat
        have hr2_ := PE.rep_size 10 more.toNat
        refine wl_v rfl rfl (ov_move _ rfl) ?_
        refine wl_v rfl rfl (ov_extract [.pointer (some ⟨g14, 0, none⟩), .int .i64 (0)] _ rfl rfl) ?_
        refine wl_v rfl rfl (ov_extract [.pointer (some ⟨g14, 0, none⟩), .int .i64 (0)] _ rfl rfl) ?_
        refine wl_v rfl rfl (ov_assign _ rfl) ?_
        refine wl_v rfl rfl (ov_assign _ rfl) ?_
        refine wl_nil ?_
        refine qn_then ?_
        refine wc_seq ?_
        refine wc_seq ?_
        refine wc_region ?_
        refine wl_v rfl rfl (ov_move _ rfl) ?_
        refine wl_v rfl rfl (ov_bin _ rfl rfl (binR_gtr)) ?_
        refine wl_nil ?_
        refine qn_then ?_
        refine wc_cond (by rfl) (fun c24 => ?_) (fun c24 => ?_)
        ·
         refine wc_seq ?_
         refine wc_region ?_
         refine wl_v rfl rfl (ov_move _ rfl) ?_
         refine wl_v rfl rfl (ov_bin (.bool false) rfl rfl (binR_eql)) ?_
         refine wl_v rfl rfl (ov_move _ rfl) ?_
         refine wl_skip rfl rfl ?_
         refine wl_skip rfl rfl ?_
         refine wl_v rfl rfl (ov_pick_false _ rfl rfl) ?_
         refine wl_v rfl rfl (ov_assign _ rfl) ?_
         refine wl_nil ?_
         refine qn_then ?_
         refine wc_ret ?_
         refine qn_then_ret ?_
         replace h := st_selT [false, false, false, false] h
         refine qn_ret [_] ⟨rfl, trivial⟩ ?_
         exfalso
         first | omega | contradiction | (simp_all; done) | (simp_all; omega)
        ·
         refine wc_skip ?_
         refine qn_then ?_
         refine wc_seq ?_
         refine wc_seq ?_
         refine wc_region ?_
         refine wl_v rfl rfl (ov_move _ rfl) ?_
         refine wl_v rfl rfl (ov_bin (.bool false) rfl rfl (binR_neq)) ?_
         refine wl_v rfl rfl (ov_move _ rfl) ?_
         refine wl_v rfl rfl (ov_move _ rfl) ?_
         refine wl_v rfl rfl (ov_bin (.bool false) rfl rfl (binR_eqnil Try.underlying23)) ?_
         refine wl_v rfl rfl (ov_pick_false _ rfl rfl) ?_
         refine wl_nil ?_
         refine qn_then ?_
         refine wc_cond_false rfl ?_
         refine wc_skip ?_
         refine qn_then ?_
         refine wc_seq ?_
         refine wc_region ?_
         refine wl_v rfl rfl (ov_move _ rfl) ?_
         refine wl_v rfl rfl (ov_move _ rfl) ?_
         refine wl_v rfl rfl (ov_bin _ rfl rfl (binR_quo (r := n / 2) (by decide) ((congrArg _ (Int.tdiv_eq_ediv_of_nonneg (by omega))).trans (Sx.w64 (by omega))))) ?_
         refine wl_v rfl rfl (ov_move _ rfl) ?_
         refine wl_v rfl rfl (ov_string rfl ((Sx.row_reads h (i := 2) rfl).2) Try.underlying41 Try.underlying5 Try.underlying9) ?_
         have hT25_ : strOfNums (PE.fill 10 more.toNat i6) = PE.rep 10 more.toNat := by rw [show i6 = more.toNat by omega, PE.fill_all]; rfl
         rw [hT25_]
         replace h := st_front 1 h
         replace h := st_front 1 h
         refine wl_call _ rfl rfl rfl ent25 (ED.Insert_calls (R := [Sx.row (Kd.int .u8) 5 (A6) (cp8) (PE.fill 10 more.toNat i6), Sx.row (Kd.int .u8) 5 (A5) (cp6) (PE.fill 97 n.toNat i5)] ++ R) (Φ17) g14 (D15) (d16) (n / 2) (PE.rep 10 more.toNat) (by omega) h) ?_
         rintro e_ w_ ⟨D26, d27, Φ28, rfl, hsub29, ⟨hD30, hDl31⟩, h⟩
         refine ⟨_, rfl, ?_⟩
         refine wl_v rfl rfl (ov_assign _ rfl) ?_
         refine wl_nil ?_
         refine qn_then ?_
         refine wc_seq ?_
         refine wc_seq ?_
         refine wc_region ?_
         refine wl_v rfl rfl (ov_move _ rfl) ?_
         refine wl_v rfl rfl (ov_move _ rfl) ?_
         refine wl_v rfl rfl (ov_bin _ rfl rfl (binR_add (r := n + more) (Sx.w64 (by omega)))) ?_
         refine wl_v rfl rfl (ov_bin _ rfl rfl (binR_gtr)) ?_
         refine wl_nil ?_
         refine qn_then ?_
         refine wc_cond (by rfl) (fun c32 => ?_) (fun c32 => ?_)
         ·
          refine wc_seq ?_
          refine wc_region ?_
          refine wl_v rfl rfl (ov_move _ rfl) ?_
          refine wl_v rfl rfl (ov_bin _ rfl rfl (binR_eql)) ?_
          refine wl_v rfl rfl (ov_move _ rfl) ?_
          refine wl_split 80 rfl (fun c33 => ?_) (fun c33 => ?_)
          ·
           refine wl_v rfl rfl (ov_move _ rfl) ?_
           replace h := st_front 1 h
           replace h := st_front 1 h
           refine wl_call _ rfl rfl rfl ent16 (WH.Len_w (R := [Sx.row (Kd.int .u8) 5 (A6) (cp8) (PE.fill 10 more.toNat i6), Sx.row (Kd.int .u8) 5 (A5) (cp6) (PE.fill 97 n.toNat i5)] ++ R) (Φ28) g14 (D26) (d27)  h) ?_
           rintro e_ w_ ⟨rfl, h⟩
           refine ⟨_, rfl, ?_⟩
           refine wl_v rfl rfl (ov_move _ rfl) ?_
           refine wl_v rfl rfl (ov_bin _ rfl rfl (binR_eql)) ?_
           refine wl_v rfl rfl (ov_pick_true _ rfl rfl) ?_
           refine wl_v rfl rfl (ov_move _ rfl) ?_
           refine wl_split 86 rfl (fun c34 => ?_) (fun c34 => ?_)
           ·
            refine wl_v rfl rfl (ov_move _ rfl) ?_
            replace h := st_front 1 h
            replace h := st_front 1 h
            refine wl_call _ rfl rfl rfl ent21 (WH.Lines_w (R := [Sx.row (Kd.int .u8) 5 (A6) (cp8) (PE.fill 10 more.toNat i6), Sx.row (Kd.int .u8) 5 (A5) (cp6) (PE.fill 97 n.toNat i5)] ++ R) (Φ28) g14 (D26) (d27)  h) ?_
            rintro e_ w_ ⟨rfl, h⟩
            refine ⟨_, rfl, ?_⟩
            refine wl_v rfl rfl (ov_bin _ rfl rfl (binR_eql)) ?_
            refine wl_v rfl rfl (ov_pick_true _ rfl rfl) ?_
            refine wl_v rfl rfl (ov_assign _ rfl) ?_
            refine wl_nil ?_
            refine qn_then ?_
            refine wc_ret ?_
            refine qn_then_ret ?_
            replace h := st_selT [false, false, false, false] h
            refine qn_ret [_] ⟨rfl, trivial⟩ ?_
            have hP_ := PE.rep_ins (n := n.toNat) (m := more.toNat) (k := n / 2) (by omega) (by omega)
            rw [← hD18] at hP_
            have hS_ : (n.toNat + more.toNat ≤ 65536 → (Pc.catB D26).size = n.toNat + more.toNat ∧ Pc.nlB (Pc.catB D26) = more.toNat) ∧ (65536 < n.toNat + more.toNat → (Pc.catB D26).size = n.toNat ∧ Pc.nlB (Pc.catB D26) = 0) := by
              rw [hD30, hD18]
              exact ⟨fun z_ => PE.rep_insT (by omega) (by omega) z_, fun z_ => by rw [PE.rep_bad (by omega) (by omega) z_]; exact ⟨PE.rep_size _ _, PE.rep_no _⟩⟩
            rcases Nat.lt_or_ge 65536 (n.toNat + more.toNat) with hz_ | hz_
            ·
             obtain ⟨hs1_, hs2_⟩ := hS_.2 hz_
             rw [if_pos hz_] at hP_
             have b_ : (decide ((Pc.nlB (Pc.catB D26) : Int) = 0)) = true := by first | (apply decide_eq_true; omega) | (simp_all; done) | (simp_all; omega)
             exact ⟨congrArg (fun z => Ending.returned (Value.bool z)) b_, h⟩
            ·
             obtain ⟨hs1_, hs2_⟩ := hS_.1 hz_
             rw [if_neg (by omega)] at hP_
             have b_ : (decide ((Pc.nlB (Pc.catB D26) : Int) = 0)) = true := by first | (apply decide_eq_true; omega) | (simp_all; done) | (simp_all; omega)
             exact ⟨congrArg (fun z => Ending.returned (Value.bool z)) b_, h⟩
           ·
            refine wl_skip rfl rfl ?_
            refine wl_skip rfl rfl ?_
            refine wl_skip rfl rfl ?_
            refine wl_v rfl rfl (ov_pick_false _ rfl rfl) ?_
            refine wl_v rfl rfl (ov_assign _ rfl) ?_
            refine wl_nil ?_
            refine qn_then ?_
            refine wc_ret ?_
            refine qn_then_ret ?_
            replace h := st_selT [false, false, false, false] h
            refine qn_ret [_] ⟨rfl, trivial⟩ ?_
            have hP_ := PE.rep_ins (n := n.toNat) (m := more.toNat) (k := n / 2) (by omega) (by omega)
            rw [← hD18] at hP_
            have hS_ : (n.toNat + more.toNat ≤ 65536 → (Pc.catB D26).size = n.toNat + more.toNat ∧ Pc.nlB (Pc.catB D26) = more.toNat) ∧ (65536 < n.toNat + more.toNat → (Pc.catB D26).size = n.toNat ∧ Pc.nlB (Pc.catB D26) = 0) := by
              rw [hD30, hD18]
              exact ⟨fun z_ => PE.rep_insT (by omega) (by omega) z_, fun z_ => by rw [PE.rep_bad (by omega) (by omega) z_]; exact ⟨PE.rep_size _ _, PE.rep_no _⟩⟩
            rcases Nat.lt_or_ge 65536 (n.toNat + more.toNat) with hz_ | hz_
            ·
             obtain ⟨hs1_, hs2_⟩ := hS_.2 hz_
             rw [if_pos hz_] at hP_
             exfalso
             first | omega | contradiction | (simp_all; done) | (simp_all; omega)
            ·
             obtain ⟨hs1_, hs2_⟩ := hS_.1 hz_
             rw [if_neg (by omega)] at hP_
             exfalso
             first | omega | contradiction | (simp_all; done) | (simp_all; omega)
          ·
           refine wl_skip rfl rfl ?_
           refine wl_skip rfl rfl ?_
           refine wl_skip rfl rfl ?_
           refine wl_skip rfl rfl ?_
           refine wl_v rfl rfl (ov_pick_false _ rfl rfl) ?_
           refine wl_v rfl rfl (ov_move _ rfl) ?_
           refine wl_skip rfl rfl ?_
           refine wl_skip rfl rfl ?_
           refine wl_skip rfl rfl ?_
           refine wl_v rfl rfl (ov_pick_false _ rfl rfl) ?_
           refine wl_v rfl rfl (ov_assign _ rfl) ?_
           refine wl_nil ?_
           refine qn_then ?_
           refine wc_ret ?_
           refine qn_then_ret ?_
           replace h := st_selT [false, false, false, false] h
           refine qn_ret [_] ⟨rfl, trivial⟩ ?_
           have hP_ := PE.rep_ins (n := n.toNat) (m := more.toNat) (k := n / 2) (by omega) (by omega)
           rw [← hD18] at hP_
           have hS_ : (n.toNat + more.toNat ≤ 65536 → (Pc.catB D26).size = n.toNat + more.toNat ∧ Pc.nlB (Pc.catB D26) = more.toNat) ∧ (65536 < n.toNat + more.toNat → (Pc.catB D26).size = n.toNat ∧ Pc.nlB (Pc.catB D26) = 0) := by
             rw [hD30, hD18]
             exact ⟨fun z_ => PE.rep_insT (by omega) (by omega) z_, fun z_ => by rw [PE.rep_bad (by omega) (by omega) z_]; exact ⟨PE.rep_size _ _, PE.rep_no _⟩⟩
           rcases Nat.lt_or_ge 65536 (n.toNat + more.toNat) with hz_ | hz_
           ·
            obtain ⟨hs1_, hs2_⟩ := hS_.2 hz_
            rw [if_pos hz_] at hP_
            exfalso
            first | omega | contradiction | (simp_all; done) | (simp_all; omega)
           ·
            obtain ⟨hs1_, hs2_⟩ := hS_.1 hz_
            rw [if_neg (by omega)] at hP_
            exfalso
            first | omega | contradiction | (simp_all; done) | (simp_all; omega)
         ·
          refine wc_skip ?_
          refine qn_then ?_
          refine wc_seq ?_
          refine wc_region ?_
          refine wl_v rfl rfl (ov_move _ rfl) ?_
          refine wl_v rfl rfl (ov_bin _ rfl rfl (binR_eql)) ?_
          refine wl_v rfl rfl (ov_move _ rfl) ?_
          refine wl_split 93 rfl (fun c35 => ?_) (fun c35 => ?_)
          ·
           refine wl_v rfl rfl (ov_move _ rfl) ?_
           replace h := st_front 1 h
           replace h := st_front 1 h
           refine wl_call _ rfl rfl rfl ent16 (WH.Len_w (R := [Sx.row (Kd.int .u8) 5 (A6) (cp8) (PE.fill 10 more.toNat i6), Sx.row (Kd.int .u8) 5 (A5) (cp6) (PE.fill 97 n.toNat i5)] ++ R) (Φ28) g14 (D26) (d27)  h) ?_
           rintro e_ w_ ⟨rfl, h⟩
           refine ⟨_, rfl, ?_⟩
           refine wl_v rfl rfl (ov_move _ rfl) ?_
           refine wl_v rfl rfl (ov_move _ rfl) ?_
           refine wl_v rfl rfl (ov_bin _ rfl rfl (binR_add (r := n + more) (Sx.w64 (by omega)))) ?_
           refine wl_v rfl rfl (ov_bin _ rfl rfl (binR_eql)) ?_
           refine wl_v rfl rfl (ov_pick_true _ rfl rfl) ?_
           refine wl_v rfl rfl (ov_move _ rfl) ?_
           refine wl_split 101 rfl (fun c36 => ?_) (fun c36 => ?_)
           ·
            refine wl_v rfl rfl (ov_move _ rfl) ?_
            replace h := st_front 1 h
            replace h := st_front 1 h
            refine wl_call _ rfl rfl rfl ent21 (WH.Lines_w (R := [Sx.row (Kd.int .u8) 5 (A6) (cp8) (PE.fill 10 more.toNat i6), Sx.row (Kd.int .u8) 5 (A5) (cp6) (PE.fill 97 n.toNat i5)] ++ R) (Φ28) g14 (D26) (d27)  h) ?_
            rintro e_ w_ ⟨rfl, h⟩
            refine ⟨_, rfl, ?_⟩
            refine wl_v rfl rfl (ov_move _ rfl) ?_
            refine wl_v rfl rfl (ov_bin _ rfl rfl (binR_eql)) ?_
            refine wl_v rfl rfl (ov_pick_true _ rfl rfl) ?_
            refine wl_v rfl rfl (ov_assign _ rfl) ?_
            refine wl_nil ?_
            refine qn_then ?_
            refine wc_ret ?_
            replace h := st_selT [false, false, false, false] h
            refine qn_ret [_] ⟨rfl, trivial⟩ ?_
            have hP_ := PE.rep_ins (n := n.toNat) (m := more.toNat) (k := n / 2) (by omega) (by omega)
            rw [← hD18] at hP_
            have hS_ : (n.toNat + more.toNat ≤ 65536 → (Pc.catB D26).size = n.toNat + more.toNat ∧ Pc.nlB (Pc.catB D26) = more.toNat) ∧ (65536 < n.toNat + more.toNat → (Pc.catB D26).size = n.toNat ∧ Pc.nlB (Pc.catB D26) = 0) := by
              rw [hD30, hD18]
              exact ⟨fun z_ => PE.rep_insT (by omega) (by omega) z_, fun z_ => by rw [PE.rep_bad (by omega) (by omega) z_]; exact ⟨PE.rep_size _ _, PE.rep_no _⟩⟩
            rcases Nat.lt_or_ge 65536 (n.toNat + more.toNat) with hz_ | hz_
            ·
             obtain ⟨hs1_, hs2_⟩ := hS_.2 hz_
             rw [if_pos hz_] at hP_
             have b_ : (decide ((Pc.nlB (Pc.catB D26) : Int) = more)) = true := by first | (apply decide_eq_true; omega) | (simp_all; done) | (simp_all; omega)
             exact ⟨congrArg (fun z => Ending.returned (Value.bool z)) b_, h⟩
            ·
             obtain ⟨hs1_, hs2_⟩ := hS_.1 hz_
             rw [if_neg (by omega)] at hP_
             have b_ : (decide ((Pc.nlB (Pc.catB D26) : Int) = more)) = true := by first | (apply decide_eq_true; omega) | (simp_all; done) | (simp_all; omega)
             exact ⟨congrArg (fun z => Ending.returned (Value.bool z)) b_, h⟩
           ·
            refine wl_skip rfl rfl ?_
            refine wl_skip rfl rfl ?_
            refine wl_skip rfl rfl ?_
            refine wl_skip rfl rfl ?_
            refine wl_v rfl rfl (ov_pick_false _ rfl rfl) ?_
            refine wl_v rfl rfl (ov_assign _ rfl) ?_
            refine wl_nil ?_
            refine qn_then ?_
            refine wc_ret ?_
            replace h := st_selT [false, false, false, false] h
            refine qn_ret [_] ⟨rfl, trivial⟩ ?_
            have hP_ := PE.rep_ins (n := n.toNat) (m := more.toNat) (k := n / 2) (by omega) (by omega)
            rw [← hD18] at hP_
            have hS_ : (n.toNat + more.toNat ≤ 65536 → (Pc.catB D26).size = n.toNat + more.toNat ∧ Pc.nlB (Pc.catB D26) = more.toNat) ∧ (65536 < n.toNat + more.toNat → (Pc.catB D26).size = n.toNat ∧ Pc.nlB (Pc.catB D26) = 0) := by
              rw [hD30, hD18]
              exact ⟨fun z_ => PE.rep_insT (by omega) (by omega) z_, fun z_ => by rw [PE.rep_bad (by omega) (by omega) z_]; exact ⟨PE.rep_size _ _, PE.rep_no _⟩⟩
            rcases Nat.lt_or_ge 65536 (n.toNat + more.toNat) with hz_ | hz_
            ·
             obtain ⟨hs1_, hs2_⟩ := hS_.2 hz_
             rw [if_pos hz_] at hP_
             exfalso
             first | omega | contradiction | (simp_all; done) | (simp_all; omega)
            ·
             obtain ⟨hs1_, hs2_⟩ := hS_.1 hz_
             rw [if_neg (by omega)] at hP_
             exfalso
             first | omega | contradiction | (simp_all; done) | (simp_all; omega)
          ·
           refine wl_skip rfl rfl ?_
           refine wl_skip rfl rfl ?_
           refine wl_skip rfl rfl ?_
           refine wl_skip rfl rfl ?_
           refine wl_skip rfl rfl ?_
           refine wl_skip rfl rfl ?_
           refine wl_v rfl rfl (ov_pick_false _ rfl rfl) ?_
           refine wl_v rfl rfl (ov_move _ rfl) ?_
           refine wl_skip rfl rfl ?_
           refine wl_skip rfl rfl ?_
           refine wl_skip rfl rfl ?_
           refine wl_skip rfl rfl ?_
           refine wl_v rfl rfl (ov_pick_false _ rfl rfl) ?_
           refine wl_v rfl rfl (ov_assign _ rfl) ?_
           refine wl_nil ?_
           refine qn_then ?_
           refine wc_ret ?_
           replace h := st_selT [false, false, false, false] h
           refine qn_ret [_] ⟨rfl, trivial⟩ ?_
           have hP_ := PE.rep_ins (n := n.toNat) (m := more.toNat) (k := n / 2) (by omega) (by omega)
           rw [← hD18] at hP_
           have hS_ : (n.toNat + more.toNat ≤ 65536 → (Pc.catB D26).size = n.toNat + more.toNat ∧ Pc.nlB (Pc.catB D26) = more.toNat) ∧ (65536 < n.toNat + more.toNat → (Pc.catB D26).size = n.toNat ∧ Pc.nlB (Pc.catB D26) = 0) := by
             rw [hD30, hD18]
             exact ⟨fun z_ => PE.rep_insT (by omega) (by omega) z_, fun z_ => by rw [PE.rep_bad (by omega) (by omega) z_]; exact ⟨PE.rep_size _ _, PE.rep_no _⟩⟩
           rcases Nat.lt_or_ge 65536 (n.toNat + more.toNat) with hz_ | hz_
           ·
            obtain ⟨hs1_, hs2_⟩ := hS_.2 hz_
            rw [if_pos hz_] at hP_
            exfalso
            first | omega | contradiction | (simp_all; done) | (simp_all; omega)
           ·
            obtain ⟨hs1_, hs2_⟩ := hS_.1 hz_
            rw [if_neg (by omega)] at hP_
            exfalso
            first | omega | contradiction | (simp_all; done) | (simp_all; omega)
end Go.Proofs.Ytieieindakbpoaa.L
