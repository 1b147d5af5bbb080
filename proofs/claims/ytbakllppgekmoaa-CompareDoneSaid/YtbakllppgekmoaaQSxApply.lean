/- Pruned by wip/prune.py. -/
import Derived.Test.YtbakllppgekmoaaProg
import Derived.Test.YtbakllppgekmoaaQSxGlue
import Derived.Test.YtbakllppgekmoaaQSxBytes
import Derived.Test.YtbakllppgekmoaaQSxIter
import Derived.Test.YtbakllppgekmoaaQSxKinds
import Derived.Test.YtbakllppgekmoaaQCmpApply
import Derived.Test.YtbakllppgekmoaaQSxDiff
import Derived.Test.YtbakllppgekmoaaQSxEdits
namespace Go.Proofs.Ytbakllppgekmoaa.A
open Go Go.RowKit Go.Proofs.YtbakllppgekmoaaW.PrintWords Go.Proofs.Ytbakllppgekmoaa.Kinds Go.Proofs.Ytbakllppgekmoaa.Cmp Go.Proofs.Ytbakllppgekmoaa.Given Go.Proofs.Ytbakllppgekmoaa.Sx 
set_option linter.unusedVariables false
set_option linter.unusedSimpArgs false
theorem es22 : Sx.elemSz Try.prog 22 = some (33, 3) := by kernel_rfl
theorem sh33 : Sx.shapeOf Try.prog 33 = some (true, 3) := by kernel_rfl
theorem zo33 : Sx.zeroOf Try.prog 33 = some (.agg #[.int .i64 (0), .int .i64 (0), .string (ByteArray.empty)]) := by kernel_rfl
theorem fo33_0 : Sx.fieldOff Try.prog 33 0 = some 0 := by kernel_rfl
theorem sh3 : Sx.shapeOf Try.prog 3 = some (false, 1) := by kernel_rfl
theorem fo33_1 : Sx.fieldOff Try.prog 33 1 = some 1 := by kernel_rfl
theorem inf5 : (Try.prog.info? 5).map (fun i => (i.zero, i.size, i.bytes)) = some (some (.int .u8 (0)), 1, 1) := by kernel_rfl
theorem fo33_2 : Sx.fieldOff Try.prog 33 2 = some 2 := by kernel_rfl
theorem sh9 : Sx.shapeOf Try.prog 9 = some (false, 1) := by kernel_rfl
theorem ent31 : Sx.Ent Try.prog 31 := ⟨Try.f31, Try.func31, by kernel_rfl, by kernel_rfl⟩
theorem ent21 : Sx.Ent Try.prog 21 := ⟨Try.f21, Try.func21, by kernel_rfl, by kernel_rfl⟩
theorem ent11 : Sx.Ent Try.prog 11 := ⟨Try.f11, Try.func11, by kernel_rfl, by kernel_rfl⟩
theorem ent23 : Sx.Ent Try.prog 23 := ⟨Try.f23, Try.func23, by kernel_rfl, by kernel_rfl⟩
theorem ent15 : Sx.Ent Try.prog 15 := ⟨Try.f15, Try.func15, by kernel_rfl, by kernel_rfl⟩
theorem ent20 : Sx.Ent Try.prog 20 := ⟨Try.f20, Try.func20, by kernel_rfl, by kernel_rfl⟩
set_option maxHeartbeats 4000000 in
set_option maxRecDepth 100000 in
theorem Apply_calls {w0 w : World} {F0 : Nat → Prop} {R : List Sx.HP} {v0 : World} (s : ByteArray) (a : List Edit) (Aa : Option Addr) (ca : Nat) (hv : Sx.RO v0 w0 F0) (hla : a.length ≤ ca) (hCa : k33.C v0 Aa a.length a) (hs : s.size ≤ 100000) (hn : a.length ≤ 1000000) (hF : ∀ e ∈ a, e.f2.size ≤ 100000) (h : Sx.St w0 F0 ([] ++ R) w) : Calls Try.prog 23 #[.string (s), .slice (Aa) (a.length) (ca)] w (fun e w1 => e = .returned (.tuple #[.string ((applyV s a).getD ByteArray.empty), .int .i64 (if (applyV s a).isSome then 0 else 190)]) ∧ Sx.St w0 F0 R w1) := by
 refine Sx.calls_fn (vs := [.string (s), .slice (Aa) (a.length) (ca)]) Try.func23 rfl Try.ntmps23 rfl ?_
 refine wc_seq ?_
 refine wc_region ?_
 refine wl_v rfl rfl (ov_assign _ rfl) ?_
 refine wl_v rfl rfl (ov_assign _ rfl) ?_
 refine wl_nil ?_
 refine qn_then ?_
 refine wc_seq ?_
 refine wc_region ?_
 refine wl_v rfl rfl (ov_assign _ rfl) ?_
 refine wl_nil ?_
 refine qn_then ?_
 refine wc_seq ?_
 refine wc_region ?_
 refine wl_v rfl rfl (ov_assign _ rfl) ?_
 refine wl_nil ?_
 refine qn_then ?_
 refine wc_seq ?_
 refine wc_seq ?_
 refine wc_region ?_
 refine wl_v rfl rfl (ov_move _ rfl) ?_
 refine wl_v rfl rfl (ov_len _ _ _ _ _ rfl es22) ?_
 refine wl_v rfl rfl (ov_move _ rfl) ?_
 refine wl_nil ?_
 refine qn_then ?_
 refine wc_block ?_
 replace h := st_nilrow (Kd.int .u8) 5 h
 have e_ : [] = (bytesOf (accA s a 0).1) := by rfl
 replace h := st_cast (congrArg (fun z_ => ([Sx.row (Kd.int .u8) 5 (none) (0) (z_)] ++ R)) e_) h
 clear e_
 refine wc_loop (fun (x_ : Nat × (Option Addr) × Nat) => [(0, .string (s)), (1, .slice (Aa) (a.length) (ca)), (6, .slice (x_.2.1) ((bytesOf (accA s a x_.1).1).length) (x_.2.2)), (7, .int .i64 ((accA s a x_.1).2)), (10, .slice (Aa) (a.length) (ca)), (11, .int .i64 ((a.length : Int))), (12, .int .i64 ((x_.1 : Int)))]) (fun (x_ : Nat × (Option Addr) × Nat) (w : World) => (x_.1 ≤ a.length ∧ ∀ j, j < x_.1 → OkAt s.size a j) ∧ Sx.St w0 F0 ([Sx.row (Kd.int .u8) 5 (x_.2.1) (x_.2.2) ((bytesOf (accA s a x_.1).1))] ++ R) w) (fun (x_ : Nat × (Option Addr) × Nat) => a.length - x_.1) (0, none, 0) ?_ ?_ ?_
 · exact ⟨rfl, rfl, rfl, (congrArg (fun z_ => some (Value.int .i64 z_)) (show (0 : Int) = (accA s a 0).2 by rfl)), rfl, (congrArg (fun z_ => some (Value.int .i64 z_)) (show (((a.length : Nat) : Int) : Int) = (a.length : Int) by omega)), (congrArg (fun z_ => some (Value.int .i64 z_)) (show (0 : Int) = (0 : Int) by omega)), trivial⟩
 · exact ⟨⟨Nat.zero_le _, fun j_ hj_ => absurd hj_ (Nat.not_lt_zero _)⟩, h⟩
 rintro ⟨k, A, c⟩ w h
 obtain ⟨hJ, h⟩ := h
 replace hJ : k ≤ a.length ∧ ∀ j, j < k → OkAt s.size a j := hJ
 replace h : Sx.St w0 F0 ([Sx.row (Kd.int .u8) 5 (A) (c) ((bytesOf (accA s a k).1))] ++ R) w := h
 show Sx.WC _ _ _ _ [(0, .string (s)), (1, .slice (Aa) (a.length) (ca)), (6, .slice (A) ((bytesOf (accA s a k).1).length) (c)), (7, .int .i64 ((accA s a k).2)), (10, .slice (Aa) (a.length) (ca)), (11, .int .i64 ((a.length : Int))), (12, .int .i64 ((k : Int)))] _
 have hat_ := acc_facts hJ.2
 dsimp only [ge] at hat_
 have hro_ := acc_room s a hs hn hF k hJ.1
 have hbl_ := bytes_len (accA s a k).1
 refine wc_seq ?_
 refine wc_region ?_
 refine wl_v rfl rfl (ov_bin _ rfl rfl (binR_lss)) ?_
 refine wl_nil ?_
 refine qn_then ?_
 refine wc_seq ?_
 refine wc_cond (by rfl) (fun c1 => ?_) (fun c1 => ?_)
 ·
  have hft_ : (a.getD k z33).f2.size ≤ 100000 := hF _ (ge_mem (by omega))
  refine wc_skip ?_
  refine qn_then ?_
  refine wc_seq ?_
  refine wc_block ?_
  refine wc_seq ?_
  refine wc_region ?_
  refine wl_v rfl rfl (ov_move _ rfl) ?_
  obtain ⟨ad2, rfl⟩ := Sx.C_some ((Sx.ro_C hv h hCa)) (k := k) (by first | assumption | omega)
  refine wl_v rfl rfl (ov_indexAddrN _ _ _ _ _ k rfl rfl es22 rfl (by first | assumption | omega | (simp only [List.length_take, List.length_drop, List.length_set]; omega))) ?_
  obtain ⟨cl5, _, hk4, hc3⟩ := Sx.C_cells (hCa) (z := z33) (k := k) (by first | assumption | omega)
  obtain rfl := k33_open hk4
  refine wl_v rfl rfl (ov_loadN _ [.int .i64 (((a).getD k z33).f0), .int .i64 (((a).getD k z33).f1), .string (((a).getD k z33).f2)] rfl sh33 (by intro j u hu; rw [Deep.add_add]; exact Sx.ro_cell hv h (hc3 _ _ hu))) ?_
  refine wl_alloc _ h rfl rfl zo33 (fun b6 _ h => ?_)
  replace h : Sx.St _ _ (Sx.blk b6 [.int .i64 (0), .int .i64 (0), .string (ByteArray.empty)] 33 :: _) _ := h
  refine wl_v rfl rfl (ov_assign _ rfl) ?_
  refine wl_storebN 0 [.int .i64 (((a).getD k z33).f0), .int .i64 (((a).getD k z33).f1), .string (((a).getD k z33).f2)] [.int .i64 (((a).getD k z33).f0), .int .i64 (((a).getD k z33).f1), .string (((a).getD k z33).f2)] h rfl rfl rfl rfl (by simp [Value.oneCell']) sh33 rfl rfl (fun _ h => ?_)
  refine wl_nil ?_
  refine qn_then ?_
  refine wc_seq ?_
  refine wc_seq ?_
  refine wc_draw (fun w => Sx.St w0 F0 ([Sx.blk b6 [.int .i64 (((a).getD k z33).f0), .int .i64 (((a).getD k z33).f1), .string (((a).getD k z33).f2)] 33, Sx.row (Kd.int .u8) 5 (A) (c) ((bytesOf (accA s a k).1))] ++ R) w) (by kernel_rfl) ?_
  replace h := st_drew h
  refine wa_tk 0 rfl rfl rfl (st_selT [true, true] h) (fun w_ hS => ov_fieldAddr _ ⟨b6, 0, none⟩ _ rfl fo33_0 rfl) ?_
  refine wa_tk 1 rfl rfl rfl (st_selT [true, true] h) (fun w_ hS => ov_loadb 0 _ hS rfl rfl sh3 rfl) ?_
  refine wa_tk 2 rfl rfl rfl (st_selT [true, true] h) (fun w_ hS => ov_move _ rfl) ?_
  refine wa_tk 3 rfl rfl rfl (st_selT [true, true] h) (fun w_ hS => ov_bin _ rfl rfl (binR_lss)) ?_
  refine wa_tk 4 rfl rfl rfl (st_selT [true, true] h) (fun w_ hS => ov_move _ rfl) ?_
  refine wa_split 21 rfl (fun c7 => ?_) (fun c7 => ?_)
  ·
   refine wa_sk 5 rfl rfl rfl (st_selT [true, true] h) ?_
   refine wa_sk 6 rfl rfl rfl (st_selT [true, true] h) ?_
   refine wa_sk 7 rfl rfl rfl (st_selT [true, true] h) ?_
   refine wa_sk 8 rfl rfl rfl (st_selT [true, true] h) ?_
   refine wa_sk 9 rfl rfl rfl (st_selT [true, true] h) ?_
   refine wa_tk 10 rfl rfl rfl (st_selT [true, true] h) (fun w_ hS => ov_pick_true _ rfl rfl) ?_
   refine wa_tk 11 rfl rfl rfl (st_selT [true, true] h) (fun w_ hS => ov_move _ rfl) ?_
   refine wa_sk 12 rfl rfl rfl (st_selT [true, true] h) ?_
   refine wa_sk 13 rfl rfl rfl (st_selT [true, true] h) ?_
   refine wa_sk 14 rfl rfl rfl (st_selT [true, true] h) ?_
   refine wa_sk 15 rfl rfl rfl (st_selT [true, true] h) ?_
   refine wa_sk 16 rfl rfl rfl (st_selT [true, true] h) ?_
   refine wa_tk 17 rfl rfl rfl (st_selT [true, true] h) (fun w_ hS => ov_pick_true _ rfl rfl) ?_
   refine wa_tk 18 rfl rfl rfl (st_selT [true, true] h) (fun w_ hS => ov_move _ rfl) ?_
   refine wa_sk 19 rfl rfl rfl (st_selT [true, true] h) ?_
   refine wa_sk 20 rfl rfl rfl (st_selT [true, true] h) ?_
   refine wa_sk 21 rfl rfl rfl (st_selT [true, true] h) ?_
   refine wa_sk 22 rfl rfl rfl (st_selT [true, true] h) ?_
   refine wa_sk 23 rfl rfl rfl (st_selT [true, true] h) ?_
   refine wa_sk 24 rfl rfl rfl (st_selT [true, true] h) ?_
   refine wa_sk 25 rfl rfl rfl (st_selT [true, true] h) ?_
   refine wa_sk 26 rfl rfl rfl (st_selT [true, true] h) ?_
   refine wa_sk 27 rfl rfl rfl (st_selT [true, true] h) ?_
   refine wa_sk 28 rfl rfl rfl (st_selT [true, true] h) ?_
   refine wa_sk 29 rfl rfl rfl (st_selT [true, true] h) ?_
   refine wa_sk 30 rfl rfl rfl (st_selT [true, true] h) ?_
   refine wa_sk 31 rfl rfl rfl (st_selT [true, true] h) ?_
   refine wa_sk 32 rfl rfl rfl (st_selT [true, true] h) ?_
   refine wa_sk 33 rfl rfl rfl (st_selT [true, true] h) ?_
   refine wa_sk 34 rfl rfl rfl (st_selT [true, true] h) ?_
   refine wa_sk 35 rfl rfl rfl (st_selT [true, true] h) ?_
   refine wa_sk 36 rfl rfl rfl (st_selT [true, true] h) ?_
   refine wa_sk 37 rfl rfl rfl (st_selT [true, true] h) ?_
   refine wa_tk 38 rfl rfl rfl (st_selT [true, true] h) (fun w_ hS => ov_pick_true _ rfl rfl) ?_
   refine wa_done (by kernel_rfl) ?_
   refine qn_then ?_
   refine wc_cond_true rfl ?_
   refine wc_seq ?_
   refine wc_region ?_
   refine wl_v rfl rfl (ov_assign _ rfl) ?_
   refine wl_v rfl rfl (ov_assign _ rfl) ?_
   refine wl_nil ?_
   refine qn_then ?_
   refine wc_ret ?_
   refine qn_then_ret ?_
   refine qn_block_ret ?_
   refine qn_then_ret ?_
   refine qn_then_ret ?_
   refine qn_block_ret ?_
   refine qn_then_ret ?_
   replace h := st_selT [false, false] h
   refine qn_ret [_, _] ⟨rfl, rfl, trivial⟩ ?_
   have e_ : applyV s a = none := apply_none (k := k) (by omega) (fun z_ => by
     unfold OkAt at z_
     have z4_ := z_.2.2.2
     omega)
   rw [e_]
   exact ⟨rfl, h⟩
  ·
   refine wa_tk 5 rfl rfl rfl (st_selT [true, true] h) (fun w_ hS => ov_fieldAddr _ ⟨b6, 1, none⟩ _ rfl fo33_1 rfl) ?_
   refine wa_tk 6 rfl rfl rfl (st_selT [true, true] h) (fun w_ hS => ov_loadb 0 _ hS rfl rfl sh3 rfl) ?_
   refine wa_tk 7 rfl rfl rfl (st_selT [true, true] h) (fun w_ hS => ov_fieldAddr _ ⟨b6, 0, none⟩ _ rfl fo33_0 rfl) ?_
   refine wa_tk 8 rfl rfl rfl (st_selT [true, true] h) (fun w_ hS => ov_loadb 0 _ hS rfl rfl sh3 rfl) ?_
   refine wa_tk 9 rfl rfl rfl (st_selT [true, true] h) (fun w_ hS => ov_bin _ rfl rfl (binR_lss)) ?_
   refine wa_tk 10 rfl rfl rfl (st_selT [true, true] h) (fun w_ hS => ov_pick_false _ rfl rfl) ?_
   refine wa_tk 11 rfl rfl rfl (st_selT [true, true] h) (fun w_ hS => ov_move _ rfl) ?_
   refine wa_split 28 rfl (fun c8 => ?_) (fun c8 => ?_)
   ·
    refine wa_sk 12 rfl rfl rfl (st_selT [true, true] h) ?_
    refine wa_sk 13 rfl rfl rfl (st_selT [true, true] h) ?_
    refine wa_sk 14 rfl rfl rfl (st_selT [true, true] h) ?_
    refine wa_sk 15 rfl rfl rfl (st_selT [true, true] h) ?_
    refine wa_sk 16 rfl rfl rfl (st_selT [true, true] h) ?_
    refine wa_tk 17 rfl rfl rfl (st_selT [true, true] h) (fun w_ hS => ov_pick_true _ rfl rfl) ?_
    refine wa_tk 18 rfl rfl rfl (st_selT [true, true] h) (fun w_ hS => ov_move _ rfl) ?_
    refine wa_sk 19 rfl rfl rfl (st_selT [true, true] h) ?_
    refine wa_sk 20 rfl rfl rfl (st_selT [true, true] h) ?_
    refine wa_sk 21 rfl rfl rfl (st_selT [true, true] h) ?_
    refine wa_sk 22 rfl rfl rfl (st_selT [true, true] h) ?_
    refine wa_sk 23 rfl rfl rfl (st_selT [true, true] h) ?_
    refine wa_sk 24 rfl rfl rfl (st_selT [true, true] h) ?_
    refine wa_sk 25 rfl rfl rfl (st_selT [true, true] h) ?_
    refine wa_sk 26 rfl rfl rfl (st_selT [true, true] h) ?_
    refine wa_sk 27 rfl rfl rfl (st_selT [true, true] h) ?_
    refine wa_sk 28 rfl rfl rfl (st_selT [true, true] h) ?_
    refine wa_sk 29 rfl rfl rfl (st_selT [true, true] h) ?_
    refine wa_sk 30 rfl rfl rfl (st_selT [true, true] h) ?_
    refine wa_sk 31 rfl rfl rfl (st_selT [true, true] h) ?_
    refine wa_sk 32 rfl rfl rfl (st_selT [true, true] h) ?_
    refine wa_sk 33 rfl rfl rfl (st_selT [true, true] h) ?_
    refine wa_sk 34 rfl rfl rfl (st_selT [true, true] h) ?_
    refine wa_sk 35 rfl rfl rfl (st_selT [true, true] h) ?_
    refine wa_sk 36 rfl rfl rfl (st_selT [true, true] h) ?_
    refine wa_sk 37 rfl rfl rfl (st_selT [true, true] h) ?_
    refine wa_tk 38 rfl rfl rfl (st_selT [true, true] h) (fun w_ hS => ov_pick_true _ rfl rfl) ?_
    refine wa_done (by kernel_rfl) ?_
    refine qn_then ?_
    refine wc_cond_true rfl ?_
    refine wc_seq ?_
    refine wc_region ?_
    refine wl_v rfl rfl (ov_assign _ rfl) ?_
    refine wl_v rfl rfl (ov_assign _ rfl) ?_
    refine wl_nil ?_
    refine qn_then ?_
    refine wc_ret ?_
    refine qn_then_ret ?_
    refine qn_block_ret ?_
    refine qn_then_ret ?_
    refine qn_then_ret ?_
    refine qn_block_ret ?_
    refine qn_then_ret ?_
    replace h := st_selT [false, false] h
    refine qn_ret [_, _] ⟨rfl, rfl, trivial⟩ ?_
    have e_ : applyV s a = none := apply_none (k := k) (by omega) (fun z_ => by
      unfold OkAt at z_
      have z4_ := z_.2.2.2
      omega)
    rw [e_]
    exact ⟨rfl, h⟩
   ·
    refine wa_tk 12 rfl rfl rfl (st_selT [true, true] h) (fun w_ hS => ov_fieldAddr _ ⟨b6, 1, none⟩ _ rfl fo33_1 rfl) ?_
    refine wa_tk 13 rfl rfl rfl (st_selT [true, true] h) (fun w_ hS => ov_loadb 0 _ hS rfl rfl sh3 rfl) ?_
    refine wa_tk 14 rfl rfl rfl (st_selT [true, true] h) (fun w_ hS => ov_move _ rfl) ?_
    refine wa_tk 15 rfl rfl rfl (st_selT [true, true] h) (fun w_ hS => ov_lens _ rfl Try.underlying9) ?_
    refine wa_tk 16 rfl rfl rfl (st_selT [true, true] h) (fun w_ hS => ov_bin _ rfl rfl (binR_gtr)) ?_
    refine wa_tk 17 rfl rfl rfl (st_selT [true, true] h) (fun w_ hS => ov_pick_false _ rfl rfl) ?_
    refine wa_tk 18 rfl rfl rfl (st_selT [true, true] h) (fun w_ hS => ov_move _ rfl) ?_
    refine wa_split 35 rfl (fun c9 => ?_) (fun c9 => ?_)
    ·
     refine wa_sk 19 rfl rfl rfl (st_selT [true, true] h) ?_
     refine wa_sk 20 rfl rfl rfl (st_selT [true, true] h) ?_
     refine wa_sk 21 rfl rfl rfl (st_selT [true, true] h) ?_
     refine wa_sk 22 rfl rfl rfl (st_selT [true, true] h) ?_
     refine wa_sk 23 rfl rfl rfl (st_selT [true, true] h) ?_
     refine wa_sk 24 rfl rfl rfl (st_selT [true, true] h) ?_
     refine wa_sk 25 rfl rfl rfl (st_selT [true, true] h) ?_
     refine wa_sk 26 rfl rfl rfl (st_selT [true, true] h) ?_
     refine wa_sk 27 rfl rfl rfl (st_selT [true, true] h) ?_
     refine wa_sk 28 rfl rfl rfl (st_selT [true, true] h) ?_
     refine wa_sk 29 rfl rfl rfl (st_selT [true, true] h) ?_
     refine wa_sk 30 rfl rfl rfl (st_selT [true, true] h) ?_
     refine wa_sk 31 rfl rfl rfl (st_selT [true, true] h) ?_
     refine wa_sk 32 rfl rfl rfl (st_selT [true, true] h) ?_
     refine wa_sk 33 rfl rfl rfl (st_selT [true, true] h) ?_
     refine wa_sk 34 rfl rfl rfl (st_selT [true, true] h) ?_
     refine wa_sk 35 rfl rfl rfl (st_selT [true, true] h) ?_
     refine wa_sk 36 rfl rfl rfl (st_selT [true, true] h) ?_
     refine wa_sk 37 rfl rfl rfl (st_selT [true, true] h) ?_
     refine wa_tk 38 rfl rfl rfl (st_selT [true, true] h) (fun w_ hS => ov_pick_true _ rfl rfl) ?_
     refine wa_done (by kernel_rfl) ?_
     refine qn_then ?_
     refine wc_cond_true rfl ?_
     refine wc_seq ?_
     refine wc_region ?_
     refine wl_v rfl rfl (ov_assign _ rfl) ?_
     refine wl_v rfl rfl (ov_assign _ rfl) ?_
     refine wl_nil ?_
     refine qn_then ?_
     refine wc_ret ?_
     refine qn_then_ret ?_
     refine qn_block_ret ?_
     refine qn_then_ret ?_
     refine qn_then_ret ?_
     refine qn_block_ret ?_
     refine qn_then_ret ?_
     replace h := st_selT [false, false] h
     refine qn_ret [_, _] ⟨rfl, rfl, trivial⟩ ?_
     have e_ : applyV s a = none := apply_none (k := k) (by omega) (fun z_ => by
       unfold OkAt at z_
       have z4_ := z_.2.2.2
       omega)
     rw [e_]
     exact ⟨rfl, h⟩
    ·
     refine wa_tk 19 rfl rfl rfl (st_selT [true, true] h) (fun w_ hS => ov_move _ rfl) ?_
     refine wa_tk 20 rfl rfl rfl (st_selT [true, true] h) (fun w_ hS => ov_bin _ rfl rfl (binR_gtr)) ?_
     refine wa_tk 21 rfl rfl rfl (st_selT [true, true] h) (fun w_ hS => ov_move _ rfl) ?_
     refine wa_split 38 rfl (fun c10 => ?_) (fun c10 => ?_)
     ·
      refine wa_tk 22 rfl rfl rfl (st_selT [true, true] h) (fun w_ hS => ov_fieldAddr _ ⟨b6, 0, none⟩ _ rfl fo33_0 rfl) ?_
      refine wa_tk 23 rfl rfl rfl (st_selT [true, true] h) (fun w_ hS => ov_loadb 0 _ hS rfl rfl sh3 rfl) ?_
      refine wa_tk 24 rfl rfl rfl (st_selT [true, true] h) (fun w_ hS => ov_move _ rfl) ?_
      refine wa_tk 25 rfl rfl rfl (st_selT [true, true] h) (fun w_ hS => ov_bin _ rfl rfl (binR_eql)) ?_
      refine wa_tk 26 rfl rfl rfl (st_selT [true, true] h) (fun w_ hS => ov_pick_true _ rfl rfl) ?_
      refine wa_tk 27 rfl rfl rfl (st_selT [true, true] h) (fun w_ hS => ov_move _ rfl) ?_
      refine wa_split 44 rfl (fun c11 => ?_) (fun c11 => ?_)
      ·
       refine wa_tk 28 rfl rfl rfl (st_selT [true, true] h) (fun w_ hS => ov_fieldAddr _ ⟨b6, 0, none⟩ _ rfl fo33_0 rfl) ?_
       refine wa_tk 29 rfl rfl rfl (st_selT [true, true] h) (fun w_ hS => ov_loadb 0 _ hS rfl rfl sh3 rfl) ?_
       refine wa_tk 30 rfl rfl rfl (st_selT [true, true] h) (fun w_ hS => ov_move _ rfl) ?_
       refine wa_tk 31 rfl rfl rfl (st_selT [true, true] h) (fun w_ hS => ov_move _ rfl) ?_
       refine wa_tk 32 rfl rfl rfl (st_selT [true, true] h) (fun w_ hS => ov_bin _ rfl rfl (binR_sub (r := ((k : Int)) - 1) (Sx.w64 (by omega)))) ?_
       refine wa_tk 33 rfl rfl rfl (st_selT [true, true] h) (fun w_ hS => ov_indexAddrN _ _ _ _ _ (k - 1) rfl rfl es22 (by omega) (by first | assumption | omega | (simp only [List.length_take, List.length_drop, List.length_set]; omega))) ?_
       refine wa_tk 34 rfl rfl rfl (st_selT [true, true] h) (fun w_ hS => ov_fieldAddr _ ((ad2).add ((k - 1) * 3 + 0)) _ rfl fo33_0 (by first | exact Deep.add_add _ _ _ | (rw [Deep.add_add]) | rfl)) ?_
       obtain ⟨cl14, _, hk13, hc12⟩ := Sx.C_cells (hCa) (z := z33) (k := (k - 1)) (by first | assumption | omega)
       obtain rfl := k33_open hk13
       refine wa_tk 35 rfl rfl rfl (st_selT [true, true] h) (fun w_ hS => ov_load1 _ _ rfl sh3 (Sx.ro_cell hv hS (hc12 0 _ rfl))) ?_
       refine wa_tk 36 rfl rfl rfl (st_selT [true, true] h) (fun w_ hS => ov_bin _ rfl rfl (binR_eql)) ?_
       refine wa_tk 37 rfl rfl rfl (st_selT [true, true] h) (fun w_ hS => ov_pick_true _ rfl rfl) ?_
       refine wa_tk 38 rfl rfl rfl (st_selT [true, true] h) (fun w_ hS => ov_pick_false _ rfl rfl) ?_
       refine wa_done (by kernel_rfl) ?_
       refine qn_then ?_
       refine wc_cond (by rfl) (fun c15 => ?_) (fun c15 => ?_)
       ·
        refine wc_seq ?_
        refine wc_region ?_
        refine wl_v rfl rfl (ov_assign _ rfl) ?_
        refine wl_v rfl rfl (ov_assign _ rfl) ?_
        refine wl_nil ?_
        refine qn_then ?_
        refine wc_ret ?_
        refine qn_then_ret ?_
        refine qn_block_ret ?_
        refine qn_then_ret ?_
        refine qn_then_ret ?_
        refine qn_block_ret ?_
        refine qn_then_ret ?_
        replace h := st_selT [false, false] h
        refine qn_ret [_, _] ⟨rfl, rfl, trivial⟩ ?_
        have e_ : applyV s a = none := apply_none (k := k) (by omega) (fun z_ => by
          unfold OkAt at z_
          have z4_ := z_.2.2.2
          omega)
        rw [e_]
        exact ⟨rfl, h⟩
       ·
        refine wc_skip ?_
        refine qn_then ?_
        refine wc_seq ?_
        refine wc_region ?_
        refine wl_v rfl rfl (ov_move _ rfl) ?_
        refine wl_v rfl rfl (ov_move _ rfl) ?_
        refine wl_v rfl rfl (ov_move _ rfl) ?_
        refine wl_v rfl rfl (ov_fieldAddr _ ⟨b6, 0, none⟩ _ rfl fo33_0 rfl) ?_
        refine wl_v rfl rfl (ov_loadb 0 _ h rfl rfl sh3 rfl) ?_
        refine wl_v rfl rfl (ov_slices _ (((accA s a k).2 : Int).toNat) ((((a).getD k z33).f0 : Int).toNat) (by rfl) (by exact ⟨_, _, rfl, (by omega)⟩) (by exact ⟨_, _, rfl, (by omega)⟩) Try.underlying9 (by omega) (by omega)) ?_
        refine wl_appends (L := (bytesOf (accA s a k).1)) 1 _ h rfl rfl rfl rfl rfl Try.underlying56 Try.underlying9 inf5 (by first | omega | (simp only [List.length_append, bytes_len, ByteArray.size_extract]; omega)) (by first | rfl | simp) (fun A16 cp17 _ h => ?_)
        refine wl_v rfl rfl (ov_assign _ rfl) ?_
        refine wl_nil ?_
        refine qn_then ?_
        refine wc_seq ?_
        refine wc_region ?_
        refine wl_v rfl rfl (ov_move _ rfl) ?_
        refine wl_v rfl rfl (ov_fieldAddr _ ⟨b6, 2, none⟩ _ rfl fo33_2 rfl) ?_
        refine wl_v rfl rfl (ov_loadb 0 _ h rfl rfl sh9 rfl) ?_
        refine wl_appends (L := ((bytesOf (accA s a k).1)) ++ bytesOf ((s).extract (((accA s a k).2 : Int).toNat) ((((a).getD k z33).f0 : Int).toNat))) 1 _ h rfl rfl rfl rfl rfl Try.underlying56 Try.underlying9 inf5 (by first | omega | (simp only [List.length_append, bytes_len, ByteArray.size_extract]; omega)) (by first | rfl | simp) (fun A18 cp19 _ h => ?_)
        refine wl_v rfl rfl (ov_assign _ rfl) ?_
        refine wl_nil ?_
        refine qn_then ?_
        refine wc_region ?_
        refine wl_v rfl rfl (ov_fieldAddr _ ⟨b6, 1, none⟩ _ rfl fo33_1 rfl) ?_
        refine wl_v rfl rfl (ov_loadb 0 _ h rfl rfl sh3 rfl) ?_
        refine wl_v rfl rfl (ov_assign _ rfl) ?_
        refine wl_nil ?_
        refine qn_block_normal ?_
        refine qn_then ?_
        refine wc_region ?_
        refine wl_v rfl rfl (ov_bin _ rfl rfl (binR_add (r := ((k : Int)) + 1) (Sx.w64 (by omega)))) ?_
        refine wl_v rfl rfl (ov_move _ rfl) ?_
        refine wl_nil ?_
        have e_ : (((bytesOf (accA s a k).1)) ++ bytesOf ((s).extract (((accA s a k).2 : Int).toNat) ((((a).getD k z33).f0 : Int).toNat))) ++ bytesOf (((a).getD k z33).f2) = (bytesOf (accA s a (k + 1)).1) := by (show _ = bytesOf ((accA s a k).1 ++ s.extract _ _ ++ (ge a k).f2); rw [bytes_app, bytes_app])
        replace h := st_cast (congrArg (fun z_ => ([Sx.blk b6 [.int .i64 (((a).getD k z33).f0), .int .i64 (((a).getD k z33).f1), .string (((a).getD k z33).f2)] 33, Sx.row (Kd.int .u8) 5 (A18) (cp19) (z_)] ++ R)) e_) h
        clear e_
        replace h := st_front 1 h
        replace h := st_selT [true, false] h
        refine qn_next ((k + 1), A18, cp19) (by show a.length - (k + 1) < a.length - k; omega) ⟨rfl, (congrArg (fun z_ => some (Value.slice (some ad2) z_ (ca))) (show (a.length : Nat) = a.length by first | rfl | simp)), (congrArg (fun z_ => some (Value.slice (A18) z_ (cp19))) (by show _ = (bytesOf ((accA s a k).1 ++ s.extract _ _ ++ (ge a k).f2)).length; rw [bytes_app, bytes_app])), (congrArg (fun z_ => some (Value.int .i64 z_)) (show (((a).getD k z33).f1 : Int) = (accA s a (k + 1)).2 by rfl)), (congrArg (fun z_ => some (Value.slice (some ad2) z_ (ca))) (show (a.length : Nat) = a.length by first | rfl | simp)), rfl, (congrArg (fun z_ => some (Value.int .i64 z_)) (show (((k : Int)) + 1 : Int) = ((k + 1) : Int) by omega)), trivial⟩ ?_
        show ((k + 1) ≤ a.length ∧ ∀ j, j < (k + 1) → OkAt s.size a j) ∧ _
        have hk_ : OkAt s.size a k := by
          unfold OkAt
          exact ⟨by omega, by omega, by omega, fun h0_ => by omega⟩
        exact ⟨⟨by omega, fun j_ hj_ => by
          rcases Nat.lt_succ_iff_lt_or_eq.1 hj_ with z_ | rfl
          · exact hJ.2 j_ z_
          · exact hk_⟩, h⟩
      ·
       refine wa_sk 28 rfl rfl rfl (st_selT [true, true] h) ?_
       refine wa_sk 29 rfl rfl rfl (st_selT [true, true] h) ?_
       refine wa_sk 30 rfl rfl rfl (st_selT [true, true] h) ?_
       refine wa_sk 31 rfl rfl rfl (st_selT [true, true] h) ?_
       refine wa_sk 32 rfl rfl rfl (st_selT [true, true] h) ?_
       refine wa_sk 33 rfl rfl rfl (st_selT [true, true] h) ?_
       refine wa_sk 34 rfl rfl rfl (st_selT [true, true] h) ?_
       refine wa_sk 35 rfl rfl rfl (st_selT [true, true] h) ?_
       refine wa_sk 36 rfl rfl rfl (st_selT [true, true] h) ?_
       refine wa_tk 37 rfl rfl rfl (st_selT [true, true] h) (fun w_ hS => ov_pick_false _ rfl rfl) ?_
       refine wa_tk 38 rfl rfl rfl (st_selT [true, true] h) (fun w_ hS => ov_pick_false _ rfl rfl) ?_
       refine wa_done (by kernel_rfl) ?_
       refine qn_then ?_
       refine wc_cond_false rfl ?_
       refine wc_skip ?_
       refine qn_then ?_
       refine wc_seq ?_
       refine wc_region ?_
       refine wl_v rfl rfl (ov_move _ rfl) ?_
       refine wl_v rfl rfl (ov_move _ rfl) ?_
       refine wl_v rfl rfl (ov_move _ rfl) ?_
       refine wl_v rfl rfl (ov_fieldAddr _ ⟨b6, 0, none⟩ _ rfl fo33_0 rfl) ?_
       refine wl_v rfl rfl (ov_loadb 0 _ h rfl rfl sh3 rfl) ?_
       refine wl_v rfl rfl (ov_slices _ (((accA s a k).2 : Int).toNat) ((((a).getD k z33).f0 : Int).toNat) (by rfl) (by exact ⟨_, _, rfl, (by omega)⟩) (by exact ⟨_, _, rfl, (by omega)⟩) Try.underlying9 (by omega) (by omega)) ?_
       refine wl_appends (L := (bytesOf (accA s a k).1)) 1 _ h rfl rfl rfl rfl rfl Try.underlying56 Try.underlying9 inf5 (by first | omega | (simp only [List.length_append, bytes_len, ByteArray.size_extract]; omega)) (by first | rfl | simp) (fun A20 cp21 _ h => ?_)
       refine wl_v rfl rfl (ov_assign _ rfl) ?_
       refine wl_nil ?_
       refine qn_then ?_
       refine wc_seq ?_
       refine wc_region ?_
       refine wl_v rfl rfl (ov_move _ rfl) ?_
       refine wl_v rfl rfl (ov_fieldAddr _ ⟨b6, 2, none⟩ _ rfl fo33_2 rfl) ?_
       refine wl_v rfl rfl (ov_loadb 0 _ h rfl rfl sh9 rfl) ?_
       refine wl_appends (L := ((bytesOf (accA s a k).1)) ++ bytesOf ((s).extract (((accA s a k).2 : Int).toNat) ((((a).getD k z33).f0 : Int).toNat))) 1 _ h rfl rfl rfl rfl rfl Try.underlying56 Try.underlying9 inf5 (by first | omega | (simp only [List.length_append, bytes_len, ByteArray.size_extract]; omega)) (by first | rfl | simp) (fun A22 cp23 _ h => ?_)
       refine wl_v rfl rfl (ov_assign _ rfl) ?_
       refine wl_nil ?_
       refine qn_then ?_
       refine wc_region ?_
       refine wl_v rfl rfl (ov_fieldAddr _ ⟨b6, 1, none⟩ _ rfl fo33_1 rfl) ?_
       refine wl_v rfl rfl (ov_loadb 0 _ h rfl rfl sh3 rfl) ?_
       refine wl_v rfl rfl (ov_assign _ rfl) ?_
       refine wl_nil ?_
       refine qn_block_normal ?_
       refine qn_then ?_
       refine wc_region ?_
       refine wl_v rfl rfl (ov_bin _ rfl rfl (binR_add (r := ((k : Int)) + 1) (Sx.w64 (by omega)))) ?_
       refine wl_v rfl rfl (ov_move _ rfl) ?_
       refine wl_nil ?_
       have e_ : (((bytesOf (accA s a k).1)) ++ bytesOf ((s).extract (((accA s a k).2 : Int).toNat) ((((a).getD k z33).f0 : Int).toNat))) ++ bytesOf (((a).getD k z33).f2) = (bytesOf (accA s a (k + 1)).1) := by (show _ = bytesOf ((accA s a k).1 ++ s.extract _ _ ++ (ge a k).f2); rw [bytes_app, bytes_app])
       replace h := st_cast (congrArg (fun z_ => ([Sx.blk b6 [.int .i64 (((a).getD k z33).f0), .int .i64 (((a).getD k z33).f1), .string (((a).getD k z33).f2)] 33, Sx.row (Kd.int .u8) 5 (A22) (cp23) (z_)] ++ R)) e_) h
       clear e_
       replace h := st_front 1 h
       replace h := st_selT [true, false] h
       refine qn_next ((k + 1), A22, cp23) (by show a.length - (k + 1) < a.length - k; omega) ⟨rfl, (congrArg (fun z_ => some (Value.slice (some ad2) z_ (ca))) (show (a.length : Nat) = a.length by first | rfl | simp)), (congrArg (fun z_ => some (Value.slice (A22) z_ (cp23))) (by show _ = (bytesOf ((accA s a k).1 ++ s.extract _ _ ++ (ge a k).f2)).length; rw [bytes_app, bytes_app])), (congrArg (fun z_ => some (Value.int .i64 z_)) (show (((a).getD k z33).f1 : Int) = (accA s a (k + 1)).2 by rfl)), (congrArg (fun z_ => some (Value.slice (some ad2) z_ (ca))) (show (a.length : Nat) = a.length by first | rfl | simp)), rfl, (congrArg (fun z_ => some (Value.int .i64 z_)) (show (((k : Int)) + 1 : Int) = ((k + 1) : Int) by omega)), trivial⟩ ?_
       show ((k + 1) ≤ a.length ∧ ∀ j, j < (k + 1) → OkAt s.size a j) ∧ _
       have hk_ : OkAt s.size a k := by
         unfold OkAt
         exact ⟨by omega, by omega, by omega, fun h0_ => by omega⟩
       exact ⟨⟨by omega, fun j_ hj_ => by
         rcases Nat.lt_succ_iff_lt_or_eq.1 hj_ with z_ | rfl
         · exact hJ.2 j_ z_
         · exact hk_⟩, h⟩
     ·
      refine wa_sk 22 rfl rfl rfl (st_selT [true, true] h) ?_
      refine wa_sk 23 rfl rfl rfl (st_selT [true, true] h) ?_
      refine wa_sk 24 rfl rfl rfl (st_selT [true, true] h) ?_
      refine wa_sk 25 rfl rfl rfl (st_selT [true, true] h) ?_
      refine wa_tk 26 rfl rfl rfl (st_selT [true, true] h) (fun w_ hS => ov_pick_false _ rfl rfl) ?_
      refine wa_tk 27 rfl rfl rfl (st_selT [true, true] h) (fun w_ hS => ov_move _ rfl) ?_
      refine wa_sk 28 rfl rfl rfl (st_selT [true, true] h) ?_
      refine wa_sk 29 rfl rfl rfl (st_selT [true, true] h) ?_
      refine wa_sk 30 rfl rfl rfl (st_selT [true, true] h) ?_
      refine wa_sk 31 rfl rfl rfl (st_selT [true, true] h) ?_
      refine wa_sk 32 rfl rfl rfl (st_selT [true, true] h) ?_
      refine wa_sk 33 rfl rfl rfl (st_selT [true, true] h) ?_
      refine wa_sk 34 rfl rfl rfl (st_selT [true, true] h) ?_
      refine wa_sk 35 rfl rfl rfl (st_selT [true, true] h) ?_
      refine wa_sk 36 rfl rfl rfl (st_selT [true, true] h) ?_
      refine wa_tk 37 rfl rfl rfl (st_selT [true, true] h) (fun w_ hS => ov_pick_false _ rfl rfl) ?_
      refine wa_tk 38 rfl rfl rfl (st_selT [true, true] h) (fun w_ hS => ov_pick_false _ rfl rfl) ?_
      refine wa_done (by kernel_rfl) ?_
      refine qn_then ?_
      refine wc_cond_false rfl ?_
      refine wc_skip ?_
      refine qn_then ?_
      refine wc_seq ?_
      refine wc_region ?_
      refine wl_v rfl rfl (ov_move _ rfl) ?_
      refine wl_v rfl rfl (ov_move _ rfl) ?_
      refine wl_v rfl rfl (ov_move _ rfl) ?_
      refine wl_v rfl rfl (ov_fieldAddr _ ⟨b6, 0, none⟩ _ rfl fo33_0 rfl) ?_
      refine wl_v rfl rfl (ov_loadb 0 _ h rfl rfl sh3 rfl) ?_
      refine wl_v rfl rfl (ov_slices _ (((accA s a k).2 : Int).toNat) ((((a).getD k z33).f0 : Int).toNat) (by rfl) (by exact ⟨_, _, rfl, (by omega)⟩) (by exact ⟨_, _, rfl, (by omega)⟩) Try.underlying9 (by omega) (by omega)) ?_
      refine wl_appends (L := (bytesOf (accA s a k).1)) 1 _ h rfl rfl rfl rfl rfl Try.underlying56 Try.underlying9 inf5 (by first | omega | (simp only [List.length_append, bytes_len, ByteArray.size_extract]; omega)) (by first | rfl | simp) (fun A24 cp25 _ h => ?_)
      refine wl_v rfl rfl (ov_assign _ rfl) ?_
      refine wl_nil ?_
      refine qn_then ?_
      refine wc_seq ?_
      refine wc_region ?_
      refine wl_v rfl rfl (ov_move _ rfl) ?_
      refine wl_v rfl rfl (ov_fieldAddr _ ⟨b6, 2, none⟩ _ rfl fo33_2 rfl) ?_
      refine wl_v rfl rfl (ov_loadb 0 _ h rfl rfl sh9 rfl) ?_
      refine wl_appends (L := ((bytesOf (accA s a k).1)) ++ bytesOf ((s).extract (((accA s a k).2 : Int).toNat) ((((a).getD k z33).f0 : Int).toNat))) 1 _ h rfl rfl rfl rfl rfl Try.underlying56 Try.underlying9 inf5 (by first | omega | (simp only [List.length_append, bytes_len, ByteArray.size_extract]; omega)) (by first | rfl | simp) (fun A26 cp27 _ h => ?_)
      refine wl_v rfl rfl (ov_assign _ rfl) ?_
      refine wl_nil ?_
      refine qn_then ?_
      refine wc_region ?_
      refine wl_v rfl rfl (ov_fieldAddr _ ⟨b6, 1, none⟩ _ rfl fo33_1 rfl) ?_
      refine wl_v rfl rfl (ov_loadb 0 _ h rfl rfl sh3 rfl) ?_
      refine wl_v rfl rfl (ov_assign _ rfl) ?_
      refine wl_nil ?_
      refine qn_block_normal ?_
      refine qn_then ?_
      refine wc_region ?_
      refine wl_v rfl rfl (ov_bin _ rfl rfl (binR_add (r := ((k : Int)) + 1) (Sx.w64 (by omega)))) ?_
      refine wl_v rfl rfl (ov_move _ rfl) ?_
      refine wl_nil ?_
      have e_ : (((bytesOf (accA s a k).1)) ++ bytesOf ((s).extract (((accA s a k).2 : Int).toNat) ((((a).getD k z33).f0 : Int).toNat))) ++ bytesOf (((a).getD k z33).f2) = (bytesOf (accA s a (k + 1)).1) := by (show _ = bytesOf ((accA s a k).1 ++ s.extract _ _ ++ (ge a k).f2); rw [bytes_app, bytes_app])
      replace h := st_cast (congrArg (fun z_ => ([Sx.blk b6 [.int .i64 (((a).getD k z33).f0), .int .i64 (((a).getD k z33).f1), .string (((a).getD k z33).f2)] 33, Sx.row (Kd.int .u8) 5 (A26) (cp27) (z_)] ++ R)) e_) h
      clear e_
      replace h := st_front 1 h
      replace h := st_selT [true, false] h
      refine qn_next ((k + 1), A26, cp27) (by show a.length - (k + 1) < a.length - k; omega) ⟨rfl, (congrArg (fun z_ => some (Value.slice (some ad2) z_ (ca))) (show (a.length : Nat) = a.length by first | rfl | simp)), (congrArg (fun z_ => some (Value.slice (A26) z_ (cp27))) (by show _ = (bytesOf ((accA s a k).1 ++ s.extract _ _ ++ (ge a k).f2)).length; rw [bytes_app, bytes_app])), (congrArg (fun z_ => some (Value.int .i64 z_)) (show (((a).getD k z33).f1 : Int) = (accA s a (k + 1)).2 by rfl)), (congrArg (fun z_ => some (Value.slice (some ad2) z_ (ca))) (show (a.length : Nat) = a.length by first | rfl | simp)), rfl, (congrArg (fun z_ => some (Value.int .i64 z_)) (show (((k : Int)) + 1 : Int) = ((k + 1) : Int) by omega)), trivial⟩ ?_
      show ((k + 1) ≤ a.length ∧ ∀ j, j < (k + 1) → OkAt s.size a j) ∧ _
      have hk_ : OkAt s.size a k := by
        unfold OkAt
        exact ⟨by omega, by omega, by omega, fun h0_ => by omega⟩
      exact ⟨⟨by omega, fun j_ hj_ => by
        rcases Nat.lt_succ_iff_lt_or_eq.1 hj_ with z_ | rfl
        · exact hJ.2 j_ z_
        · exact hk_⟩, h⟩
 ·
  refine wc_exit ?_
  refine qn_then_exit ?_
  refine qn_then_exit ?_
  refine qn_block_exit ?_
  refine qn_then ?_
  refine wc_seq ?_
  refine wc_region ?_
  refine wl_v rfl rfl (ov_move _ rfl) ?_
  refine wl_v rfl rfl (ov_move _ rfl) ?_
  refine wl_v rfl rfl (ov_move _ rfl) ?_
  refine wl_v rfl rfl (ov_slices _ (((accA s a k).2 : Int).toNat) ((s).size) (by rfl) (by exact ⟨_, _, rfl, (by omega)⟩) (by exact rfl) Try.underlying9 (by omega) (by omega)) ?_
  refine wl_appends (L := (bytesOf (accA s a k).1)) 0 _ h rfl rfl rfl rfl rfl Try.underlying56 Try.underlying9 inf5 (by first | omega | (simp only [List.length_append, bytes_len, ByteArray.size_extract]; omega)) (by first | rfl | simp) (fun A28 cp29 _ h => ?_)
  refine wl_v rfl rfl (ov_string rfl ((Sx.row_reads h (i := 0) rfl).2) Try.underlying56 Try.underlying5 Try.underlying9) ?_
  refine wl_v rfl rfl (ov_assign _ rfl) ?_
  refine wl_v rfl rfl (ov_assign _ rfl) ?_
  refine wl_nil ?_
  refine qn_then ?_
  refine wc_ret ?_
  replace h := st_selT [false] h
  refine qn_ret [_, _] ⟨rfl, rfl, trivial⟩ ?_
  have e_ := apply_some (s := s) (k := k) (by omega) hJ.1 hJ.2
  rw [e_]
  exact ⟨by show Ending.returned (Value.tuple #[.string (strOfNums _), _]) = _; rw [← bytes_app, str_bytes]; rfl, h⟩
set_option maxHeartbeats 4000000 in
set_option maxRecDepth 100000 in
theorem Count_calls {w0 w : World} {F0 : Nat → Prop} {R : List Sx.HP} (s : ByteArray) (hs : s.size ≤ 1099511627776) (h : Sx.St w0 F0 ([] ++ R) w) : Calls Try.prog 31 #[.string (s)] w (fun e w1 => e = .returned (.int .i64 ((runesV s).length : Int)) ∧ Sx.St w0 F0 R w1) := by
 refine Sx.calls_fn (vs := [.string (s)]) Try.func31 rfl Try.ntmps31 rfl ?_
 refine wc_seq ?_
 refine wc_region ?_
 refine wl_v rfl rfl (ov_assign _ rfl) ?_
 refine wl_nil ?_
 refine qn_then ?_
 refine wc_seq ?_
 refine wc_region ?_
 refine wl_v rfl rfl (ov_assign _ rfl) ?_
 refine wl_nil ?_
 refine qn_then ?_
 refine wc_seq ?_
 refine wc_seq ?_
 refine wc_region ?_
 refine wl_v rfl rfl (ov_move _ rfl) ?_
 refine wl_range _ h rfl rfl rfl Try.underlying9 (fun b1 _ h => ?_)
 refine wl_nil ?_
 refine qn_then ?_
 refine wc_block ?_
 refine wc_loop (fun (x_ : Nat × (List (Nat × Nat))) => [(3, .int .i64 (((x_.2).length : Int))), (5, .pointer (some ⟨b1, 0, none⟩))]) (fun (x_ : Nat × (List (Nat × Nat))) (w : World) => (x_.2 ++ decs s s.size x_.1 = runesV s ∧ (x_.2).length ≤ x_.1) ∧ Sx.St w0 F0 ([Sx.siter b1 (s) (x_.1)] ++ R) w) (fun (x_ : Nat × (List (Nat × Nat))) => s.size - x_.1) (0, []) ?_ ?_ ?_
 · exact ⟨(congrArg (fun z_ => some (Value.int .i64 z_)) (show (0 : Int) = (([]).length : Int) by rfl)), rfl, trivial⟩
 · exact ⟨⟨rfl, Nat.le_refl _⟩, h⟩
 rintro ⟨p, l⟩ w h
 obtain ⟨hJ, h⟩ := h
 replace hJ : l ++ decs s s.size p = runesV s ∧ (l).length ≤ p := hJ
 replace h : Sx.St w0 F0 ([Sx.siter b1 (s) (p)] ++ R) w := h
 show Sx.WC _ _ _ _ [(3, .int .i64 (((l).length : Int))), (5, .pointer (some ⟨b1, 0, none⟩))] _
 have hll_ : l.length ≤ s.size := by have q_ := runes_le s; rw [← hJ.1, List.length_append] at q_; omega
 refine wc_seq ?_
 refine wc_region ?_
 refine wl_next (i := 0) h rfl rfl rfl rfl (fun c2 _ h => ?_) (fun c2 _ h => ?_)
 ·
  have hp_ : p < s.size := c2
  have hdp_ := dec_pos s p hp_
  refine wl_v rfl rfl (ov_extract [.bool true, .int .i64 ((((p : Nat)) : Int)), .int .i32 ((((Utf8.decode (s) (p)).1 : Nat) : Int))] _ rfl rfl) ?_
  refine wl_nil ?_
  refine qn_then ?_
  refine wc_seq ?_
  refine wc_cond_true rfl ?_
  refine wc_skip ?_
  refine qn_then ?_
  refine wc_block ?_
  refine wc_region ?_
  refine wl_v rfl rfl (ov_move _ rfl) ?_
  refine wl_v rfl rfl (ov_bin _ rfl rfl (binR_add (r := (((l).length : Int)) + 1) (Sx.w64 (by omega)))) ?_
  refine wl_v rfl rfl (ov_assign _ rfl) ?_
  refine wl_nil ?_
  refine qn_block_normal ?_
  refine qn_next ((p + (Utf8.decode (s) (p)).2), (l ++ [(p, (Utf8.decode (s) (p)).1)])) (by show s.size - (p + (Utf8.decode (s) (p)).2) < s.size - p; omega) ⟨(congrArg (fun z_ => some (Value.int .i64 z_)) (show ((((l).length : Int)) + 1 : Int) = (((l ++ [(p, (Utf8.decode (s) (p)).1)])).length : Int) by simp)), rfl, trivial⟩ ?_
  show ((l ++ [(p, (Utf8.decode (s) (p)).1)]) ++ decs s s.size (p + (Utf8.decode (s) (p)).2) = runesV s ∧ ((l ++ [(p, (Utf8.decode (s) (p)).1)])).length ≤ (p + (Utf8.decode (s) (p)).2)) ∧ _
  exact ⟨⟨by rw [List.append_assoc]; rw [decs_step s p hp_] at hJ; exact hJ.1, by simp only [List.length_append, List.length_cons, List.length_nil]; omega⟩, h⟩
 ·
  refine wl_v rfl rfl (ov_extract [.bool false] _ rfl rfl) ?_
  refine wl_nil ?_
  refine qn_then ?_
  refine wc_seq ?_
  refine wc_cond_false rfl ?_
  refine wc_exit ?_
  refine qn_then_exit ?_
  refine qn_then_exit ?_
  refine qn_block_exit ?_
  refine qn_then ?_
  refine wc_seq ?_
  refine wc_region ?_
  refine wl_v rfl rfl (ov_move _ rfl) ?_
  refine wl_v rfl rfl (ov_assign _ rfl) ?_
  refine wl_nil ?_
  refine qn_then ?_
  refine wc_ret ?_
  have hl_ : l = runesV s := by
    have hj_ := hJ.1
    rwa [decs_end s p (by assumption), List.append_nil] at hj_
  replace h := st_selT [false] h
  refine qn_ret [_] ⟨rfl, trivial⟩ ?_
  exact ⟨by rw [← hl_]; rfl, h⟩
set_option maxHeartbeats 4000000 in
set_option maxRecDepth 100000 in
theorem Cost_calls {w0 w : World} {F0 : Nat → Prop} {R : List Sx.HP} {v0 : World} (s : ByteArray) (a : List Edit) (Aa : Option Addr) (ca : Nat) (hv : Sx.RO v0 w0 F0) (hla : a.length ≤ ca) (hCa : k33.C v0 Aa a.length a) (hs : s.size ≤ 100000) (hn : a.length ≤ 1000000) (hF : ∀ e ∈ a, e.f2.size ≤ 100000) (h : Sx.St w0 F0 ([] ++ R) w) : Calls Try.prog 20 #[.string (s), .slice (Aa) (a.length) (ca)] w (fun e w1 => e = .returned (.int .i64 (costV s a)) ∧ Sx.St w0 F0 R w1) := by
 refine Sx.calls_fn (vs := [.string (s), .slice (Aa) (a.length) (ca)]) Try.func20 rfl Try.ntmps20 rfl ?_
 refine wc_seq ?_
 refine wc_region ?_
 refine wl_v rfl rfl (ov_assign _ rfl) ?_
 refine wl_nil ?_
 refine qn_then ?_
 refine wc_seq ?_
 refine wc_region ?_
 refine wl_v rfl rfl (ov_assign _ rfl) ?_
 refine wl_nil ?_
 refine qn_then ?_
 refine wc_seq ?_
 refine wc_seq ?_
 refine wc_region ?_
 refine wl_v rfl rfl (ov_move _ rfl) ?_
 refine wl_v rfl rfl (ov_len _ _ _ _ _ rfl es22) ?_
 refine wl_v rfl rfl (ov_move _ rfl) ?_
 refine wl_nil ?_
 refine qn_then ?_
 refine wc_block ?_
 refine wc_loop (fun (x_ : Nat) => [(0, .string (s)), (5, .int .i64 (costN s a x_)), (8, .slice (Aa) (a.length) (ca)), (9, .int .i64 ((a.length : Int))), (10, .int .i64 ((x_ : Int)))]) (fun (x_ : Nat) (w : World) => (x_ ≤ a.length) ∧ Sx.St w0 F0 ([] ++ R) w) (fun (x_ : Nat) => a.length - x_) (0) ?_ ?_ ?_
 · exact ⟨rfl, (congrArg (fun z_ => some (Value.int .i64 z_)) (show (0 : Int) = costN s a 0 by rfl)), rfl, (congrArg (fun z_ => some (Value.int .i64 z_)) (show (((a.length : Nat) : Int) : Int) = (a.length : Int) by omega)), (congrArg (fun z_ => some (Value.int .i64 z_)) (show (0 : Int) = (0 : Int) by omega)), trivial⟩
 · exact ⟨Nat.zero_le _, h⟩
 intro k w h
 obtain ⟨hJ, h⟩ := h
 replace hJ : k ≤ a.length := hJ
 replace h : Sx.St w0 F0 ([] ++ R) w := h
 show Sx.WC _ _ _ _ [(0, .string (s)), (5, .int .i64 (costN s a k)), (8, .slice (Aa) (a.length) (ca)), (9, .int .i64 ((a.length : Int))), (10, .int .i64 ((k : Int)))] _
 have hro_ := costN_room s a hs hn hF k hJ
 refine wc_seq ?_
 refine wc_region ?_
 refine wl_v rfl rfl (ov_bin _ rfl rfl (binR_lss)) ?_
 refine wl_nil ?_
 refine qn_then ?_
 refine wc_seq ?_
 refine wc_cond (by rfl) (fun c1 => ?_) (fun c1 => ?_)
 ·
  have hft_ : (a.getD k z33).f2.size ≤ 100000 := hF _ (ge_mem (by omega))
  refine wc_skip ?_
  refine qn_then ?_
  refine wc_seq ?_
  refine wc_block ?_
  refine wc_seq ?_
  refine wc_region ?_
  obtain ⟨ad2, rfl⟩ := Sx.C_some ((Sx.ro_C hv h hCa)) (k := k) (by first | assumption | omega)
  refine wl_v rfl rfl (ov_indexAddrN _ _ _ _ _ k rfl rfl es22 rfl (by first | assumption | omega | (simp only [List.length_take, List.length_drop, List.length_set]; omega))) ?_
  obtain ⟨cl5, _, hk4, hc3⟩ := Sx.C_cells (hCa) (z := z33) (k := k) (by first | assumption | omega)
  obtain rfl := k33_open hk4
  refine wl_v rfl rfl (ov_loadN _ [.int .i64 (((a).getD k z33).f0), .int .i64 (((a).getD k z33).f1), .string (((a).getD k z33).f2)] rfl sh33 (by intro j u hu; rw [Deep.add_add]; exact Sx.ro_cell hv h (hc3 _ _ hu))) ?_
  refine wl_alloc _ h rfl rfl zo33 (fun b6 _ h => ?_)
  replace h : Sx.St _ _ (Sx.blk b6 [.int .i64 (0), .int .i64 (0), .string (ByteArray.empty)] 33 :: _) _ := h
  refine wl_storebN 0 [.int .i64 (((a).getD k z33).f0), .int .i64 (((a).getD k z33).f1), .string (((a).getD k z33).f2)] [.int .i64 (((a).getD k z33).f0), .int .i64 (((a).getD k z33).f1), .string (((a).getD k z33).f2)] h rfl rfl rfl rfl (by simp [Value.oneCell']) sh33 rfl rfl (fun _ h => ?_)
  refine wl_nil ?_
  refine qn_then ?_
  refine wc_seq ?_
  refine wc_seq ?_
  refine wc_region ?_
  refine wl_v rfl rfl (ov_fieldAddr _ ⟨b6, 0, none⟩ _ rfl fo33_0 rfl) ?_
  refine wl_v rfl rfl (ov_loadb 0 _ h rfl rfl sh3 rfl) ?_
  refine wl_v rfl rfl (ov_bin _ rfl rfl (binR_geq)) ?_
  refine wl_v rfl rfl (ov_move _ rfl) ?_
  refine wl_split 17 rfl (fun c7 => ?_) (fun c7 => ?_)
  ·
   refine wl_v rfl rfl (ov_fieldAddr _ ⟨b6, 0, none⟩ _ rfl fo33_0 rfl) ?_
   refine wl_v rfl rfl (ov_loadb 0 _ h rfl rfl sh3 rfl) ?_
   refine wl_v rfl rfl (ov_fieldAddr _ ⟨b6, 1, none⟩ _ rfl fo33_1 rfl) ?_
   refine wl_v rfl rfl (ov_loadb 0 _ h rfl rfl sh3 rfl) ?_
   refine wl_v rfl rfl (ov_bin _ rfl rfl (binR_leq)) ?_
   refine wl_v rfl rfl (ov_pick_true _ rfl rfl) ?_
   refine wl_v rfl rfl (ov_move _ rfl) ?_
   refine wl_split 24 rfl (fun c8 => ?_) (fun c8 => ?_)
   ·
    refine wl_v rfl rfl (ov_fieldAddr _ ⟨b6, 1, none⟩ _ rfl fo33_1 rfl) ?_
    refine wl_v rfl rfl (ov_loadb 0 _ h rfl rfl sh3 rfl) ?_
    refine wl_v rfl rfl (ov_move _ rfl) ?_
    refine wl_v rfl rfl (ov_lens _ rfl Try.underlying9) ?_
    refine wl_v rfl rfl (ov_bin _ rfl rfl (binR_leq)) ?_
    refine wl_v rfl rfl (ov_pick_true _ rfl rfl) ?_
    refine wl_nil ?_
    refine qn_then ?_
    refine wc_cond (by rfl) (fun c9 => ?_) (fun c9 => ?_)
    ·
     refine wc_region ?_
     refine wl_v rfl rfl (ov_move _ rfl) ?_
     refine wl_v rfl rfl (ov_move _ rfl) ?_
     refine wl_v rfl rfl (ov_fieldAddr _ ⟨b6, 0, none⟩ _ rfl fo33_0 rfl) ?_
     refine wl_v rfl rfl (ov_loadb 0 _ h rfl rfl sh3 rfl) ?_
     refine wl_v rfl rfl (ov_fieldAddr _ ⟨b6, 1, none⟩ _ rfl fo33_1 rfl) ?_
     refine wl_v rfl rfl (ov_loadb 0 _ h rfl rfl sh3 rfl) ?_
     refine wl_v rfl rfl (ov_slices _ ((((a).getD k z33).f0 : Int).toNat) ((((a).getD k z33).f1 : Int).toNat) (by rfl) (by exact ⟨_, _, rfl, (by omega)⟩) (by exact ⟨_, _, rfl, (by omega)⟩) Try.underlying9 (by omega) (by omega)) ?_
     have hrc_ := runes_le ((s).extract ((((a).getD k z33).f0 : Int).toNat) ((((a).getD k z33).f1 : Int).toNat))
     rw [ByteArray.size_extract] at hrc_
     refine wl_call _ rfl rfl rfl ent31 (A.Count_calls (R := [Sx.blk b6 [.int .i64 (((a).getD k z33).f0), .int .i64 (((a).getD k z33).f1), .string (((a).getD k z33).f2)] 33] ++ R) ((s).extract ((((a).getD k z33).f0 : Int).toNat) ((((a).getD k z33).f1 : Int).toNat)) (by first | omega | (rw [ByteArray.size_extract]; omega)) h) ?_
     rintro e_ w_ ⟨rfl, h⟩
     refine ⟨_, rfl, ?_⟩
     refine wl_v rfl rfl (ov_bin _ rfl rfl (binR_add (r := (costN s a k) + (((runesV ((s).extract ((((a).getD k z33).f0 : Int).toNat) ((((a).getD k z33).f1 : Int).toNat))).length : Int))) (Sx.w64 (by omega)))) ?_
     refine wl_v rfl rfl (ov_assign _ rfl) ?_
     refine wl_nil ?_
     refine qn_then ?_
     refine wc_region ?_
     refine wl_v rfl rfl (ov_move _ rfl) ?_
     refine wl_v rfl rfl (ov_fieldAddr _ ⟨b6, 2, none⟩ _ rfl fo33_2 rfl) ?_
     refine wl_v rfl rfl (ov_loadb 0 _ h rfl rfl sh9 rfl) ?_
     have hrc_ := runes_le (((a).getD k z33).f2)
     refine wl_call _ rfl rfl rfl ent31 (A.Count_calls (R := [Sx.blk b6 [.int .i64 (((a).getD k z33).f0), .int .i64 (((a).getD k z33).f1), .string (((a).getD k z33).f2)] 33] ++ R) (((a).getD k z33).f2) (by first | omega | (rw [ByteArray.size_extract]; omega)) h) ?_
     rintro e_ w_ ⟨rfl, h⟩
     refine ⟨_, rfl, ?_⟩
     refine wl_v rfl rfl (ov_bin _ rfl rfl (binR_add (r := ((costN s a k) + (((runesV ((s).extract ((((a).getD k z33).f0 : Int).toNat) ((((a).getD k z33).f1 : Int).toNat))).length : Int))) + (((runesV (((a).getD k z33).f2)).length : Int))) (Sx.w64 (by omega)))) ?_
     refine wl_v rfl rfl (ov_assign _ rfl) ?_
     refine wl_nil ?_
     refine qn_block_normal ?_
     refine qn_then ?_
     refine wc_region ?_
     refine wl_v rfl rfl (ov_bin _ rfl rfl (binR_add (r := ((k : Int)) + 1) (Sx.w64 (by omega)))) ?_
     refine wl_v rfl rfl (ov_move _ rfl) ?_
     refine wl_nil ?_
     replace h := st_selT [false] h
     refine qn_next ((k + 1)) (by show a.length - (k + 1) < a.length - k; omega) ⟨rfl, (congrArg (fun z_ => some (Value.int .i64 z_)) (show (((costN s a k) + (((runesV ((s).extract ((((a).getD k z33).f0 : Int).toNat) ((((a).getD k z33).f1 : Int).toNat))).length : Int))) + (((runesV (((a).getD k z33).f2)).length : Int)) : Int) = costN s a (k + 1) by (have e_ : costN s a (k + 1) = costN s a k + cost1 s (ge a k) := rfl; rw [e_]; unfold cost1; dsimp only [ge]; split <;> omega))), (congrArg (fun z_ => some (Value.slice (some ad2) z_ (ca))) (show (a.length : Nat) = a.length by first | rfl | simp)), rfl, (congrArg (fun z_ => some (Value.int .i64 z_)) (show (((k : Int)) + 1 : Int) = ((k + 1) : Int) by omega)), trivial⟩ ?_
     show ((k + 1) ≤ a.length) ∧ _
     exact ⟨by omega, h⟩
    ·
     refine wc_skip ?_
     refine qn_then ?_
     refine wc_region ?_
     refine wl_v rfl rfl (ov_move _ rfl) ?_
     refine wl_v rfl rfl (ov_fieldAddr _ ⟨b6, 2, none⟩ _ rfl fo33_2 rfl) ?_
     refine wl_v rfl rfl (ov_loadb 0 _ h rfl rfl sh9 rfl) ?_
     have hrc_ := runes_le (((a).getD k z33).f2)
     refine wl_call _ rfl rfl rfl ent31 (A.Count_calls (R := [Sx.blk b6 [.int .i64 (((a).getD k z33).f0), .int .i64 (((a).getD k z33).f1), .string (((a).getD k z33).f2)] 33] ++ R) (((a).getD k z33).f2) (by first | omega | (rw [ByteArray.size_extract]; omega)) h) ?_
     rintro e_ w_ ⟨rfl, h⟩
     refine ⟨_, rfl, ?_⟩
     refine wl_v rfl rfl (ov_bin _ rfl rfl (binR_add (r := (costN s a k) + (((runesV (((a).getD k z33).f2)).length : Int))) (Sx.w64 (by omega)))) ?_
     refine wl_v rfl rfl (ov_assign _ rfl) ?_
     refine wl_nil ?_
     refine qn_block_normal ?_
     refine qn_then ?_
     refine wc_region ?_
     refine wl_v rfl rfl (ov_bin _ rfl rfl (binR_add (r := ((k : Int)) + 1) (Sx.w64 (by omega)))) ?_
     refine wl_v rfl rfl (ov_move _ rfl) ?_
     refine wl_nil ?_
     replace h := st_selT [false] h
     refine qn_next ((k + 1)) (by show a.length - (k + 1) < a.length - k; omega) ⟨rfl, (congrArg (fun z_ => some (Value.int .i64 z_)) (show ((costN s a k) + (((runesV (((a).getD k z33).f2)).length : Int)) : Int) = costN s a (k + 1) by (have e_ : costN s a (k + 1) = costN s a k + cost1 s (ge a k) := rfl; rw [e_]; unfold cost1; dsimp only [ge]; split <;> omega))), (congrArg (fun z_ => some (Value.slice (some ad2) z_ (ca))) (show (a.length : Nat) = a.length by first | rfl | simp)), rfl, (congrArg (fun z_ => some (Value.int .i64 z_)) (show (((k : Int)) + 1 : Int) = ((k + 1) : Int) by omega)), trivial⟩ ?_
     show ((k + 1) ≤ a.length) ∧ _
     exact ⟨by omega, h⟩
   ·
    refine wl_skip rfl rfl ?_
    refine wl_skip rfl rfl ?_
    refine wl_skip rfl rfl ?_
    refine wl_skip rfl rfl ?_
    refine wl_skip rfl rfl ?_
    refine wl_v rfl rfl (ov_pick_false _ rfl rfl) ?_
    refine wl_nil ?_
    refine qn_then ?_
    refine wc_cond_false rfl ?_
    refine wc_skip ?_
    refine qn_then ?_
    refine wc_region ?_
    refine wl_v rfl rfl (ov_move _ rfl) ?_
    refine wl_v rfl rfl (ov_fieldAddr _ ⟨b6, 2, none⟩ _ rfl fo33_2 rfl) ?_
    refine wl_v rfl rfl (ov_loadb 0 _ h rfl rfl sh9 rfl) ?_
    have hrc_ := runes_le (((a).getD k z33).f2)
    refine wl_call _ rfl rfl rfl ent31 (A.Count_calls (R := [Sx.blk b6 [.int .i64 (((a).getD k z33).f0), .int .i64 (((a).getD k z33).f1), .string (((a).getD k z33).f2)] 33] ++ R) (((a).getD k z33).f2) (by first | omega | (rw [ByteArray.size_extract]; omega)) h) ?_
    rintro e_ w_ ⟨rfl, h⟩
    refine ⟨_, rfl, ?_⟩
    refine wl_v rfl rfl (ov_bin _ rfl rfl (binR_add (r := (costN s a k) + (((runesV (((a).getD k z33).f2)).length : Int))) (Sx.w64 (by omega)))) ?_
    refine wl_v rfl rfl (ov_assign _ rfl) ?_
    refine wl_nil ?_
    refine qn_block_normal ?_
    refine qn_then ?_
    refine wc_region ?_
    refine wl_v rfl rfl (ov_bin _ rfl rfl (binR_add (r := ((k : Int)) + 1) (Sx.w64 (by omega)))) ?_
    refine wl_v rfl rfl (ov_move _ rfl) ?_
    refine wl_nil ?_
    replace h := st_selT [false] h
    refine qn_next ((k + 1)) (by show a.length - (k + 1) < a.length - k; omega) ⟨rfl, (congrArg (fun z_ => some (Value.int .i64 z_)) (show ((costN s a k) + (((runesV (((a).getD k z33).f2)).length : Int)) : Int) = costN s a (k + 1) by (have e_ : costN s a (k + 1) = costN s a k + cost1 s (ge a k) := rfl; rw [e_]; unfold cost1; dsimp only [ge]; split <;> omega))), (congrArg (fun z_ => some (Value.slice (some ad2) z_ (ca))) (show (a.length : Nat) = a.length by first | rfl | simp)), rfl, (congrArg (fun z_ => some (Value.int .i64 z_)) (show (((k : Int)) + 1 : Int) = ((k + 1) : Int) by omega)), trivial⟩ ?_
    show ((k + 1) ≤ a.length) ∧ _
    exact ⟨by omega, h⟩
  ·
   refine wl_skip rfl rfl ?_
   refine wl_skip rfl rfl ?_
   refine wl_skip rfl rfl ?_
   refine wl_skip rfl rfl ?_
   refine wl_skip rfl rfl ?_
   refine wl_v rfl rfl (ov_pick_false _ rfl rfl) ?_
   refine wl_v rfl rfl (ov_move _ rfl) ?_
   refine wl_skip rfl rfl ?_
   refine wl_skip rfl rfl ?_
   refine wl_skip rfl rfl ?_
   refine wl_skip rfl rfl ?_
   refine wl_skip rfl rfl ?_
   refine wl_v rfl rfl (ov_pick_false _ rfl rfl) ?_
   refine wl_nil ?_
   refine qn_then ?_
   refine wc_cond_false rfl ?_
   refine wc_skip ?_
   refine qn_then ?_
   refine wc_region ?_
   refine wl_v rfl rfl (ov_move _ rfl) ?_
   refine wl_v rfl rfl (ov_fieldAddr _ ⟨b6, 2, none⟩ _ rfl fo33_2 rfl) ?_
   refine wl_v rfl rfl (ov_loadb 0 _ h rfl rfl sh9 rfl) ?_
   have hrc_ := runes_le (((a).getD k z33).f2)
   refine wl_call _ rfl rfl rfl ent31 (A.Count_calls (R := [Sx.blk b6 [.int .i64 (((a).getD k z33).f0), .int .i64 (((a).getD k z33).f1), .string (((a).getD k z33).f2)] 33] ++ R) (((a).getD k z33).f2) (by first | omega | (rw [ByteArray.size_extract]; omega)) h) ?_
   rintro e_ w_ ⟨rfl, h⟩
   refine ⟨_, rfl, ?_⟩
   refine wl_v rfl rfl (ov_bin _ rfl rfl (binR_add (r := (costN s a k) + (((runesV (((a).getD k z33).f2)).length : Int))) (Sx.w64 (by omega)))) ?_
   refine wl_v rfl rfl (ov_assign _ rfl) ?_
   refine wl_nil ?_
   refine qn_block_normal ?_
   refine qn_then ?_
   refine wc_region ?_
   refine wl_v rfl rfl (ov_bin _ rfl rfl (binR_add (r := ((k : Int)) + 1) (Sx.w64 (by omega)))) ?_
   refine wl_v rfl rfl (ov_move _ rfl) ?_
   refine wl_nil ?_
   replace h := st_selT [false] h
   refine qn_next ((k + 1)) (by show a.length - (k + 1) < a.length - k; omega) ⟨rfl, (congrArg (fun z_ => some (Value.int .i64 z_)) (show ((costN s a k) + (((runesV (((a).getD k z33).f2)).length : Int)) : Int) = costN s a (k + 1) by (have e_ : costN s a (k + 1) = costN s a k + cost1 s (ge a k) := rfl; rw [e_]; unfold cost1; dsimp only [ge]; split <;> omega))), (congrArg (fun z_ => some (Value.slice (some ad2) z_ (ca))) (show (a.length : Nat) = a.length by first | rfl | simp)), rfl, (congrArg (fun z_ => some (Value.int .i64 z_)) (show (((k : Int)) + 1 : Int) = ((k + 1) : Int) by omega)), trivial⟩ ?_
   show ((k + 1) ≤ a.length) ∧ _
   exact ⟨by omega, h⟩
 ·
  refine wc_exit ?_
  refine qn_then_exit ?_
  refine qn_then_exit ?_
  refine qn_block_exit ?_
  refine qn_then ?_
  refine wc_seq ?_
  refine wc_region ?_
  refine wl_v rfl rfl (ov_move _ rfl) ?_
  refine wl_v rfl rfl (ov_assign _ rfl) ?_
  refine wl_nil ?_
  refine qn_then ?_
  refine wc_ret ?_
  refine qn_ret [_] ⟨rfl, trivial⟩ ?_
  obtain rfl : k = a.length := by omega
  exact ⟨rfl, h⟩
set_option maxHeartbeats 4000000 in
set_option maxRecDepth 100000 in
theorem Three_calls {w0 w : World} {F0 : Nat → Prop} {R : List Sx.HP} (s a b : ByteArray) (hs : s.size ≤ 100000) (ha : a.size ≤ 100000) (hb : b.size ≤ 100000) (h : Sx.St w0 F0 ([] ++ R) w) : Calls Try.prog 15 #[.string (s), .string (a), .string (b)] w (fun e w1 => e = .returned (.tuple #[.string ((threeV s a b).getD ByteArray.empty), .bool (threeV s a b).isSome]) ∧ Sx.St w0 F0 R w1) := by
 refine Sx.calls_fn (vs := [.string (s), .string (a), .string (b)]) Try.func15 rfl Try.ntmps15 rfl ?_
 refine wc_seq ?_
 refine wc_region ?_
 refine wl_v rfl rfl (ov_assign _ rfl) ?_
 refine wl_v rfl rfl (ov_assign _ rfl) ?_
 refine wl_nil ?_
 refine qn_then ?_
 refine wc_seq ?_
 refine wc_region ?_
 refine wl_v rfl rfl (ov_move _ rfl) ?_
 refine wl_v rfl rfl (ov_move _ rfl) ?_
 refine wl_call _ rfl rfl rfl ent21 (D.Diff_calls (R := [] ++ R) (s) (a) (by first | omega | decide) (by first | omega | decide) h) ?_
 rintro e_ w_ ⟨Ay1, cy1, rfl, h⟩
 refine ⟨_, rfl, ?_⟩
 replace h : Sx.St w0 F0 ([Sx.row k33 33 (Ay1) (cy1) ((diffV (s) (a)))] ++ R) _ := h
 refine wl_v rfl rfl (ov_move _ rfl) ?_
 refine wl_v rfl rfl (ov_move _ rfl) ?_
 refine wl_call _ rfl rfl rfl ent21 (D.Diff_calls (R := [Sx.row k33 33 (Ay1) (cy1) ((diffV (s) (a)))] ++ R) (s) (b) (by first | omega | decide) (by first | omega | decide) h) ?_
 rintro e_ w_ ⟨Ay2, cy2, rfl, h⟩
 refine ⟨_, rfl, ?_⟩
 replace h : Sx.St w0 F0 ([Sx.row k33 33 (Ay2) (cy2) ((diffV (s) (b))), Sx.row k33 33 (Ay1) (cy1) ((diffV (s) (a)))] ++ R) _ := h
 refine wl_call _ rfl rfl rfl ent11 (E.Merge_calls (v0 := _) (w0 := _) (F0 := fun _ => False) (R := []) (diffV (s) (a)) (Ay1) (cy1) (diffV (s) (b)) (Ay2) (cy2) (Sx.ro_self _) ((Sx.row_reads h (i := 1) rfl).1) (Sx.row_reads h (i := 1) rfl).2 ((Sx.row_reads h (i := 0) rfl).1) (Sx.row_reads h (i := 0) rfl).2 (by first | omega | (have q1_ := (diff_small s a).1; have q2_ := (diff_small s b).1; omega)) (by first | omega | (have q1_ := (diff_small s a).1; have q2_ := (diff_small s b).1; omega)) (st_start _)) ?_
 rintro e_ w_ ⟨Ay3, cy3, rfl, h2_⟩
 refine ⟨_, rfl, ?_⟩
 replace h := st_rebase h h2_
 replace h : Sx.St w0 F0 ([Sx.row k33 33 (Ay3) (cy3) (((mergeV (diffV (s) (a)) (diffV (s) (b))).getD [])), Sx.row k33 33 (Ay2) (cy2) ((diffV (s) (b))), Sx.row k33 33 (Ay1) (cy1) ((diffV (s) (a)))] ++ R) _ := h
 refine wl_v rfl rfl (ov_move _ rfl) ?_
 refine wl_v rfl rfl (ov_extract [.slice (Ay3) (((mergeV (diffV (s) (a)) (diffV (s) (b))).getD []).length) (cy3), .bool ((mergeV (diffV (s) (a)) (diffV (s) (b))).isSome)] _ rfl rfl) ?_
 refine wl_v rfl rfl (ov_extract [.slice (Ay3) (((mergeV (diffV (s) (a)) (diffV (s) (b))).getD []).length) (cy3), .bool ((mergeV (diffV (s) (a)) (diffV (s) (b))).isSome)] _ rfl rfl) ?_
 refine wl_v rfl rfl (ov_assign _ rfl) ?_
 refine wl_v rfl rfl (ov_assign _ rfl) ?_
 refine wl_nil ?_
 refine qn_then ?_
 refine wc_seq ?_
 refine wc_seq ?_
 refine wc_region ?_
 refine wl_v rfl rfl (ov_move _ rfl) ?_
 refine wl_v rfl rfl (ov_notb _ rfl) ?_
 refine wl_nil ?_
 refine qn_then ?_
 refine wc_condb (by rfl) (fun c4 => ?_) (fun c4 => ?_)
 ·
  have hmn_ : (mergeV (diffV (s) (a)) (diffV (s) (b))) = none := by
    have q_ := c4
    cases hq_ : (mergeV (diffV (s) (a)) (diffV (s) (b))) with
    | none => rfl
    | some z_ => rw [hq_] at q_; simp at q_
  refine wc_seq ?_
  refine wc_region ?_
  refine wl_v rfl rfl (ov_assign _ rfl) ?_
  refine wl_v rfl rfl (ov_assign _ rfl) ?_
  refine wl_nil ?_
  refine qn_then ?_
  refine wc_ret ?_
  refine qn_then_ret ?_
  replace h := st_selT [false, false, false] h
  refine qn_ret [_, _] ⟨rfl, rfl, trivial⟩ ?_
  have e_ : threeV s a b = none := by unfold threeV; rw [hmn_]; rfl
  rw [e_]
  exact ⟨rfl, h⟩
 ·
  obtain ⟨l_, hl_⟩ : ∃ l_, (mergeV (diffV (s) (a)) (diffV (s) (b))) = some l_ := by
    have q_ := c4
    cases hq_ : (mergeV (diffV (s) (a)) (diffV (s) (b))) with
    | none => rw [hq_] at q_; simp at q_
    | some z_ => exact ⟨z_, rfl⟩
  have hms_ := merge_small hl_ (by omega) (by omega) (by omega)
  have hgd_ : (mergeV (diffV (s) (a)) (diffV (s) (b))).getD [] = l_ := by rw [hl_]; rfl
  rw [← hgd_] at hms_
  refine wc_skip ?_
  refine qn_then ?_
  refine wc_seq ?_
  refine wc_region ?_
  refine wl_v rfl rfl (ov_move _ rfl) ?_
  refine wl_v rfl rfl (ov_move _ rfl) ?_
  refine wl_call _ rfl rfl rfl ent23 (A.Apply_calls (v0 := _) (w0 := _) (F0 := fun _ => False) (R := []) (s) ((mergeV (diffV (s) (a)) (diffV (s) (b))).getD []) (Ay3) (cy3) (Sx.ro_self _) ((Sx.row_reads h (i := 0) rfl).1) (Sx.row_reads h (i := 0) rfl).2 (by omega) hms_.1 hms_.2 (st_start _)) ?_
  rintro e_ w_ ⟨rfl, h2_⟩
  refine ⟨_, rfl, ?_⟩
  replace h := st_below h (st_below0 h2_)
  refine wl_v rfl rfl (ov_move _ rfl) ?_
  refine wl_v rfl rfl (ov_extract [.string ((applyV (s) ((mergeV (diffV (s) (a)) (diffV (s) (b))).getD [])).getD ByteArray.empty), .int .i64 ((if (applyV (s) ((mergeV (diffV (s) (a)) (diffV (s) (b))).getD [])).isSome then 0 else 190))] _ rfl rfl) ?_
  refine wl_v rfl rfl (ov_extract [.string ((applyV (s) ((mergeV (diffV (s) (a)) (diffV (s) (b))).getD [])).getD ByteArray.empty), .int .i64 ((if (applyV (s) ((mergeV (diffV (s) (a)) (diffV (s) (b))).getD [])).isSome then 0 else 190))] _ rfl rfl) ?_
  refine wl_v rfl rfl (ov_assign _ rfl) ?_
  refine wl_v rfl rfl (ov_assign _ rfl) ?_
  refine wl_nil ?_
  refine qn_then ?_
  refine wc_seq ?_
  refine wc_region ?_
  refine wl_v rfl rfl (ov_move _ rfl) ?_
  refine wl_v rfl rfl (ov_move _ rfl) ?_
  refine wl_v rfl rfl (ov_bin _ rfl rfl (binR_eql)) ?_
  refine wl_v rfl rfl (ov_assign _ rfl) ?_
  refine wl_v rfl rfl (ov_assign _ rfl) ?_
  refine wl_nil ?_
  refine qn_then ?_
  refine wc_ret ?_
  replace h := st_selT [false, false, false] h
  refine qn_ret [_, _] ⟨rfl, rfl, trivial⟩ ?_
  have e_ : threeV s a b = applyV s ((mergeV (diffV (s) (a)) (diffV (s) (b))).getD []) := by unfold threeV; rw [hl_]; rfl
  rw [e_]
  refine ⟨congrArg Ending.returned ?_, h⟩
  show Value.tuple #[_, Value.bool (decide (((if (applyV (s) ((mergeV (diffV (s) (a)) (diffV (s) (b))).getD [])).isSome then 0 else 190) : Int) = 0))] = _
  cases applyV s ((mergeV (diffV (s) (a)) (diffV (s) (b))).getD []) <;> rfl
set_option maxHeartbeats 4000000 in
set_option maxRecDepth 100000 in
theorem awake_calls {w0 w : World} {F0 : Nat → Prop} {R : List Sx.HP}   (h : Sx.St w0 F0 ([] ++ R) w) : Calls Try.prog 9 #[] w (fun e w1 => e = .returned (.bool true) ∧ Sx.St w0 F0 R w1) := by
 refine Sx.calls_fn (vs := []) Try.func9 rfl Try.ntmps9 rfl ?_
 refine wc_seq ?_
 refine wc_region ?_
 refine wl_v rfl rfl (ov_assign _ rfl) ?_
 refine wl_nil ?_
 refine qn_then ?_
 refine wc_seq ?_
 refine wc_region ?_
 refine wl_call _ rfl rfl rfl ent21 (D.Diff_calls (R := [] ++ R) (ByteArray.mk #[97, 98, 99, 100]) (ByteArray.mk #[97, 120, 99, 100, 101]) (by first | omega | decide) (by first | omega | decide) h) ?_
 rintro e_ w_ ⟨Ay1, cy1, rfl, h⟩
 refine ⟨_, rfl, ?_⟩
 replace h : Sx.St w0 F0 ([Sx.row k33 33 (Ay1) (cy1) ((diffV (ByteArray.mk #[97, 98, 99, 100]) (ByteArray.mk #[97, 120, 99, 100, 101])))] ++ R) _ := h
 refine wl_v rfl rfl (ov_assign _ rfl) ?_
 refine wl_nil ?_
 refine qn_then ?_
 refine wc_seq ?_
 refine wc_region ?_
 refine wl_call _ rfl rfl rfl ent15 (A.Three_calls (R := [Sx.row k33 33 (Ay1) (cy1) ((diffV (ByteArray.mk #[97, 98, 99, 100]) (ByteArray.mk #[97, 120, 99, 100, 101])))] ++ R) (ByteArray.mk #[97, 32, 98]) (ByteArray.mk #[120, 32, 98]) (ByteArray.mk #[97, 32, 121]) (by first | omega | decide) (by first | omega | decide) (by first | omega | decide) h) ?_
 rintro e_ w_ ⟨rfl, h⟩
 refine ⟨_, rfl, ?_⟩
 refine wl_v rfl rfl (ov_move _ rfl) ?_
 refine wl_v rfl rfl (ov_extract [.string ((threeV (ByteArray.mk #[97, 32, 98]) (ByteArray.mk #[120, 32, 98]) (ByteArray.mk #[97, 32, 121])).getD ByteArray.empty), .bool ((threeV (ByteArray.mk #[97, 32, 98]) (ByteArray.mk #[120, 32, 98]) (ByteArray.mk #[97, 32, 121])).isSome)] _ rfl rfl) ?_
 refine wl_v rfl rfl (ov_extract [.string ((threeV (ByteArray.mk #[97, 32, 98]) (ByteArray.mk #[120, 32, 98]) (ByteArray.mk #[97, 32, 121])).getD ByteArray.empty), .bool ((threeV (ByteArray.mk #[97, 32, 98]) (ByteArray.mk #[120, 32, 98]) (ByteArray.mk #[97, 32, 121])).isSome)] _ rfl rfl) ?_
 refine wl_v rfl rfl (ov_assign _ rfl) ?_
 refine wl_v rfl rfl (ov_assign _ rfl) ?_
 refine wl_nil ?_
 refine qn_then ?_
 refine wc_seq ?_
 refine wc_region ?_
 refine wl_v rfl rfl (ov_move _ rfl) ?_
 refine wl_v rfl rfl (ov_len _ _ _ _ _ rfl es22) ?_
 refine wl_v rfl rfl (ov_bin _ rfl rfl (binR_eql)) ?_
 refine wl_v rfl rfl (ov_move _ rfl) ?_
 refine wl_split 12 rfl (fun c2 => ?_) (fun c2 => ?_)
 ·
  refine wl_v rfl rfl (ov_move _ rfl) ?_
  refine wl_call _ rfl rfl rfl ent20 (A.Cost_calls (v0 := _) (w0 := _) (F0 := fun _ => False) (R := []) (ByteArray.mk #[97, 98, 99, 100]) (diffV (ByteArray.mk #[97, 98, 99, 100]) (ByteArray.mk #[97, 120, 99, 100, 101])) (Ay1) (cy1) (Sx.ro_self _) ((Sx.row_reads h (i := 0) rfl).1) (Sx.row_reads h (i := 0) rfl).2 (by decide) (by have q_ := ex_len; show (diffV ex1 ex2).length ≤ 1000000; omega) (fun e_ he_ => Nat.le_trans ((diff_small ex1 ex2).2 e_ he_) (by decide)) (st_start _)) ?_
  rintro e_ w_ ⟨rfl, h2_⟩
  refine ⟨_, rfl, ?_⟩
  replace h := st_below h (st_below0 h2_)
  refine wl_v rfl rfl (ov_bin _ rfl rfl (binR_eql)) ?_
  refine wl_v rfl rfl (ov_pick_true _ rfl rfl) ?_
  refine wl_v rfl rfl (ov_move _ rfl) ?_
  refine wl_split 17 rfl (fun c3 => ?_) (fun c3 => ?_)
  ·
   refine wl_v rfl rfl (ov_move _ rfl) ?_
   refine wl_v rfl rfl (ov_pick_true _ rfl rfl) ?_
   refine wl_v rfl rfl (ov_move _ rfl) ?_
   refine wl_splitb 20 rfl (fun c4 => ?_) (fun c4 => ?_)
   ·
    refine wl_v rfl rfl (ov_move _ rfl) ?_
    refine wl_v rfl rfl (ov_bin _ rfl rfl (binR_eqs)) ?_
    refine wl_v rfl rfl (ov_pick_true _ rfl rfl) ?_
    refine wl_v rfl rfl (ov_assign _ rfl) ?_
    refine wl_nil ?_
    refine qn_then ?_
    refine wc_ret ?_
    replace h := st_selT [false] h
    refine qn_ret [_] ⟨rfl, trivial⟩ ?_
    refine ⟨congrArg (fun z => Ending.returned (Value.bool z)) (decide_eq_true ?_), h⟩
    show (threeV ex3 ex4 ex5).getD ByteArray.empty = ex6
    rw [ex_three]
    rfl
   ·
    exact absurd c4 (by show ¬ (threeV ex3 ex4 ex5).isSome = false; rw [ex_three]; decide)
  ·
   exact absurd ex_cost c3
 ·
  exact absurd (show (((diffV ex1 ex2).length : Nat) : Int) = 2 by rw [ex_len]; rfl) c2
end Go.Proofs.Ytbakllppgekmoaa.A
