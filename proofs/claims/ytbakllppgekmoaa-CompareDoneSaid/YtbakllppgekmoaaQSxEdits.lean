/- Pruned by wip/prune.py. -/
import Derived.Test.YtbakllppgekmoaaProg
import Derived.Test.YtbakllppgekmoaaQSxGlue
import Derived.Test.YtbakllppgekmoaaQSxShrink
import Derived.Test.YtbakllppgekmoaaQSxKinds
import Derived.Test.YtbakllppgekmoaaQCmpList
namespace Go.Proofs.Ytbakllppgekmoaa.E
open Go Go.RowKit Go.Proofs.YtbakllppgekmoaaW.PrintWords Go.Proofs.Ytbakllppgekmoaa.Kinds Go.Proofs.Ytbakllppgekmoaa.Cmp Go.Proofs.Ytbakllppgekmoaa.Sx 
set_option linter.unusedVariables false
set_option linter.unusedSimpArgs false
theorem es22 : Sx.elemSz Try.prog 22 = some (33, 3) := by kernel_rfl
theorem fo33_2 : Sx.fieldOff Try.prog 33 2 = some 2 := by kernel_rfl
theorem sh9 : Sx.shapeOf Try.prog 9 = some (false, 1) := by kernel_rfl
theorem sh33 : Sx.shapeOf Try.prog 33 = some (true, 3) := by kernel_rfl
theorem zo33 : Sx.zeroOf Try.prog 33 = some (.agg #[.int .i64 (0), .int .i64 (0), .string (ByteArray.empty)]) := by kernel_rfl
theorem fo33_0 : Sx.fieldOff Try.prog 33 0 = some 0 := by kernel_rfl
theorem sh3 : Sx.shapeOf Try.prog 3 = some (false, 1) := by kernel_rfl
theorem fo33_1 : Sx.fieldOff Try.prog 33 1 = some 1 := by kernel_rfl
theorem ent17 : Sx.Ent Try.prog 17 := ⟨Try.f17, Try.func17, by kernel_rfl, by kernel_rfl⟩
theorem ent26 : Sx.Ent Try.prog 26 := ⟨Try.f26, Try.func26, by kernel_rfl, by kernel_rfl⟩
theorem eqs33 : (Try.prog.stoodInHeld 33 || Try.prog.eqGuardType Try.prog.depth 33) = false := by kernel_rfl
theorem eqf33 : Try.prog.underlying 33 = some (.struct (Try.prog.fieldsOf 33)) := by kernel_rfl
theorem infb33 : (Try.prog.info? 33).map (fun i => (i.zero, i.size)) = some (some (.agg #[.int .i64 (0), .int .i64 (0), .string (ByteArray.empty)]), 3) := by kernel_rfl
theorem inf33 : (Try.prog.info? 33).map (fun i => (i.zero, i.size, i.bytes)) = some (some (.agg #[.int .i64 (0), .int .i64 (0), .string (ByteArray.empty)]), 3, 32) := by kernel_rfl
theorem ent27 : Sx.Ent Try.prog 27 := ⟨Try.f27, Try.func27, by kernel_rfl, by kernel_rfl⟩
set_option maxHeartbeats 4000000 in
set_option maxRecDepth 100000 in
theorem few_calls {w0 w : World} {F0 : Nat → Prop} {R : List Sx.HP} {v0 : World} (a : List Edit) (Aa : Option Addr) (ca : Nat) (hv : Sx.RO v0 w0 F0) (hla : a.length ≤ ca) (hCa : k33.C v0 Aa a.length a) (h : Sx.St w0 F0 ([] ++ R) w) : Calls Try.prog 17 #[.slice (Aa) (a.length) (ca)] w (fun e w1 => ∃ b_, e = .returned (.bool b_) ∧ (b_ = true → FewE a) ∧ Sx.St w0 F0 R w1) := by
 refine Sx.calls_fn (vs := [.slice (Aa) (a.length) (ca)]) Try.func17 rfl Try.ntmps17 rfl ?_
 refine wc_seq ?_
 refine wc_region ?_
 refine wl_v rfl rfl (ov_assign _ rfl) ?_
 refine wl_nil ?_
 refine qn_then ?_
 refine wc_seq ?_
 refine wc_region ?_
 refine wl_v rfl rfl (ov_assign _ rfl) ?_
 refine wl_nil ?_
 refine qn_then ?_
 refine wc_seq ?_
 refine wc_seq ?_
 refine wc_region ?_
 refine wl_v rfl rfl (ov_assign _ rfl) ?_
 refine wl_nil ?_
 refine qn_then ?_
 refine wc_block ?_
 refine wc_loop (fun (x_ : Nat) => [(0, .slice (Aa) (a.length) (ca)), (3, .int .i64 ((x_ : Int))), (4, .int .i64 ((x_ : Int)))]) (fun (x_ : Nat) (w : World) => (x_ ≤ a.length ∧ x_ ≤ 61 ∧ ∀ j, j < x_ → (ge a j).f2.size ≤ 400) ∧ Sx.St w0 F0 ([] ++ R) w) (fun (x_ : Nat) => a.length - x_) (0) ?_ ?_ ?_
 · exact ⟨rfl, (congrArg (fun z_ => some (Value.int .i64 z_)) (show (0 : Int) = (0 : Int) by omega)), (congrArg (fun z_ => some (Value.int .i64 z_)) (show (0 : Int) = (0 : Int) by omega)), trivial⟩
 · exact ⟨⟨Nat.zero_le _, by omega, fun j_ hj_ => absurd hj_ (Nat.not_lt_zero _)⟩, h⟩
 intro k w h
 obtain ⟨hJ, h⟩ := h
 replace hJ : k ≤ a.length ∧ k ≤ 61 ∧ ∀ j, j < k → (ge a j).f2.size ≤ 400 := hJ
 replace h : Sx.St w0 F0 ([] ++ R) w := h
 show Sx.WC _ _ _ _ [(0, .slice (Aa) (a.length) (ca)), (3, .int .i64 ((k : Int))), (4, .int .i64 ((k : Int)))] _
 refine wc_seq ?_
 refine wc_seq ?_
 refine wc_region ?_
 refine wl_v rfl rfl (ov_move _ rfl) ?_
 refine wl_v rfl rfl (ov_move _ rfl) ?_
 refine wl_v rfl rfl (ov_len _ _ _ _ _ rfl es22) ?_
 refine wl_v rfl rfl (ov_bin _ rfl rfl (binR_lss)) ?_
 refine wl_v rfl rfl (ov_move _ rfl) ?_
 refine wl_split 9 rfl (fun c1 => ?_) (fun c1 => ?_)
 ·
  refine wl_v rfl rfl (ov_move _ rfl) ?_
  refine wl_v rfl rfl (ov_bin _ rfl rfl (binR_leq)) ?_
  refine wl_v rfl rfl (ov_pick_true _ rfl rfl) ?_
  refine wl_nil ?_
  refine qn_then ?_
  refine wc_cond (by rfl) (fun c2 => ?_) (fun c2 => ?_)
  ·
   refine wc_skip ?_
   refine qn_then ?_
   refine wc_seq ?_
   refine wc_block ?_
   refine wc_seq ?_
   refine wc_seq ?_
   refine wc_region ?_
   refine wl_v rfl rfl (ov_move _ rfl) ?_
   refine wl_v rfl rfl (ov_move _ rfl) ?_
   obtain ⟨ad3, rfl⟩ := Sx.C_some ((Sx.ro_C hv h hCa)) (k := k) (by first | assumption | omega)
   refine wl_v rfl rfl (ov_indexAddrN _ _ _ _ _ k rfl rfl es22 rfl (by first | assumption | omega | (simp only [List.length_take, List.length_drop, List.length_set]; omega))) ?_
   refine wl_v rfl rfl (ov_fieldAddr _ ((ad3).add (k * 3 + 2)) _ rfl fo33_2 (by first | exact Deep.add_add _ _ _ | (rw [Deep.add_add]) | rfl)) ?_
   obtain ⟨cl6, _, hk5, hc4⟩ := Sx.C_cells (hCa) (z := z33) (k := k) (by first | assumption | omega)
   obtain rfl := k33_open hk5
   refine wl_v rfl rfl (ov_load1 _ _ rfl sh9 (Sx.ro_cell hv h (hc4 2 _ rfl))) ?_
   refine wl_v rfl rfl (ov_lens _ rfl Try.underlying9) ?_
   refine wl_v rfl rfl (ov_bin _ rfl rfl (binR_gtr)) ?_
   refine wl_nil ?_
   refine qn_then ?_
   refine wc_cond (by rfl) (fun c7 => ?_) (fun c7 => ?_)
   ·
    refine wc_seq ?_
    refine wc_region ?_
    refine wl_v rfl rfl (ov_assign _ rfl) ?_
    refine wl_nil ?_
    refine qn_then ?_
    refine wc_ret ?_
    refine qn_then_ret ?_
    refine qn_block_ret ?_
    refine qn_then_ret ?_
    refine qn_then_ret ?_
    refine qn_block_ret ?_
    refine qn_then_ret ?_
    refine qn_ret [_] ⟨rfl, trivial⟩ ?_
    exact ⟨false, rfl, fun z_ => (by cases z_), h⟩
   ·
    refine wc_skip ?_
    refine qn_then ?_
    refine wc_region ?_
    refine wl_v rfl rfl (ov_move _ rfl) ?_
    refine wl_v rfl rfl (ov_bin _ rfl rfl (binR_add (r := ((k : Int)) + 1) (Sx.w64 (by omega)))) ?_
    refine wl_v rfl rfl (ov_assign _ rfl) ?_
    refine wl_nil ?_
    refine qn_block_normal ?_
    refine qn_then ?_
    refine wc_region ?_
    refine wl_v rfl rfl (ov_move _ rfl) ?_
    refine wl_v rfl rfl (ov_bin _ rfl rfl (binR_add (r := ((k : Int)) + 1) (Sx.w64 (by omega)))) ?_
    refine wl_v rfl rfl (ov_assign _ rfl) ?_
    refine wl_nil ?_
    refine qn_next ((k + 1)) (by show a.length - (k + 1) < a.length - k; omega) ⟨(congrArg (fun z_ => some (Value.slice (some ad3) z_ (ca))) (show (a.length : Nat) = a.length by first | rfl | simp)), (congrArg (fun z_ => some (Value.int .i64 z_)) (show (((k : Int)) + 1 : Int) = ((k + 1) : Int) by omega)), (congrArg (fun z_ => some (Value.int .i64 z_)) (show (((k : Int)) + 1 : Int) = ((k + 1) : Int) by omega)), trivial⟩ ?_
    show ((k + 1) ≤ a.length ∧ (k + 1) ≤ 61 ∧ ∀ j, j < (k + 1) → (ge a j).f2.size ≤ 400) ∧ _
    exact ⟨⟨by omega, by omega, fun j_ hj_ => by
      rcases Nat.lt_succ_iff_lt_or_eq.1 hj_ with z_ | rfl
      · exact hJ.2.2 j_ z_
      · show (a.getD j_ z33).f2.size ≤ 400; omega⟩, h⟩
  ·
   refine wc_exit ?_
   refine qn_then_exit ?_
   refine qn_then_exit ?_
   refine qn_block_exit ?_
   refine qn_then ?_
   refine wc_seq ?_
   refine wc_region ?_
   refine wl_v rfl rfl (ov_move _ rfl) ?_
   refine wl_v rfl rfl (ov_bin _ rfl rfl (binR_leq)) ?_
   refine wl_v rfl rfl (ov_assign _ rfl) ?_
   refine wl_nil ?_
   refine qn_then ?_
   refine wc_ret ?_
   refine qn_ret [_] ⟨rfl, trivial⟩ ?_
   exact ⟨_, rfl, fun z_ => few_of (k := k) (by have q_ := of_decide_eq_true z_; omega) hJ.2.2 (by have q_ := of_decide_eq_true z_; omega), h⟩
 ·
  refine wl_skip rfl rfl ?_
  refine wl_skip rfl rfl ?_
  refine wl_v rfl rfl (ov_pick_false _ rfl rfl) ?_
  refine wl_nil ?_
  refine qn_then ?_
  refine wc_cond_false rfl ?_
  refine wc_exit ?_
  refine qn_then_exit ?_
  refine qn_then_exit ?_
  refine qn_block_exit ?_
  refine qn_then ?_
  refine wc_seq ?_
  refine wc_region ?_
  refine wl_v rfl rfl (ov_move _ rfl) ?_
  refine wl_v rfl rfl (ov_bin _ rfl rfl (binR_leq)) ?_
  refine wl_v rfl rfl (ov_assign _ rfl) ?_
  refine wl_nil ?_
  refine qn_then ?_
  refine wc_ret ?_
  refine qn_ret [_] ⟨rfl, trivial⟩ ?_
  exact ⟨_, rfl, fun z_ => few_of (k := k) (by have q_ := of_decide_eq_true z_; omega) hJ.2.2 (by have q_ := of_decide_eq_true z_; omega), h⟩
set_option maxHeartbeats 4000000 in
set_option maxRecDepth 100000 in
theorem InOrder_calls {w0 w : World} {F0 : Nat → Prop} {R : List Sx.HP} {v0 : World} (size : Int) (a : List Edit) (Aa : Option Addr) (ca : Nat) (hv : Sx.RO v0 w0 F0) (hla : a.length ≤ ca) (hCa : k33.C v0 Aa a.length a) (hm : a.length ≤ 1000000) (h : Sx.St w0 F0 ([] ++ R) w) : Calls Try.prog 26 #[.int .i64 (size), .slice (Aa) (a.length) (ca)] w (fun e w1 => e = .returned (.bool (decide (InOrd size a))) ∧ Sx.St w0 F0 R w1) := by
 refine Sx.calls_fn (vs := [.int .i64 (size), .slice (Aa) (a.length) (ca)]) Try.func26 rfl Try.ntmps26 rfl ?_
 refine wc_seq ?_
 refine wc_region ?_
 refine wl_v rfl rfl (ov_assign _ rfl) ?_
 refine wl_nil ?_
 refine qn_then ?_
 refine wc_seq ?_
 refine wc_seq ?_
 refine wc_region ?_
 refine wl_v rfl rfl (ov_assign _ rfl) ?_
 refine wl_nil ?_
 refine qn_then ?_
 refine wc_block ?_
 refine wc_loop (fun (x_ : Nat) => [(0, .int .i64 (size)), (1, .slice (Aa) (a.length) (ca)), (5, .int .i64 ((x_ : Int)))]) (fun (x_ : Nat) (w : World) => (x_ ≤ a.length ∧ ∀ j, j < x_ → OkAt size a j) ∧ Sx.St w0 F0 ([] ++ R) w) (fun (x_ : Nat) => a.length - x_) (0) ?_ ?_ ?_
 · exact ⟨rfl, rfl, (congrArg (fun z_ => some (Value.int .i64 z_)) (show (0 : Int) = (0 : Int) by omega)), trivial⟩
 · exact ⟨⟨Nat.zero_le _, fun j_ hj_ => absurd hj_ (Nat.not_lt_zero _)⟩, h⟩
 intro k w h
 obtain ⟨hJ, h⟩ := h
 replace hJ : k ≤ a.length ∧ ∀ j, j < k → OkAt size a j := hJ
 replace h : Sx.St w0 F0 ([] ++ R) w := h
 show Sx.WC _ _ _ _ [(0, .int .i64 (size)), (1, .slice (Aa) (a.length) (ca)), (5, .int .i64 ((k : Int)))] _
 refine wc_seq ?_
 refine wc_seq ?_
 refine wc_region ?_
 refine wl_v rfl rfl (ov_move _ rfl) ?_
 refine wl_v rfl rfl (ov_move _ rfl) ?_
 refine wl_v rfl rfl (ov_len _ _ _ _ _ rfl es22) ?_
 refine wl_v rfl rfl (ov_bin _ rfl rfl (binR_lss)) ?_
 refine wl_nil ?_
 refine qn_then ?_
 refine wc_cond (by rfl) (fun c1 => ?_) (fun c1 => ?_)
 ·
  refine wc_skip ?_
  refine qn_then ?_
  refine wc_seq ?_
  refine wc_block ?_
  refine wc_seq ?_
  refine wc_region ?_
  refine wl_v rfl rfl (ov_move _ rfl) ?_
  refine wl_v rfl rfl (ov_move _ rfl) ?_
  obtain ⟨ad2, rfl⟩ := Sx.C_some ((Sx.ro_C hv h hCa)) (k := k) (by first | assumption | omega)
  refine wl_v rfl rfl (ov_indexAddrN _ _ _ _ _ k rfl rfl es22 rfl (by first | assumption | omega | (simp only [List.length_take, List.length_drop, List.length_set]; omega))) ?_
  obtain ⟨cl5, _, hk4, hc3⟩ := Sx.C_cells (hCa) (z := z33) (k := k) (by first | assumption | omega)
  obtain rfl := k33_open hk4
  refine wl_v rfl rfl (ov_loadN _ [.int .i64 (((a).getD k z33).f0), .int .i64 (((a).getD k z33).f1), .string (((a).getD k z33).f2)] rfl sh33 (by intro j u hu; rw [Deep.add_add]; exact Sx.ro_cell hv h (hc3 _ _ hu))) ?_
  refine wl_alloc _ h rfl rfl zo33 (fun b6 _ h => ?_)
  replace h : Sx.St _ _ (Sx.blk b6 [.int .i64 (0), .int .i64 (0), .string (ByteArray.empty)] 33 :: _) _ := h
  refine wl_storebN 0 [.int .i64 (((a).getD k z33).f0), .int .i64 (((a).getD k z33).f1), .string (((a).getD k z33).f2)] [.int .i64 (((a).getD k z33).f0), .int .i64 (((a).getD k z33).f1), .string (((a).getD k z33).f2)] h rfl rfl rfl rfl (by simp [Value.oneCell']) sh33 rfl rfl (fun _ h => ?_)
  refine wl_nil ?_
  refine qn_then ?_
  refine wc_seq ?_
  refine wc_seq ?_
  refine wc_region ?_
  refine wl_v rfl rfl (ov_fieldAddr _ ⟨b6, 0, none⟩ _ rfl fo33_0 rfl) ?_
  refine wl_v rfl rfl (ov_loadb 0 _ h rfl rfl sh3 rfl) ?_
  refine wl_v rfl rfl (ov_bin _ rfl rfl (binR_lss)) ?_
  refine wl_v rfl rfl (ov_move _ rfl) ?_
  refine wl_split 20 rfl (fun c7 => ?_) (fun c7 => ?_)
  ·
   refine wl_skip rfl rfl ?_
   refine wl_skip rfl rfl ?_
   refine wl_skip rfl rfl ?_
   refine wl_skip rfl rfl ?_
   refine wl_skip rfl rfl ?_
   refine wl_v rfl rfl (ov_pick_true _ rfl rfl) ?_
   refine wl_v rfl rfl (ov_move _ rfl) ?_
   refine wl_skip rfl rfl ?_
   refine wl_skip rfl rfl ?_
   refine wl_skip rfl rfl ?_
   refine wl_skip rfl rfl ?_
   refine wl_v rfl rfl (ov_pick_true _ rfl rfl) ?_
   refine wl_nil ?_
   refine qn_then ?_
   refine wc_cond_true rfl ?_
   refine wc_seq ?_
   refine wc_region ?_
   refine wl_v rfl rfl (ov_assign _ rfl) ?_
   refine wl_nil ?_
   refine qn_then ?_
   refine wc_ret ?_
   refine qn_then_ret ?_
   refine qn_block_ret ?_
   refine qn_then_ret ?_
   refine qn_then_ret ?_
   refine qn_block_ret ?_
   refine qn_then_ret ?_
   replace h := st_selT [false] h
   refine qn_ret [_] ⟨rfl, trivial⟩ ?_
   exact ⟨congrArg (fun z => Ending.returned (Value.bool z)) (decide_eq_false (fun z_ => by
     have q_ := z_ k (by omega)
     unfold OkAt at q_
     have e_ : ((k : Int) - 1).toNat = k - 1 := by omega
     try rw [e_] at *
     have q4_ := q_.2.2.2
     omega)).symm, h⟩
  ·
   refine wl_v rfl rfl (ov_fieldAddr _ ⟨b6, 1, none⟩ _ rfl fo33_1 rfl) ?_
   refine wl_v rfl rfl (ov_loadb 0 _ h rfl rfl sh3 rfl) ?_
   refine wl_v rfl rfl (ov_fieldAddr _ ⟨b6, 0, none⟩ _ rfl fo33_0 rfl) ?_
   refine wl_v rfl rfl (ov_loadb 0 _ h rfl rfl sh3 rfl) ?_
   refine wl_v rfl rfl (ov_bin _ rfl rfl (binR_lss)) ?_
   refine wl_v rfl rfl (ov_pick_false _ rfl rfl) ?_
   refine wl_v rfl rfl (ov_move _ rfl) ?_
   refine wl_split 27 rfl (fun c8 => ?_) (fun c8 => ?_)
   ·
    refine wl_skip rfl rfl ?_
    refine wl_skip rfl rfl ?_
    refine wl_skip rfl rfl ?_
    refine wl_skip rfl rfl ?_
    refine wl_v rfl rfl (ov_pick_true _ rfl rfl) ?_
    refine wl_nil ?_
    refine qn_then ?_
    refine wc_cond_true rfl ?_
    refine wc_seq ?_
    refine wc_region ?_
    refine wl_v rfl rfl (ov_assign _ rfl) ?_
    refine wl_nil ?_
    refine qn_then ?_
    refine wc_ret ?_
    refine qn_then_ret ?_
    refine qn_block_ret ?_
    refine qn_then_ret ?_
    refine qn_then_ret ?_
    refine qn_block_ret ?_
    refine qn_then_ret ?_
    replace h := st_selT [false] h
    refine qn_ret [_] ⟨rfl, trivial⟩ ?_
    exact ⟨congrArg (fun z => Ending.returned (Value.bool z)) (decide_eq_false (fun z_ => by
      have q_ := z_ k (by omega)
      unfold OkAt at q_
      have e_ : ((k : Int) - 1).toNat = k - 1 := by omega
      try rw [e_] at *
      have q4_ := q_.2.2.2
      omega)).symm, h⟩
   ·
    refine wl_v rfl rfl (ov_fieldAddr _ ⟨b6, 1, none⟩ _ rfl fo33_1 rfl) ?_
    refine wl_v rfl rfl (ov_loadb 0 _ h rfl rfl sh3 rfl) ?_
    refine wl_v rfl rfl (ov_move _ rfl) ?_
    refine wl_v rfl rfl (ov_bin _ rfl rfl (binR_gtr)) ?_
    refine wl_v rfl rfl (ov_pick_false _ rfl rfl) ?_
    refine wl_nil ?_
    refine qn_then ?_
    refine wc_cond (by rfl) (fun c9 => ?_) (fun c9 => ?_)
    ·
     refine wc_seq ?_
     refine wc_region ?_
     refine wl_v rfl rfl (ov_assign _ rfl) ?_
     refine wl_nil ?_
     refine qn_then ?_
     refine wc_ret ?_
     refine qn_then_ret ?_
     refine qn_block_ret ?_
     refine qn_then_ret ?_
     refine qn_then_ret ?_
     refine qn_block_ret ?_
     refine qn_then_ret ?_
     replace h := st_selT [false] h
     refine qn_ret [_] ⟨rfl, trivial⟩ ?_
     exact ⟨congrArg (fun z => Ending.returned (Value.bool z)) (decide_eq_false (fun z_ => by
       have q_ := z_ k (by omega)
       unfold OkAt at q_
       have e_ : ((k : Int) - 1).toNat = k - 1 := by omega
       try rw [e_] at *
       have q4_ := q_.2.2.2
       omega)).symm, h⟩
    ·
     refine wc_skip ?_
     refine qn_then ?_
     refine wc_seq ?_
     refine wc_draw (fun w => Sx.St w0 F0 ([Sx.blk b6 [.int .i64 (((a).getD k z33).f0), .int .i64 (((a).getD k z33).f1), .string (((a).getD k z33).f2)] 33] ++ R) w) (by kernel_rfl) ?_
     replace h := st_drew h
     refine wa_tk 0 rfl rfl rfl (st_selT [true] h) (fun w_ hS => ov_move _ rfl) ?_
     refine wa_tk 1 rfl rfl rfl (st_selT [true] h) (fun w_ hS => ov_bin _ rfl rfl (binR_gtr)) ?_
     refine wa_tk 2 rfl rfl rfl (st_selT [true] h) (fun w_ hS => ov_move _ rfl) ?_
     refine wa_split 35 rfl (fun c10 => ?_) (fun c10 => ?_)
     ·
      refine wa_tk 3 rfl rfl rfl (st_selT [true] h) (fun w_ hS => ov_fieldAddr _ ⟨b6, 0, none⟩ _ rfl fo33_0 rfl) ?_
      refine wa_tk 4 rfl rfl rfl (st_selT [true] h) (fun w_ hS => ov_loadb 0 _ hS rfl rfl sh3 rfl) ?_
      refine wa_tk 5 rfl rfl rfl (st_selT [true] h) (fun w_ hS => ov_move _ rfl) ?_
      refine wa_tk 6 rfl rfl rfl (st_selT [true] h) (fun w_ hS => ov_move _ rfl) ?_
      refine wa_tk 7 rfl rfl rfl (st_selT [true] h) (fun w_ hS => ov_bin _ rfl rfl (binR_sub (r := ((k : Int)) - 1) (Sx.w64 (by omega)))) ?_
      refine wa_tk 8 rfl rfl rfl (st_selT [true] h) (fun w_ hS => ov_indexAddrN _ _ _ _ _ (k - 1) rfl rfl es22 (by omega) (by first | assumption | omega | (simp only [List.length_take, List.length_drop, List.length_set]; omega))) ?_
      refine wa_tk 9 rfl rfl rfl (st_selT [true] h) (fun w_ hS => ov_fieldAddr _ ((ad2).add ((k - 1) * 3 + 1)) _ rfl fo33_1 (by first | exact Deep.add_add _ _ _ | (rw [Deep.add_add]) | rfl)) ?_
      obtain ⟨cl13, _, hk12, hc11⟩ := Sx.C_cells (hCa) (z := z33) (k := (k - 1)) (by first | assumption | omega)
      obtain rfl := k33_open hk12
      refine wa_tk 10 rfl rfl rfl (st_selT [true] h) (fun w_ hS => ov_load1 _ _ rfl sh3 (Sx.ro_cell hv hS (hc11 1 _ rfl))) ?_
      refine wa_tk 11 rfl rfl rfl (st_selT [true] h) (fun w_ hS => ov_bin _ rfl rfl (binR_lss)) ?_
      refine wa_tk 12 rfl rfl rfl (st_selT [true] h) (fun w_ hS => ov_move _ rfl) ?_
      refine wa_split 45 rfl (fun c14 => ?_) (fun c14 => ?_)
      ·
       refine wa_sk 13 rfl rfl rfl (st_selT [true] h) ?_
       refine wa_sk 14 rfl rfl rfl (st_selT [true] h) ?_
       refine wa_sk 15 rfl rfl rfl (st_selT [true] h) ?_
       refine wa_sk 16 rfl rfl rfl (st_selT [true] h) ?_
       refine wa_sk 17 rfl rfl rfl (st_selT [true] h) ?_
       refine wa_sk 18 rfl rfl rfl (st_selT [true] h) ?_
       refine wa_sk 19 rfl rfl rfl (st_selT [true] h) ?_
       refine wa_sk 20 rfl rfl rfl (st_selT [true] h) ?_
       refine wa_sk 21 rfl rfl rfl (st_selT [true] h) ?_
       refine wa_tk 22 rfl rfl rfl (st_selT [true] h) (fun w_ hS => ov_pick_true _ rfl rfl) ?_
       refine wa_tk 23 rfl rfl rfl (st_selT [true] h) (fun w_ hS => ov_pick_true _ rfl rfl) ?_
       refine wa_done (by kernel_rfl) ?_
       refine qn_then ?_
       refine wc_cond_true rfl ?_
       refine wc_seq ?_
       refine wc_region ?_
       refine wl_v rfl rfl (ov_assign _ rfl) ?_
       refine wl_nil ?_
       refine qn_then ?_
       refine wc_ret ?_
       refine qn_block_ret ?_
       refine qn_then_ret ?_
       refine qn_then_ret ?_
       refine qn_block_ret ?_
       refine qn_then_ret ?_
       replace h := st_selT [false] h
       refine qn_ret [_] ⟨rfl, trivial⟩ ?_
       exact ⟨congrArg (fun z => Ending.returned (Value.bool z)) (decide_eq_false (fun z_ => by
         have q_ := z_ k (by omega)
         unfold OkAt at q_
         have e_ : ((k : Int) - 1).toNat = k - 1 := by omega
         try rw [e_] at *
         have q4_ := q_.2.2.2
         omega)).symm, h⟩
      ·
       refine wa_tk 13 rfl rfl rfl (st_selT [true] h) (fun w_ hS => ov_fieldAddr _ ⟨b6, 0, none⟩ _ rfl fo33_0 rfl) ?_
       refine wa_tk 14 rfl rfl rfl (st_selT [true] h) (fun w_ hS => ov_loadb 0 _ hS rfl rfl sh3 rfl) ?_
       refine wa_tk 15 rfl rfl rfl (st_selT [true] h) (fun w_ hS => ov_move _ rfl) ?_
       refine wa_tk 16 rfl rfl rfl (st_selT [true] h) (fun w_ hS => ov_move _ rfl) ?_
       refine wa_tk 17 rfl rfl rfl (st_selT [true] h) (fun w_ hS => ov_bin _ rfl rfl (binR_sub (r := ((k : Int)) - 1) (Sx.w64 (by omega)))) ?_
       refine wa_tk 18 rfl rfl rfl (st_selT [true] h) (fun w_ hS => ov_indexAddrN _ _ _ _ _ (k - 1) rfl rfl es22 (by omega) (by first | assumption | omega | (simp only [List.length_take, List.length_drop, List.length_set]; omega))) ?_
       refine wa_tk 19 rfl rfl rfl (st_selT [true] h) (fun w_ hS => ov_fieldAddr _ ((ad2).add ((k - 1) * 3 + 0)) _ rfl fo33_0 (by first | exact Deep.add_add _ _ _ | (rw [Deep.add_add]) | rfl)) ?_
       refine wa_tk 20 rfl rfl rfl (st_selT [true] h) (fun w_ hS => ov_load1 _ _ rfl sh3 (Sx.ro_cell hv hS (hc11 0 _ rfl))) ?_
       refine wa_tk 21 rfl rfl rfl (st_selT [true] h) (fun w_ hS => ov_bin _ rfl rfl (binR_eql)) ?_
       refine wa_tk 22 rfl rfl rfl (st_selT [true] h) (fun w_ hS => ov_pick_false _ rfl rfl) ?_
       refine wa_tk 23 rfl rfl rfl (st_selT [true] h) (fun w_ hS => ov_pick_true _ rfl rfl) ?_
       refine wa_done (by kernel_rfl) ?_
       refine qn_then ?_
       refine wc_cond (by rfl) (fun c15 => ?_) (fun c15 => ?_)
       ·
        refine wc_seq ?_
        refine wc_region ?_
        refine wl_v rfl rfl (ov_assign _ rfl) ?_
        refine wl_nil ?_
        refine qn_then ?_
        refine wc_ret ?_
        refine qn_block_ret ?_
        refine qn_then_ret ?_
        refine qn_then_ret ?_
        refine qn_block_ret ?_
        refine qn_then_ret ?_
        replace h := st_selT [false] h
        refine qn_ret [_] ⟨rfl, trivial⟩ ?_
        exact ⟨congrArg (fun z => Ending.returned (Value.bool z)) (decide_eq_false (fun z_ => by
          have q_ := z_ k (by omega)
          unfold OkAt at q_
          have e_ : ((k : Int) - 1).toNat = k - 1 := by omega
          try rw [e_] at *
          have q4_ := q_.2.2.2
          omega)).symm, h⟩
       ·
        refine wc_skip ?_
        refine qn_block_normal ?_
        refine qn_then ?_
        refine wc_region ?_
        refine wl_v rfl rfl (ov_move _ rfl) ?_
        refine wl_v rfl rfl (ov_bin _ rfl rfl (binR_add (r := ((k : Int)) + 1) (Sx.w64 (by omega)))) ?_
        refine wl_v rfl rfl (ov_assign _ rfl) ?_
        refine wl_nil ?_
        replace h := st_selT [false] h
        refine qn_next ((k + 1)) (by show a.length - (k + 1) < a.length - k; omega) ⟨rfl, (congrArg (fun z_ => some (Value.slice (some ad2) z_ (ca))) (show (a.length : Nat) = a.length by first | rfl | simp)), (congrArg (fun z_ => some (Value.int .i64 z_)) (show (((k : Int)) + 1 : Int) = ((k + 1) : Int) by omega)), trivial⟩ ?_
        show ((k + 1) ≤ a.length ∧ ∀ j, j < (k + 1) → OkAt size a j) ∧ _
        have hk_ : OkAt size a k := by
          unfold OkAt
          exact ⟨by omega, by omega, by omega, fun h0_ => by
            have e_ : ((k : Int) - 1).toNat = k - 1 := by omega
            try rw [e_] at *
            omega⟩
        exact ⟨⟨by omega, fun j_ hj_ => by
          rcases Nat.lt_succ_iff_lt_or_eq.1 hj_ with z_ | rfl
          · exact hJ.2 j_ z_
          · exact hk_⟩, h⟩
     ·
      refine wa_sk 3 rfl rfl rfl (st_selT [true] h) ?_
      refine wa_sk 4 rfl rfl rfl (st_selT [true] h) ?_
      refine wa_sk 5 rfl rfl rfl (st_selT [true] h) ?_
      refine wa_sk 6 rfl rfl rfl (st_selT [true] h) ?_
      refine wa_sk 7 rfl rfl rfl (st_selT [true] h) ?_
      refine wa_sk 8 rfl rfl rfl (st_selT [true] h) ?_
      refine wa_sk 9 rfl rfl rfl (st_selT [true] h) ?_
      refine wa_sk 10 rfl rfl rfl (st_selT [true] h) ?_
      refine wa_sk 11 rfl rfl rfl (st_selT [true] h) ?_
      refine wa_sk 12 rfl rfl rfl (st_selT [true] h) ?_
      refine wa_sk 13 rfl rfl rfl (st_selT [true] h) ?_
      refine wa_sk 14 rfl rfl rfl (st_selT [true] h) ?_
      refine wa_sk 15 rfl rfl rfl (st_selT [true] h) ?_
      refine wa_sk 16 rfl rfl rfl (st_selT [true] h) ?_
      refine wa_sk 17 rfl rfl rfl (st_selT [true] h) ?_
      refine wa_sk 18 rfl rfl rfl (st_selT [true] h) ?_
      refine wa_sk 19 rfl rfl rfl (st_selT [true] h) ?_
      refine wa_sk 20 rfl rfl rfl (st_selT [true] h) ?_
      refine wa_sk 21 rfl rfl rfl (st_selT [true] h) ?_
      refine wa_sk 22 rfl rfl rfl (st_selT [true] h) ?_
      refine wa_tk 23 rfl rfl rfl (st_selT [true] h) (fun w_ hS => ov_pick_false _ rfl rfl) ?_
      refine wa_done (by kernel_rfl) ?_
      refine qn_then ?_
      refine wc_cond_false rfl ?_
      refine wc_skip ?_
      refine qn_block_normal ?_
      refine qn_then ?_
      refine wc_region ?_
      refine wl_v rfl rfl (ov_move _ rfl) ?_
      refine wl_v rfl rfl (ov_bin _ rfl rfl (binR_add (r := ((k : Int)) + 1) (Sx.w64 (by omega)))) ?_
      refine wl_v rfl rfl (ov_assign _ rfl) ?_
      refine wl_nil ?_
      replace h := st_selT [false] h
      refine qn_next ((k + 1)) (by show a.length - (k + 1) < a.length - k; omega) ⟨rfl, (congrArg (fun z_ => some (Value.slice (some ad2) z_ (ca))) (show (a.length : Nat) = a.length by first | rfl | simp)), (congrArg (fun z_ => some (Value.int .i64 z_)) (show (((k : Int)) + 1 : Int) = ((k + 1) : Int) by omega)), trivial⟩ ?_
      show ((k + 1) ≤ a.length ∧ ∀ j, j < (k + 1) → OkAt size a j) ∧ _
      have hk_ : OkAt size a k := by
        unfold OkAt
        exact ⟨by omega, by omega, by omega, fun h0_ => by
          have e_ : ((k : Int) - 1).toNat = k - 1 := by omega
          try rw [e_] at *
          omega⟩
      exact ⟨⟨by omega, fun j_ hj_ => by
        rcases Nat.lt_succ_iff_lt_or_eq.1 hj_ with z_ | rfl
        · exact hJ.2 j_ z_
        · exact hk_⟩, h⟩
 ·
  refine wc_exit ?_
  refine qn_then_exit ?_
  refine qn_then_exit ?_
  refine qn_block_exit ?_
  refine qn_then ?_
  refine wc_seq ?_
  refine wc_region ?_
  refine wl_v rfl rfl (ov_assign _ rfl) ?_
  refine wl_nil ?_
  refine qn_then ?_
  refine wc_ret ?_
  refine qn_ret [_] ⟨rfl, trivial⟩ ?_
  exact ⟨congrArg (fun z => Ending.returned (Value.bool z)) (decide_eq_true (fun i_ hi_ => hJ.2 i_ (by omega))).symm, h⟩
set_option maxHeartbeats 4000000 in
set_option maxRecDepth 100000 in
theorem apart_calls {w0 w : World} {F0 : Nat → Prop} {R : List Sx.HP} (x y : Edit)  (h : Sx.St w0 F0 ([] ++ R) w) : Calls Try.prog 27 #[.agg #[.int .i64 ((x).f0), .int .i64 ((x).f1), .string ((x).f2)], .agg #[.int .i64 ((y).f0), .int .i64 ((y).f1), .string ((y).f2)]] w (fun e w1 => e = .returned (.bool (decide (Ahead x y))) ∧ Sx.St w0 F0 R w1) := by
 refine Sx.calls_fn (vs := [.agg #[.int .i64 ((x).f0), .int .i64 ((x).f1), .string ((x).f2)], .agg #[.int .i64 ((y).f0), .int .i64 ((y).f1), .string ((y).f2)]]) Try.func27 rfl Try.ntmps27 rfl ?_
 refine wc_seq ?_
 refine wc_region ?_
 refine wl_box _ h rfl rfl rfl (fun b1 _ h => ?_)
 replace h : Sx.St _ _ (Sx.blk b1 [.int .i64 ((x).f0), .int .i64 ((x).f1), .string ((x).f2)] 33 :: _) _ := h
 refine wl_box _ h rfl rfl rfl (fun b2 _ h => ?_)
 replace h : Sx.St _ _ (Sx.blk b2 [.int .i64 ((y).f0), .int .i64 ((y).f1), .string ((y).f2)] 33 :: _) _ := h
 refine wl_v rfl rfl (ov_assign _ rfl) ?_
 refine wl_nil ?_
 refine qn_then ?_
 refine wc_seq ?_
 refine wc_region ?_
 refine wl_v rfl rfl (ov_fieldAddr _ ⟨b1, 1, none⟩ _ rfl fo33_1 rfl) ?_
 refine wl_v rfl rfl (ov_loadb 1 _ h rfl rfl sh3 rfl) ?_
 refine wl_v rfl rfl (ov_fieldAddr _ ⟨b2, 0, none⟩ _ rfl fo33_0 rfl) ?_
 refine wl_v rfl rfl (ov_loadb 0 _ h rfl rfl sh3 rfl) ?_
 refine wl_v rfl rfl (ov_bin _ rfl rfl (binR_lss)) ?_
 refine wl_v rfl rfl (ov_move _ rfl) ?_
 refine wl_split 10 rfl (fun c3 => ?_) (fun c3 => ?_)
 ·
  refine wl_skip rfl rfl ?_
  refine wl_skip rfl rfl ?_
  refine wl_skip rfl rfl ?_
  refine wl_skip rfl rfl ?_
  refine wl_skip rfl rfl ?_
  refine wl_skip rfl rfl ?_
  refine wl_skip rfl rfl ?_
  refine wl_skip rfl rfl ?_
  refine wl_skip rfl rfl ?_
  refine wl_skip rfl rfl ?_
  refine wl_skip rfl rfl ?_
  refine wl_skip rfl rfl ?_
  refine wl_v rfl rfl (ov_pick_true _ rfl rfl) ?_
  refine wl_v rfl rfl (ov_assign _ rfl) ?_
  refine wl_nil ?_
  refine qn_then ?_
  refine wc_ret ?_
  replace h := st_selT [false, false] h
  refine qn_ret [_] ⟨rfl, trivial⟩ ?_
  have e_ : true = decide (Ahead x y) := by
    rw [Bool.eq_iff_iff]
    simp only [decide_eq_true_eq]
    unfold Ahead
    first | omega | (simp; omega)
  exact ⟨congrArg (fun z => Ending.returned (Value.bool z)) e_, h⟩
 ·
  refine wl_v rfl rfl (ov_fieldAddr _ ⟨b1, 1, none⟩ _ rfl fo33_1 rfl) ?_
  refine wl_v rfl rfl (ov_loadb 1 _ h rfl rfl sh3 rfl) ?_
  refine wl_v rfl rfl (ov_fieldAddr _ ⟨b2, 0, none⟩ _ rfl fo33_0 rfl) ?_
  refine wl_v rfl rfl (ov_loadb 0 _ h rfl rfl sh3 rfl) ?_
  refine wl_v rfl rfl (ov_bin _ rfl rfl (binR_eql)) ?_
  refine wl_v rfl rfl (ov_move _ rfl) ?_
  refine wl_split 16 rfl (fun c4 => ?_) (fun c4 => ?_)
  ·
   refine wl_v rfl rfl (ov_fieldAddr _ ⟨b1, 0, none⟩ _ rfl fo33_0 rfl) ?_
   refine wl_v rfl rfl (ov_loadb 1 _ h rfl rfl sh3 rfl) ?_
   refine wl_v rfl rfl (ov_fieldAddr _ ⟨b1, 1, none⟩ _ rfl fo33_1 rfl) ?_
   refine wl_v rfl rfl (ov_loadb 1 _ h rfl rfl sh3 rfl) ?_
   refine wl_v rfl rfl (ov_bin _ rfl rfl (binR_lss)) ?_
   refine wl_v rfl rfl (ov_pick_true _ rfl rfl) ?_
   refine wl_v rfl rfl (ov_pick_false _ rfl rfl) ?_
   refine wl_v rfl rfl (ov_assign _ rfl) ?_
   refine wl_nil ?_
   refine qn_then ?_
   refine wc_ret ?_
   replace h := st_selT [false, false] h
   refine qn_ret [_] ⟨rfl, trivial⟩ ?_
   have e_ : (decide (((x).f0 : Int) < ((x).f1))) = decide (Ahead x y) := by
     rw [Bool.eq_iff_iff]
     simp only [decide_eq_true_eq]
     unfold Ahead
     first | omega | (simp; omega)
   exact ⟨congrArg (fun z => Ending.returned (Value.bool z)) e_, h⟩
  ·
   refine wl_skip rfl rfl ?_
   refine wl_skip rfl rfl ?_
   refine wl_skip rfl rfl ?_
   refine wl_skip rfl rfl ?_
   refine wl_skip rfl rfl ?_
   refine wl_v rfl rfl (ov_pick_false _ rfl rfl) ?_
   refine wl_v rfl rfl (ov_pick_false _ rfl rfl) ?_
   refine wl_v rfl rfl (ov_assign _ rfl) ?_
   refine wl_nil ?_
   refine qn_then ?_
   refine wc_ret ?_
   replace h := st_selT [false, false] h
   refine qn_ret [_] ⟨rfl, trivial⟩ ?_
   have e_ : false = decide (Ahead x y) := by
     rw [Bool.eq_iff_iff]
     simp only [decide_eq_true_eq]
     unfold Ahead
     first | omega | (simp; omega)
   exact ⟨congrArg (fun z => Ending.returned (Value.bool z)) e_, h⟩
set_option maxHeartbeats 4000000 in
set_option maxRecDepth 100000 in
theorem Merge_calls {w0 w : World} {F0 : Nat → Prop} {R : List Sx.HP} {v0 : World} (a : List Edit) (Aa : Option Addr) (ca : Nat) (b : List Edit) (Ab : Option Addr) (cb : Nat) (hv : Sx.RO v0 w0 F0) (hla : a.length ≤ ca) (hCa : k33.C v0 Aa a.length a) (hlb : b.length ≤ cb) (hCb : k33.C v0 Ab b.length b) (hma : a.length ≤ 1000000) (hmb : b.length ≤ 1000000) (h : Sx.St w0 F0 ([] ++ R) w) : Calls Try.prog 11 #[.slice (Aa) (a.length) (ca), .slice (Ab) (b.length) (cb)] w (fun e w1 => ∃ A c, e = .returned (.tuple #[.slice A ((mergeV a b).getD []).length c, .bool (mergeV a b).isSome]) ∧ Sx.St w0 F0 ([Sx.row k33 33 (A) (c) ((mergeV a b).getD [])] ++ R) w1) := by
 refine Sx.calls_fn (vs := [.slice (Aa) (a.length) (ca), .slice (Ab) (b.length) (cb)]) Try.func11 rfl Try.ntmps11 rfl ?_
 refine wc_seq ?_
 refine wc_region ?_
 refine wl_v rfl rfl (ov_assign _ rfl) ?_
 refine wl_v rfl rfl (ov_assign _ rfl) ?_
 refine wl_nil ?_
 refine qn_then ?_
 refine wc_seq ?_
 refine wc_region ?_
 refine wl_v rfl rfl (ov_assign _ rfl) ?_
 refine wl_nil ?_
 refine qn_then ?_
 refine wc_seq ?_
 refine wc_region ?_
 refine wl_v rfl rfl (ov_assign _ rfl) ?_
 refine wl_v rfl rfl (ov_assign _ rfl) ?_
 refine wl_nil ?_
 refine qn_then ?_
 refine wc_seq ?_
 refine wc_block ?_
 replace h := st_nilrow k33 33 h
 refine wc_loop (fun (x_ : Nat × Nat × (Option Addr) × Nat × (List Edit)) => [(0, .slice (Aa) (a.length) (ca)), (1, .slice (Ab) (b.length) (cb)), (6, .slice (x_.2.2.1) ((x_.2.2.2.2).length) (x_.2.2.2.1)), (7, .int .i64 (((x_.1 : Nat) : Int))), (8, .int .i64 (((x_.2.1 : Nat) : Int)))]) (fun (x_ : Nat × Nat × (Option Addr) × Nat × (List Edit)) (w : World) => (x_.1 ≤ a.length ∧ x_.2.1 ≤ b.length ∧ (mergeAt a b x_.1 x_.2.1).map (x_.2.2.2.2 ++ ·) = mergeV a b ∧ (x_.2.2.2.2).length ≤ x_.1 + x_.2.1) ∧ Sx.St w0 F0 ([Sx.row k33 33 (x_.2.2.1) (x_.2.2.2.1) (x_.2.2.2.2)] ++ R) w) (fun (x_ : Nat × Nat × (Option Addr) × Nat × (List Edit)) => a.length + b.length - (x_.1 + x_.2.1)) (0, 0, none, 0, []) ?_ ?_ ?_
 · exact ⟨rfl, rfl, (congrArg (fun z_ => some (Value.slice (none) z_ (0))) (show (0 : Nat) = ([]).length by first | rfl | simp)), (congrArg (fun z_ => some (Value.int .i64 z_)) (show (0 : Int) = ((0 : Nat) : Int) by omega)), (congrArg (fun z_ => some (Value.int .i64 z_)) (show (0 : Int) = ((0 : Nat) : Int) by omega)), trivial⟩
 · exact ⟨⟨Nat.zero_le _, Nat.zero_le _, (show (mergeV a b).map (([] : List Edit) ++ ·) = mergeV a b by cases mergeV a b <;> rfl), Nat.le_refl _⟩, h⟩
 rintro ⟨i, j, A, c, L⟩ w h
 obtain ⟨hJ, h⟩ := h
 replace hJ : i ≤ a.length ∧ j ≤ b.length ∧ (mergeAt a b i j).map (L ++ ·) = mergeV a b ∧ (L).length ≤ i + j := hJ
 replace h : Sx.St w0 F0 ([Sx.row k33 33 (A) (c) (L)] ++ R) w := h
 show Sx.WC _ _ _ _ [(0, .slice (Aa) (a.length) (ca)), (1, .slice (Ab) (b.length) (cb)), (6, .slice (A) ((L).length) (c)), (7, .int .i64 (((i : Nat) : Int))), (8, .int .i64 (((j : Nat) : Int)))] _
 refine wc_seq ?_
 refine wc_seq ?_
 refine wc_region ?_
 refine wl_v rfl rfl (ov_move _ rfl) ?_
 refine wl_v rfl rfl (ov_move _ rfl) ?_
 refine wl_v rfl rfl (ov_len _ _ _ _ _ rfl es22) ?_
 refine wl_v rfl rfl (ov_bin _ rfl rfl (binR_lss)) ?_
 refine wl_v rfl rfl (ov_move _ rfl) ?_
 refine wl_split 13 rfl (fun c1 => ?_) (fun c1 => ?_)
 ·
  refine wl_skip rfl rfl ?_
  refine wl_skip rfl rfl ?_
  refine wl_skip rfl rfl ?_
  refine wl_skip rfl rfl ?_
  refine wl_v rfl rfl (ov_pick_true _ rfl rfl) ?_
  refine wl_nil ?_
  refine qn_then ?_
  refine wc_cond_true rfl ?_
  refine wc_skip ?_
  refine qn_then ?_
  refine wc_block ?_
  refine wc_block ?_
  refine wc_seq ?_
  refine wc_region ?_
  refine wl_v rfl rfl (ov_move _ rfl) ?_
  refine wl_v rfl rfl (ov_move _ rfl) ?_
  refine wl_v rfl rfl (ov_len _ _ _ _ _ rfl es22) ?_
  refine wl_v rfl rfl (ov_bin _ rfl rfl (binR_eql)) ?_
  refine wl_v rfl rfl (ov_assign _ rfl) ?_
  refine wl_nil ?_
  refine qn_then ?_
  refine wc_cond (by rfl) (fun c2 => ?_) (fun c2 => ?_)
  ·
   refine wc_seq ?_
   refine wc_region ?_
   refine wl_v rfl rfl (ov_move _ rfl) ?_
   refine wl_v rfl rfl (ov_move _ rfl) ?_
   refine wl_v rfl rfl (ov_move _ rfl) ?_
   obtain ⟨ad3, rfl⟩ := Sx.C_some ((Sx.ro_C hv h hCb)) (k := (j : Nat)) (by first | assumption | omega)
   refine wl_v rfl rfl (ov_indexAddrN _ _ _ _ _ (j : Nat) rfl rfl es22 rfl (by first | assumption | omega | (simp only [List.length_take, List.length_drop, List.length_set]; omega))) ?_
   obtain ⟨cl6, _, hk5, hc4⟩ := Sx.C_cells (hCb) (z := z33) (k := (j : Nat)) (by first | assumption | omega)
   obtain rfl := k33_open hk5
   refine wl_v rfl rfl (ov_loadN _ [.int .i64 (((b).getD (j : Nat) z33).f0), .int .i64 (((b).getD (j : Nat) z33).f1), .string (((b).getD (j : Nat) z33).f2)] rfl sh33 (by intro j u hu; rw [Deep.add_add]; exact Sx.ro_cell hv h (hc4 _ _ hu))) ?_
   refine wl_lit (d := k33) [(0, .agg #[.int .i64 (((b).getD (j : Nat) z33).f0), .int .i64 (((b).getD (j : Nat) z33).f1), .string (((b).getD (j : Nat) z33).f2)])] _ [.int .i64 (((b).getD (j : Nat) z33).f0), .int .i64 (((b).getD (j : Nat) z33).f1), .string (((b).getD (j : Nat) z33).f2)] ([(⟨((b).getD (j : Nat) z33).f0, ((b).getD (j : Nat) z33).f1, ((b).getD (j : Nat) z33).f2⟩ : S33)]) h rfl rfl rfl rfl Try.underlying22 infb33 rfl (by decide) (by kernel_rfl) rfl (fun _ _ _ => ((Reps.none _ _).snoc (k33_mkM _ _ _ ((⟨((b).getD (j : Nat) z33).f0, ((b).getD (j : Nat) z33).f1, ((b).getD (j : Nat) z33).f2⟩ : S33))) rfl)) (fun A7 cp8 _ h => ?_)
   refine wl_append (d := k33) (L := L) 1 _ 32 _ _ _ ([(⟨((b).getD (j : Nat) z33).f0, ((b).getD (j : Nat) z33).f1, ((b).getD (j : Nat) z33).f2⟩ : S33)]) flat33 h rfl rfl rfl rfl rfl ((Sx.row_reads h (i := 0) rfl).2) Try.underlying22 inf33 rfl (by decide) (by decide) (by first | omega | (simp only [List.length_cons, List.length_nil, List.length_append, List.length_take, List.length_drop]; omega)) (by first | rfl | simp) (fun A9 cp10 _ h => ?_)
   replace h := st_selT [false, true] h
   refine wl_v rfl rfl (ov_assign _ rfl) ?_
   refine wl_nil ?_
   refine qn_then ?_
   refine wc_region ?_
   refine wl_v rfl rfl (ov_move _ rfl) ?_
   refine wl_v rfl rfl (ov_bin _ rfl rfl (binR_add (r := (((j : Nat) : Int)) + 1) (Sx.w64 (by omega)))) ?_
   refine wl_v rfl rfl (ov_assign _ rfl) ?_
   refine wl_nil ?_
   refine qn_block_normal ?_
   refine qn_block_normal ?_
   have hj_ := hJ.2.2.1
   first
     | rw [mergeAt_two (by omega) (by omega), if_neg (fun e_ => by rw [edit_eq] at e_; contradiction), if_neg (by assumption), if_pos (by assumption), map_app] at hj_
     | rw [mergeAt_b (by omega) (by omega), map_app] at hj_
   refine qn_next (i, (j + 1), A9, cp10, (L ++ ([(⟨((b).getD (j : Nat) z33).f0, ((b).getD (j : Nat) z33).f1, ((b).getD (j : Nat) z33).f2⟩ : S33)]))) (by show a.length + b.length - (i + (j + 1)) < a.length + b.length - (i + j); omega) ⟨rfl, (congrArg (fun z_ => some (Value.slice (some ad3) z_ (cb))) (show (b.length : Nat) = b.length by first | rfl | simp)), (congrArg (fun z_ => some (Value.slice (A9) z_ (cp10))) (show ((L ++ ([(⟨((b).getD (j : Nat) z33).f0, ((b).getD (j : Nat) z33).f1, ((b).getD (j : Nat) z33).f2⟩ : S33)])).length : Nat) = ((L ++ ([(⟨((b).getD (j : Nat) z33).f0, ((b).getD (j : Nat) z33).f1, ((b).getD (j : Nat) z33).f2⟩ : S33)]))).length by first | rfl | simp)), rfl, (congrArg (fun z_ => some (Value.int .i64 z_)) (show ((((j : Nat) : Int)) + 1 : Int) = (((j + 1) : Nat) : Int) by omega)), trivial⟩ ?_
   show (i ≤ a.length ∧ (j + 1) ≤ b.length ∧ (mergeAt a b i (j + 1)).map ((L ++ ([(⟨((b).getD (j : Nat) z33).f0, ((b).getD (j : Nat) z33).f1, ((b).getD (j : Nat) z33).f2⟩ : S33)])) ++ ·) = mergeV a b ∧ ((L ++ ([(⟨((b).getD (j : Nat) z33).f0, ((b).getD (j : Nat) z33).f1, ((b).getD (j : Nat) z33).f2⟩ : S33)]))).length ≤ i + (j + 1)) ∧ _
   exact ⟨⟨by omega, by omega, hj_, by simp only [List.length_append, List.length_cons, List.length_nil]; omega⟩, h⟩
  ·
   refine wc_seq ?_
   refine wc_region ?_
   refine wl_v rfl rfl (ov_move _ rfl) ?_
   refine wl_v rfl rfl (ov_move _ rfl) ?_
   refine wl_v rfl rfl (ov_len _ _ _ _ _ rfl es22) ?_
   refine wl_v rfl rfl (ov_bin _ rfl rfl (binR_eql)) ?_
   refine wl_v rfl rfl (ov_assign _ rfl) ?_
   refine wl_nil ?_
   refine qn_then ?_
   refine wc_cond (by rfl) (fun c11 => ?_) (fun c11 => ?_)
   ·
    refine wc_seq ?_
    refine wc_region ?_
    refine wl_v rfl rfl (ov_move _ rfl) ?_
    refine wl_v rfl rfl (ov_move _ rfl) ?_
    refine wl_v rfl rfl (ov_move _ rfl) ?_
    obtain ⟨ad12, rfl⟩ := Sx.C_some ((Sx.ro_C hv h hCa)) (k := (i : Nat)) (by first | assumption | omega)
    refine wl_v rfl rfl (ov_indexAddrN _ _ _ _ _ (i : Nat) rfl rfl es22 rfl (by first | assumption | omega | (simp only [List.length_take, List.length_drop, List.length_set]; omega))) ?_
    obtain ⟨cl15, _, hk14, hc13⟩ := Sx.C_cells (hCa) (z := z33) (k := (i : Nat)) (by first | assumption | omega)
    obtain rfl := k33_open hk14
    refine wl_v rfl rfl (ov_loadN _ [.int .i64 (((a).getD (i : Nat) z33).f0), .int .i64 (((a).getD (i : Nat) z33).f1), .string (((a).getD (i : Nat) z33).f2)] rfl sh33 (by intro j u hu; rw [Deep.add_add]; exact Sx.ro_cell hv h (hc13 _ _ hu))) ?_
    refine wl_lit (d := k33) [(0, .agg #[.int .i64 (((a).getD (i : Nat) z33).f0), .int .i64 (((a).getD (i : Nat) z33).f1), .string (((a).getD (i : Nat) z33).f2)])] _ [.int .i64 (((a).getD (i : Nat) z33).f0), .int .i64 (((a).getD (i : Nat) z33).f1), .string (((a).getD (i : Nat) z33).f2)] ([(⟨((a).getD (i : Nat) z33).f0, ((a).getD (i : Nat) z33).f1, ((a).getD (i : Nat) z33).f2⟩ : S33)]) h rfl rfl rfl rfl Try.underlying22 infb33 rfl (by decide) (by kernel_rfl) rfl (fun _ _ _ => ((Reps.none _ _).snoc (k33_mkM _ _ _ ((⟨((a).getD (i : Nat) z33).f0, ((a).getD (i : Nat) z33).f1, ((a).getD (i : Nat) z33).f2⟩ : S33))) rfl)) (fun A16 cp17 _ h => ?_)
    refine wl_append (d := k33) (L := L) 1 _ 32 _ _ _ ([(⟨((a).getD (i : Nat) z33).f0, ((a).getD (i : Nat) z33).f1, ((a).getD (i : Nat) z33).f2⟩ : S33)]) flat33 h rfl rfl rfl rfl rfl ((Sx.row_reads h (i := 0) rfl).2) Try.underlying22 inf33 rfl (by decide) (by decide) (by first | omega | (simp only [List.length_cons, List.length_nil, List.length_append, List.length_take, List.length_drop]; omega)) (by first | rfl | simp) (fun A18 cp19 _ h => ?_)
    replace h := st_selT [false, true] h
    refine wl_v rfl rfl (ov_assign _ rfl) ?_
    refine wl_nil ?_
    refine qn_then ?_
    refine wc_region ?_
    refine wl_v rfl rfl (ov_move _ rfl) ?_
    refine wl_v rfl rfl (ov_bin _ rfl rfl (binR_add (r := (((i : Nat) : Int)) + 1) (Sx.w64 (by omega)))) ?_
    refine wl_v rfl rfl (ov_assign _ rfl) ?_
    refine wl_nil ?_
    refine qn_block_normal ?_
    refine qn_block_normal ?_
    have hj_ := hJ.2.2.1
    first
      | rw [mergeAt_two (by omega) (by omega), if_neg (fun e_ => by rw [edit_eq] at e_; contradiction), if_pos (by assumption), map_app] at hj_
      | rw [mergeAt_a (by omega) (by omega), map_app] at hj_
    refine qn_next ((i + 1), j, A18, cp19, (L ++ ([(⟨((a).getD (i : Nat) z33).f0, ((a).getD (i : Nat) z33).f1, ((a).getD (i : Nat) z33).f2⟩ : S33)]))) (by show a.length + b.length - ((i + 1) + j) < a.length + b.length - (i + j); omega) ⟨(congrArg (fun z_ => some (Value.slice (some ad12) z_ (ca))) (show (a.length : Nat) = a.length by first | rfl | simp)), rfl, (congrArg (fun z_ => some (Value.slice (A18) z_ (cp19))) (show ((L ++ ([(⟨((a).getD (i : Nat) z33).f0, ((a).getD (i : Nat) z33).f1, ((a).getD (i : Nat) z33).f2⟩ : S33)])).length : Nat) = ((L ++ ([(⟨((a).getD (i : Nat) z33).f0, ((a).getD (i : Nat) z33).f1, ((a).getD (i : Nat) z33).f2⟩ : S33)]))).length by first | rfl | simp)), (congrArg (fun z_ => some (Value.int .i64 z_)) (show ((((i : Nat) : Int)) + 1 : Int) = (((i + 1) : Nat) : Int) by omega)), rfl, trivial⟩ ?_
    show ((i + 1) ≤ a.length ∧ j ≤ b.length ∧ (mergeAt a b (i + 1) j).map ((L ++ ([(⟨((a).getD (i : Nat) z33).f0, ((a).getD (i : Nat) z33).f1, ((a).getD (i : Nat) z33).f2⟩ : S33)])) ++ ·) = mergeV a b ∧ ((L ++ ([(⟨((a).getD (i : Nat) z33).f0, ((a).getD (i : Nat) z33).f1, ((a).getD (i : Nat) z33).f2⟩ : S33)]))).length ≤ (i + 1) + j) ∧ _
    exact ⟨⟨by omega, by omega, hj_, by simp only [List.length_append, List.length_cons, List.length_nil]; omega⟩, h⟩
   ·
    refine wc_seq ?_
    refine wc_draw (fun w => Sx.St w0 F0 ([Sx.row k33 33 (A) (c) (L)] ++ R) w) (by kernel_rfl) ?_
    replace h := st_drew h
    refine wa_tk 0 rfl rfl rfl (st_selT [true] h) (fun w_ hS => ov_move _ rfl) ?_
    refine wa_tk 1 rfl rfl rfl (st_selT [true] h) (fun w_ hS => ov_move _ rfl) ?_
    obtain ⟨ad20, rfl⟩ := Sx.C_some ((Sx.ro_C hv h hCa)) (k := (i : Nat)) (by first | assumption | omega)
    refine wa_tk 2 rfl rfl rfl (st_selT [true] h) (fun w_ hS => ov_indexAddrN _ _ _ _ _ (i : Nat) rfl rfl es22 rfl (by first | assumption | omega | (simp only [List.length_take, List.length_drop, List.length_set]; omega))) ?_
    obtain ⟨cl23, _, hk22, hc21⟩ := Sx.C_cells (hCa) (z := z33) (k := (i : Nat)) (by first | assumption | omega)
    obtain rfl := k33_open hk22
    refine wa_tk 3 rfl rfl rfl (st_selT [true] h) (fun w_ hS => ov_loadN _ [.int .i64 (((a).getD (i : Nat) z33).f0), .int .i64 (((a).getD (i : Nat) z33).f1), .string (((a).getD (i : Nat) z33).f2)] rfl sh33 (by intro j u hu; rw [Deep.add_add]; exact Sx.ro_cell hv hS (hc21 _ _ hu))) ?_
    refine wa_tk 4 rfl rfl rfl (st_selT [true] h) (fun w_ hS => ov_move _ rfl) ?_
    refine wa_tk 5 rfl rfl rfl (st_selT [true] h) (fun w_ hS => ov_move _ rfl) ?_
    obtain ⟨ad24, rfl⟩ := Sx.C_some ((Sx.ro_C hv h hCb)) (k := (j : Nat)) (by first | assumption | omega)
    refine wa_tk 6 rfl rfl rfl (st_selT [true] h) (fun w_ hS => ov_indexAddrN _ _ _ _ _ (j : Nat) rfl rfl es22 rfl (by first | assumption | omega | (simp only [List.length_take, List.length_drop, List.length_set]; omega))) ?_
    obtain ⟨cl27, _, hk26, hc25⟩ := Sx.C_cells (hCb) (z := z33) (k := (j : Nat)) (by first | assumption | omega)
    obtain rfl := k33_open hk26
    refine wa_tk 7 rfl rfl rfl (st_selT [true] h) (fun w_ hS => ov_loadN _ [.int .i64 (((b).getD (j : Nat) z33).f0), .int .i64 (((b).getD (j : Nat) z33).f1), .string (((b).getD (j : Nat) z33).f2)] rfl sh33 (by intro j u hu; rw [Deep.add_add]; exact Sx.ro_cell hv hS (hc25 _ _ hu))) ?_
    refine wa_tk 8 rfl rfl rfl (st_selT [true] h) (fun w_ hS => ov_bin _ rfl rfl (binR_eqS ((((((a).getD (i : Nat) z33).f0 : Int) == (((b).getD (j : Nat) z33).f0)) && (((((a).getD (i : Nat) z33).f1 : Int) == (((b).getD (j : Nat) z33).f1)) && (((decide ((((a).getD (i : Nat) z33).f2) = ((b).getD (j : Nat) z33).f2))) && true)))) ((((a).getD (i : Nat) z33).f0 : Int) = (((b).getD (j : Nat) z33).f0) ∧ (((a).getD (i : Nat) z33).f1 : Int) = (((b).getD (j : Nat) z33).f1) ∧ (((a).getD (i : Nat) z33).f2) = (((b).getD (j : Nat) z33).f2)) eqf33 eqs33 (by kernel_rfl) (by rw [Bool.eq_iff_iff]; simp))) ?_
    refine wa_tk 9 rfl rfl rfl (st_selT [true] h) (fun w_ hS => ov_assign _ rfl) ?_
    refine wa_done (by kernel_rfl) ?_
    refine qn_then ?_
    refine wc_cond (by rfl) (fun c28 => ?_) (fun c28 => ?_)
    ·
     refine wc_seq ?_
     refine wc_region ?_
     refine wl_v rfl rfl (ov_move _ rfl) ?_
     refine wl_v rfl rfl (ov_move _ rfl) ?_
     refine wl_v rfl rfl (ov_move _ rfl) ?_
     refine wl_v rfl rfl (ov_indexAddrN _ _ _ _ _ (i : Nat) rfl rfl es22 rfl (by first | assumption | omega | (simp only [List.length_take, List.length_drop, List.length_set]; omega))) ?_
     refine wl_v rfl rfl (ov_loadN _ [.int .i64 (((a).getD (i : Nat) z33).f0), .int .i64 (((a).getD (i : Nat) z33).f1), .string (((a).getD (i : Nat) z33).f2)] rfl sh33 (by intro j u hu; rw [Deep.add_add]; exact Sx.ro_cell hv h (hc21 _ _ hu))) ?_
     refine wl_lit (d := k33) [(0, .agg #[.int .i64 (((a).getD (i : Nat) z33).f0), .int .i64 (((a).getD (i : Nat) z33).f1), .string (((a).getD (i : Nat) z33).f2)])] _ [.int .i64 (((a).getD (i : Nat) z33).f0), .int .i64 (((a).getD (i : Nat) z33).f1), .string (((a).getD (i : Nat) z33).f2)] ([(⟨((a).getD (i : Nat) z33).f0, ((a).getD (i : Nat) z33).f1, ((a).getD (i : Nat) z33).f2⟩ : S33)]) h rfl rfl rfl rfl Try.underlying22 infb33 rfl (by decide) (by kernel_rfl) rfl (fun _ _ _ => ((Reps.none _ _).snoc (k33_mkM _ _ _ ((⟨((a).getD (i : Nat) z33).f0, ((a).getD (i : Nat) z33).f1, ((a).getD (i : Nat) z33).f2⟩ : S33))) rfl)) (fun A29 cp30 _ h => ?_)
     refine wl_append (d := k33) (L := L) 1 _ 32 _ _ _ ([(⟨((a).getD (i : Nat) z33).f0, ((a).getD (i : Nat) z33).f1, ((a).getD (i : Nat) z33).f2⟩ : S33)]) flat33 h rfl rfl rfl rfl rfl ((Sx.row_reads h (i := 0) rfl).2) Try.underlying22 inf33 rfl (by decide) (by decide) (by first | omega | (simp only [List.length_cons, List.length_nil, List.length_append, List.length_take, List.length_drop]; omega)) (by first | rfl | simp) (fun A31 cp32 _ h => ?_)
     replace h := st_selT [false, true] h
     refine wl_v rfl rfl (ov_assign _ rfl) ?_
     refine wl_nil ?_
     refine qn_then ?_
     refine wc_region ?_
     refine wl_v rfl rfl (ov_move _ rfl) ?_
     refine wl_v rfl rfl (ov_bin _ rfl rfl (binR_add (r := (((i : Nat) : Int)) + 1) (Sx.w64 (by omega)))) ?_
     refine wl_v rfl rfl (ov_move _ rfl) ?_
     refine wl_v rfl rfl (ov_bin _ rfl rfl (binR_add (r := (((j : Nat) : Int)) + 1) (Sx.w64 (by omega)))) ?_
     refine wl_v rfl rfl (ov_assign _ rfl) ?_
     refine wl_v rfl rfl (ov_assign _ rfl) ?_
     refine wl_nil ?_
     refine qn_block_normal ?_
     refine qn_block_normal ?_
     have hj_ := hJ.2.2.1
     rw [mergeAt_two (by omega) (by omega), if_pos ((edit_eq _ _).2 (by assumption)), map_app] at hj_
     refine qn_next ((i + 1), (j + 1), A31, cp32, (L ++ ([(⟨((a).getD (i : Nat) z33).f0, ((a).getD (i : Nat) z33).f1, ((a).getD (i : Nat) z33).f2⟩ : S33)]))) (by show a.length + b.length - ((i + 1) + (j + 1)) < a.length + b.length - (i + j); omega) ⟨(congrArg (fun z_ => some (Value.slice (some ad20) z_ (ca))) (show (a.length : Nat) = a.length by first | rfl | simp)), (congrArg (fun z_ => some (Value.slice (some ad24) z_ (cb))) (show (b.length : Nat) = b.length by first | rfl | simp)), (congrArg (fun z_ => some (Value.slice (A31) z_ (cp32))) (show ((L ++ ([(⟨((a).getD (i : Nat) z33).f0, ((a).getD (i : Nat) z33).f1, ((a).getD (i : Nat) z33).f2⟩ : S33)])).length : Nat) = ((L ++ ([(⟨((a).getD (i : Nat) z33).f0, ((a).getD (i : Nat) z33).f1, ((a).getD (i : Nat) z33).f2⟩ : S33)]))).length by first | rfl | simp)), (congrArg (fun z_ => some (Value.int .i64 z_)) (show ((((i : Nat) : Int)) + 1 : Int) = (((i + 1) : Nat) : Int) by omega)), (congrArg (fun z_ => some (Value.int .i64 z_)) (show ((((j : Nat) : Int)) + 1 : Int) = (((j + 1) : Nat) : Int) by omega)), trivial⟩ ?_
     show ((i + 1) ≤ a.length ∧ (j + 1) ≤ b.length ∧ (mergeAt a b (i + 1) (j + 1)).map ((L ++ ([(⟨((a).getD (i : Nat) z33).f0, ((a).getD (i : Nat) z33).f1, ((a).getD (i : Nat) z33).f2⟩ : S33)])) ++ ·) = mergeV a b ∧ ((L ++ ([(⟨((a).getD (i : Nat) z33).f0, ((a).getD (i : Nat) z33).f1, ((a).getD (i : Nat) z33).f2⟩ : S33)]))).length ≤ (i + 1) + (j + 1)) ∧ _
     exact ⟨⟨by omega, by omega, hj_, by simp only [List.length_append, List.length_cons, List.length_nil]; omega⟩, h⟩
    ·
     refine wc_seq ?_
     refine wc_draw (fun w => Sx.St w0 F0 ([Sx.row k33 33 (A) (c) (L)] ++ R) w) (by kernel_rfl) ?_
     replace h := st_drew h
     refine wa_tk 0 rfl rfl rfl (st_selT [true] h) (fun w_ hS => ov_move _ rfl) ?_
     refine wa_tk 1 rfl rfl rfl (st_selT [true] h) (fun w_ hS => ov_move _ rfl) ?_
     refine wa_tk 2 rfl rfl rfl (st_selT [true] h) (fun w_ hS => ov_indexAddrN _ _ _ _ _ (i : Nat) rfl rfl es22 rfl (by first | assumption | omega | (simp only [List.length_take, List.length_drop, List.length_set]; omega))) ?_
     refine wa_tk 3 rfl rfl rfl (st_selT [true] h) (fun w_ hS => ov_loadN _ [.int .i64 (((a).getD (i : Nat) z33).f0), .int .i64 (((a).getD (i : Nat) z33).f1), .string (((a).getD (i : Nat) z33).f2)] rfl sh33 (by intro j u hu; rw [Deep.add_add]; exact Sx.ro_cell hv hS (hc21 _ _ hu))) ?_
     refine wa_tk 4 rfl rfl rfl (st_selT [true] h) (fun w_ hS => ov_move _ rfl) ?_
     refine wa_tk 5 rfl rfl rfl (st_selT [true] h) (fun w_ hS => ov_move _ rfl) ?_
     refine wa_tk 6 rfl rfl rfl (st_selT [true] h) (fun w_ hS => ov_indexAddrN _ _ _ _ _ (j : Nat) rfl rfl es22 rfl (by first | assumption | omega | (simp only [List.length_take, List.length_drop, List.length_set]; omega))) ?_
     refine wa_tk 7 rfl rfl rfl (st_selT [true] h) (fun w_ hS => ov_loadN _ [.int .i64 (((b).getD (j : Nat) z33).f0), .int .i64 (((b).getD (j : Nat) z33).f1), .string (((b).getD (j : Nat) z33).f2)] rfl sh33 (by intro j u hu; rw [Deep.add_add]; exact Sx.ro_cell hv hS (hc25 _ _ hu))) ?_
     refine wa_one 8 rfl (by kernel_rfl) ?_
     refine wl_call _ rfl rfl rfl ent27 (E.apart_calls (R := [Sx.row k33 33 (A) (c) (L)] ++ R) ((a).getD (i : Nat) z33) ((b).getD (j : Nat) z33) h) ?_
     rintro e_ w_ ⟨rfl, h⟩
     refine ⟨_, rfl, ?_⟩
     refine wl_nil ?_
     refine qn_wa (st_selT [true] h) ?_
     refine wa_tk 9 rfl rfl rfl (st_selT [true] h) (fun w_ hS => ov_assign _ rfl) ?_
     refine wa_done (by kernel_rfl) ?_
     refine qn_then ?_
     refine wc_cond (by rfl) (fun c33 => ?_) (fun c33 => ?_)
     ·
      refine wc_seq ?_
      refine wc_region ?_
      refine wl_v rfl rfl (ov_move _ rfl) ?_
      refine wl_v rfl rfl (ov_move _ rfl) ?_
      refine wl_v rfl rfl (ov_move _ rfl) ?_
      refine wl_v rfl rfl (ov_indexAddrN _ _ _ _ _ (i : Nat) rfl rfl es22 rfl (by first | assumption | omega | (simp only [List.length_take, List.length_drop, List.length_set]; omega))) ?_
      refine wl_v rfl rfl (ov_loadN _ [.int .i64 (((a).getD (i : Nat) z33).f0), .int .i64 (((a).getD (i : Nat) z33).f1), .string (((a).getD (i : Nat) z33).f2)] rfl sh33 (by intro j u hu; rw [Deep.add_add]; exact Sx.ro_cell hv h (hc21 _ _ hu))) ?_
      refine wl_lit (d := k33) [(0, .agg #[.int .i64 (((a).getD (i : Nat) z33).f0), .int .i64 (((a).getD (i : Nat) z33).f1), .string (((a).getD (i : Nat) z33).f2)])] _ [.int .i64 (((a).getD (i : Nat) z33).f0), .int .i64 (((a).getD (i : Nat) z33).f1), .string (((a).getD (i : Nat) z33).f2)] ([(⟨((a).getD (i : Nat) z33).f0, ((a).getD (i : Nat) z33).f1, ((a).getD (i : Nat) z33).f2⟩ : S33)]) h rfl rfl rfl rfl Try.underlying22 infb33 rfl (by decide) (by kernel_rfl) rfl (fun _ _ _ => ((Reps.none _ _).snoc (k33_mkM _ _ _ ((⟨((a).getD (i : Nat) z33).f0, ((a).getD (i : Nat) z33).f1, ((a).getD (i : Nat) z33).f2⟩ : S33))) rfl)) (fun A34 cp35 _ h => ?_)
      refine wl_append (d := k33) (L := L) 1 _ 32 _ _ _ ([(⟨((a).getD (i : Nat) z33).f0, ((a).getD (i : Nat) z33).f1, ((a).getD (i : Nat) z33).f2⟩ : S33)]) flat33 h rfl rfl rfl rfl rfl ((Sx.row_reads h (i := 0) rfl).2) Try.underlying22 inf33 rfl (by decide) (by decide) (by first | omega | (simp only [List.length_cons, List.length_nil, List.length_append, List.length_take, List.length_drop]; omega)) (by first | rfl | simp) (fun A36 cp37 _ h => ?_)
      replace h := st_selT [false, true] h
      refine wl_v rfl rfl (ov_assign _ rfl) ?_
      refine wl_nil ?_
      refine qn_then ?_
      refine wc_region ?_
      refine wl_v rfl rfl (ov_move _ rfl) ?_
      refine wl_v rfl rfl (ov_bin _ rfl rfl (binR_add (r := (((i : Nat) : Int)) + 1) (Sx.w64 (by omega)))) ?_
      refine wl_v rfl rfl (ov_assign _ rfl) ?_
      refine wl_nil ?_
      refine qn_block_normal ?_
      refine qn_block_normal ?_
      have hj_ := hJ.2.2.1
      first
        | rw [mergeAt_two (by omega) (by omega), if_neg (fun e_ => by rw [edit_eq] at e_; contradiction), if_pos (by assumption), map_app] at hj_
        | rw [mergeAt_a (by omega) (by omega), map_app] at hj_
      refine qn_next ((i + 1), j, A36, cp37, (L ++ ([(⟨((a).getD (i : Nat) z33).f0, ((a).getD (i : Nat) z33).f1, ((a).getD (i : Nat) z33).f2⟩ : S33)]))) (by show a.length + b.length - ((i + 1) + j) < a.length + b.length - (i + j); omega) ⟨(congrArg (fun z_ => some (Value.slice (some ad20) z_ (ca))) (show (a.length : Nat) = a.length by first | rfl | simp)), (congrArg (fun z_ => some (Value.slice (some ad24) z_ (cb))) (show (b.length : Nat) = b.length by first | rfl | simp)), (congrArg (fun z_ => some (Value.slice (A36) z_ (cp37))) (show ((L ++ ([(⟨((a).getD (i : Nat) z33).f0, ((a).getD (i : Nat) z33).f1, ((a).getD (i : Nat) z33).f2⟩ : S33)])).length : Nat) = ((L ++ ([(⟨((a).getD (i : Nat) z33).f0, ((a).getD (i : Nat) z33).f1, ((a).getD (i : Nat) z33).f2⟩ : S33)]))).length by first | rfl | simp)), (congrArg (fun z_ => some (Value.int .i64 z_)) (show ((((i : Nat) : Int)) + 1 : Int) = (((i + 1) : Nat) : Int) by omega)), rfl, trivial⟩ ?_
      show ((i + 1) ≤ a.length ∧ j ≤ b.length ∧ (mergeAt a b (i + 1) j).map ((L ++ ([(⟨((a).getD (i : Nat) z33).f0, ((a).getD (i : Nat) z33).f1, ((a).getD (i : Nat) z33).f2⟩ : S33)])) ++ ·) = mergeV a b ∧ ((L ++ ([(⟨((a).getD (i : Nat) z33).f0, ((a).getD (i : Nat) z33).f1, ((a).getD (i : Nat) z33).f2⟩ : S33)]))).length ≤ (i + 1) + j) ∧ _
      exact ⟨⟨by omega, by omega, hj_, by simp only [List.length_append, List.length_cons, List.length_nil]; omega⟩, h⟩
     ·
      refine wc_seq ?_
      refine wc_draw (fun w => Sx.St w0 F0 ([Sx.row k33 33 (A) (c) (L)] ++ R) w) (by kernel_rfl) ?_
      replace h := st_drew h
      refine wa_tk 0 rfl rfl rfl (st_selT [true] h) (fun w_ hS => ov_move _ rfl) ?_
      refine wa_tk 1 rfl rfl rfl (st_selT [true] h) (fun w_ hS => ov_move _ rfl) ?_
      refine wa_tk 2 rfl rfl rfl (st_selT [true] h) (fun w_ hS => ov_indexAddrN _ _ _ _ _ (j : Nat) rfl rfl es22 rfl (by first | assumption | omega | (simp only [List.length_take, List.length_drop, List.length_set]; omega))) ?_
      refine wa_tk 3 rfl rfl rfl (st_selT [true] h) (fun w_ hS => ov_loadN _ [.int .i64 (((b).getD (j : Nat) z33).f0), .int .i64 (((b).getD (j : Nat) z33).f1), .string (((b).getD (j : Nat) z33).f2)] rfl sh33 (by intro j u hu; rw [Deep.add_add]; exact Sx.ro_cell hv hS (hc25 _ _ hu))) ?_
      refine wa_tk 4 rfl rfl rfl (st_selT [true] h) (fun w_ hS => ov_move _ rfl) ?_
      refine wa_tk 5 rfl rfl rfl (st_selT [true] h) (fun w_ hS => ov_move _ rfl) ?_
      refine wa_tk 6 rfl rfl rfl (st_selT [true] h) (fun w_ hS => ov_indexAddrN _ _ _ _ _ (i : Nat) rfl rfl es22 rfl (by first | assumption | omega | (simp only [List.length_take, List.length_drop, List.length_set]; omega))) ?_
      refine wa_tk 7 rfl rfl rfl (st_selT [true] h) (fun w_ hS => ov_loadN _ [.int .i64 (((a).getD (i : Nat) z33).f0), .int .i64 (((a).getD (i : Nat) z33).f1), .string (((a).getD (i : Nat) z33).f2)] rfl sh33 (by intro j u hu; rw [Deep.add_add]; exact Sx.ro_cell hv hS (hc21 _ _ hu))) ?_
      refine wa_one 8 rfl (by kernel_rfl) ?_
      refine wl_call _ rfl rfl rfl ent27 (E.apart_calls (R := [Sx.row k33 33 (A) (c) (L)] ++ R) ((b).getD (j : Nat) z33) ((a).getD (i : Nat) z33) h) ?_
      rintro e_ w_ ⟨rfl, h⟩
      refine ⟨_, rfl, ?_⟩
      refine wl_nil ?_
      refine qn_wa (st_selT [true] h) ?_
      refine wa_tk 9 rfl rfl rfl (st_selT [true] h) (fun w_ hS => ov_assign _ rfl) ?_
      refine wa_done (by kernel_rfl) ?_
      refine qn_then ?_
      refine wc_cond (by rfl) (fun c38 => ?_) (fun c38 => ?_)
      ·
       refine wc_seq ?_
       refine wc_region ?_
       refine wl_v rfl rfl (ov_move _ rfl) ?_
       refine wl_v rfl rfl (ov_move _ rfl) ?_
       refine wl_v rfl rfl (ov_move _ rfl) ?_
       refine wl_v rfl rfl (ov_indexAddrN _ _ _ _ _ (j : Nat) rfl rfl es22 rfl (by first | assumption | omega | (simp only [List.length_take, List.length_drop, List.length_set]; omega))) ?_
       refine wl_v rfl rfl (ov_loadN _ [.int .i64 (((b).getD (j : Nat) z33).f0), .int .i64 (((b).getD (j : Nat) z33).f1), .string (((b).getD (j : Nat) z33).f2)] rfl sh33 (by intro j u hu; rw [Deep.add_add]; exact Sx.ro_cell hv h (hc25 _ _ hu))) ?_
       refine wl_lit (d := k33) [(0, .agg #[.int .i64 (((b).getD (j : Nat) z33).f0), .int .i64 (((b).getD (j : Nat) z33).f1), .string (((b).getD (j : Nat) z33).f2)])] _ [.int .i64 (((b).getD (j : Nat) z33).f0), .int .i64 (((b).getD (j : Nat) z33).f1), .string (((b).getD (j : Nat) z33).f2)] ([(⟨((b).getD (j : Nat) z33).f0, ((b).getD (j : Nat) z33).f1, ((b).getD (j : Nat) z33).f2⟩ : S33)]) h rfl rfl rfl rfl Try.underlying22 infb33 rfl (by decide) (by kernel_rfl) rfl (fun _ _ _ => ((Reps.none _ _).snoc (k33_mkM _ _ _ ((⟨((b).getD (j : Nat) z33).f0, ((b).getD (j : Nat) z33).f1, ((b).getD (j : Nat) z33).f2⟩ : S33))) rfl)) (fun A39 cp40 _ h => ?_)
       refine wl_append (d := k33) (L := L) 1 _ 32 _ _ _ ([(⟨((b).getD (j : Nat) z33).f0, ((b).getD (j : Nat) z33).f1, ((b).getD (j : Nat) z33).f2⟩ : S33)]) flat33 h rfl rfl rfl rfl rfl ((Sx.row_reads h (i := 0) rfl).2) Try.underlying22 inf33 rfl (by decide) (by decide) (by first | omega | (simp only [List.length_cons, List.length_nil, List.length_append, List.length_take, List.length_drop]; omega)) (by first | rfl | simp) (fun A41 cp42 _ h => ?_)
       replace h := st_selT [false, true] h
       refine wl_v rfl rfl (ov_assign _ rfl) ?_
       refine wl_nil ?_
       refine qn_then ?_
       refine wc_region ?_
       refine wl_v rfl rfl (ov_move _ rfl) ?_
       refine wl_v rfl rfl (ov_bin _ rfl rfl (binR_add (r := (((j : Nat) : Int)) + 1) (Sx.w64 (by omega)))) ?_
       refine wl_v rfl rfl (ov_assign _ rfl) ?_
       refine wl_nil ?_
       refine qn_block_normal ?_
       refine qn_block_normal ?_
       have hj_ := hJ.2.2.1
       first
         | rw [mergeAt_two (by omega) (by omega), if_neg (fun e_ => by rw [edit_eq] at e_; contradiction), if_neg (by assumption), if_pos (by assumption), map_app] at hj_
         | rw [mergeAt_b (by omega) (by omega), map_app] at hj_
       refine qn_next (i, (j + 1), A41, cp42, (L ++ ([(⟨((b).getD (j : Nat) z33).f0, ((b).getD (j : Nat) z33).f1, ((b).getD (j : Nat) z33).f2⟩ : S33)]))) (by show a.length + b.length - (i + (j + 1)) < a.length + b.length - (i + j); omega) ⟨(congrArg (fun z_ => some (Value.slice (some ad20) z_ (ca))) (show (a.length : Nat) = a.length by first | rfl | simp)), (congrArg (fun z_ => some (Value.slice (some ad24) z_ (cb))) (show (b.length : Nat) = b.length by first | rfl | simp)), (congrArg (fun z_ => some (Value.slice (A41) z_ (cp42))) (show ((L ++ ([(⟨((b).getD (j : Nat) z33).f0, ((b).getD (j : Nat) z33).f1, ((b).getD (j : Nat) z33).f2⟩ : S33)])).length : Nat) = ((L ++ ([(⟨((b).getD (j : Nat) z33).f0, ((b).getD (j : Nat) z33).f1, ((b).getD (j : Nat) z33).f2⟩ : S33)]))).length by first | rfl | simp)), rfl, (congrArg (fun z_ => some (Value.int .i64 z_)) (show ((((j : Nat) : Int)) + 1 : Int) = (((j + 1) : Nat) : Int) by omega)), trivial⟩ ?_
       show (i ≤ a.length ∧ (j + 1) ≤ b.length ∧ (mergeAt a b i (j + 1)).map ((L ++ ([(⟨((b).getD (j : Nat) z33).f0, ((b).getD (j : Nat) z33).f1, ((b).getD (j : Nat) z33).f2⟩ : S33)])) ++ ·) = mergeV a b ∧ ((L ++ ([(⟨((b).getD (j : Nat) z33).f0, ((b).getD (j : Nat) z33).f1, ((b).getD (j : Nat) z33).f2⟩ : S33)]))).length ≤ i + (j + 1)) ∧ _
       exact ⟨⟨by omega, by omega, hj_, by simp only [List.length_append, List.length_cons, List.length_nil]; omega⟩, h⟩
      ·
       refine wc_seq ?_
       refine wc_region ?_
       refine wl_v rfl rfl (ov_assign _ rfl) ?_
       refine wl_v rfl rfl (ov_assign _ rfl) ?_
       refine wl_nil ?_
       refine qn_then ?_
       refine wc_ret ?_
       refine qn_block_ret ?_
       refine qn_block_ret ?_
       refine qn_then_ret ?_
       refine qn_block_ret ?_
       refine qn_then_ret ?_
       replace h := st_selT [false] h
       replace h := st_nilrow k33 33 h
       refine qn_ret [_, _] ⟨rfl, rfl, trivial⟩ ?_
       have e_ : (mergeV a b) = none := by
         have hj_ := hJ.2.2.1
         rw [mergeAt_two (by omega) (by omega), if_neg (fun e_ => by rw [edit_eq] at e_; contradiction), if_neg (by assumption), if_neg (by assumption)] at hj_
         exact hj_.symm
       rw [e_]
       exact ⟨none, 0, rfl, h⟩
 ·
  refine wl_v rfl rfl (ov_move _ rfl) ?_
  refine wl_v rfl rfl (ov_move _ rfl) ?_
  refine wl_v rfl rfl (ov_len _ _ _ _ _ rfl es22) ?_
  refine wl_v rfl rfl (ov_bin _ rfl rfl (binR_lss)) ?_
  refine wl_v rfl rfl (ov_pick_false _ rfl rfl) ?_
  refine wl_nil ?_
  refine qn_then ?_
  refine wc_cond (by rfl) (fun c43 => ?_) (fun c43 => ?_)
  ·
   refine wc_skip ?_
   refine qn_then ?_
   refine wc_block ?_
   refine wc_block ?_
   refine wc_seq ?_
   refine wc_region ?_
   refine wl_v rfl rfl (ov_move _ rfl) ?_
   refine wl_v rfl rfl (ov_move _ rfl) ?_
   refine wl_v rfl rfl (ov_len _ _ _ _ _ rfl es22) ?_
   refine wl_v rfl rfl (ov_bin _ rfl rfl (binR_eql)) ?_
   refine wl_v rfl rfl (ov_assign _ rfl) ?_
   refine wl_nil ?_
   refine qn_then ?_
   refine wc_cond (by rfl) (fun c44 => ?_) (fun c44 => ?_)
   ·
    refine wc_seq ?_
    refine wc_region ?_
    refine wl_v rfl rfl (ov_move _ rfl) ?_
    refine wl_v rfl rfl (ov_move _ rfl) ?_
    refine wl_v rfl rfl (ov_move _ rfl) ?_
    obtain ⟨ad45, rfl⟩ := Sx.C_some ((Sx.ro_C hv h hCb)) (k := (j : Nat)) (by first | assumption | omega)
    refine wl_v rfl rfl (ov_indexAddrN _ _ _ _ _ (j : Nat) rfl rfl es22 rfl (by first | assumption | omega | (simp only [List.length_take, List.length_drop, List.length_set]; omega))) ?_
    obtain ⟨cl48, _, hk47, hc46⟩ := Sx.C_cells (hCb) (z := z33) (k := (j : Nat)) (by first | assumption | omega)
    obtain rfl := k33_open hk47
    refine wl_v rfl rfl (ov_loadN _ [.int .i64 (((b).getD (j : Nat) z33).f0), .int .i64 (((b).getD (j : Nat) z33).f1), .string (((b).getD (j : Nat) z33).f2)] rfl sh33 (by intro j u hu; rw [Deep.add_add]; exact Sx.ro_cell hv h (hc46 _ _ hu))) ?_
    refine wl_lit (d := k33) [(0, .agg #[.int .i64 (((b).getD (j : Nat) z33).f0), .int .i64 (((b).getD (j : Nat) z33).f1), .string (((b).getD (j : Nat) z33).f2)])] _ [.int .i64 (((b).getD (j : Nat) z33).f0), .int .i64 (((b).getD (j : Nat) z33).f1), .string (((b).getD (j : Nat) z33).f2)] ([(⟨((b).getD (j : Nat) z33).f0, ((b).getD (j : Nat) z33).f1, ((b).getD (j : Nat) z33).f2⟩ : S33)]) h rfl rfl rfl rfl Try.underlying22 infb33 rfl (by decide) (by kernel_rfl) rfl (fun _ _ _ => ((Reps.none _ _).snoc (k33_mkM _ _ _ ((⟨((b).getD (j : Nat) z33).f0, ((b).getD (j : Nat) z33).f1, ((b).getD (j : Nat) z33).f2⟩ : S33))) rfl)) (fun A49 cp50 _ h => ?_)
    refine wl_append (d := k33) (L := L) 1 _ 32 _ _ _ ([(⟨((b).getD (j : Nat) z33).f0, ((b).getD (j : Nat) z33).f1, ((b).getD (j : Nat) z33).f2⟩ : S33)]) flat33 h rfl rfl rfl rfl rfl ((Sx.row_reads h (i := 0) rfl).2) Try.underlying22 inf33 rfl (by decide) (by decide) (by first | omega | (simp only [List.length_cons, List.length_nil, List.length_append, List.length_take, List.length_drop]; omega)) (by first | rfl | simp) (fun A51 cp52 _ h => ?_)
    replace h := st_selT [false, true] h
    refine wl_v rfl rfl (ov_assign _ rfl) ?_
    refine wl_nil ?_
    refine qn_then ?_
    refine wc_region ?_
    refine wl_v rfl rfl (ov_move _ rfl) ?_
    refine wl_v rfl rfl (ov_bin _ rfl rfl (binR_add (r := (((j : Nat) : Int)) + 1) (Sx.w64 (by omega)))) ?_
    refine wl_v rfl rfl (ov_assign _ rfl) ?_
    refine wl_nil ?_
    refine qn_block_normal ?_
    refine qn_block_normal ?_
    have hj_ := hJ.2.2.1
    first
      | rw [mergeAt_two (by omega) (by omega), if_neg (fun e_ => by rw [edit_eq] at e_; contradiction), if_neg (by assumption), if_pos (by assumption), map_app] at hj_
      | rw [mergeAt_b (by omega) (by omega), map_app] at hj_
    refine qn_next (i, (j + 1), A51, cp52, (L ++ ([(⟨((b).getD (j : Nat) z33).f0, ((b).getD (j : Nat) z33).f1, ((b).getD (j : Nat) z33).f2⟩ : S33)]))) (by show a.length + b.length - (i + (j + 1)) < a.length + b.length - (i + j); omega) ⟨rfl, (congrArg (fun z_ => some (Value.slice (some ad45) z_ (cb))) (show (b.length : Nat) = b.length by first | rfl | simp)), (congrArg (fun z_ => some (Value.slice (A51) z_ (cp52))) (show ((L ++ ([(⟨((b).getD (j : Nat) z33).f0, ((b).getD (j : Nat) z33).f1, ((b).getD (j : Nat) z33).f2⟩ : S33)])).length : Nat) = ((L ++ ([(⟨((b).getD (j : Nat) z33).f0, ((b).getD (j : Nat) z33).f1, ((b).getD (j : Nat) z33).f2⟩ : S33)]))).length by first | rfl | simp)), rfl, (congrArg (fun z_ => some (Value.int .i64 z_)) (show ((((j : Nat) : Int)) + 1 : Int) = (((j + 1) : Nat) : Int) by omega)), trivial⟩ ?_
    show (i ≤ a.length ∧ (j + 1) ≤ b.length ∧ (mergeAt a b i (j + 1)).map ((L ++ ([(⟨((b).getD (j : Nat) z33).f0, ((b).getD (j : Nat) z33).f1, ((b).getD (j : Nat) z33).f2⟩ : S33)])) ++ ·) = mergeV a b ∧ ((L ++ ([(⟨((b).getD (j : Nat) z33).f0, ((b).getD (j : Nat) z33).f1, ((b).getD (j : Nat) z33).f2⟩ : S33)]))).length ≤ i + (j + 1)) ∧ _
    exact ⟨⟨by omega, by omega, hj_, by simp only [List.length_append, List.length_cons, List.length_nil]; omega⟩, h⟩
   ·
    refine wc_seq ?_
    refine wc_region ?_
    refine wl_v rfl rfl (ov_move _ rfl) ?_
    refine wl_v rfl rfl (ov_move _ rfl) ?_
    refine wl_v rfl rfl (ov_len _ _ _ _ _ rfl es22) ?_
    refine wl_v rfl rfl (ov_bin _ rfl rfl (binR_eql)) ?_
    refine wl_v rfl rfl (ov_assign _ rfl) ?_
    refine wl_nil ?_
    refine qn_then ?_
    refine wc_cond (by rfl) (fun c53 => ?_) (fun c53 => ?_)
    ·
     refine wc_seq ?_
     refine wc_region ?_
     refine wl_v rfl rfl (ov_move _ rfl) ?_
     refine wl_v rfl rfl (ov_move _ rfl) ?_
     refine wl_v rfl rfl (ov_move _ rfl) ?_
     obtain ⟨ad54, rfl⟩ := Sx.C_some ((Sx.ro_C hv h hCa)) (k := (i : Nat)) (by first | assumption | omega)
     refine wl_v rfl rfl (ov_indexAddrN _ _ _ _ _ (i : Nat) rfl rfl es22 rfl (by first | assumption | omega | (simp only [List.length_take, List.length_drop, List.length_set]; omega))) ?_
     obtain ⟨cl57, _, hk56, hc55⟩ := Sx.C_cells (hCa) (z := z33) (k := (i : Nat)) (by first | assumption | omega)
     obtain rfl := k33_open hk56
     refine wl_v rfl rfl (ov_loadN _ [.int .i64 (((a).getD (i : Nat) z33).f0), .int .i64 (((a).getD (i : Nat) z33).f1), .string (((a).getD (i : Nat) z33).f2)] rfl sh33 (by intro j u hu; rw [Deep.add_add]; exact Sx.ro_cell hv h (hc55 _ _ hu))) ?_
     refine wl_lit (d := k33) [(0, .agg #[.int .i64 (((a).getD (i : Nat) z33).f0), .int .i64 (((a).getD (i : Nat) z33).f1), .string (((a).getD (i : Nat) z33).f2)])] _ [.int .i64 (((a).getD (i : Nat) z33).f0), .int .i64 (((a).getD (i : Nat) z33).f1), .string (((a).getD (i : Nat) z33).f2)] ([(⟨((a).getD (i : Nat) z33).f0, ((a).getD (i : Nat) z33).f1, ((a).getD (i : Nat) z33).f2⟩ : S33)]) h rfl rfl rfl rfl Try.underlying22 infb33 rfl (by decide) (by kernel_rfl) rfl (fun _ _ _ => ((Reps.none _ _).snoc (k33_mkM _ _ _ ((⟨((a).getD (i : Nat) z33).f0, ((a).getD (i : Nat) z33).f1, ((a).getD (i : Nat) z33).f2⟩ : S33))) rfl)) (fun A58 cp59 _ h => ?_)
     refine wl_append (d := k33) (L := L) 1 _ 32 _ _ _ ([(⟨((a).getD (i : Nat) z33).f0, ((a).getD (i : Nat) z33).f1, ((a).getD (i : Nat) z33).f2⟩ : S33)]) flat33 h rfl rfl rfl rfl rfl ((Sx.row_reads h (i := 0) rfl).2) Try.underlying22 inf33 rfl (by decide) (by decide) (by first | omega | (simp only [List.length_cons, List.length_nil, List.length_append, List.length_take, List.length_drop]; omega)) (by first | rfl | simp) (fun A60 cp61 _ h => ?_)
     replace h := st_selT [false, true] h
     refine wl_v rfl rfl (ov_assign _ rfl) ?_
     refine wl_nil ?_
     refine qn_then ?_
     refine wc_region ?_
     refine wl_v rfl rfl (ov_move _ rfl) ?_
     refine wl_v rfl rfl (ov_bin _ rfl rfl (binR_add (r := (((i : Nat) : Int)) + 1) (Sx.w64 (by omega)))) ?_
     refine wl_v rfl rfl (ov_assign _ rfl) ?_
     refine wl_nil ?_
     refine qn_block_normal ?_
     refine qn_block_normal ?_
     have hj_ := hJ.2.2.1
     first
       | rw [mergeAt_two (by omega) (by omega), if_neg (fun e_ => by rw [edit_eq] at e_; contradiction), if_pos (by assumption), map_app] at hj_
       | rw [mergeAt_a (by omega) (by omega), map_app] at hj_
     refine qn_next ((i + 1), j, A60, cp61, (L ++ ([(⟨((a).getD (i : Nat) z33).f0, ((a).getD (i : Nat) z33).f1, ((a).getD (i : Nat) z33).f2⟩ : S33)]))) (by show a.length + b.length - ((i + 1) + j) < a.length + b.length - (i + j); omega) ⟨(congrArg (fun z_ => some (Value.slice (some ad54) z_ (ca))) (show (a.length : Nat) = a.length by first | rfl | simp)), rfl, (congrArg (fun z_ => some (Value.slice (A60) z_ (cp61))) (show ((L ++ ([(⟨((a).getD (i : Nat) z33).f0, ((a).getD (i : Nat) z33).f1, ((a).getD (i : Nat) z33).f2⟩ : S33)])).length : Nat) = ((L ++ ([(⟨((a).getD (i : Nat) z33).f0, ((a).getD (i : Nat) z33).f1, ((a).getD (i : Nat) z33).f2⟩ : S33)]))).length by first | rfl | simp)), (congrArg (fun z_ => some (Value.int .i64 z_)) (show ((((i : Nat) : Int)) + 1 : Int) = (((i + 1) : Nat) : Int) by omega)), rfl, trivial⟩ ?_
     show ((i + 1) ≤ a.length ∧ j ≤ b.length ∧ (mergeAt a b (i + 1) j).map ((L ++ ([(⟨((a).getD (i : Nat) z33).f0, ((a).getD (i : Nat) z33).f1, ((a).getD (i : Nat) z33).f2⟩ : S33)])) ++ ·) = mergeV a b ∧ ((L ++ ([(⟨((a).getD (i : Nat) z33).f0, ((a).getD (i : Nat) z33).f1, ((a).getD (i : Nat) z33).f2⟩ : S33)]))).length ≤ (i + 1) + j) ∧ _
     exact ⟨⟨by omega, by omega, hj_, by simp only [List.length_append, List.length_cons, List.length_nil]; omega⟩, h⟩
    ·
     refine wc_seq ?_
     refine wc_draw (fun w => Sx.St w0 F0 ([Sx.row k33 33 (A) (c) (L)] ++ R) w) (by kernel_rfl) ?_
     replace h := st_drew h
     refine wa_tk 0 rfl rfl rfl (st_selT [true] h) (fun w_ hS => ov_move _ rfl) ?_
     refine wa_tk 1 rfl rfl rfl (st_selT [true] h) (fun w_ hS => ov_move _ rfl) ?_
     obtain ⟨ad62, rfl⟩ := Sx.C_some ((Sx.ro_C hv h hCa)) (k := (i : Nat)) (by first | assumption | omega)
     refine wa_tk 2 rfl rfl rfl (st_selT [true] h) (fun w_ hS => ov_indexAddrN _ _ _ _ _ (i : Nat) rfl rfl es22 rfl (by first | assumption | omega | (simp only [List.length_take, List.length_drop, List.length_set]; omega))) ?_
     obtain ⟨cl65, _, hk64, hc63⟩ := Sx.C_cells (hCa) (z := z33) (k := (i : Nat)) (by first | assumption | omega)
     obtain rfl := k33_open hk64
     refine wa_tk 3 rfl rfl rfl (st_selT [true] h) (fun w_ hS => ov_loadN _ [.int .i64 (((a).getD (i : Nat) z33).f0), .int .i64 (((a).getD (i : Nat) z33).f1), .string (((a).getD (i : Nat) z33).f2)] rfl sh33 (by intro j u hu; rw [Deep.add_add]; exact Sx.ro_cell hv hS (hc63 _ _ hu))) ?_
     refine wa_tk 4 rfl rfl rfl (st_selT [true] h) (fun w_ hS => ov_move _ rfl) ?_
     refine wa_tk 5 rfl rfl rfl (st_selT [true] h) (fun w_ hS => ov_move _ rfl) ?_
     obtain ⟨ad66, rfl⟩ := Sx.C_some ((Sx.ro_C hv h hCb)) (k := (j : Nat)) (by first | assumption | omega)
     refine wa_tk 6 rfl rfl rfl (st_selT [true] h) (fun w_ hS => ov_indexAddrN _ _ _ _ _ (j : Nat) rfl rfl es22 rfl (by first | assumption | omega | (simp only [List.length_take, List.length_drop, List.length_set]; omega))) ?_
     obtain ⟨cl69, _, hk68, hc67⟩ := Sx.C_cells (hCb) (z := z33) (k := (j : Nat)) (by first | assumption | omega)
     obtain rfl := k33_open hk68
     refine wa_tk 7 rfl rfl rfl (st_selT [true] h) (fun w_ hS => ov_loadN _ [.int .i64 (((b).getD (j : Nat) z33).f0), .int .i64 (((b).getD (j : Nat) z33).f1), .string (((b).getD (j : Nat) z33).f2)] rfl sh33 (by intro j u hu; rw [Deep.add_add]; exact Sx.ro_cell hv hS (hc67 _ _ hu))) ?_
     refine wa_tk 8 rfl rfl rfl (st_selT [true] h) (fun w_ hS => ov_bin _ rfl rfl (binR_eqS ((((((a).getD (i : Nat) z33).f0 : Int) == (((b).getD (j : Nat) z33).f0)) && (((((a).getD (i : Nat) z33).f1 : Int) == (((b).getD (j : Nat) z33).f1)) && (((decide ((((a).getD (i : Nat) z33).f2) = ((b).getD (j : Nat) z33).f2))) && true)))) ((((a).getD (i : Nat) z33).f0 : Int) = (((b).getD (j : Nat) z33).f0) ∧ (((a).getD (i : Nat) z33).f1 : Int) = (((b).getD (j : Nat) z33).f1) ∧ (((a).getD (i : Nat) z33).f2) = (((b).getD (j : Nat) z33).f2)) eqf33 eqs33 (by kernel_rfl) (by rw [Bool.eq_iff_iff]; simp))) ?_
     refine wa_tk 9 rfl rfl rfl (st_selT [true] h) (fun w_ hS => ov_assign _ rfl) ?_
     refine wa_done (by kernel_rfl) ?_
     refine qn_then ?_
     refine wc_cond (by rfl) (fun c70 => ?_) (fun c70 => ?_)
     ·
      refine wc_seq ?_
      refine wc_region ?_
      refine wl_v rfl rfl (ov_move _ rfl) ?_
      refine wl_v rfl rfl (ov_move _ rfl) ?_
      refine wl_v rfl rfl (ov_move _ rfl) ?_
      refine wl_v rfl rfl (ov_indexAddrN _ _ _ _ _ (i : Nat) rfl rfl es22 rfl (by first | assumption | omega | (simp only [List.length_take, List.length_drop, List.length_set]; omega))) ?_
      refine wl_v rfl rfl (ov_loadN _ [.int .i64 (((a).getD (i : Nat) z33).f0), .int .i64 (((a).getD (i : Nat) z33).f1), .string (((a).getD (i : Nat) z33).f2)] rfl sh33 (by intro j u hu; rw [Deep.add_add]; exact Sx.ro_cell hv h (hc63 _ _ hu))) ?_
      refine wl_lit (d := k33) [(0, .agg #[.int .i64 (((a).getD (i : Nat) z33).f0), .int .i64 (((a).getD (i : Nat) z33).f1), .string (((a).getD (i : Nat) z33).f2)])] _ [.int .i64 (((a).getD (i : Nat) z33).f0), .int .i64 (((a).getD (i : Nat) z33).f1), .string (((a).getD (i : Nat) z33).f2)] ([(⟨((a).getD (i : Nat) z33).f0, ((a).getD (i : Nat) z33).f1, ((a).getD (i : Nat) z33).f2⟩ : S33)]) h rfl rfl rfl rfl Try.underlying22 infb33 rfl (by decide) (by kernel_rfl) rfl (fun _ _ _ => ((Reps.none _ _).snoc (k33_mkM _ _ _ ((⟨((a).getD (i : Nat) z33).f0, ((a).getD (i : Nat) z33).f1, ((a).getD (i : Nat) z33).f2⟩ : S33))) rfl)) (fun A71 cp72 _ h => ?_)
      refine wl_append (d := k33) (L := L) 1 _ 32 _ _ _ ([(⟨((a).getD (i : Nat) z33).f0, ((a).getD (i : Nat) z33).f1, ((a).getD (i : Nat) z33).f2⟩ : S33)]) flat33 h rfl rfl rfl rfl rfl ((Sx.row_reads h (i := 0) rfl).2) Try.underlying22 inf33 rfl (by decide) (by decide) (by first | omega | (simp only [List.length_cons, List.length_nil, List.length_append, List.length_take, List.length_drop]; omega)) (by first | rfl | simp) (fun A73 cp74 _ h => ?_)
      replace h := st_selT [false, true] h
      refine wl_v rfl rfl (ov_assign _ rfl) ?_
      refine wl_nil ?_
      refine qn_then ?_
      refine wc_region ?_
      refine wl_v rfl rfl (ov_move _ rfl) ?_
      refine wl_v rfl rfl (ov_bin _ rfl rfl (binR_add (r := (((i : Nat) : Int)) + 1) (Sx.w64 (by omega)))) ?_
      refine wl_v rfl rfl (ov_move _ rfl) ?_
      refine wl_v rfl rfl (ov_bin _ rfl rfl (binR_add (r := (((j : Nat) : Int)) + 1) (Sx.w64 (by omega)))) ?_
      refine wl_v rfl rfl (ov_assign _ rfl) ?_
      refine wl_v rfl rfl (ov_assign _ rfl) ?_
      refine wl_nil ?_
      refine qn_block_normal ?_
      refine qn_block_normal ?_
      have hj_ := hJ.2.2.1
      rw [mergeAt_two (by omega) (by omega), if_pos ((edit_eq _ _).2 (by assumption)), map_app] at hj_
      refine qn_next ((i + 1), (j + 1), A73, cp74, (L ++ ([(⟨((a).getD (i : Nat) z33).f0, ((a).getD (i : Nat) z33).f1, ((a).getD (i : Nat) z33).f2⟩ : S33)]))) (by show a.length + b.length - ((i + 1) + (j + 1)) < a.length + b.length - (i + j); omega) ⟨(congrArg (fun z_ => some (Value.slice (some ad62) z_ (ca))) (show (a.length : Nat) = a.length by first | rfl | simp)), (congrArg (fun z_ => some (Value.slice (some ad66) z_ (cb))) (show (b.length : Nat) = b.length by first | rfl | simp)), (congrArg (fun z_ => some (Value.slice (A73) z_ (cp74))) (show ((L ++ ([(⟨((a).getD (i : Nat) z33).f0, ((a).getD (i : Nat) z33).f1, ((a).getD (i : Nat) z33).f2⟩ : S33)])).length : Nat) = ((L ++ ([(⟨((a).getD (i : Nat) z33).f0, ((a).getD (i : Nat) z33).f1, ((a).getD (i : Nat) z33).f2⟩ : S33)]))).length by first | rfl | simp)), (congrArg (fun z_ => some (Value.int .i64 z_)) (show ((((i : Nat) : Int)) + 1 : Int) = (((i + 1) : Nat) : Int) by omega)), (congrArg (fun z_ => some (Value.int .i64 z_)) (show ((((j : Nat) : Int)) + 1 : Int) = (((j + 1) : Nat) : Int) by omega)), trivial⟩ ?_
      show ((i + 1) ≤ a.length ∧ (j + 1) ≤ b.length ∧ (mergeAt a b (i + 1) (j + 1)).map ((L ++ ([(⟨((a).getD (i : Nat) z33).f0, ((a).getD (i : Nat) z33).f1, ((a).getD (i : Nat) z33).f2⟩ : S33)])) ++ ·) = mergeV a b ∧ ((L ++ ([(⟨((a).getD (i : Nat) z33).f0, ((a).getD (i : Nat) z33).f1, ((a).getD (i : Nat) z33).f2⟩ : S33)]))).length ≤ (i + 1) + (j + 1)) ∧ _
      exact ⟨⟨by omega, by omega, hj_, by simp only [List.length_append, List.length_cons, List.length_nil]; omega⟩, h⟩
     ·
      refine wc_seq ?_
      refine wc_draw (fun w => Sx.St w0 F0 ([Sx.row k33 33 (A) (c) (L)] ++ R) w) (by kernel_rfl) ?_
      replace h := st_drew h
      refine wa_tk 0 rfl rfl rfl (st_selT [true] h) (fun w_ hS => ov_move _ rfl) ?_
      refine wa_tk 1 rfl rfl rfl (st_selT [true] h) (fun w_ hS => ov_move _ rfl) ?_
      refine wa_tk 2 rfl rfl rfl (st_selT [true] h) (fun w_ hS => ov_indexAddrN _ _ _ _ _ (i : Nat) rfl rfl es22 rfl (by first | assumption | omega | (simp only [List.length_take, List.length_drop, List.length_set]; omega))) ?_
      refine wa_tk 3 rfl rfl rfl (st_selT [true] h) (fun w_ hS => ov_loadN _ [.int .i64 (((a).getD (i : Nat) z33).f0), .int .i64 (((a).getD (i : Nat) z33).f1), .string (((a).getD (i : Nat) z33).f2)] rfl sh33 (by intro j u hu; rw [Deep.add_add]; exact Sx.ro_cell hv hS (hc63 _ _ hu))) ?_
      refine wa_tk 4 rfl rfl rfl (st_selT [true] h) (fun w_ hS => ov_move _ rfl) ?_
      refine wa_tk 5 rfl rfl rfl (st_selT [true] h) (fun w_ hS => ov_move _ rfl) ?_
      refine wa_tk 6 rfl rfl rfl (st_selT [true] h) (fun w_ hS => ov_indexAddrN _ _ _ _ _ (j : Nat) rfl rfl es22 rfl (by first | assumption | omega | (simp only [List.length_take, List.length_drop, List.length_set]; omega))) ?_
      refine wa_tk 7 rfl rfl rfl (st_selT [true] h) (fun w_ hS => ov_loadN _ [.int .i64 (((b).getD (j : Nat) z33).f0), .int .i64 (((b).getD (j : Nat) z33).f1), .string (((b).getD (j : Nat) z33).f2)] rfl sh33 (by intro j u hu; rw [Deep.add_add]; exact Sx.ro_cell hv hS (hc67 _ _ hu))) ?_
      refine wa_one 8 rfl (by kernel_rfl) ?_
      refine wl_call _ rfl rfl rfl ent27 (E.apart_calls (R := [Sx.row k33 33 (A) (c) (L)] ++ R) ((a).getD (i : Nat) z33) ((b).getD (j : Nat) z33) h) ?_
      rintro e_ w_ ⟨rfl, h⟩
      refine ⟨_, rfl, ?_⟩
      refine wl_nil ?_
      refine qn_wa (st_selT [true] h) ?_
      refine wa_tk 9 rfl rfl rfl (st_selT [true] h) (fun w_ hS => ov_assign _ rfl) ?_
      refine wa_done (by kernel_rfl) ?_
      refine qn_then ?_
      refine wc_cond (by rfl) (fun c75 => ?_) (fun c75 => ?_)
      ·
       refine wc_seq ?_
       refine wc_region ?_
       refine wl_v rfl rfl (ov_move _ rfl) ?_
       refine wl_v rfl rfl (ov_move _ rfl) ?_
       refine wl_v rfl rfl (ov_move _ rfl) ?_
       refine wl_v rfl rfl (ov_indexAddrN _ _ _ _ _ (i : Nat) rfl rfl es22 rfl (by first | assumption | omega | (simp only [List.length_take, List.length_drop, List.length_set]; omega))) ?_
       refine wl_v rfl rfl (ov_loadN _ [.int .i64 (((a).getD (i : Nat) z33).f0), .int .i64 (((a).getD (i : Nat) z33).f1), .string (((a).getD (i : Nat) z33).f2)] rfl sh33 (by intro j u hu; rw [Deep.add_add]; exact Sx.ro_cell hv h (hc63 _ _ hu))) ?_
       refine wl_lit (d := k33) [(0, .agg #[.int .i64 (((a).getD (i : Nat) z33).f0), .int .i64 (((a).getD (i : Nat) z33).f1), .string (((a).getD (i : Nat) z33).f2)])] _ [.int .i64 (((a).getD (i : Nat) z33).f0), .int .i64 (((a).getD (i : Nat) z33).f1), .string (((a).getD (i : Nat) z33).f2)] ([(⟨((a).getD (i : Nat) z33).f0, ((a).getD (i : Nat) z33).f1, ((a).getD (i : Nat) z33).f2⟩ : S33)]) h rfl rfl rfl rfl Try.underlying22 infb33 rfl (by decide) (by kernel_rfl) rfl (fun _ _ _ => ((Reps.none _ _).snoc (k33_mkM _ _ _ ((⟨((a).getD (i : Nat) z33).f0, ((a).getD (i : Nat) z33).f1, ((a).getD (i : Nat) z33).f2⟩ : S33))) rfl)) (fun A76 cp77 _ h => ?_)
       refine wl_append (d := k33) (L := L) 1 _ 32 _ _ _ ([(⟨((a).getD (i : Nat) z33).f0, ((a).getD (i : Nat) z33).f1, ((a).getD (i : Nat) z33).f2⟩ : S33)]) flat33 h rfl rfl rfl rfl rfl ((Sx.row_reads h (i := 0) rfl).2) Try.underlying22 inf33 rfl (by decide) (by decide) (by first | omega | (simp only [List.length_cons, List.length_nil, List.length_append, List.length_take, List.length_drop]; omega)) (by first | rfl | simp) (fun A78 cp79 _ h => ?_)
       replace h := st_selT [false, true] h
       refine wl_v rfl rfl (ov_assign _ rfl) ?_
       refine wl_nil ?_
       refine qn_then ?_
       refine wc_region ?_
       refine wl_v rfl rfl (ov_move _ rfl) ?_
       refine wl_v rfl rfl (ov_bin _ rfl rfl (binR_add (r := (((i : Nat) : Int)) + 1) (Sx.w64 (by omega)))) ?_
       refine wl_v rfl rfl (ov_assign _ rfl) ?_
       refine wl_nil ?_
       refine qn_block_normal ?_
       refine qn_block_normal ?_
       have hj_ := hJ.2.2.1
       first
         | rw [mergeAt_two (by omega) (by omega), if_neg (fun e_ => by rw [edit_eq] at e_; contradiction), if_pos (by assumption), map_app] at hj_
         | rw [mergeAt_a (by omega) (by omega), map_app] at hj_
       refine qn_next ((i + 1), j, A78, cp79, (L ++ ([(⟨((a).getD (i : Nat) z33).f0, ((a).getD (i : Nat) z33).f1, ((a).getD (i : Nat) z33).f2⟩ : S33)]))) (by show a.length + b.length - ((i + 1) + j) < a.length + b.length - (i + j); omega) ⟨(congrArg (fun z_ => some (Value.slice (some ad62) z_ (ca))) (show (a.length : Nat) = a.length by first | rfl | simp)), (congrArg (fun z_ => some (Value.slice (some ad66) z_ (cb))) (show (b.length : Nat) = b.length by first | rfl | simp)), (congrArg (fun z_ => some (Value.slice (A78) z_ (cp79))) (show ((L ++ ([(⟨((a).getD (i : Nat) z33).f0, ((a).getD (i : Nat) z33).f1, ((a).getD (i : Nat) z33).f2⟩ : S33)])).length : Nat) = ((L ++ ([(⟨((a).getD (i : Nat) z33).f0, ((a).getD (i : Nat) z33).f1, ((a).getD (i : Nat) z33).f2⟩ : S33)]))).length by first | rfl | simp)), (congrArg (fun z_ => some (Value.int .i64 z_)) (show ((((i : Nat) : Int)) + 1 : Int) = (((i + 1) : Nat) : Int) by omega)), rfl, trivial⟩ ?_
       show ((i + 1) ≤ a.length ∧ j ≤ b.length ∧ (mergeAt a b (i + 1) j).map ((L ++ ([(⟨((a).getD (i : Nat) z33).f0, ((a).getD (i : Nat) z33).f1, ((a).getD (i : Nat) z33).f2⟩ : S33)])) ++ ·) = mergeV a b ∧ ((L ++ ([(⟨((a).getD (i : Nat) z33).f0, ((a).getD (i : Nat) z33).f1, ((a).getD (i : Nat) z33).f2⟩ : S33)]))).length ≤ (i + 1) + j) ∧ _
       exact ⟨⟨by omega, by omega, hj_, by simp only [List.length_append, List.length_cons, List.length_nil]; omega⟩, h⟩
      ·
       refine wc_seq ?_
       refine wc_draw (fun w => Sx.St w0 F0 ([Sx.row k33 33 (A) (c) (L)] ++ R) w) (by kernel_rfl) ?_
       replace h := st_drew h
       refine wa_tk 0 rfl rfl rfl (st_selT [true] h) (fun w_ hS => ov_move _ rfl) ?_
       refine wa_tk 1 rfl rfl rfl (st_selT [true] h) (fun w_ hS => ov_move _ rfl) ?_
       refine wa_tk 2 rfl rfl rfl (st_selT [true] h) (fun w_ hS => ov_indexAddrN _ _ _ _ _ (j : Nat) rfl rfl es22 rfl (by first | assumption | omega | (simp only [List.length_take, List.length_drop, List.length_set]; omega))) ?_
       refine wa_tk 3 rfl rfl rfl (st_selT [true] h) (fun w_ hS => ov_loadN _ [.int .i64 (((b).getD (j : Nat) z33).f0), .int .i64 (((b).getD (j : Nat) z33).f1), .string (((b).getD (j : Nat) z33).f2)] rfl sh33 (by intro j u hu; rw [Deep.add_add]; exact Sx.ro_cell hv hS (hc67 _ _ hu))) ?_
       refine wa_tk 4 rfl rfl rfl (st_selT [true] h) (fun w_ hS => ov_move _ rfl) ?_
       refine wa_tk 5 rfl rfl rfl (st_selT [true] h) (fun w_ hS => ov_move _ rfl) ?_
       refine wa_tk 6 rfl rfl rfl (st_selT [true] h) (fun w_ hS => ov_indexAddrN _ _ _ _ _ (i : Nat) rfl rfl es22 rfl (by first | assumption | omega | (simp only [List.length_take, List.length_drop, List.length_set]; omega))) ?_
       refine wa_tk 7 rfl rfl rfl (st_selT [true] h) (fun w_ hS => ov_loadN _ [.int .i64 (((a).getD (i : Nat) z33).f0), .int .i64 (((a).getD (i : Nat) z33).f1), .string (((a).getD (i : Nat) z33).f2)] rfl sh33 (by intro j u hu; rw [Deep.add_add]; exact Sx.ro_cell hv hS (hc63 _ _ hu))) ?_
       refine wa_one 8 rfl (by kernel_rfl) ?_
       refine wl_call _ rfl rfl rfl ent27 (E.apart_calls (R := [Sx.row k33 33 (A) (c) (L)] ++ R) ((b).getD (j : Nat) z33) ((a).getD (i : Nat) z33) h) ?_
       rintro e_ w_ ⟨rfl, h⟩
       refine ⟨_, rfl, ?_⟩
       refine wl_nil ?_
       refine qn_wa (st_selT [true] h) ?_
       refine wa_tk 9 rfl rfl rfl (st_selT [true] h) (fun w_ hS => ov_assign _ rfl) ?_
       refine wa_done (by kernel_rfl) ?_
       refine qn_then ?_
       refine wc_cond (by rfl) (fun c80 => ?_) (fun c80 => ?_)
       ·
        refine wc_seq ?_
        refine wc_region ?_
        refine wl_v rfl rfl (ov_move _ rfl) ?_
        refine wl_v rfl rfl (ov_move _ rfl) ?_
        refine wl_v rfl rfl (ov_move _ rfl) ?_
        refine wl_v rfl rfl (ov_indexAddrN _ _ _ _ _ (j : Nat) rfl rfl es22 rfl (by first | assumption | omega | (simp only [List.length_take, List.length_drop, List.length_set]; omega))) ?_
        refine wl_v rfl rfl (ov_loadN _ [.int .i64 (((b).getD (j : Nat) z33).f0), .int .i64 (((b).getD (j : Nat) z33).f1), .string (((b).getD (j : Nat) z33).f2)] rfl sh33 (by intro j u hu; rw [Deep.add_add]; exact Sx.ro_cell hv h (hc67 _ _ hu))) ?_
        refine wl_lit (d := k33) [(0, .agg #[.int .i64 (((b).getD (j : Nat) z33).f0), .int .i64 (((b).getD (j : Nat) z33).f1), .string (((b).getD (j : Nat) z33).f2)])] _ [.int .i64 (((b).getD (j : Nat) z33).f0), .int .i64 (((b).getD (j : Nat) z33).f1), .string (((b).getD (j : Nat) z33).f2)] ([(⟨((b).getD (j : Nat) z33).f0, ((b).getD (j : Nat) z33).f1, ((b).getD (j : Nat) z33).f2⟩ : S33)]) h rfl rfl rfl rfl Try.underlying22 infb33 rfl (by decide) (by kernel_rfl) rfl (fun _ _ _ => ((Reps.none _ _).snoc (k33_mkM _ _ _ ((⟨((b).getD (j : Nat) z33).f0, ((b).getD (j : Nat) z33).f1, ((b).getD (j : Nat) z33).f2⟩ : S33))) rfl)) (fun A81 cp82 _ h => ?_)
        refine wl_append (d := k33) (L := L) 1 _ 32 _ _ _ ([(⟨((b).getD (j : Nat) z33).f0, ((b).getD (j : Nat) z33).f1, ((b).getD (j : Nat) z33).f2⟩ : S33)]) flat33 h rfl rfl rfl rfl rfl ((Sx.row_reads h (i := 0) rfl).2) Try.underlying22 inf33 rfl (by decide) (by decide) (by first | omega | (simp only [List.length_cons, List.length_nil, List.length_append, List.length_take, List.length_drop]; omega)) (by first | rfl | simp) (fun A83 cp84 _ h => ?_)
        replace h := st_selT [false, true] h
        refine wl_v rfl rfl (ov_assign _ rfl) ?_
        refine wl_nil ?_
        refine qn_then ?_
        refine wc_region ?_
        refine wl_v rfl rfl (ov_move _ rfl) ?_
        refine wl_v rfl rfl (ov_bin _ rfl rfl (binR_add (r := (((j : Nat) : Int)) + 1) (Sx.w64 (by omega)))) ?_
        refine wl_v rfl rfl (ov_assign _ rfl) ?_
        refine wl_nil ?_
        refine qn_block_normal ?_
        refine qn_block_normal ?_
        have hj_ := hJ.2.2.1
        first
          | rw [mergeAt_two (by omega) (by omega), if_neg (fun e_ => by rw [edit_eq] at e_; contradiction), if_neg (by assumption), if_pos (by assumption), map_app] at hj_
          | rw [mergeAt_b (by omega) (by omega), map_app] at hj_
        refine qn_next (i, (j + 1), A83, cp84, (L ++ ([(⟨((b).getD (j : Nat) z33).f0, ((b).getD (j : Nat) z33).f1, ((b).getD (j : Nat) z33).f2⟩ : S33)]))) (by show a.length + b.length - (i + (j + 1)) < a.length + b.length - (i + j); omega) ⟨(congrArg (fun z_ => some (Value.slice (some ad62) z_ (ca))) (show (a.length : Nat) = a.length by first | rfl | simp)), (congrArg (fun z_ => some (Value.slice (some ad66) z_ (cb))) (show (b.length : Nat) = b.length by first | rfl | simp)), (congrArg (fun z_ => some (Value.slice (A83) z_ (cp84))) (show ((L ++ ([(⟨((b).getD (j : Nat) z33).f0, ((b).getD (j : Nat) z33).f1, ((b).getD (j : Nat) z33).f2⟩ : S33)])).length : Nat) = ((L ++ ([(⟨((b).getD (j : Nat) z33).f0, ((b).getD (j : Nat) z33).f1, ((b).getD (j : Nat) z33).f2⟩ : S33)]))).length by first | rfl | simp)), rfl, (congrArg (fun z_ => some (Value.int .i64 z_)) (show ((((j : Nat) : Int)) + 1 : Int) = (((j + 1) : Nat) : Int) by omega)), trivial⟩ ?_
        show (i ≤ a.length ∧ (j + 1) ≤ b.length ∧ (mergeAt a b i (j + 1)).map ((L ++ ([(⟨((b).getD (j : Nat) z33).f0, ((b).getD (j : Nat) z33).f1, ((b).getD (j : Nat) z33).f2⟩ : S33)])) ++ ·) = mergeV a b ∧ ((L ++ ([(⟨((b).getD (j : Nat) z33).f0, ((b).getD (j : Nat) z33).f1, ((b).getD (j : Nat) z33).f2⟩ : S33)]))).length ≤ i + (j + 1)) ∧ _
        exact ⟨⟨by omega, by omega, hj_, by simp only [List.length_append, List.length_cons, List.length_nil]; omega⟩, h⟩
       ·
        refine wc_seq ?_
        refine wc_region ?_
        refine wl_v rfl rfl (ov_assign _ rfl) ?_
        refine wl_v rfl rfl (ov_assign _ rfl) ?_
        refine wl_nil ?_
        refine qn_then ?_
        refine wc_ret ?_
        refine qn_block_ret ?_
        refine qn_block_ret ?_
        refine qn_then_ret ?_
        refine qn_block_ret ?_
        refine qn_then_ret ?_
        replace h := st_selT [false] h
        replace h := st_nilrow k33 33 h
        refine qn_ret [_, _] ⟨rfl, rfl, trivial⟩ ?_
        have e_ : (mergeV a b) = none := by
          have hj_ := hJ.2.2.1
          rw [mergeAt_two (by omega) (by omega), if_neg (fun e_ => by rw [edit_eq] at e_; contradiction), if_neg (by assumption), if_neg (by assumption)] at hj_
          exact hj_.symm
        rw [e_]
        exact ⟨none, 0, rfl, h⟩
  ·
   refine wc_exit ?_
   refine qn_then_exit ?_
   refine qn_then_exit ?_
   refine qn_block_exit ?_
   refine qn_then ?_
   refine wc_seq ?_
   refine wc_region ?_
   refine wl_v rfl rfl (ov_move _ rfl) ?_
   refine wl_v rfl rfl (ov_assign _ rfl) ?_
   refine wl_v rfl rfl (ov_assign _ rfl) ?_
   refine wl_nil ?_
   refine qn_then ?_
   refine wc_ret ?_
   have e_ : (mergeV a b) = some (L) := by
     have hj_ := hJ.2.2.1
     rw [mergeAt_end (by omega) (by omega)] at hj_
     rw [← hj_]
     simp
   refine qn_ret [_, _] ⟨rfl, rfl, trivial⟩ ?_
   rw [e_]
   exact ⟨A, c, rfl, h⟩
end Go.Proofs.Ytbakllppgekmoaa.E
