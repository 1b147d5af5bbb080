/- Pruned by wip/prune.py. -/
import Derived.Test.YtemgnkloloaeoaaProg
import Derived.Test.YtemgnkloloaeoaaQSxGlue
import Derived.Test.YtemgnkloloaeoaaQSxKinds
import Derived.Test.YtemgnkloloaeoaaQPatchStep
import Derived.Test.YtemgnkloloaeoaaQPAllx12
namespace Go.Proofs.Ytemgnkloloaeoaa.P
open Go Go.RowKit Go.Proofs.YtemgnkloloaeoaaW.PrintWords Go.Proofs.Ytemgnkloloaeoaa.Kinds Go.Proofs.Ytemgnkloloaeoaa.PAll Go.Proofs.Ytemgnkloloaeoaa.Sx 
set_option linter.unusedVariables false
set_option linter.unusedSimpArgs false
theorem fo34_0 : Sx.fieldOff Try.prog 34 0 = some 0 := by kernel_rfl
theorem sh3 : Sx.shapeOf Try.prog 3 = some (false, 1) := by kernel_rfl
theorem fo34_1 : Sx.fieldOff Try.prog 34 1 = some 1 := by kernel_rfl
theorem es22 : Sx.elemSz Try.prog 22 = some (31, 1) := by kernel_rfl
theorem fo34_2 : Sx.fieldOff Try.prog 34 2 = some 2 := by kernel_rfl
theorem fo34_3 : Sx.fieldOff Try.prog 34 3 = some 3 := by kernel_rfl
theorem fo31_0 : Sx.fieldOff Try.prog 31 0 = some 0 := by kernel_rfl
theorem sh29 : Sx.shapeOf Try.prog 29 = some (false, 1) := by kernel_rfl
theorem es29 : Sx.elemSz Try.prog 29 = some (39, 9) := by kernel_rfl
theorem fo34_4 : Sx.fieldOff Try.prog 34 4 = some 4 := by kernel_rfl
theorem ent15 : Sx.Ent Try.prog 15 := ⟨Try.f15, Try.func15, by kernel_rfl, by kernel_rfl⟩
theorem es27 : Sx.elemSz Try.prog 27 = some (34, 5) := by kernel_rfl
theorem sh34 : Sx.shapeOf Try.prog 34 = some (true, 5) := by kernel_rfl
theorem zo34 : Sx.zeroOf Try.prog 34 = some (.agg #[.int .i64 (0), .int .i64 (0), .int .i64 (0), .int .i64 (0), .slice (none) (0) (0)]) := by kernel_rfl
theorem ent26 : Sx.Ent Try.prog 26 := ⟨Try.f26, Try.func26, by kernel_rfl, by kernel_rfl⟩
theorem infb39 : (Try.prog.info? 39).map (fun i => (i.zero, i.size)) = some (some (.agg #[.string (ByteArray.empty), .slice (none) (0) (0), .int .i64 (0), .int .i64 (0), .int .i64 (0), .bool false, .int .i64 (0), .bool false, .bool false]), 9) := by kernel_rfl
theorem inf39 : (Try.prog.info? 39).map (fun i => (i.zero, i.size, i.bytes)) = some (some (.agg #[.string (ByteArray.empty), .slice (none) (0) (0), .int .i64 (0), .int .i64 (0), .int .i64 (0), .bool false, .int .i64 (0), .bool false, .bool false]), 9, 88) := by kernel_rfl
theorem ent22 : Sx.Ent Try.prog 22 := ⟨Try.f22, Try.func22, by kernel_rfl, by kernel_rfl⟩
theorem szf29 : (Try.prog.info? 29).map (·.size) = some 1 := by kernel_rfl
theorem infb31 : (Try.prog.info? 31).map (fun i => (i.zero, i.size)) = some (some (.agg #[.slice (none) (0) (0)]), 1) := by kernel_rfl
theorem inf31 : (Try.prog.info? 31).map (fun i => (i.zero, i.size, i.bytes)) = some (some (.agg #[.slice (none) (0) (0)]), 1, 24) := by kernel_rfl
theorem ent27 : Sx.Ent Try.prog 27 := ⟨Try.f27, Try.func27, by kernel_rfl, by kernel_rfl⟩
set_option maxHeartbeats 4000000 in
set_option maxRecDepth 100000 in
theorem fits_calls {w0 w : World} {F0 : Nat → Prop} {R : List Sx.HP} {v0 : World} (x : List S31) (Ax : Option Addr) (cx : Nat) (r : S34) (A4 : Option Addr) (c4 : Nat) (last now : Int) (hv : Sx.RO v0 w0 F0) (hlx : x.length ≤ cx) (hCx : k31.C v0 Ax x.length x) (hl4 : r.f4.length ≤ c4) (hC4 : k39.C v0 A4 r.f4.length r.f4) (hFx : Pure.Few x) (hlast : -1 ≤ last) (h : Sx.St w0 F0 ([] ++ R) w) : Calls Try.prog 26 #[.slice (Ax) (x.length) (cx), .agg #[.int .i64 (r.f0), .int .i64 (r.f1), .int .i64 (r.f2), .int .i64 (r.f3), .slice (A4) (r.f4.length) (c4)], .int .i64 (last), .int .i64 (now)] w (fun e w1 => e = .returned (.bool (Pure.fitsB x r last now)) ∧ Sx.St w0 F0 R w1) := by
 have hFx1 := hFx.1
 refine Sx.calls_fn (vs := [.slice (Ax) (x.length) (cx), .agg #[.int .i64 (r.f0), .int .i64 (r.f1), .int .i64 (r.f2), .int .i64 (r.f3), .slice (A4) (r.f4.length) (c4)], .int .i64 (last), .int .i64 (now)]) Try.func26 rfl Try.ntmps26 rfl ?_
 refine wc_seq ?_
 refine wc_region ?_
 refine wl_box _ h rfl rfl rfl (fun b1 _ h => ?_)
 replace h : Sx.St _ _ (Sx.blk b1 [.int .i64 (r.f0), .int .i64 (r.f1), .int .i64 (r.f2), .int .i64 (r.f3), .slice (A4) (r.f4.length) (c4)] 34 :: _) _ := h
 refine wl_v rfl rfl (ov_assign _ rfl) ?_
 refine wl_nil ?_
 refine qn_then ?_
 refine wc_seq ?_
 refine wc_seq ?_
 refine wc_region ?_
 refine wl_v rfl rfl (ov_fieldAddr _ ⟨b1, 0, none⟩ _ rfl fo34_0 rfl) ?_
 refine wl_v rfl rfl (ov_loadb 0 _ h rfl rfl sh3 rfl) ?_
 refine wl_v rfl rfl (ov_move _ rfl) ?_
 refine wl_v rfl rfl (ov_bin _ rfl rfl (binR_leq)) ?_
 refine wl_nil ?_
 refine qn_then ?_
 refine wc_cond (by rfl) (fun c2 => ?_) (fun c2 => ?_)
 ·
  refine wc_seq ?_
  refine wc_region ?_
  refine wl_v rfl rfl (ov_assign _ rfl) ?_
  refine wl_nil ?_
  refine qn_then ?_
  refine wc_ret ?_
  refine qn_then_ret ?_
  replace h := st_selT [false] h
  refine qn_ret [_] ⟨rfl, trivial⟩ ?_
  have b_ : Pure.fitsB x r last now = false := by
    unfold Pure.fitsB
    have hpg_ : Pure.pgs x r.f0 = (x.getD r.f0.toNat z31).f0 := rfl
    rw [hpg_]
    repeat' split
    all_goals first | omega | rfl | exact decide_eq_true (by omega) | exact decide_eq_false (by omega) | (rw [decide_eq_decide]; omega)
  rw [b_]
  exact ⟨rfl, h⟩
 ·
  refine wc_skip ?_
  refine qn_then ?_
  refine wc_seq ?_
  refine wc_seq ?_
  refine wc_region ?_
  refine wl_v rfl rfl (ov_fieldAddr _ ⟨b1, 1, none⟩ _ rfl fo34_1 rfl) ?_
  refine wl_v rfl rfl (ov_loadb 0 _ h rfl rfl sh3 rfl) ?_
  refine wl_nil ?_
  refine qn_then ?_
  refine wc_block ?_
  refine wc_seq ?_
  refine wc_region ?_
  refine wl_v rfl rfl (ov_bin _ rfl rfl (binR_eql)) ?_
  refine wl_v rfl rfl (ov_assign _ rfl) ?_
  refine wl_nil ?_
  refine qn_then ?_
  refine wc_cond (by rfl) (fun c3 => ?_) (fun c3 => ?_)
  ·
   refine wc_seq ?_
   refine wc_draw (fun w => Sx.St w0 F0 ([Sx.blk b1 [.int .i64 (r.f0), .int .i64 (r.f1), .int .i64 (r.f2), .int .i64 (r.f3), .slice (A4) (r.f4.length) (c4)] 34] ++ R) w) (by kernel_rfl) ?_
   replace h := st_drew h
   refine wa_tk 0 rfl rfl rfl (st_selT [true] h) (fun w_ hS => ov_fieldAddr _ ⟨b1, 0, none⟩ _ rfl fo34_0 rfl) ?_
   refine wa_tk 1 rfl rfl rfl (st_selT [true] h) (fun w_ hS => ov_loadb 0 _ hS rfl rfl sh3 rfl) ?_
   refine wa_tk 2 rfl rfl rfl (st_selT [true] h) (fun w_ hS => ov_move _ rfl) ?_
   refine wa_tk 3 rfl rfl rfl (st_selT [true] h) (fun w_ hS => ov_len _ _ _ _ _ rfl es22) ?_
   refine wa_tk 4 rfl rfl rfl (st_selT [true] h) (fun w_ hS => ov_bin _ rfl rfl (binR_lss)) ?_
   refine wa_tk 5 rfl rfl rfl (st_selT [true] h) (fun w_ hS => ov_move _ rfl) ?_
   refine wa_split 22 rfl (fun c4 => ?_) (fun c4 => ?_)
   ·
    have hpl_ := (Pure.few_at hFx r.f0 (by omega) (by omega)).1
    replace hpl_ : ((x.getD r.f0.toNat z31).f0).length ≤ 40 := hpl_
    refine wa_tk 6 rfl rfl rfl (st_selT [true] h) (fun w_ hS => ov_fieldAddr _ ⟨b1, 2, none⟩ _ rfl fo34_2 rfl) ?_
    refine wa_tk 7 rfl rfl rfl (st_selT [true] h) (fun w_ hS => ov_loadb 0 _ hS rfl rfl sh3 rfl) ?_
    refine wa_tk 8 rfl rfl rfl (st_selT [true] h) (fun w_ hS => ov_bin _ rfl rfl (binR_geq)) ?_
    refine wa_tk 9 rfl rfl rfl (st_selT [true] h) (fun w_ hS => ov_pick_true _ rfl rfl) ?_
    refine wa_tk 10 rfl rfl rfl (st_selT [true] h) (fun w_ hS => ov_move _ rfl) ?_
    refine wa_split 27 rfl (fun c5 => ?_) (fun c5 => ?_)
    ·
     refine wa_tk 11 rfl rfl rfl (st_selT [true] h) (fun w_ hS => ov_fieldAddr _ ⟨b1, 3, none⟩ _ rfl fo34_3 rfl) ?_
     refine wa_tk 12 rfl rfl rfl (st_selT [true] h) (fun w_ hS => ov_loadb 0 _ hS rfl rfl sh3 rfl) ?_
     refine wa_tk 13 rfl rfl rfl (st_selT [true] h) (fun w_ hS => ov_bin _ rfl rfl (binR_geq)) ?_
     refine wa_tk 14 rfl rfl rfl (st_selT [true] h) (fun w_ hS => ov_pick_true _ rfl rfl) ?_
     refine wa_tk 15 rfl rfl rfl (st_selT [true] h) (fun w_ hS => ov_move _ rfl) ?_
     refine wa_split 32 rfl (fun c6 => ?_) (fun c6 => ?_)
     ·
      refine wa_tk 16 rfl rfl rfl (st_selT [true] h) (fun w_ hS => ov_fieldAddr _ ⟨b1, 2, none⟩ _ rfl fo34_2 rfl) ?_
      refine wa_tk 17 rfl rfl rfl (st_selT [true] h) (fun w_ hS => ov_loadb 0 _ hS rfl rfl sh3 rfl) ?_
      refine wa_tk 18 rfl rfl rfl (st_selT [true] h) (fun w_ hS => ov_move _ rfl) ?_
      refine wa_tk 19 rfl rfl rfl (st_selT [true] h) (fun w_ hS => ov_fieldAddr _ ⟨b1, 0, none⟩ _ rfl fo34_0 rfl) ?_
      refine wa_tk 20 rfl rfl rfl (st_selT [true] h) (fun w_ hS => ov_loadb 0 _ hS rfl rfl sh3 rfl) ?_
      obtain ⟨ad7, rfl⟩ := Sx.C_some ((Sx.ro_C hv h hCx)) (k := (r.f0 : Int).toNat) (by first | assumption | omega)
      refine wa_tk 21 rfl rfl rfl (st_selT [true] h) (fun w_ hS => ov_indexAddrN _ _ _ _ _ (r.f0 : Int).toNat rfl rfl es22 (by omega) (by first | assumption | omega | (simp only [List.length_take, List.length_drop, List.length_set]; omega))) ?_
      refine wa_tk 22 rfl rfl rfl (st_selT [true] h) (fun w_ hS => ov_fieldAddr _ ((ad7).add ((r.f0 : Int).toNat * 1 + 0)) _ rfl fo31_0 (by first | exact Deep.add_add _ _ _ | (rw [Deep.add_add]) | rfl)) ?_
      obtain ⟨cl10, _, hk9, hc8⟩ := Sx.C_cells (hCx) (z := z31) (k := (r.f0 : Int).toNat) (by first | assumption | omega)
      obtain ⟨A11, cp12, rfl, hl13, hn14⟩ := k31_open hk9
      refine wa_tk 23 rfl rfl rfl (st_selT [true] h) (fun w_ hS => ov_load1 _ _ rfl sh29 (Sx.ro_cell hv hS (hc8 0 _ rfl))) ?_
      refine wa_tk 24 rfl rfl rfl (st_selT [true] h) (fun w_ hS => ov_len _ _ _ _ _ rfl es29) ?_
      refine wa_tk 25 rfl rfl rfl (st_selT [true] h) (fun w_ hS => ov_bin _ rfl rfl (binR_leq)) ?_
      refine wa_tk 26 rfl rfl rfl (st_selT [true] h) (fun w_ hS => ov_pick_true _ rfl rfl) ?_
      refine wa_tk 27 rfl rfl rfl (st_selT [true] h) (fun w_ hS => ov_move _ rfl) ?_
      refine wa_split 44 rfl (fun c15 => ?_) (fun c15 => ?_)
      ·
       refine wa_tk 28 rfl rfl rfl (st_selT [true] h) (fun w_ hS => ov_fieldAddr _ ⟨b1, 3, none⟩ _ rfl fo34_3 rfl) ?_
       refine wa_tk 29 rfl rfl rfl (st_selT [true] h) (fun w_ hS => ov_loadb 0 _ hS rfl rfl sh3 rfl) ?_
       refine wa_tk 30 rfl rfl rfl (st_selT [true] h) (fun w_ hS => ov_move _ rfl) ?_
       refine wa_tk 31 rfl rfl rfl (st_selT [true] h) (fun w_ hS => ov_fieldAddr _ ⟨b1, 0, none⟩ _ rfl fo34_0 rfl) ?_
       refine wa_tk 32 rfl rfl rfl (st_selT [true] h) (fun w_ hS => ov_loadb 0 _ hS rfl rfl sh3 rfl) ?_
       refine wa_tk 33 rfl rfl rfl (st_selT [true] h) (fun w_ hS => ov_indexAddrN _ _ _ _ _ (r.f0 : Int).toNat rfl rfl es22 (by omega) (by first | assumption | omega | (simp only [List.length_take, List.length_drop, List.length_set]; omega))) ?_
       refine wa_tk 34 rfl rfl rfl (st_selT [true] h) (fun w_ hS => ov_fieldAddr _ ((ad7).add ((r.f0 : Int).toNat * 1 + 0)) _ rfl fo31_0 (by first | exact Deep.add_add _ _ _ | (rw [Deep.add_add]) | rfl)) ?_
       refine wa_tk 35 rfl rfl rfl (st_selT [true] h) (fun w_ hS => ov_load1 _ _ rfl sh29 (Sx.ro_cell hv hS (hc8 0 _ rfl))) ?_
       refine wa_tk 36 rfl rfl rfl (st_selT [true] h) (fun w_ hS => ov_len _ _ _ _ _ rfl es29) ?_
       refine wa_tk 37 rfl rfl rfl (st_selT [true] h) (fun w_ hS => ov_fieldAddr _ ⟨b1, 2, none⟩ _ rfl fo34_2 rfl) ?_
       refine wa_tk 38 rfl rfl rfl (st_selT [true] h) (fun w_ hS => ov_loadb 0 _ hS rfl rfl sh3 rfl) ?_
       refine wa_tk 39 rfl rfl rfl (st_selT [true] h) (fun w_ hS => ov_bin _ rfl rfl (binR_sub (r := (((((((x).getD (r.f0 : Int).toNat z31)).f0).length : Nat) : Int)) - r.f2) (Sx.w64 (by omega)))) ?_
       refine wa_tk 40 rfl rfl rfl (st_selT [true] h) (fun w_ hS => ov_bin _ rfl rfl (binR_leq)) ?_
       refine wa_tk 41 rfl rfl rfl (st_selT [true] h) (fun w_ hS => ov_pick_true _ rfl rfl) ?_
       refine wa_tk 42 rfl rfl rfl (st_selT [true] h) (fun w_ hS => ov_assign _ rfl) ?_
       refine wa_done (by kernel_rfl) ?_
       refine qn_then ?_
       refine wc_ret ?_
       refine qn_block_ret ?_
       refine qn_then_ret ?_
       replace h := st_selT [false] h
       refine qn_ret [_] ⟨rfl, trivial⟩ ?_
       have b_ : Pure.fitsB x r last now = (decide ((r.f3 : Int) ≤ ((((((((x).getD (r.f0 : Int).toNat z31)).f0).length : Nat) : Int)) - r.f2))) := by
         unfold Pure.fitsB
         have hpg_ : Pure.pgs x r.f0 = (x.getD r.f0.toNat z31).f0 := rfl
         rw [hpg_]
         repeat' split
         all_goals first | omega | rfl | exact decide_eq_true (by omega) | exact decide_eq_false (by omega) | (rw [decide_eq_decide]; omega)
       rw [b_]
       exact ⟨rfl, h⟩
      ·
       refine wa_sk 28 rfl rfl rfl (st_selT [true] h) ?_
       refine wa_sk 29 rfl rfl rfl (st_selT [true] h) ?_
       refine wa_sk 30 rfl rfl rfl (st_selT [true] h) ?_
       refine wa_sk 31 rfl rfl rfl (st_selT [true] h) ?_
       refine wa_sk 32 rfl rfl rfl (st_selT [true] h) ?_
       refine wa_sk 33 rfl rfl rfl (st_selT [true] h) ?_
       refine wa_sk 34 rfl rfl rfl (st_selT [true] h) ?_
       refine wa_sk 35 rfl rfl rfl (st_selT [true] h) ?_
       refine wa_sk 36 rfl rfl rfl (st_selT [true] h) ?_
       refine wa_sk 37 rfl rfl rfl (st_selT [true] h) ?_
       refine wa_sk 38 rfl rfl rfl (st_selT [true] h) ?_
       refine wa_sk 39 rfl rfl rfl (st_selT [true] h) ?_
       refine wa_sk 40 rfl rfl rfl (st_selT [true] h) ?_
       refine wa_tk 41 rfl rfl rfl (st_selT [true] h) (fun w_ hS => ov_pick_false _ rfl rfl) ?_
       refine wa_tk 42 rfl rfl rfl (st_selT [true] h) (fun w_ hS => ov_assign _ rfl) ?_
       refine wa_done (by kernel_rfl) ?_
       refine qn_then ?_
       refine wc_ret ?_
       refine qn_block_ret ?_
       refine qn_then_ret ?_
       replace h := st_selT [false] h
       refine qn_ret [_] ⟨rfl, trivial⟩ ?_
       have b_ : Pure.fitsB x r last now = false := by
         unfold Pure.fitsB
         have hpg_ : Pure.pgs x r.f0 = (x.getD r.f0.toNat z31).f0 := rfl
         rw [hpg_]
         repeat' split
         all_goals first | omega | rfl | exact decide_eq_true (by omega) | exact decide_eq_false (by omega) | (rw [decide_eq_decide]; omega)
       rw [b_]
       exact ⟨rfl, h⟩
     ·
      refine wa_sk 16 rfl rfl rfl (st_selT [true] h) ?_
      refine wa_sk 17 rfl rfl rfl (st_selT [true] h) ?_
      refine wa_sk 18 rfl rfl rfl (st_selT [true] h) ?_
      refine wa_sk 19 rfl rfl rfl (st_selT [true] h) ?_
      refine wa_sk 20 rfl rfl rfl (st_selT [true] h) ?_
      refine wa_sk 21 rfl rfl rfl (st_selT [true] h) ?_
      refine wa_sk 22 rfl rfl rfl (st_selT [true] h) ?_
      refine wa_sk 23 rfl rfl rfl (st_selT [true] h) ?_
      refine wa_sk 24 rfl rfl rfl (st_selT [true] h) ?_
      refine wa_sk 25 rfl rfl rfl (st_selT [true] h) ?_
      refine wa_tk 26 rfl rfl rfl (st_selT [true] h) (fun w_ hS => ov_pick_false _ rfl rfl) ?_
      refine wa_tk 27 rfl rfl rfl (st_selT [true] h) (fun w_ hS => ov_move _ rfl) ?_
      refine wa_sk 28 rfl rfl rfl (st_selT [true] h) ?_
      refine wa_sk 29 rfl rfl rfl (st_selT [true] h) ?_
      refine wa_sk 30 rfl rfl rfl (st_selT [true] h) ?_
      refine wa_sk 31 rfl rfl rfl (st_selT [true] h) ?_
      refine wa_sk 32 rfl rfl rfl (st_selT [true] h) ?_
      refine wa_sk 33 rfl rfl rfl (st_selT [true] h) ?_
      refine wa_sk 34 rfl rfl rfl (st_selT [true] h) ?_
      refine wa_sk 35 rfl rfl rfl (st_selT [true] h) ?_
      refine wa_sk 36 rfl rfl rfl (st_selT [true] h) ?_
      refine wa_sk 37 rfl rfl rfl (st_selT [true] h) ?_
      refine wa_sk 38 rfl rfl rfl (st_selT [true] h) ?_
      refine wa_sk 39 rfl rfl rfl (st_selT [true] h) ?_
      refine wa_sk 40 rfl rfl rfl (st_selT [true] h) ?_
      refine wa_tk 41 rfl rfl rfl (st_selT [true] h) (fun w_ hS => ov_pick_false _ rfl rfl) ?_
      refine wa_tk 42 rfl rfl rfl (st_selT [true] h) (fun w_ hS => ov_assign _ rfl) ?_
      refine wa_done (by kernel_rfl) ?_
      refine qn_then ?_
      refine wc_ret ?_
      refine qn_block_ret ?_
      refine qn_then_ret ?_
      replace h := st_selT [false] h
      refine qn_ret [_] ⟨rfl, trivial⟩ ?_
      have b_ : Pure.fitsB x r last now = false := by
        unfold Pure.fitsB
        have hpg_ : Pure.pgs x r.f0 = (x.getD r.f0.toNat z31).f0 := rfl
        rw [hpg_]
        repeat' split
        all_goals first | omega | rfl | exact decide_eq_true (by omega) | exact decide_eq_false (by omega) | (rw [decide_eq_decide]; omega)
      rw [b_]
      exact ⟨rfl, h⟩
    ·
     refine wa_sk 11 rfl rfl rfl (st_selT [true] h) ?_
     refine wa_sk 12 rfl rfl rfl (st_selT [true] h) ?_
     refine wa_sk 13 rfl rfl rfl (st_selT [true] h) ?_
     refine wa_tk 14 rfl rfl rfl (st_selT [true] h) (fun w_ hS => ov_pick_false _ rfl rfl) ?_
     refine wa_tk 15 rfl rfl rfl (st_selT [true] h) (fun w_ hS => ov_move _ rfl) ?_
     refine wa_sk 16 rfl rfl rfl (st_selT [true] h) ?_
     refine wa_sk 17 rfl rfl rfl (st_selT [true] h) ?_
     refine wa_sk 18 rfl rfl rfl (st_selT [true] h) ?_
     refine wa_sk 19 rfl rfl rfl (st_selT [true] h) ?_
     refine wa_sk 20 rfl rfl rfl (st_selT [true] h) ?_
     refine wa_sk 21 rfl rfl rfl (st_selT [true] h) ?_
     refine wa_sk 22 rfl rfl rfl (st_selT [true] h) ?_
     refine wa_sk 23 rfl rfl rfl (st_selT [true] h) ?_
     refine wa_sk 24 rfl rfl rfl (st_selT [true] h) ?_
     refine wa_sk 25 rfl rfl rfl (st_selT [true] h) ?_
     refine wa_tk 26 rfl rfl rfl (st_selT [true] h) (fun w_ hS => ov_pick_false _ rfl rfl) ?_
     refine wa_tk 27 rfl rfl rfl (st_selT [true] h) (fun w_ hS => ov_move _ rfl) ?_
     refine wa_sk 28 rfl rfl rfl (st_selT [true] h) ?_
     refine wa_sk 29 rfl rfl rfl (st_selT [true] h) ?_
     refine wa_sk 30 rfl rfl rfl (st_selT [true] h) ?_
     refine wa_sk 31 rfl rfl rfl (st_selT [true] h) ?_
     refine wa_sk 32 rfl rfl rfl (st_selT [true] h) ?_
     refine wa_sk 33 rfl rfl rfl (st_selT [true] h) ?_
     refine wa_sk 34 rfl rfl rfl (st_selT [true] h) ?_
     refine wa_sk 35 rfl rfl rfl (st_selT [true] h) ?_
     refine wa_sk 36 rfl rfl rfl (st_selT [true] h) ?_
     refine wa_sk 37 rfl rfl rfl (st_selT [true] h) ?_
     refine wa_sk 38 rfl rfl rfl (st_selT [true] h) ?_
     refine wa_sk 39 rfl rfl rfl (st_selT [true] h) ?_
     refine wa_sk 40 rfl rfl rfl (st_selT [true] h) ?_
     refine wa_tk 41 rfl rfl rfl (st_selT [true] h) (fun w_ hS => ov_pick_false _ rfl rfl) ?_
     refine wa_tk 42 rfl rfl rfl (st_selT [true] h) (fun w_ hS => ov_assign _ rfl) ?_
     refine wa_done (by kernel_rfl) ?_
     refine qn_then ?_
     refine wc_ret ?_
     refine qn_block_ret ?_
     refine qn_then_ret ?_
     replace h := st_selT [false] h
     refine qn_ret [_] ⟨rfl, trivial⟩ ?_
     have b_ : Pure.fitsB x r last now = false := by
       unfold Pure.fitsB
       have hpg_ : Pure.pgs x r.f0 = (x.getD r.f0.toNat z31).f0 := rfl
       rw [hpg_]
       repeat' split
       all_goals first | omega | rfl | exact decide_eq_true (by omega) | exact decide_eq_false (by omega) | (rw [decide_eq_decide]; omega)
     rw [b_]
     exact ⟨rfl, h⟩
   ·
    refine wa_sk 6 rfl rfl rfl (st_selT [true] h) ?_
    refine wa_sk 7 rfl rfl rfl (st_selT [true] h) ?_
    refine wa_sk 8 rfl rfl rfl (st_selT [true] h) ?_
    refine wa_tk 9 rfl rfl rfl (st_selT [true] h) (fun w_ hS => ov_pick_false _ rfl rfl) ?_
    refine wa_tk 10 rfl rfl rfl (st_selT [true] h) (fun w_ hS => ov_move _ rfl) ?_
    refine wa_sk 11 rfl rfl rfl (st_selT [true] h) ?_
    refine wa_sk 12 rfl rfl rfl (st_selT [true] h) ?_
    refine wa_sk 13 rfl rfl rfl (st_selT [true] h) ?_
    refine wa_tk 14 rfl rfl rfl (st_selT [true] h) (fun w_ hS => ov_pick_false _ rfl rfl) ?_
    refine wa_tk 15 rfl rfl rfl (st_selT [true] h) (fun w_ hS => ov_move _ rfl) ?_
    refine wa_sk 16 rfl rfl rfl (st_selT [true] h) ?_
    refine wa_sk 17 rfl rfl rfl (st_selT [true] h) ?_
    refine wa_sk 18 rfl rfl rfl (st_selT [true] h) ?_
    refine wa_sk 19 rfl rfl rfl (st_selT [true] h) ?_
    refine wa_sk 20 rfl rfl rfl (st_selT [true] h) ?_
    refine wa_sk 21 rfl rfl rfl (st_selT [true] h) ?_
    refine wa_sk 22 rfl rfl rfl (st_selT [true] h) ?_
    refine wa_sk 23 rfl rfl rfl (st_selT [true] h) ?_
    refine wa_sk 24 rfl rfl rfl (st_selT [true] h) ?_
    refine wa_sk 25 rfl rfl rfl (st_selT [true] h) ?_
    refine wa_tk 26 rfl rfl rfl (st_selT [true] h) (fun w_ hS => ov_pick_false _ rfl rfl) ?_
    refine wa_tk 27 rfl rfl rfl (st_selT [true] h) (fun w_ hS => ov_move _ rfl) ?_
    refine wa_sk 28 rfl rfl rfl (st_selT [true] h) ?_
    refine wa_sk 29 rfl rfl rfl (st_selT [true] h) ?_
    refine wa_sk 30 rfl rfl rfl (st_selT [true] h) ?_
    refine wa_sk 31 rfl rfl rfl (st_selT [true] h) ?_
    refine wa_sk 32 rfl rfl rfl (st_selT [true] h) ?_
    refine wa_sk 33 rfl rfl rfl (st_selT [true] h) ?_
    refine wa_sk 34 rfl rfl rfl (st_selT [true] h) ?_
    refine wa_sk 35 rfl rfl rfl (st_selT [true] h) ?_
    refine wa_sk 36 rfl rfl rfl (st_selT [true] h) ?_
    refine wa_sk 37 rfl rfl rfl (st_selT [true] h) ?_
    refine wa_sk 38 rfl rfl rfl (st_selT [true] h) ?_
    refine wa_sk 39 rfl rfl rfl (st_selT [true] h) ?_
    refine wa_sk 40 rfl rfl rfl (st_selT [true] h) ?_
    refine wa_tk 41 rfl rfl rfl (st_selT [true] h) (fun w_ hS => ov_pick_false _ rfl rfl) ?_
    refine wa_tk 42 rfl rfl rfl (st_selT [true] h) (fun w_ hS => ov_assign _ rfl) ?_
    refine wa_done (by kernel_rfl) ?_
    refine qn_then ?_
    refine wc_ret ?_
    refine qn_block_ret ?_
    refine qn_then_ret ?_
    replace h := st_selT [false] h
    refine qn_ret [_] ⟨rfl, trivial⟩ ?_
    have b_ : Pure.fitsB x r last now = false := by
      unfold Pure.fitsB
      have hpg_ : Pure.pgs x r.f0 = (x.getD r.f0.toNat z31).f0 := rfl
      rw [hpg_]
      repeat' split
      all_goals first | omega | rfl | exact decide_eq_true (by omega) | exact decide_eq_false (by omega) | (rw [decide_eq_decide]; omega)
    rw [b_]
    exact ⟨rfl, h⟩
  ·
   refine wc_seq ?_
   refine wc_region ?_
   refine wl_v rfl rfl (ov_bin _ rfl rfl (binR_eql)) ?_
   refine wl_v rfl rfl (ov_assign _ rfl) ?_
   refine wl_nil ?_
   refine qn_then ?_
   refine wc_cond (by rfl) (fun c16 => ?_) (fun c16 => ?_)
   ·
    refine wc_seq ?_
    refine wc_region ?_
    refine wl_v rfl rfl (ov_fieldAddr _ ⟨b1, 0, none⟩ _ rfl fo34_0 rfl) ?_
    refine wl_v rfl rfl (ov_loadb 0 _ h rfl rfl sh3 rfl) ?_
    refine wl_v rfl rfl (ov_move _ rfl) ?_
    refine wl_v rfl rfl (ov_len _ _ _ _ _ rfl es22) ?_
    refine wl_v rfl rfl (ov_bin _ rfl rfl (binR_geq)) ?_
    refine wl_v rfl rfl (ov_move _ rfl) ?_
    refine wl_split 66 rfl (fun c17 => ?_) (fun c17 => ?_)
    ·
     refine wl_v rfl rfl (ov_fieldAddr _ ⟨b1, 0, none⟩ _ rfl fo34_0 rfl) ?_
     refine wl_v rfl rfl (ov_loadb 0 _ h rfl rfl sh3 rfl) ?_
     refine wl_v rfl rfl (ov_move _ rfl) ?_
     refine wl_v rfl rfl (ov_bin _ rfl rfl (binR_eql)) ?_
     refine wl_v rfl rfl (ov_pick_true _ rfl rfl) ?_
     refine wl_v rfl rfl (ov_move _ rfl) ?_
     refine wl_split 72 rfl (fun c18 => ?_) (fun c18 => ?_)
     ·
      refine wl_v rfl rfl (ov_fieldAddr _ ⟨b1, 2, none⟩ _ rfl fo34_2 rfl) ?_
      refine wl_v rfl rfl (ov_loadb 0 _ h rfl rfl sh3 rfl) ?_
      refine wl_v rfl rfl (ov_bin _ rfl rfl (binR_eql)) ?_
      refine wl_v rfl rfl (ov_pick_true _ rfl rfl) ?_
      refine wl_v rfl rfl (ov_move _ rfl) ?_
      refine wl_split 77 rfl (fun c19 => ?_) (fun c19 => ?_)
      ·
       refine wl_v rfl rfl (ov_fieldAddr _ ⟨b1, 3, none⟩ _ rfl fo34_3 rfl) ?_
       refine wl_v rfl rfl (ov_loadb 0 _ h rfl rfl sh3 rfl) ?_
       refine wl_v rfl rfl (ov_bin _ rfl rfl (binR_eql)) ?_
       refine wl_v rfl rfl (ov_pick_true _ rfl rfl) ?_
       refine wl_v rfl rfl (ov_assign _ rfl) ?_
       refine wl_nil ?_
       refine qn_then ?_
       refine wc_ret ?_
       refine qn_block_ret ?_
       refine qn_then_ret ?_
       replace h := st_selT [false] h
       refine qn_ret [_] ⟨rfl, trivial⟩ ?_
       have b_ : Pure.fitsB x r last now = (decide ((r.f3 : Int) = 0)) := by
         unfold Pure.fitsB
         have hpg_ : Pure.pgs x r.f0 = (x.getD r.f0.toNat z31).f0 := rfl
         rw [hpg_]
         repeat' split
         all_goals first | omega | rfl | exact decide_eq_true (by omega) | exact decide_eq_false (by omega) | (rw [decide_eq_decide]; omega)
       rw [b_]
       exact ⟨rfl, h⟩
      ·
       refine wl_skip rfl rfl ?_
       refine wl_skip rfl rfl ?_
       refine wl_skip rfl rfl ?_
       refine wl_v rfl rfl (ov_pick_false _ rfl rfl) ?_
       refine wl_v rfl rfl (ov_assign _ rfl) ?_
       refine wl_nil ?_
       refine qn_then ?_
       refine wc_ret ?_
       refine qn_block_ret ?_
       refine qn_then_ret ?_
       replace h := st_selT [false] h
       refine qn_ret [_] ⟨rfl, trivial⟩ ?_
       have b_ : Pure.fitsB x r last now = false := by
         unfold Pure.fitsB
         have hpg_ : Pure.pgs x r.f0 = (x.getD r.f0.toNat z31).f0 := rfl
         rw [hpg_]
         repeat' split
         all_goals first | omega | rfl | exact decide_eq_true (by omega) | exact decide_eq_false (by omega) | (rw [decide_eq_decide]; omega)
       rw [b_]
       exact ⟨rfl, h⟩
     ·
      refine wl_skip rfl rfl ?_
      refine wl_skip rfl rfl ?_
      refine wl_skip rfl rfl ?_
      refine wl_v rfl rfl (ov_pick_false _ rfl rfl) ?_
      refine wl_v rfl rfl (ov_move _ rfl) ?_
      refine wl_skip rfl rfl ?_
      refine wl_skip rfl rfl ?_
      refine wl_skip rfl rfl ?_
      refine wl_v rfl rfl (ov_pick_false _ rfl rfl) ?_
      refine wl_v rfl rfl (ov_assign _ rfl) ?_
      refine wl_nil ?_
      refine qn_then ?_
      refine wc_ret ?_
      refine qn_block_ret ?_
      refine qn_then_ret ?_
      replace h := st_selT [false] h
      refine qn_ret [_] ⟨rfl, trivial⟩ ?_
      have b_ : Pure.fitsB x r last now = false := by
        unfold Pure.fitsB
        have hpg_ : Pure.pgs x r.f0 = (x.getD r.f0.toNat z31).f0 := rfl
        rw [hpg_]
        repeat' split
        all_goals first | omega | rfl | exact decide_eq_true (by omega) | exact decide_eq_false (by omega) | (rw [decide_eq_decide]; omega)
      rw [b_]
      exact ⟨rfl, h⟩
    ·
     refine wl_skip rfl rfl ?_
     refine wl_skip rfl rfl ?_
     refine wl_skip rfl rfl ?_
     refine wl_skip rfl rfl ?_
     refine wl_v rfl rfl (ov_pick_false _ rfl rfl) ?_
     refine wl_v rfl rfl (ov_move _ rfl) ?_
     refine wl_skip rfl rfl ?_
     refine wl_skip rfl rfl ?_
     refine wl_skip rfl rfl ?_
     refine wl_v rfl rfl (ov_pick_false _ rfl rfl) ?_
     refine wl_v rfl rfl (ov_move _ rfl) ?_
     refine wl_skip rfl rfl ?_
     refine wl_skip rfl rfl ?_
     refine wl_skip rfl rfl ?_
     refine wl_v rfl rfl (ov_pick_false _ rfl rfl) ?_
     refine wl_v rfl rfl (ov_assign _ rfl) ?_
     refine wl_nil ?_
     refine qn_then ?_
     refine wc_ret ?_
     refine qn_block_ret ?_
     refine qn_then_ret ?_
     replace h := st_selT [false] h
     refine qn_ret [_] ⟨rfl, trivial⟩ ?_
     have b_ : Pure.fitsB x r last now = false := by
       unfold Pure.fitsB
       have hpg_ : Pure.pgs x r.f0 = (x.getD r.f0.toNat z31).f0 := rfl
       rw [hpg_]
       repeat' split
       all_goals first | omega | rfl | exact decide_eq_true (by omega) | exact decide_eq_false (by omega) | (rw [decide_eq_decide]; omega)
     rw [b_]
     exact ⟨rfl, h⟩
   ·
    refine wc_seq ?_
    refine wc_region ?_
    refine wl_v rfl rfl (ov_bin _ rfl rfl (binR_eql)) ?_
    refine wl_v rfl rfl (ov_assign _ rfl) ?_
    refine wl_nil ?_
    refine qn_then ?_
    refine wc_cond (by rfl) (fun c20 => ?_) (fun c20 => ?_)
    ·
     refine wc_seq ?_
     refine wc_draw (fun w => Sx.St w0 F0 ([Sx.blk b1 [.int .i64 (r.f0), .int .i64 (r.f1), .int .i64 (r.f2), .int .i64 (r.f3), .slice (A4) (r.f4.length) (c4)] 34] ++ R) w) (by kernel_rfl) ?_
     replace h := st_drew h
     refine wa_tk 0 rfl rfl rfl (st_selT [true] h) (fun w_ hS => ov_fieldAddr _ ⟨b1, 0, none⟩ _ rfl fo34_0 rfl) ?_
     refine wa_tk 1 rfl rfl rfl (st_selT [true] h) (fun w_ hS => ov_loadb 0 _ hS rfl rfl sh3 rfl) ?_
     refine wa_tk 2 rfl rfl rfl (st_selT [true] h) (fun w_ hS => ov_move _ rfl) ?_
     refine wa_tk 3 rfl rfl rfl (st_selT [true] h) (fun w_ hS => ov_len _ _ _ _ _ rfl es22) ?_
     refine wa_tk 4 rfl rfl rfl (st_selT [true] h) (fun w_ hS => ov_bin _ rfl rfl (binR_lss)) ?_
     refine wa_tk 5 rfl rfl rfl (st_selT [true] h) (fun w_ hS => ov_move _ rfl) ?_
     refine wa_split 89 rfl (fun c21 => ?_) (fun c21 => ?_)
     ·
      have hpl_ := (Pure.few_at hFx r.f0 (by omega) (by omega)).1
      replace hpl_ : ((x.getD r.f0.toNat z31).f0).length ≤ 40 := hpl_
      refine wa_tk 6 rfl rfl rfl (st_selT [true] h) (fun w_ hS => ov_fieldAddr _ ⟨b1, 2, none⟩ _ rfl fo34_2 rfl) ?_
      refine wa_tk 7 rfl rfl rfl (st_selT [true] h) (fun w_ hS => ov_loadb 0 _ hS rfl rfl sh3 rfl) ?_
      refine wa_tk 8 rfl rfl rfl (st_selT [true] h) (fun w_ hS => ov_bin _ rfl rfl (binR_eql)) ?_
      refine wa_tk 9 rfl rfl rfl (st_selT [true] h) (fun w_ hS => ov_pick_true _ rfl rfl) ?_
      refine wa_tk 10 rfl rfl rfl (st_selT [true] h) (fun w_ hS => ov_move _ rfl) ?_
      refine wa_split 94 rfl (fun c22 => ?_) (fun c22 => ?_)
      ·
       refine wa_tk 11 rfl rfl rfl (st_selT [true] h) (fun w_ hS => ov_fieldAddr _ ⟨b1, 3, none⟩ _ rfl fo34_3 rfl) ?_
       refine wa_tk 12 rfl rfl rfl (st_selT [true] h) (fun w_ hS => ov_loadb 0 _ hS rfl rfl sh3 rfl) ?_
       refine wa_tk 13 rfl rfl rfl (st_selT [true] h) (fun w_ hS => ov_move _ rfl) ?_
       refine wa_tk 14 rfl rfl rfl (st_selT [true] h) (fun w_ hS => ov_fieldAddr _ ⟨b1, 0, none⟩ _ rfl fo34_0 rfl) ?_
       refine wa_tk 15 rfl rfl rfl (st_selT [true] h) (fun w_ hS => ov_loadb 0 _ hS rfl rfl sh3 rfl) ?_
       obtain ⟨ad23, rfl⟩ := Sx.C_some ((Sx.ro_C hv h hCx)) (k := (r.f0 : Int).toNat) (by first | assumption | omega)
       refine wa_tk 16 rfl rfl rfl (st_selT [true] h) (fun w_ hS => ov_indexAddrN _ _ _ _ _ (r.f0 : Int).toNat rfl rfl es22 (by omega) (by first | assumption | omega | (simp only [List.length_take, List.length_drop, List.length_set]; omega))) ?_
       refine wa_tk 17 rfl rfl rfl (st_selT [true] h) (fun w_ hS => ov_fieldAddr _ ((ad23).add ((r.f0 : Int).toNat * 1 + 0)) _ rfl fo31_0 (by first | exact Deep.add_add _ _ _ | (rw [Deep.add_add]) | rfl)) ?_
       obtain ⟨cl26, _, hk25, hc24⟩ := Sx.C_cells (hCx) (z := z31) (k := (r.f0 : Int).toNat) (by first | assumption | omega)
       obtain ⟨A27, cp28, rfl, hl29, hn30⟩ := k31_open hk25
       refine wa_tk 18 rfl rfl rfl (st_selT [true] h) (fun w_ hS => ov_load1 _ _ rfl sh29 (Sx.ro_cell hv hS (hc24 0 _ rfl))) ?_
       refine wa_tk 19 rfl rfl rfl (st_selT [true] h) (fun w_ hS => ov_len _ _ _ _ _ rfl es29) ?_
       refine wa_tk 20 rfl rfl rfl (st_selT [true] h) (fun w_ hS => ov_bin _ rfl rfl (binR_eql)) ?_
       refine wa_tk 21 rfl rfl rfl (st_selT [true] h) (fun w_ hS => ov_pick_true _ rfl rfl) ?_
       refine wa_tk 22 rfl rfl rfl (st_selT [true] h) (fun w_ hS => ov_move _ rfl) ?_
       refine wa_split 106 rfl (fun c31 => ?_) (fun c31 => ?_)
       ·
        refine wa_tk 23 rfl rfl rfl (st_selT [true] h) (fun w_ hS => ov_fieldAddr _ ⟨b1, 4, none⟩ _ rfl fo34_4 rfl) ?_
        refine wa_tk 24 rfl rfl rfl (st_selT [true] h) (fun w_ hS => ov_loadb 0 _ hS rfl rfl sh29 rfl) ?_
        refine wa_tk 25 rfl rfl rfl (st_selT [true] h) (fun w_ hS => ov_len _ _ _ _ _ rfl es29) ?_
        refine wa_tk 26 rfl rfl rfl (st_selT [true] h) (fun w_ hS => ov_bin _ rfl rfl (binR_eql)) ?_
        refine wa_tk 27 rfl rfl rfl (st_selT [true] h) (fun w_ hS => ov_pick_true _ rfl rfl) ?_
        refine wa_tk 28 rfl rfl rfl (st_selT [true] h) (fun w_ hS => ov_assign _ rfl) ?_
        refine wa_done (by kernel_rfl) ?_
        refine qn_then ?_
        refine wc_ret ?_
        refine qn_block_ret ?_
        refine qn_then_ret ?_
        replace h := st_selT [false] h
        refine qn_ret [_] ⟨rfl, trivial⟩ ?_
        have b_ : Pure.fitsB x r last now = (decide ((((r.f4.length : Nat) : Int) : Int) = 0)) := by
          unfold Pure.fitsB
          have hpg_ : Pure.pgs x r.f0 = (x.getD r.f0.toNat z31).f0 := rfl
          rw [hpg_]
          repeat' split
          all_goals first | omega | rfl | exact decide_eq_true (by omega) | exact decide_eq_false (by omega) | (rw [decide_eq_decide]; omega)
        rw [b_]
        exact ⟨rfl, h⟩
       ·
        refine wa_sk 23 rfl rfl rfl (st_selT [true] h) ?_
        refine wa_sk 24 rfl rfl rfl (st_selT [true] h) ?_
        refine wa_sk 25 rfl rfl rfl (st_selT [true] h) ?_
        refine wa_sk 26 rfl rfl rfl (st_selT [true] h) ?_
        refine wa_tk 27 rfl rfl rfl (st_selT [true] h) (fun w_ hS => ov_pick_false _ rfl rfl) ?_
        refine wa_tk 28 rfl rfl rfl (st_selT [true] h) (fun w_ hS => ov_assign _ rfl) ?_
        refine wa_done (by kernel_rfl) ?_
        refine qn_then ?_
        refine wc_ret ?_
        refine qn_block_ret ?_
        refine qn_then_ret ?_
        replace h := st_selT [false] h
        refine qn_ret [_] ⟨rfl, trivial⟩ ?_
        have b_ : Pure.fitsB x r last now = false := by
          unfold Pure.fitsB
          have hpg_ : Pure.pgs x r.f0 = (x.getD r.f0.toNat z31).f0 := rfl
          rw [hpg_]
          repeat' split
          all_goals first | omega | rfl | exact decide_eq_true (by omega) | exact decide_eq_false (by omega) | (rw [decide_eq_decide]; omega)
        rw [b_]
        exact ⟨rfl, h⟩
      ·
       refine wa_sk 11 rfl rfl rfl (st_selT [true] h) ?_
       refine wa_sk 12 rfl rfl rfl (st_selT [true] h) ?_
       refine wa_sk 13 rfl rfl rfl (st_selT [true] h) ?_
       refine wa_sk 14 rfl rfl rfl (st_selT [true] h) ?_
       refine wa_sk 15 rfl rfl rfl (st_selT [true] h) ?_
       refine wa_sk 16 rfl rfl rfl (st_selT [true] h) ?_
       refine wa_sk 17 rfl rfl rfl (st_selT [true] h) ?_
       refine wa_sk 18 rfl rfl rfl (st_selT [true] h) ?_
       refine wa_sk 19 rfl rfl rfl (st_selT [true] h) ?_
       refine wa_sk 20 rfl rfl rfl (st_selT [true] h) ?_
       refine wa_tk 21 rfl rfl rfl (st_selT [true] h) (fun w_ hS => ov_pick_false _ rfl rfl) ?_
       refine wa_tk 22 rfl rfl rfl (st_selT [true] h) (fun w_ hS => ov_move _ rfl) ?_
       refine wa_sk 23 rfl rfl rfl (st_selT [true] h) ?_
       refine wa_sk 24 rfl rfl rfl (st_selT [true] h) ?_
       refine wa_sk 25 rfl rfl rfl (st_selT [true] h) ?_
       refine wa_sk 26 rfl rfl rfl (st_selT [true] h) ?_
       refine wa_tk 27 rfl rfl rfl (st_selT [true] h) (fun w_ hS => ov_pick_false _ rfl rfl) ?_
       refine wa_tk 28 rfl rfl rfl (st_selT [true] h) (fun w_ hS => ov_assign _ rfl) ?_
       refine wa_done (by kernel_rfl) ?_
       refine qn_then ?_
       refine wc_ret ?_
       refine qn_block_ret ?_
       refine qn_then_ret ?_
       replace h := st_selT [false] h
       refine qn_ret [_] ⟨rfl, trivial⟩ ?_
       have b_ : Pure.fitsB x r last now = false := by
         unfold Pure.fitsB
         have hpg_ : Pure.pgs x r.f0 = (x.getD r.f0.toNat z31).f0 := rfl
         rw [hpg_]
         repeat' split
         all_goals first | omega | rfl | exact decide_eq_true (by omega) | exact decide_eq_false (by omega) | (rw [decide_eq_decide]; omega)
       rw [b_]
       exact ⟨rfl, h⟩
     ·
      refine wa_sk 6 rfl rfl rfl (st_selT [true] h) ?_
      refine wa_sk 7 rfl rfl rfl (st_selT [true] h) ?_
      refine wa_sk 8 rfl rfl rfl (st_selT [true] h) ?_
      refine wa_tk 9 rfl rfl rfl (st_selT [true] h) (fun w_ hS => ov_pick_false _ rfl rfl) ?_
      refine wa_tk 10 rfl rfl rfl (st_selT [true] h) (fun w_ hS => ov_move _ rfl) ?_
      refine wa_sk 11 rfl rfl rfl (st_selT [true] h) ?_
      refine wa_sk 12 rfl rfl rfl (st_selT [true] h) ?_
      refine wa_sk 13 rfl rfl rfl (st_selT [true] h) ?_
      refine wa_sk 14 rfl rfl rfl (st_selT [true] h) ?_
      refine wa_sk 15 rfl rfl rfl (st_selT [true] h) ?_
      refine wa_sk 16 rfl rfl rfl (st_selT [true] h) ?_
      refine wa_sk 17 rfl rfl rfl (st_selT [true] h) ?_
      refine wa_sk 18 rfl rfl rfl (st_selT [true] h) ?_
      refine wa_sk 19 rfl rfl rfl (st_selT [true] h) ?_
      refine wa_sk 20 rfl rfl rfl (st_selT [true] h) ?_
      refine wa_tk 21 rfl rfl rfl (st_selT [true] h) (fun w_ hS => ov_pick_false _ rfl rfl) ?_
      refine wa_tk 22 rfl rfl rfl (st_selT [true] h) (fun w_ hS => ov_move _ rfl) ?_
      refine wa_sk 23 rfl rfl rfl (st_selT [true] h) ?_
      refine wa_sk 24 rfl rfl rfl (st_selT [true] h) ?_
      refine wa_sk 25 rfl rfl rfl (st_selT [true] h) ?_
      refine wa_sk 26 rfl rfl rfl (st_selT [true] h) ?_
      refine wa_tk 27 rfl rfl rfl (st_selT [true] h) (fun w_ hS => ov_pick_false _ rfl rfl) ?_
      refine wa_tk 28 rfl rfl rfl (st_selT [true] h) (fun w_ hS => ov_assign _ rfl) ?_
      refine wa_done (by kernel_rfl) ?_
      refine qn_then ?_
      refine wc_ret ?_
      refine qn_block_ret ?_
      refine qn_then_ret ?_
      replace h := st_selT [false] h
      refine qn_ret [_] ⟨rfl, trivial⟩ ?_
      have b_ : Pure.fitsB x r last now = false := by
        unfold Pure.fitsB
        have hpg_ : Pure.pgs x r.f0 = (x.getD r.f0.toNat z31).f0 := rfl
        rw [hpg_]
        repeat' split
        all_goals first | omega | rfl | exact decide_eq_true (by omega) | exact decide_eq_false (by omega) | (rw [decide_eq_decide]; omega)
      rw [b_]
      exact ⟨rfl, h⟩
    ·
     refine wc_skip ?_
     refine qn_block_normal ?_
     refine qn_then ?_
     refine wc_seq ?_
     refine wc_region ?_
     refine wl_v rfl rfl (ov_assign _ rfl) ?_
     refine wl_nil ?_
     refine qn_then ?_
     refine wc_ret ?_
     replace h := st_selT [false] h
     refine qn_ret [_] ⟨rfl, trivial⟩ ?_
     have b_ : Pure.fitsB x r last now = false := by
       unfold Pure.fitsB
       have hpg_ : Pure.pgs x r.f0 = (x.getD r.f0.toNat z31).f0 := rfl
       rw [hpg_]
       repeat' split
       all_goals first | omega | rfl | exact decide_eq_true (by omega) | exact decide_eq_false (by omega) | (rw [decide_eq_decide]; omega)
     rw [b_]
     exact ⟨rfl, h⟩
set_option maxHeartbeats 4000000 in
set_option maxRecDepth 100000 in
theorem Patch_calls {w0 w : World} {F0 : Nat → Prop} {R : List Sx.HP} {v0 : World} (x : List S31) (Ax : Option Addr) (cx : Nat) (rs : List S34) (Ars : Option Addr) (crs : Nat) (hv : Sx.RO v0 w0 F0) (hlx : x.length ≤ cx) (hCx : k31.C v0 Ax x.length x) (hmx : x.length ≤ 9223372036854775807) (hlrs : rs.length ≤ crs) (hCrs : k34.C v0 Ars rs.length rs) (hmrs : rs.length ≤ 9223372036854775807) (hFx : Pure.Few x) (hrl : rs.length ≤ 200) (hsh : ∀ r ∈ rs, Pure.Short r.f4) (h : Sx.St w0 F0 ([] ++ R) w) : Calls Try.prog 16 #[.slice (Ax) (x.length) (cx), .slice (Ars) (rs.length) (crs)] w (fun e w1 => ∃ A c, e = .returned (.tuple #[.slice A (Pure.patchV x rs).1.length c, .int .i64 (Pure.patchV x rs).2]) ∧ (Pure.patchV x rs).1.length ≤ c ∧ k31.C w1 A (Pure.patchV x rs).1.length (Pure.patchV x rs).1 ∧ Sx.St w0 F0 R w1) := by
 have hFx1 := hFx.1
 refine Sx.calls_fn (vs := [.slice (Ax) (x.length) (cx), .slice (Ars) (rs.length) (crs)]) Try.func16 rfl Try.ntmps16 rfl ?_
 refine wc_seq ?_
 refine wc_region ?_
 refine wl_v rfl rfl (ov_assign _ rfl) ?_
 refine wl_v rfl rfl (ov_assign _ rfl) ?_
 refine wl_nil ?_
 refine qn_then ?_
 refine wc_seq ?_
 refine wc_region ?_
 refine wl_v rfl rfl (ov_move _ rfl) ?_
 refine wl_call _ rfl rfl rfl ent15 (diff_Copy.calls 100 _ _ x _ _ ((Sx.ro_C hv h hCx)) hlx (Pure.copyp_val x hFx)) ?_
 rintro e_ w_ ⟨v_, rfl, hR_, hB_⟩
 refine ⟨_, rfl, ?_⟩
 obtain ⟨A1, cp2, Ps3, rfl, hP4, h⟩ := Lib.st_split (g := Prod.fst) Lib.flatP rfl Lib.el_P h hB_ hR_
 replace h : Sx.St w0 F0 ([Sx.row Lib.kP 31 (A1) (cp2) (Ps3), Lib.lib (Lib.AllP Ps3)] ++ R) _ := h
 refine wl_v rfl rfl (ov_assign _ rfl) ?_
 refine wl_nil ?_
 refine qn_then ?_
 refine wc_seq ?_
 refine wc_region ?_
 refine wl_v rfl rfl (ov_assign _ rfl) ?_
 refine wl_v rfl rfl (ov_assign _ rfl) ?_
 refine wl_nil ?_
 refine qn_then ?_
 refine wc_seq ?_
 refine wc_seq ?_
 refine wc_region ?_
 refine wl_v rfl rfl (ov_move _ rfl) ?_
 refine wl_v rfl rfl (ov_len _ _ _ _ _ rfl es27) ?_
 refine wl_v rfl rfl (ov_move _ rfl) ?_
 refine wl_nil ?_
 refine qn_then ?_
 refine wc_block ?_
 have hlen0_ : Ps3.length = x.length := by rw [← hP4, List.length_map]
 replace h := st_front 1 h
 replace h := st_front 1 h
 refine wc_loop (fun (x_ : Nat × (Option Addr) × Nat × (List Lib.PG) × Nat × Pure.PSt) => [(0, .slice (Ax) (x.length) (cx)), (1, .slice (Ars) (rs.length) (crs)), (6, .slice (x_.2.1) (x_.2.2.2.2.1) (x_.2.2.1)), (7, .int .i64 ((x_.2.2.2.2.2).last)), (8, .bool ((x_.2.2.2.2.2).gone)), (15, .slice (Ars) (rs.length) (crs)), (16, .int .i64 (((rs.length : Nat) : Int))), (17, .int .i64 ((x_.1 : Int)))]) (fun (x_ : Nat × (Option Addr) × Nat × (List Lib.PG) × Nat × Pure.PSt) (w : World) => (Pure.pfold x rs x_.1 = some x_.2.2.2.2.2 ∧ x_.1 ≤ rs.length ∧ (x_.2.2.2.1.take x_.2.2.2.2.1).map (·.1) = x_.2.2.2.2.2.out ∧ x_.2.2.2.2.1 ≤ x_.2.2.2.1.length ∧ (x_.2.2.2.2.2.gone = false → x_.2.2.2.2.1 = x_.2.2.2.1.length) ∧ Pure.PInv x x_.1 x_.2.2.2.2.2) ∧ Sx.St w0 F0 ([Sx.row Lib.kP 31 (x_.2.1) (x_.2.2.1) (x_.2.2.2.1), Lib.lib (Lib.AllP x_.2.2.2.1)] ++ R) w) (fun (x_ : Nat × (Option Addr) × Nat × (List Lib.PG) × Nat × Pure.PSt) => rs.length - x_.1) (0, A1, cp2, Ps3, Ps3.length, (⟨x, -1, false⟩ : Pure.PSt)) ?_ ?_ ?_
 · exact ⟨rfl, rfl, rfl, (congrArg (fun z_ => some (Value.int .i64 z_)) (show (-1 : Int) = ((⟨x, -1, false⟩ : Pure.PSt)).last by rfl)), (congrArg (fun z_ => some (Value.bool z_)) (show false = (((⟨x, -1, false⟩ : Pure.PSt)).gone) by first | rfl | simp | omega)), rfl, rfl, (congrArg (fun z_ => some (Value.int .i64 z_)) (show (0 : Int) = (0 : Int) by omega)), trivial⟩
 · exact ⟨⟨rfl, Nat.zero_le _, by rw [List.take_length]; exact hP4, Nat.le_refl _, fun _ => rfl, Pure.pinv_start x⟩, h⟩
 rintro ⟨k, A, c, Ps, n, σ⟩ w h
 obtain ⟨hJ, h⟩ := h
 replace hJ : Pure.pfold x rs k = some σ ∧ k ≤ rs.length ∧ (Ps.take n).map (·.1) = σ.out ∧ n ≤ Ps.length ∧ (σ.gone = false → n = Ps.length) ∧ Pure.PInv x k σ := hJ
 replace h : Sx.St w0 F0 ([Sx.row Lib.kP 31 (A) (c) (Ps), Lib.lib (Lib.AllP Ps)] ++ R) w := h
 show Sx.WC _ _ _ _ [(0, .slice (Ax) (x.length) (cx)), (1, .slice (Ars) (rs.length) (crs)), (6, .slice (A) (n) (c)), (7, .int .i64 ((σ).last)), (8, .bool ((σ).gone)), (15, .slice (Ars) (rs.length) (crs)), (16, .int .i64 (((rs.length : Nat) : Int))), (17, .int .i64 ((k : Int)))] _
 have hi0_ := hJ.2.2.2.2.2.last0
 have hi1_ := hJ.2.2.2.2.2.len
 have hi2_ := hJ.2.2.2.2.2.more
 have hlen_ : σ.out.length = n := by rw [← hJ.2.2.1, List.length_map, List.length_take]; omega
 have hnn_ := hJ.2.2.2.1
 refine wc_seq ?_
 refine wc_region ?_
 refine wl_v rfl rfl (ov_bin _ rfl rfl (binR_lss)) ?_
 refine wl_nil ?_
 refine qn_then ?_
 refine wc_seq ?_
 refine wc_cond (by rfl) (fun c5 => ?_) (fun c5 => ?_)
 ·
  refine wc_skip ?_
  refine qn_then ?_
  refine wc_seq ?_
  refine wc_block ?_
  refine wc_seq ?_
  refine wc_region ?_
  obtain ⟨ad6, rfl⟩ := Sx.C_some ((Sx.ro_C hv h hCrs)) (k := k) (by first | assumption | omega)
  refine wl_v rfl rfl (ov_indexAddrN _ _ _ _ _ k rfl rfl es27 rfl (by first | assumption | omega | (simp only [List.length_take, List.length_drop, List.length_set]; omega))) ?_
  obtain ⟨cl9, _, hk8, hc7⟩ := Sx.C_cells (hCrs) (z := z34) (k := k) (by first | assumption | omega)
  obtain ⟨A10, cp11, rfl, hl12, hn13⟩ := k34_open hk8
  refine wl_v rfl rfl (ov_loadN _ [.int .i64 ((((rs).getD k z34)).f0), .int .i64 ((((rs).getD k z34)).f1), .int .i64 ((((rs).getD k z34)).f2), .int .i64 ((((rs).getD k z34)).f3), .slice (A10) (((((rs).getD k z34)).f4).length) (cp11)] rfl sh34 (by intro j u hu; rw [Deep.add_add]; exact Sx.ro_cell hv h (hc7 _ _ hu))) ?_
  refine wl_alloc _ h rfl rfl zo34 (fun b14 _ h => ?_)
  replace h : Sx.St _ _ (Sx.blk b14 [.int .i64 (0), .int .i64 (0), .int .i64 (0), .int .i64 (0), .slice (none) (0) (0)] 34 :: _) _ := h
  refine wl_storebN 0 [.int .i64 ((((rs).getD k z34)).f0), .int .i64 ((((rs).getD k z34)).f1), .int .i64 ((((rs).getD k z34)).f2), .int .i64 ((((rs).getD k z34)).f3), .slice (A10) (((((rs).getD k z34)).f4).length) (cp11)] [.int .i64 ((((rs).getD k z34)).f0), .int .i64 ((((rs).getD k z34)).f1), .int .i64 ((((rs).getD k z34)).f2), .int .i64 ((((rs).getD k z34)).f3), .slice (A10) (((((rs).getD k z34)).f4).length) (cp11)] h rfl rfl rfl rfl (by simp [Value.oneCell']) sh34 rfl rfl (fun _ h => ?_)
  refine wl_nil ?_
  refine qn_then ?_
  refine wc_seq ?_
  refine wc_seq ?_
  refine wc_region ?_
  refine wl_v rfl rfl (ov_move _ rfl) ?_
  refine wl_v rfl rfl (ov_loadbN 0 [.int .i64 ((((rs).getD k z34)).f0), .int .i64 ((((rs).getD k z34)).f1), .int .i64 ((((rs).getD k z34)).f2), .int .i64 ((((rs).getD k z34)).f3), .slice (A10) (((((rs).getD k z34)).f4).length) (cp11)] h rfl rfl sh34 rfl) ?_
  refine wl_v rfl rfl (ov_move _ rfl) ?_
  refine wl_v rfl rfl (ov_move _ rfl) ?_
  refine wl_v rfl rfl (ov_len _ _ _ _ _ rfl es22) ?_
  refine wl_call _ rfl rfl rfl ent26 (fits_calls (R := [Sx.blk b14 [.int .i64 ((((rs).getD k z34)).f0), .int .i64 ((((rs).getD k z34)).f1), .int .i64 ((((rs).getD k z34)).f2), .int .i64 ((((rs).getD k z34)).f3), .slice (A10) (((((rs).getD k z34)).f4).length) (cp11)] 34, Sx.row Lib.kP 31 (A) (c) (Ps), Lib.lib (Lib.AllP Ps)] ++ R) x Ax cx (((rs).getD k z34)) A10 cp11 ((σ).last) (((n : Nat) : Int)) hv hlx hCx hl12 hn13 hFx (by omega) h) ?_
  rintro e_ w_ ⟨rfl, h⟩
  refine ⟨_, rfl, ?_⟩
  refine wl_v rfl rfl (ov_notb _ rfl) ?_
  refine wl_v rfl rfl (ov_move _ rfl) ?_
  refine wl_splitb 28 rfl (fun c15 => ?_) (fun c15 => ?_)
  ·
   have hbad_ := c15
   refine wl_skip rfl rfl ?_
   refine wl_skip rfl rfl ?_
   refine wl_skip rfl rfl ?_
   refine wl_skip rfl rfl ?_
   refine wl_skip rfl rfl ?_
   refine wl_skip rfl rfl ?_
   refine wl_v rfl rfl (ov_pick_true _ rfl rfl) ?_
   refine wl_nil ?_
   refine qn_then ?_
   refine wc_cond_true rfl ?_
   refine wc_seq ?_
   refine wc_region ?_
   refine wl_v rfl rfl (ov_assign _ rfl) ?_
   refine wl_v rfl rfl (ov_assign _ rfl) ?_
   refine wl_nil ?_
   refine qn_then ?_
   refine wc_ret ?_
   refine qn_then_ret ?_
   refine qn_block_ret ?_
   refine qn_then_ret ?_
   refine qn_then_ret ?_
   refine qn_block_ret ?_
   refine qn_then_ret ?_
   replace h := st_selT [false, false, false] h
   refine qn_ret [_, _] ⟨rfl, rfl, trivial⟩ ?_
   have e_ := Pure.patch_none (x := x) (rs := rs) (k := k + 1) (by omega) (by rw [Pure.pfold, hJ.1]; exact Lib.nx_none (by first | exact .inl (by rw [hlen_]; simpa using hbad_) | exact .inr ⟨hg_, by simpa using hbad_⟩))
   rw [e_]
   exact ⟨none, 0, rfl, Nat.le_refl _, Kd.C_nil _ _, h⟩
  ·
   have hfit_ : Pure.fitsB x ((rs).getD k z34) σ.last (σ.out.length : Int) = true := by have q_ := c15; simp only [Bool.not_eq_false'] at q_; rw [hlen_]; exact q_
   have hff_ := Pure.fits_facts hfit_
   have hshr : Pure.Short ((rs).getD k z34).f4 := hsh _ (by rw [List.getD_eq_getElem?_getD, List.getElem?_eq_getElem (by omega)]; exact List.getElem_mem _)
   refine wl_v rfl rfl (ov_move _ rfl) ?_
   refine wl_v rfl rfl (ov_move _ rfl) ?_
   refine wl_splitb 30 rfl (fun c16 => ?_) (fun c16 => ?_)
   ·
    have hg_ : σ.gone = true := by simpa using c16
    refine wl_v rfl rfl (ov_fieldAddr _ ⟨b14, 1, none⟩ _ rfl fo34_1 rfl) ?_
    refine wl_v rfl rfl (ov_loadb 0 _ h rfl rfl sh3 rfl) ?_
    refine wl_v rfl rfl (ov_bin _ rfl rfl (binR_neq)) ?_
    refine wl_v rfl rfl (ov_pick_true _ rfl rfl) ?_
    refine wl_v rfl rfl (ov_pick_false _ rfl rfl) ?_
    refine wl_nil ?_
    refine qn_then ?_
    refine wc_cond (by rfl) (fun c17 => ?_) (fun c17 => ?_)
    ·
     have hbad_ := c17
     refine wc_seq ?_
     refine wc_region ?_
     refine wl_v rfl rfl (ov_assign _ rfl) ?_
     refine wl_v rfl rfl (ov_assign _ rfl) ?_
     refine wl_nil ?_
     refine qn_then ?_
     refine wc_ret ?_
     refine qn_then_ret ?_
     refine qn_block_ret ?_
     refine qn_then_ret ?_
     refine qn_then_ret ?_
     refine qn_block_ret ?_
     refine qn_then_ret ?_
     replace h := st_selT [false, false, false] h
     refine qn_ret [_, _] ⟨rfl, rfl, trivial⟩ ?_
     have e_ := Pure.patch_none (x := x) (rs := rs) (k := k + 1) (by omega) (by rw [Pure.pfold, hJ.1]; exact Lib.nx_none (by first | exact .inl (by rw [hlen_]; simpa using hbad_) | exact .inr ⟨hg_, by simpa using hbad_⟩))
     rw [e_]
     exact ⟨none, 0, rfl, Nat.le_refl _, Kd.C_nil _ _, h⟩
    ·
     refine wc_skip ?_
     refine qn_then ?_
     refine wc_seq ?_
     refine wc_region ?_
     refine wl_v rfl rfl (ov_fieldAddr _ ⟨b14, 0, none⟩ _ rfl fo34_0 rfl) ?_
     refine wl_v rfl rfl (ov_loadb 0 _ h rfl rfl sh3 rfl) ?_
     refine wl_v rfl rfl (ov_assign _ rfl) ?_
     refine wl_nil ?_
     refine qn_then ?_
     refine wc_seq ?_
     refine wc_region ?_
     refine wl_v rfl rfl (ov_fieldAddr _ ⟨b14, 1, none⟩ _ rfl fo34_1 rfl) ?_
     refine wl_v rfl rfl (ov_loadb 0 _ h rfl rfl sh3 rfl) ?_
     refine wl_nil ?_
     refine qn_then ?_
     refine wc_block ?_
     refine wc_seq ?_
     refine wc_region ?_
     refine wl_v rfl rfl (ov_bin _ rfl rfl (binR_eql)) ?_
     refine wl_v rfl rfl (ov_assign _ rfl) ?_
     refine wl_nil ?_
     refine qn_then ?_
     refine wc_cond (by rfl) (fun c18 => ?_) (fun c18 => ?_)
     ·
      exfalso
      omega
     ·
      refine wc_seq ?_
      refine wc_region ?_
      refine wl_v rfl rfl (ov_bin _ rfl rfl (binR_eql)) ?_
      refine wl_v rfl rfl (ov_assign _ rfl) ?_
      refine wl_nil ?_
      refine qn_then ?_
      refine wc_cond (by rfl) (fun c19 => ?_) (fun c19 => ?_)
      ·
       exfalso
       omega
      ·
       refine wc_seq ?_
       refine wc_region ?_
       refine wl_v rfl rfl (ov_bin _ rfl rfl (binR_eql)) ?_
       refine wl_v rfl rfl (ov_assign _ rfl) ?_
       refine wl_nil ?_
       refine qn_then ?_
       refine wc_cond (by rfl) (fun c20 => ?_) (fun c20 => ?_)
       ·
        refine wc_seq ?_
        have hq1_ := hff_.2.2.2.1 (by omega)
        refine wc_region ?_
        refine wl_v rfl rfl (ov_move _ rfl) ?_
        refine wl_v rfl rfl (ov_notb _ rfl) ?_
        refine wl_nil ?_
        refine qn_then ?_
        refine wc_condb (by rfl) (fun c21 => ?_) (fun c21 => ?_)
        ·
         exact absurd (c21) (by simp [hg_])
        ·
         refine wc_skip ?_
         refine qn_block_normal ?_
         refine qn_block_normal ?_
         refine qn_then ?_
         refine wc_region ?_
         refine wl_v rfl rfl (ov_bin _ rfl rfl (binR_add (r := ((k : Int)) + 1) (Sx.w64 (by omega)))) ?_
         refine wl_v rfl rfl (ov_move _ rfl) ?_
         refine wl_nil ?_
         have hst_ := Lib.nx_went hfit_ (by omega) hg_
         replace h := st_front 2 h
         replace h := st_front 2 h
         replace h := st_selT [true, true, false] h
         refine qn_next ((k + 1), A, c, Ps, n, (⟨σ.out, ((rs).getD k z34).f0, true⟩ : Pure.PSt)) (by show rs.length - (k + 1) < rs.length - k; omega) ⟨rfl, (congrArg (fun z_ => some (Value.slice (some ad6) z_ (crs))) (show (rs.length : Nat) = rs.length by first | rfl | simp)), rfl, (congrArg (fun z_ => some (Value.int .i64 z_)) (show ((((rs).getD k z34)).f0 : Int) = ((⟨σ.out, ((rs).getD k z34).f0, true⟩ : Pure.PSt)).last by rfl)), (congrArg (fun z_ => some (Value.bool z_)) (show ((σ).gone) = (((⟨σ.out, ((rs).getD k z34).f0, true⟩ : Pure.PSt)).gone) by first | rfl | exact hg_)), (congrArg (fun z_ => some (Value.slice (some ad6) z_ (crs))) (show (rs.length : Nat) = rs.length by first | rfl | simp)), rfl, (congrArg (fun z_ => some (Value.int .i64 z_)) (show (((k : Int)) + 1 : Int) = ((k + 1) : Int) by omega)), trivial⟩ ?_
         show (Pure.pfold x rs (k + 1) = some (⟨σ.out, ((rs).getD k z34).f0, true⟩ : Pure.PSt) ∧ (k + 1) ≤ rs.length ∧ (Ps.take n).map (·.1) = (⟨σ.out, ((rs).getD k z34).f0, true⟩ : Pure.PSt).out ∧ n ≤ Ps.length ∧ ((⟨σ.out, ((rs).getD k z34).f0, true⟩ : Pure.PSt).gone = false → n = Ps.length) ∧ Pure.PInv x (k + 1) (⟨σ.out, ((rs).getD k z34).f0, true⟩ : Pure.PSt)) ∧ _
         exact ⟨⟨by rw [Pure.pfold, hJ.1]; exact hst_, by omega, hJ.2.2.1, hJ.2.2.2.1, (fun z_ => (by cases z_)), Pure.pinv_step hJ.2.2.2.2.2 hst_⟩, h⟩
       ·
        exfalso
        omega
   ·
    have hg_ : σ.gone = false := by simpa using c16
    refine wl_skip rfl rfl ?_
    refine wl_skip rfl rfl ?_
    refine wl_skip rfl rfl ?_
    refine wl_v rfl rfl (ov_pick_false _ rfl rfl) ?_
    refine wl_v rfl rfl (ov_pick_false _ rfl rfl) ?_
    refine wl_nil ?_
    refine qn_then ?_
    refine wc_cond_false rfl ?_
    refine wc_skip ?_
    refine qn_then ?_
    refine wc_seq ?_
    refine wc_region ?_
    refine wl_v rfl rfl (ov_fieldAddr _ ⟨b14, 0, none⟩ _ rfl fo34_0 rfl) ?_
    refine wl_v rfl rfl (ov_loadb 0 _ h rfl rfl sh3 rfl) ?_
    refine wl_v rfl rfl (ov_assign _ rfl) ?_
    refine wl_nil ?_
    refine qn_then ?_
    refine wc_seq ?_
    refine wc_region ?_
    refine wl_v rfl rfl (ov_fieldAddr _ ⟨b14, 1, none⟩ _ rfl fo34_1 rfl) ?_
    refine wl_v rfl rfl (ov_loadb 0 _ h rfl rfl sh3 rfl) ?_
    refine wl_nil ?_
    refine qn_then ?_
    refine wc_block ?_
    refine wc_seq ?_
    refine wc_region ?_
    refine wl_v rfl rfl (ov_bin _ rfl rfl (binR_eql)) ?_
    refine wl_v rfl rfl (ov_assign _ rfl) ?_
    refine wl_nil ?_
    refine qn_then ?_
    refine wc_cond (by rfl) (fun c22 => ?_) (fun c22 => ?_)
    ·
     refine wc_seq ?_
     obtain rfl : n = Ps.length := hJ.2.2.2.2.1 hg_
     have hout_ : Ps.map (·.1) = σ.out := by rw [← hJ.2.2.1, List.take_length]
     have hi3_ := hi2_ hg_
     have hsm_ := hJ.2.2.2.2.2.same hg_
     have hq1_ := hff_.2.1 (by omega)
     have hpl_ := (Pure.few_at hFx ((rs).getD k z34).f0 (by omega) (by omega)).1
     refine wc_region ?_
     refine wl_v rfl rfl (ov_move _ rfl) ?_
     refine wl_v rfl rfl (ov_fieldAddr _ ⟨b14, 0, none⟩ _ rfl fo34_0 rfl) ?_
     refine wl_v rfl rfl (ov_loadb 0 _ h rfl rfl sh3 rfl) ?_
     obtain ⟨ad23, rfl⟩ := Sx.C_some ((Sx.row_reads h (i := 1) rfl).2) (k := ((((rs).getD k z34)).f0 : Int).toNat) (by first | assumption | omega)
     refine wl_v rfl rfl (ov_indexAddrN _ _ _ _ _ ((((rs).getD k z34)).f0 : Int).toNat rfl rfl es22 (by omega) (by first | assumption | omega | (simp only [List.length_take, List.length_drop, List.length_set]; omega))) ?_
     refine wl_v rfl rfl (ov_fieldAddr _ ((ad23).add (((((rs).getD k z34)).f0 : Int).toNat * 1 + 0)) _ rfl fo31_0 (by first | exact Deep.add_add _ _ _ | (rw [Deep.add_add]) | rfl)) ?_
     obtain ⟨cl26, _, hk25, hc24⟩ := Sx.C_cells ((Sx.row_reads h (i := 1) rfl).2) (z := Lib.zP) (k := ((((rs).getD k z34)).f0 : Int).toNat) (by first | assumption | omega)
     obtain rfl := Lib.kP_open hk25
     refine wl_v rfl rfl (ov_load1 _ _ rfl sh29 ((hc24 0 _ rfl))) ?_
     refine wl_v rfl rfl (ov_assign _ rfl) ?_
     refine wl_nil ?_
     refine qn_then ?_
     refine wc_seq ?_
     replace h := st_front 2 h
     obtain ⟨Rs27, hR28, h⟩ := Lib.lib_lines (A := ((Ps).getD ((((rs).getD k z34)).f0 : Int).toNat Lib.zP).2.A) (n := ((Ps).getD ((((rs).getD k z34)).f0 : Int).toNat Lib.zP).1.f0.length) (X := ((Ps).getD ((((rs).getD k z34)).f0 : Int).toNat Lib.zP).1.f0) h (fun w_ hw_ => (hw_ _ (by rw [List.getD_eq_getElem?_getD, List.getElem?_eq_getElem (by omega)]; exact List.getElem_mem _)).2.2)
     replace h : Sx.St w0 F0 ([Lib.lib (fun w_ => Lib.AllP Ps w_ ∧ Lib.kL.C w_ ((Ps).getD ((((rs).getD k z34)).f0 : Int).toNat Lib.zP).2.A ((Ps).getD ((((rs).getD k z34)).f0 : Int).toNat Lib.zP).1.f0.length Rs27 ∧ Lib.AllL Rs27 w_), Sx.blk b14 [.int .i64 ((((rs).getD k z34)).f0), .int .i64 ((((rs).getD k z34)).f1), .int .i64 ((((rs).getD k z34)).f2), .int .i64 ((((rs).getD k z34)).f3), .slice (A10) (((((rs).getD k z34)).f4).length) (cp11)] 34, Sx.row Lib.kP 31 (some ad23) (c) (Ps)] ++ R) _ := h
     have hnl_ : Rs27.length = ((Ps).getD ((((rs).getD k z34)).f0 : Int).toNat Lib.zP).1.f0.length := by rw [← hR28, List.length_map]
     have hq_ : ((Ps).getD ((((rs).getD k z34)).f0 : Int).toNat Lib.zP).1 = x.getD ((rs).getD k z34).f0.toNat z31 := by rw [← Lib.getD_map, hout_]; exact hsm_ _ (by omega) (by omega)
     have hfl_ : Rs27.length = (Pure.pgs x ((rs).getD k z34).f0).length := by rw [hnl_, hq_]; rfl
     have hgp_ : Lib.GP _ ((Ps).getD ((((rs).getD k z34)).f0 : Int).toNat Lib.zP) := (Lib.lib_now h (i := 0) rfl).1 _ (by rw [List.getD_eq_getElem?_getD, List.getElem?_eq_getElem (by omega)]; exact List.getElem_mem _)
     have hn2_ : ((Ps).getD ((((rs).getD k z34)).f0 : Int).toNat Lib.zP).2.n = Rs27.length := hgp_.1.trans hnl_.symm
     have hcw_ : Rs27.length ≤ ((Ps).getD ((((rs).getD k z34)).f0 : Int).toNat Lib.zP).2.c := by rw [hnl_]; exact hgp_.2.1
     generalize hnw_ : ((Ps).getD ((((rs).getD k z34)).f0 : Int).toNat Lib.zP).2.n = nw_ at hn2_ ⊢
     subst hn2_
     refine wc_region ?_
     refine wl_lit (d := Lib.kL) [] _ [] ([]) h rfl rfl rfl rfl Try.underlying29 infb39 rfl (by decide) (by kernel_rfl) rfl (fun _ _ _ => (Reps.none _ _)) (fun A29 cp30 _ h => ?_)
     refine wl_v rfl rfl (ov_move _ rfl) ?_
     refine wl_v rfl rfl (ov_fieldAddr _ ⟨b14, 2, none⟩ _ rfl fo34_2 rfl) ?_
     refine wl_v rfl rfl (ov_loadb 2 _ h rfl rfl sh3 rfl) ?_
     have hcap31 := ((by exact hcw_) : (Rs27).length ≤ ((Ps).getD ((((rs).getD k z34)).f0 : Int).toNat Lib.zP).2.c)
     obtain ⟨A32, hA33⟩ : ∃ A_, (if (((Ps).getD ((((rs).getD k z34)).f0 : Int).toNat Lib.zP).2.c) = 0 then (((Ps).getD ((((rs).getD k z34)).f0 : Int).toNat Lib.zP).2.A) else Option.map (·.add (0 * 9)) (((Ps).getD ((((rs).getD k z34)).f0 : Int).toNat Lib.zP).2.A)) = A_ := ⟨_, rfl⟩
     refine wl_v rfl rfl (ov_slice _ _ _ 0 (((((rs).getD k z34)).f2 : Int).toNat) (by rfl) (by exact rfl) (by exact ⟨_, _, rfl, (by omega)⟩) es29 (by omega) (by omega) hA33 (n' := (((Rs27).take (((((rs).getD k z34)).f2 : Int).toNat)).drop 0).length) (by simp only [List.length_drop, List.length_take]; omega)) ?_
     refine wl_append (d := Lib.kL) (L := []) 0 _ 88 _ _ _ (((Rs27).take (((((rs).getD k z34)).f2 : Int).toNat)).drop 0) Lib.flatL h rfl rfl rfl rfl rfl ((Sx.mid_C (lo := 0) (hi := (((((rs).getD k z34)).f2 : Int).toNat)) (by omega) (by omega) hcap31 hA33 ((by have q_ := (Lib.lib_now h (i := 1) rfl).2.1; rwa [← hnl_] at q_)))) Try.underlying29 inf39 rfl (by decide) (by decide) (by first | omega | (simp only [List.length_cons, List.length_nil, List.length_append, List.length_set, List.length_drop, List.length_take]; omega)) (by first | rfl | simp) (fun A34 cp35 _ h => ?_)
     refine wl_v rfl rfl (ov_assign _ rfl) ?_
     refine wl_nil ?_
     refine qn_then ?_
     refine wc_seq ?_
     refine wc_region ?_
     refine wl_v rfl rfl (ov_move _ rfl) ?_
     refine wl_v rfl rfl (ov_fieldAddr _ ⟨b14, 4, none⟩ _ rfl fo34_4 rfl) ?_
     refine wl_v rfl rfl (ov_loadb 2 _ h rfl rfl sh29 rfl) ?_
     refine wl_call _ rfl rfl rfl ent22 (diff_copied.calls 50 _ _ ((((rs).getD k z34)).f4) _ _ ((Sx.ro_C hv h hn13)) hl12 (Pure.copied_val _ hshr 50 (by omega))) ?_
     rintro e_ w_ ⟨v_, rfl, hR_, hB_⟩
     refine ⟨_, rfl, ?_⟩
     obtain ⟨A36, cp37, Rs38, rfl, hR39, h⟩ := Lib.st_split (g := Prod.fst) Lib.flatL rfl Lib.el_L h hB_ (Kd.S_R hR_)
     replace h : Sx.St w0 F0 ([Sx.row Lib.kL 39 (A36) (cp37) (Rs38), Lib.lib (Lib.AllL Rs38), Sx.row Lib.kL 39 (A34) (cp35) (([]) ++ (((Rs27).take (((((rs).getD k z34)).f2 : Int).toNat)).drop 0)), Lib.lib (fun w_ => Lib.AllP Ps w_ ∧ Lib.kL.C w_ ((Ps).getD ((((rs).getD k z34)).f0 : Int).toNat Lib.zP).2.A ((Ps).getD ((((rs).getD k z34)).f0 : Int).toNat Lib.zP).1.f0.length Rs27 ∧ Lib.AllL Rs27 w_), Sx.blk b14 [.int .i64 ((((rs).getD k z34)).f0), .int .i64 ((((rs).getD k z34)).f1), .int .i64 ((((rs).getD k z34)).f2), .int .i64 ((((rs).getD k z34)).f3), .slice (A10) (((((rs).getD k z34)).f4).length) (cp11)] 34, Sx.row Lib.kP 31 (some ad23) (c) (Ps)] ++ R) _ := h
     have hl2_ : Rs38.length = ((((rs).getD k z34)).f4).length := by rw [← hR39, List.length_map]
     have hl3_ := hshr.1
     refine wl_append (d := Lib.kL) (L := ([]) ++ (((Rs27).take (((((rs).getD k z34)).f2 : Int).toNat)).drop 0)) 2 _ 88 _ _ _ (Rs38) Lib.flatL h rfl rfl rfl rfl rfl ((Sx.row_reads h (i := 0) rfl).2) Try.underlying29 inf39 rfl (by decide) (by decide) (by first | omega | (simp only [List.length_cons, List.length_nil, List.length_append, List.length_set, List.length_drop, List.length_take]; omega)) (by first | rfl | simp) (fun A40 cp41 _ h => ?_)
     refine wl_v rfl rfl (ov_assign _ rfl) ?_
     refine wl_nil ?_
     refine qn_then ?_
     refine wc_draw (fun w => Sx.St w0 F0 ([Sx.row Lib.kL 39 (A36) (cp37) (Rs38), Lib.lib (Lib.AllL Rs38), Lib.lib (fun w_ => Lib.AllP Ps w_ ∧ Lib.kL.C w_ ((Ps).getD ((((rs).getD k z34)).f0 : Int).toNat Lib.zP).2.A ((Ps).getD ((((rs).getD k z34)).f0 : Int).toNat Lib.zP).1.f0.length Rs27 ∧ Lib.AllL Rs27 w_), Sx.blk b14 [.int .i64 ((((rs).getD k z34)).f0), .int .i64 ((((rs).getD k z34)).f1), .int .i64 ((((rs).getD k z34)).f2), .int .i64 ((((rs).getD k z34)).f3), .slice (A10) (((((rs).getD k z34)).f4).length) (cp11)] 34] ++ R) w) (by kernel_rfl) ?_
     replace h := st_drew h
     refine wa_tk 0 rfl rfl rfl (st_selT [true, true, false, true, true, false] h) (fun w_ hS => ov_move _ rfl) ?_
     refine wa_tk 1 rfl rfl rfl (st_selT [true, true, false, true, true, false] h) (fun w_ hS => ov_fieldAddr _ ⟨b14, 0, none⟩ _ rfl fo34_0 rfl) ?_
     refine wa_tk 2 rfl rfl rfl (st_selT [true, true, false, true, true, false] h) (fun w_ hS => ov_loadb 3 _ hS rfl rfl sh3 rfl) ?_
     refine wa_tk 3 rfl rfl rfl (st_selT [true, true, false, true, true, false] h) (fun w_ hS => ov_move _ rfl) ?_
     refine wa_tk 4 rfl rfl rfl (st_selT [true, true, false, true, true, false] h) (fun w_ hS => ov_move _ rfl) ?_
     refine wa_tk 5 rfl rfl rfl (st_selT [true, true, false, true, true, false] h) (fun w_ hS => ov_fieldAddr _ ⟨b14, 2, none⟩ _ rfl fo34_2 rfl) ?_
     refine wa_tk 6 rfl rfl rfl (st_selT [true, true, false, true, true, false] h) (fun w_ hS => ov_loadb 3 _ hS rfl rfl sh3 rfl) ?_
     refine wa_tk 7 rfl rfl rfl (st_selT [true, true, false, true, true, false] h) (fun w_ hS => ov_fieldAddr _ ⟨b14, 3, none⟩ _ rfl fo34_3 rfl) ?_
     refine wa_tk 8 rfl rfl rfl (st_selT [true, true, false, true, true, false] h) (fun w_ hS => ov_loadb 3 _ hS rfl rfl sh3 rfl) ?_
     refine wa_tk 9 rfl rfl rfl (st_selT [true, true, false, true, true, false] h) (fun w_ hS => ov_bin _ rfl rfl (binR_add (r := ((((rs).getD k z34)).f2) + ((((rs).getD k z34)).f3)) (Sx.w64 (by omega)))) ?_
     have hcap42 := ((by exact hcw_) : (Rs27).length ≤ ((Ps).getD ((((rs).getD k z34)).f0 : Int).toNat Lib.zP).2.c)
     obtain ⟨A43, hA44⟩ : ∃ A_, (if (((Ps).getD ((((rs).getD k z34)).f0 : Int).toNat Lib.zP).2.c) = ((((((rs).getD k z34)).f2) + ((((rs).getD k z34)).f3) : Int).toNat) then (((Ps).getD ((((rs).getD k z34)).f0 : Int).toNat Lib.zP).2.A) else Option.map (·.add (((((((rs).getD k z34)).f2) + ((((rs).getD k z34)).f3) : Int).toNat) * 9)) (((Ps).getD ((((rs).getD k z34)).f0 : Int).toNat Lib.zP).2.A)) = A_ := ⟨_, rfl⟩
     refine wa_tk 10 rfl rfl rfl (st_selT [true, true, false, true, true, false] h) (fun w_ hS => by exact ov_slice _ _ _ ((((((rs).getD k z34)).f2) + ((((rs).getD k z34)).f3) : Int).toNat) Rs27.length (by rfl) (by exact ⟨_, _, rfl, (by omega)⟩) (by exact rfl) es29 (by omega) (by omega) hA44 (n' := (((Rs27).take Rs27.length).drop ((((((rs).getD k z34)).f2) + ((((rs).getD k z34)).f3) : Int).toNat)).length) (by simp only [List.length_drop, List.length_take]; omega)) ?_
     refine wa_one 11 rfl (by kernel_rfl) ?_
     refine wl_append (d := Lib.kL) (L := (([]) ++ (((Rs27).take (((((rs).getD k z34)).f2 : Int).toNat)).drop 0)) ++ Rs38) 2 _ 88 _ _ _ (((Rs27).take Rs27.length).drop ((((((rs).getD k z34)).f2) + ((((rs).getD k z34)).f3) : Int).toNat)) Lib.flatL h rfl rfl rfl rfl rfl ((Sx.mid_C (lo := ((((((rs).getD k z34)).f2) + ((((rs).getD k z34)).f3) : Int).toNat)) (hi := Rs27.length) (by omega) (by omega) hcap42 hA44 ((by have q_ := (Lib.lib_now h (i := 3) rfl).2.1; rwa [← hnl_] at q_)))) Try.underlying29 inf39 rfl (by decide) (by decide) (by first | omega | (simp only [List.length_cons, List.length_nil, List.length_append, List.length_set, List.length_drop, List.length_take]; omega)) (by first | rfl | simp) (fun A45 cp46 _ h => ?_)
     refine wl_nil ?_
     refine qn_wa (st_selT [true, true, false, true, true, false] h) ?_
     refine wa_tk 12 rfl rfl rfl (st_selT [true, true, false, true, true, false] h) (fun w_ hS => ov_indexAddrN _ _ _ _ _ ((((rs).getD k z34)).f0 : Int).toNat rfl rfl es22 (by omega) (by first | assumption | omega | (simp only [List.length_take, List.length_drop, List.length_set]; omega))) ?_
     refine wa_tk 13 rfl rfl rfl (st_selT [true, true, false, true, true, false] h) (fun w_ hS => ov_fieldAddr _ ((ad23).add (((((rs).getD k z34)).f0 : Int).toNat * 1 + 0)) _ rfl fo31_0 (by first | exact Deep.add_add _ _ _ | (rw [Deep.add_add]) | rfl)) ?_
     refine wa_one 14 rfl (by kernel_rfl) ?_
     refine wl_storeeN 5 ((((rs).getD k z34)).f0 : Int).toNat 0 (.slice (A45) ((((([]) ++ (((Rs27).take (((((rs).getD k z34)).f2 : Int).toNat)).drop 0)) ++ Rs38) ++ (((Rs27).take Rs27.length).drop ((((((rs).getD k z34)).f2) + ((((rs).getD k z34)).f3) : Int).toNat))).length) (cp46)) [.slice (A45) ((((([]) ++ (((Rs27).take (((((rs).getD k z34)).f2 : Int).toNat)).drop 0)) ++ Rs38) ++ (((Rs27).take Rs27.length).drop ((((((rs).getD k z34)).f2) + ((((rs).getD k z34)).f3) : Int).toNat))).length) (cp46)] Lib.zP (((⟨(((([]) ++ (((Rs27).take (((((rs).getD k z34)).f2 : Int).toNat)).drop 0)) ++ Rs38) ++ (((Rs27).take Rs27.length).drop ((((((rs).getD k z34)).f2) + ((((rs).getD k z34)).f3) : Int).toNat)) : List Lib.LN).map (·.1)⟩ : S31), (⟨A45, (((([]) ++ (((Rs27).take (((((rs).getD k z34)).f2 : Int).toNat)).drop 0)) ++ Rs38) ++ (((Rs27).take Rs27.length).drop ((((((rs).getD k z34)).f2) + ((((rs).getD k z34)).f3) : Int).toNat))).length, cp46⟩ : Lib.Hd))) h rfl rfl rfl (by first | rfl | simp) rfl rfl (by simp [Value.oneCell']) szf29 (by first | assumption | omega) (Nat.le_of_ble_eq_true rfl) (by intro cl hcl hM; obtain ⟨_, _, _, hM⟩ := hM; obtain rfl := Lib.kP_openM hM; intro _ _ _; exact Lib.kP_mkM _ _ _ (((⟨(((([]) ++ (((Rs27).take (((((rs).getD k z34)).f2 : Int).toNat)).drop 0)) ++ Rs38) ++ (((Rs27).take Rs27.length).drop ((((((rs).getD k z34)).f2) + ((((rs).getD k z34)).f3) : Int).toNat)) : List Lib.LN).map (·.1)⟩ : S31), (⟨A45, (((([]) ++ (((Rs27).take (((((rs).getD k z34)).f2 : Int).toNat)).drop 0)) ++ Rs38) ++ (((Rs27).take Rs27.length).drop ((((((rs).getD k z34)).f2) + ((((rs).getD k z34)).f3) : Int).toNat))).length, cp46⟩ : Lib.Hd)))) (fun _ h => ?_)
     refine wl_nil ?_
     refine qn_wa (st_selT [true, true, false, true, true, false] h) ?_
     refine wa_done (by kernel_rfl) ?_
     refine qn_block_normal ?_
     refine qn_block_normal ?_
     refine qn_then ?_
     refine wc_region ?_
     refine wl_v rfl rfl (ov_bin _ rfl rfl (binR_add (r := ((k : Int)) + 1) (Sx.w64 (by omega)))) ?_
     refine wl_v rfl rfl (ov_move _ rfl) ?_
     refine wl_nil ?_
     replace h := st_front 1 h
     replace h := st_front 3 h
     replace h := st_front 3 h
     replace h := Lib.close_changed (p := ((rs).getD k z34).f0.toNat) h (fun w_ hw_ => hw_.1) (fun w_ h1_ h2_ r_ hr_ => by
       rcases List.mem_append.1 hr_ with hr_ | hr_
       · rcases List.mem_append.1 hr_ with hr_ | hr_
         · exact h1_.2.2 _ (List.mem_of_mem_take (List.mem_of_mem_drop ((List.mem_append.1 hr_).resolve_left (by simp))))
         · exact h2_ _ hr_
       · exact h1_.2.2 _ (List.mem_of_mem_take (List.mem_of_mem_drop hr_)))
     replace h : Sx.St w0 F0 ([Lib.lib (Lib.AllP ((Ps).set ((((rs).getD k z34)).f0 : Int).toNat (((⟨(((([]) ++ (((Rs27).take (((((rs).getD k z34)).f2 : Int).toNat)).drop 0)) ++ Rs38) ++ (((Rs27).take Rs27.length).drop ((((((rs).getD k z34)).f2) + ((((rs).getD k z34)).f3) : Int).toNat)) : List Lib.LN).map (·.1)⟩ : S31), (⟨A45, (((([]) ++ (((Rs27).take (((((rs).getD k z34)).f2 : Int).toNat)).drop 0)) ++ Rs38) ++ (((Rs27).take Rs27.length).drop ((((((rs).getD k z34)).f2) + ((((rs).getD k z34)).f3) : Int).toNat))).length, cp46⟩ : Lib.Hd))))), Sx.row Lib.kL 39 (A36) (cp37) (Rs38), Sx.blk b14 [.int .i64 ((((rs).getD k z34)).f0), .int .i64 ((((rs).getD k z34)).f1), .int .i64 ((((rs).getD k z34)).f2), .int .i64 ((((rs).getD k z34)).f3), .slice (A10) (((((rs).getD k z34)).f4).length) (cp11)] 34, Sx.row Lib.kP 31 (some ad23) (c) ((Ps).set ((((rs).getD k z34)).f0 : Int).toNat (((⟨(((([]) ++ (((Rs27).take (((((rs).getD k z34)).f2 : Int).toNat)).drop 0)) ++ Rs38) ++ (((Rs27).take Rs27.length).drop ((((((rs).getD k z34)).f2) + ((((rs).getD k z34)).f3) : Int).toNat)) : List Lib.LN).map (·.1)⟩ : S31), (⟨A45, (((([]) ++ (((Rs27).take (((((rs).getD k z34)).f2 : Int).toNat)).drop 0)) ++ Rs38) ++ (((Rs27).take Rs27.length).drop ((((((rs).getD k z34)).f2) + ((((rs).getD k z34)).f3) : Int).toNat))).length, cp46⟩ : Lib.Hd))))] ++ R) _ := h
     have hst_ := Lib.nx_changed (B := A45) (c := cp46) hout_ hfit_ (by rintro ⟨z_, _⟩; rw [hg_] at z_; cases z_) (by omega) (Lib.changed_map (r := (rs).getD k z34) hR28 hR39)
     replace h := st_front 3 h
     replace h := st_selT [true, true, false, false] h
     refine qn_next ((k + 1), some ad23, c, ((Ps).set ((((rs).getD k z34)).f0 : Int).toNat (((⟨(((([]) ++ (((Rs27).take (((((rs).getD k z34)).f2 : Int).toNat)).drop 0)) ++ Rs38) ++ (((Rs27).take Rs27.length).drop ((((((rs).getD k z34)).f2) + ((((rs).getD k z34)).f3) : Int).toNat)) : List Lib.LN).map (·.1)⟩ : S31), (⟨A45, (((([]) ++ (((Rs27).take (((((rs).getD k z34)).f2 : Int).toNat)).drop 0)) ++ Rs38) ++ (((Rs27).take Rs27.length).drop ((((((rs).getD k z34)).f2) + ((((rs).getD k z34)).f3) : Int).toNat))).length, cp46⟩ : Lib.Hd)))), Ps.length, (⟨((Ps).set ((((rs).getD k z34)).f0 : Int).toNat (((⟨(((([]) ++ (((Rs27).take (((((rs).getD k z34)).f2 : Int).toNat)).drop 0)) ++ Rs38) ++ (((Rs27).take Rs27.length).drop ((((((rs).getD k z34)).f2) + ((((rs).getD k z34)).f3) : Int).toNat)) : List Lib.LN).map (·.1)⟩ : S31), (⟨A45, (((([]) ++ (((Rs27).take (((((rs).getD k z34)).f2 : Int).toNat)).drop 0)) ++ Rs38) ++ (((Rs27).take Rs27.length).drop ((((((rs).getD k z34)).f2) + ((((rs).getD k z34)).f3) : Int).toNat))).length, cp46⟩ : Lib.Hd)))).map (·.1), ((rs).getD k z34).f0, σ.gone⟩ : Pure.PSt)) (by show rs.length - (k + 1) < rs.length - k; omega) ⟨rfl, (congrArg (fun z_ => some (Value.slice (some ad6) z_ (crs))) (show (rs.length : Nat) = rs.length by first | rfl | simp)), rfl, (congrArg (fun z_ => some (Value.int .i64 z_)) (show ((((rs).getD k z34)).f0 : Int) = ((⟨((Ps).set ((((rs).getD k z34)).f0 : Int).toNat (((⟨(((([]) ++ (((Rs27).take (((((rs).getD k z34)).f2 : Int).toNat)).drop 0)) ++ Rs38) ++ (((Rs27).take Rs27.length).drop ((((((rs).getD k z34)).f2) + ((((rs).getD k z34)).f3) : Int).toNat)) : List Lib.LN).map (·.1)⟩ : S31), (⟨A45, (((([]) ++ (((Rs27).take (((((rs).getD k z34)).f2 : Int).toNat)).drop 0)) ++ Rs38) ++ (((Rs27).take Rs27.length).drop ((((((rs).getD k z34)).f2) + ((((rs).getD k z34)).f3) : Int).toNat))).length, cp46⟩ : Lib.Hd)))).map (·.1), ((rs).getD k z34).f0, σ.gone⟩ : Pure.PSt)).last by rfl)), (congrArg (fun z_ => some (Value.bool z_)) (show ((σ).gone) = (((⟨((Ps).set ((((rs).getD k z34)).f0 : Int).toNat (((⟨(((([]) ++ (((Rs27).take (((((rs).getD k z34)).f2 : Int).toNat)).drop 0)) ++ Rs38) ++ (((Rs27).take Rs27.length).drop ((((((rs).getD k z34)).f2) + ((((rs).getD k z34)).f3) : Int).toNat)) : List Lib.LN).map (·.1)⟩ : S31), (⟨A45, (((([]) ++ (((Rs27).take (((((rs).getD k z34)).f2 : Int).toNat)).drop 0)) ++ Rs38) ++ (((Rs27).take Rs27.length).drop ((((((rs).getD k z34)).f2) + ((((rs).getD k z34)).f3) : Int).toNat))).length, cp46⟩ : Lib.Hd)))).map (·.1), ((rs).getD k z34).f0, σ.gone⟩ : Pure.PSt)).gone) by first | rfl | exact hg_)), (congrArg (fun z_ => some (Value.slice (some ad6) z_ (crs))) (show (rs.length : Nat) = rs.length by first | rfl | simp)), rfl, (congrArg (fun z_ => some (Value.int .i64 z_)) (show (((k : Int)) + 1 : Int) = ((k + 1) : Int) by omega)), trivial⟩ ?_
     show (Pure.pfold x rs (k + 1) = some (⟨((Ps).set ((((rs).getD k z34)).f0 : Int).toNat (((⟨(((([]) ++ (((Rs27).take (((((rs).getD k z34)).f2 : Int).toNat)).drop 0)) ++ Rs38) ++ (((Rs27).take Rs27.length).drop ((((((rs).getD k z34)).f2) + ((((rs).getD k z34)).f3) : Int).toNat)) : List Lib.LN).map (·.1)⟩ : S31), (⟨A45, (((([]) ++ (((Rs27).take (((((rs).getD k z34)).f2 : Int).toNat)).drop 0)) ++ Rs38) ++ (((Rs27).take Rs27.length).drop ((((((rs).getD k z34)).f2) + ((((rs).getD k z34)).f3) : Int).toNat))).length, cp46⟩ : Lib.Hd)))).map (·.1), ((rs).getD k z34).f0, σ.gone⟩ : Pure.PSt) ∧ (k + 1) ≤ rs.length ∧ (((Ps).set ((((rs).getD k z34)).f0 : Int).toNat (((⟨(((([]) ++ (((Rs27).take (((((rs).getD k z34)).f2 : Int).toNat)).drop 0)) ++ Rs38) ++ (((Rs27).take Rs27.length).drop ((((((rs).getD k z34)).f2) + ((((rs).getD k z34)).f3) : Int).toNat)) : List Lib.LN).map (·.1)⟩ : S31), (⟨A45, (((([]) ++ (((Rs27).take (((((rs).getD k z34)).f2 : Int).toNat)).drop 0)) ++ Rs38) ++ (((Rs27).take Rs27.length).drop ((((((rs).getD k z34)).f2) + ((((rs).getD k z34)).f3) : Int).toNat))).length, cp46⟩ : Lib.Hd)))).take Ps.length).map (·.1) = (⟨((Ps).set ((((rs).getD k z34)).f0 : Int).toNat (((⟨(((([]) ++ (((Rs27).take (((((rs).getD k z34)).f2 : Int).toNat)).drop 0)) ++ Rs38) ++ (((Rs27).take Rs27.length).drop ((((((rs).getD k z34)).f2) + ((((rs).getD k z34)).f3) : Int).toNat)) : List Lib.LN).map (·.1)⟩ : S31), (⟨A45, (((([]) ++ (((Rs27).take (((((rs).getD k z34)).f2 : Int).toNat)).drop 0)) ++ Rs38) ++ (((Rs27).take Rs27.length).drop ((((((rs).getD k z34)).f2) + ((((rs).getD k z34)).f3) : Int).toNat))).length, cp46⟩ : Lib.Hd)))).map (·.1), ((rs).getD k z34).f0, σ.gone⟩ : Pure.PSt).out ∧ Ps.length ≤ ((Ps).set ((((rs).getD k z34)).f0 : Int).toNat (((⟨(((([]) ++ (((Rs27).take (((((rs).getD k z34)).f2 : Int).toNat)).drop 0)) ++ Rs38) ++ (((Rs27).take Rs27.length).drop ((((((rs).getD k z34)).f2) + ((((rs).getD k z34)).f3) : Int).toNat)) : List Lib.LN).map (·.1)⟩ : S31), (⟨A45, (((([]) ++ (((Rs27).take (((((rs).getD k z34)).f2 : Int).toNat)).drop 0)) ++ Rs38) ++ (((Rs27).take Rs27.length).drop ((((((rs).getD k z34)).f2) + ((((rs).getD k z34)).f3) : Int).toNat))).length, cp46⟩ : Lib.Hd)))).length ∧ ((⟨((Ps).set ((((rs).getD k z34)).f0 : Int).toNat (((⟨(((([]) ++ (((Rs27).take (((((rs).getD k z34)).f2 : Int).toNat)).drop 0)) ++ Rs38) ++ (((Rs27).take Rs27.length).drop ((((((rs).getD k z34)).f2) + ((((rs).getD k z34)).f3) : Int).toNat)) : List Lib.LN).map (·.1)⟩ : S31), (⟨A45, (((([]) ++ (((Rs27).take (((((rs).getD k z34)).f2 : Int).toNat)).drop 0)) ++ Rs38) ++ (((Rs27).take Rs27.length).drop ((((((rs).getD k z34)).f2) + ((((rs).getD k z34)).f3) : Int).toNat))).length, cp46⟩ : Lib.Hd)))).map (·.1), ((rs).getD k z34).f0, σ.gone⟩ : Pure.PSt).gone = false → Ps.length = ((Ps).set ((((rs).getD k z34)).f0 : Int).toNat (((⟨(((([]) ++ (((Rs27).take (((((rs).getD k z34)).f2 : Int).toNat)).drop 0)) ++ Rs38) ++ (((Rs27).take Rs27.length).drop ((((((rs).getD k z34)).f2) + ((((rs).getD k z34)).f3) : Int).toNat)) : List Lib.LN).map (·.1)⟩ : S31), (⟨A45, (((([]) ++ (((Rs27).take (((((rs).getD k z34)).f2 : Int).toNat)).drop 0)) ++ Rs38) ++ (((Rs27).take Rs27.length).drop ((((((rs).getD k z34)).f2) + ((((rs).getD k z34)).f3) : Int).toNat))).length, cp46⟩ : Lib.Hd)))).length) ∧ Pure.PInv x (k + 1) (⟨((Ps).set ((((rs).getD k z34)).f0 : Int).toNat (((⟨(((([]) ++ (((Rs27).take (((((rs).getD k z34)).f2 : Int).toNat)).drop 0)) ++ Rs38) ++ (((Rs27).take Rs27.length).drop ((((((rs).getD k z34)).f2) + ((((rs).getD k z34)).f3) : Int).toNat)) : List Lib.LN).map (·.1)⟩ : S31), (⟨A45, (((([]) ++ (((Rs27).take (((((rs).getD k z34)).f2 : Int).toNat)).drop 0)) ++ Rs38) ++ (((Rs27).take Rs27.length).drop ((((((rs).getD k z34)).f2) + ((((rs).getD k z34)).f3) : Int).toNat))).length, cp46⟩ : Lib.Hd)))).map (·.1), ((rs).getD k z34).f0, σ.gone⟩ : Pure.PSt)) ∧ _
     exact ⟨⟨by rw [Pure.pfold, hJ.1]; exact hst_, by omega, by rw [List.take_of_length_le (by rw [List.length_set]; exact Nat.le_refl _)], by rw [List.length_set]; exact Nat.le_refl _, fun _ => by rw [List.length_set], Pure.pinv_step hJ.2.2.2.2.2 hst_⟩, h⟩
    ·
     refine wc_seq ?_
     refine wc_region ?_
     refine wl_v rfl rfl (ov_bin _ rfl rfl (binR_eql)) ?_
     refine wl_v rfl rfl (ov_assign _ rfl) ?_
     refine wl_nil ?_
     refine qn_then ?_
     refine wc_cond (by rfl) (fun c47 => ?_) (fun c47 => ?_)
     ·
      obtain rfl : n = Ps.length := hJ.2.2.2.2.1 hg_
      have hout_ : Ps.map (·.1) = σ.out := by rw [← hJ.2.2.1, List.take_length]
      have hi3_ := hi2_ hg_
      have hsm_ := hJ.2.2.2.2.2.same hg_
      have hq1_ := hff_.2.2.1 (by omega)
      refine wc_region ?_
      refine wl_v rfl rfl (ov_move _ rfl) ?_
      refine wl_v rfl rfl (ov_fieldAddr _ ⟨b14, 4, none⟩ _ rfl fo34_4 rfl) ?_
      refine wl_v rfl rfl (ov_loadb 0 _ h rfl rfl sh29 rfl) ?_
      refine wl_call _ rfl rfl rfl ent22 (diff_copied.calls 50 _ _ ((((rs).getD k z34)).f4) _ _ ((Sx.ro_C hv h hn13)) hl12 (Pure.copied_val _ hshr 50 (by omega))) ?_
      rintro e_ w_ ⟨v_, rfl, hR_, hB_⟩
      refine ⟨_, rfl, ?_⟩
      obtain ⟨A48, cp49, Rs50, rfl, hR51, h⟩ := Lib.st_split (g := Prod.fst) Lib.flatL rfl Lib.el_L h hB_ (Kd.S_R hR_)
      replace h : Sx.St w0 F0 ([Sx.row Lib.kL 39 (A48) (cp49) (Rs50), Lib.lib (Lib.AllL Rs50), Sx.blk b14 [.int .i64 ((((rs).getD k z34)).f0), .int .i64 ((((rs).getD k z34)).f1), .int .i64 ((((rs).getD k z34)).f2), .int .i64 ((((rs).getD k z34)).f3), .slice (A10) (((((rs).getD k z34)).f4).length) (cp11)] 34, Sx.row Lib.kP 31 (A) (c) (Ps), Lib.lib (Lib.AllP Ps)] ++ R) _ := h
      have hl2_ : Rs50.length = ((((rs).getD k z34)).f4).length := by rw [← hR51, List.length_map]
      have hl3_ := hshr.1
      refine wl_v rfl rfl (ov_build [(0, .slice (A48) (Rs50.length) (cp49))] [.slice (A48) (Rs50.length) (cp49)] rfl rfl (by kernel_rfl)) ?_
      refine wl_lit (d := Lib.kP) [(0, .agg #[.slice (A48) (Rs50.length) (cp49)])] _ [.slice (A48) (Rs50.length) (cp49)] ([((⟨(Rs50 : List Lib.LN).map (·.1)⟩ : S31), (⟨A48, Rs50.length, cp49⟩ : Lib.Hd))]) h rfl rfl rfl rfl Try.underlying22 infb31 rfl (by decide) (by kernel_rfl) rfl (fun _ _ _ => ((Reps.none _ _).snoc (Lib.kP_mkM _ _ _ (((⟨(Rs50 : List Lib.LN).map (·.1)⟩ : S31), (⟨A48, Rs50.length, cp49⟩ : Lib.Hd)))) rfl)) (fun A52 cp53 _ h => ?_)
      refine wl_append (d := Lib.kP) (L := Ps) 4 _ 24 _ _ _ ([((⟨(Rs50 : List Lib.LN).map (·.1)⟩ : S31), (⟨A48, Rs50.length, cp49⟩ : Lib.Hd))]) Lib.flatP h rfl rfl rfl rfl rfl ((Sx.row_reads h (i := 0) rfl).2) Try.underlying22 inf31 rfl (by decide) (by decide) (by first | omega | (simp only [List.length_cons, List.length_nil, List.length_append, List.length_set, List.length_drop, List.length_take]; omega)) (by first | rfl | simp) (fun A54 cp55 _ h => ?_)
      replace h := st_selT [false, true, true, true, true, true] h
      refine wl_v rfl rfl (ov_assign _ rfl) ?_
      refine wl_nil ?_
      refine qn_block_normal ?_
      refine qn_block_normal ?_
      refine qn_then ?_
      refine wc_region ?_
      refine wl_v rfl rfl (ov_bin _ rfl rfl (binR_add (r := ((k : Int)) + 1) (Sx.w64 (by omega)))) ?_
      refine wl_v rfl rfl (ov_move _ rfl) ?_
      refine wl_nil ?_
      replace h := st_front 1 h
      replace h := st_front 4 h
      replace h := st_front 2 h
      replace h := Lib.close_added h (fun w_ hw_ => hw_) (fun w_ h2_ => h2_)
      replace h : Sx.St w0 F0 ([Lib.lib (Lib.AllP (Ps ++ ([((⟨(Rs50 : List Lib.LN).map (·.1)⟩ : S31), (⟨A48, Rs50.length, cp49⟩ : Lib.Hd))]))), Sx.blk b14 [.int .i64 ((((rs).getD k z34)).f0), .int .i64 ((((rs).getD k z34)).f1), .int .i64 ((((rs).getD k z34)).f2), .int .i64 ((((rs).getD k z34)).f3), .slice (A10) (((((rs).getD k z34)).f4).length) (cp11)] 34, Sx.row Lib.kP 31 (A54) (cp55) (Ps ++ ([((⟨(Rs50 : List Lib.LN).map (·.1)⟩ : S31), (⟨A48, Rs50.length, cp49⟩ : Lib.Hd))]))] ++ R) _ := h
      have hst_ := Lib.nx_added (B := A48) (c := cp49) hout_ hfit_ (by rintro ⟨z_, _⟩; rw [hg_] at z_; cases z_) (by omega) hR51
      replace h := st_front 2 h
      replace h := st_selT [true, true, false] h
      refine qn_next ((k + 1), A54, cp55, (Ps ++ ([((⟨(Rs50 : List Lib.LN).map (·.1)⟩ : S31), (⟨A48, Rs50.length, cp49⟩ : Lib.Hd))])), (Ps ++ ([((⟨(Rs50 : List Lib.LN).map (·.1)⟩ : S31), (⟨A48, Rs50.length, cp49⟩ : Lib.Hd))])).length, (⟨(Ps ++ ([((⟨(Rs50 : List Lib.LN).map (·.1)⟩ : S31), (⟨A48, Rs50.length, cp49⟩ : Lib.Hd))])).map (·.1), ((rs).getD k z34).f0, σ.gone⟩ : Pure.PSt)) (by show rs.length - (k + 1) < rs.length - k; omega) ⟨rfl, (congrArg (fun z_ => some (Value.slice (some ad6) z_ (crs))) (show (rs.length : Nat) = rs.length by first | rfl | simp)), rfl, (congrArg (fun z_ => some (Value.int .i64 z_)) (show ((((rs).getD k z34)).f0 : Int) = ((⟨(Ps ++ ([((⟨(Rs50 : List Lib.LN).map (·.1)⟩ : S31), (⟨A48, Rs50.length, cp49⟩ : Lib.Hd))])).map (·.1), ((rs).getD k z34).f0, σ.gone⟩ : Pure.PSt)).last by rfl)), (congrArg (fun z_ => some (Value.bool z_)) (show ((σ).gone) = (((⟨(Ps ++ ([((⟨(Rs50 : List Lib.LN).map (·.1)⟩ : S31), (⟨A48, Rs50.length, cp49⟩ : Lib.Hd))])).map (·.1), ((rs).getD k z34).f0, σ.gone⟩ : Pure.PSt)).gone) by first | rfl | exact hg_)), (congrArg (fun z_ => some (Value.slice (some ad6) z_ (crs))) (show (rs.length : Nat) = rs.length by first | rfl | simp)), rfl, (congrArg (fun z_ => some (Value.int .i64 z_)) (show (((k : Int)) + 1 : Int) = ((k + 1) : Int) by omega)), trivial⟩ ?_
      show (Pure.pfold x rs (k + 1) = some (⟨(Ps ++ ([((⟨(Rs50 : List Lib.LN).map (·.1)⟩ : S31), (⟨A48, Rs50.length, cp49⟩ : Lib.Hd))])).map (·.1), ((rs).getD k z34).f0, σ.gone⟩ : Pure.PSt) ∧ (k + 1) ≤ rs.length ∧ ((Ps ++ ([((⟨(Rs50 : List Lib.LN).map (·.1)⟩ : S31), (⟨A48, Rs50.length, cp49⟩ : Lib.Hd))])).take (Ps ++ ([((⟨(Rs50 : List Lib.LN).map (·.1)⟩ : S31), (⟨A48, Rs50.length, cp49⟩ : Lib.Hd))])).length).map (·.1) = (⟨(Ps ++ ([((⟨(Rs50 : List Lib.LN).map (·.1)⟩ : S31), (⟨A48, Rs50.length, cp49⟩ : Lib.Hd))])).map (·.1), ((rs).getD k z34).f0, σ.gone⟩ : Pure.PSt).out ∧ (Ps ++ ([((⟨(Rs50 : List Lib.LN).map (·.1)⟩ : S31), (⟨A48, Rs50.length, cp49⟩ : Lib.Hd))])).length ≤ (Ps ++ ([((⟨(Rs50 : List Lib.LN).map (·.1)⟩ : S31), (⟨A48, Rs50.length, cp49⟩ : Lib.Hd))])).length ∧ ((⟨(Ps ++ ([((⟨(Rs50 : List Lib.LN).map (·.1)⟩ : S31), (⟨A48, Rs50.length, cp49⟩ : Lib.Hd))])).map (·.1), ((rs).getD k z34).f0, σ.gone⟩ : Pure.PSt).gone = false → (Ps ++ ([((⟨(Rs50 : List Lib.LN).map (·.1)⟩ : S31), (⟨A48, Rs50.length, cp49⟩ : Lib.Hd))])).length = (Ps ++ ([((⟨(Rs50 : List Lib.LN).map (·.1)⟩ : S31), (⟨A48, Rs50.length, cp49⟩ : Lib.Hd))])).length) ∧ Pure.PInv x (k + 1) (⟨(Ps ++ ([((⟨(Rs50 : List Lib.LN).map (·.1)⟩ : S31), (⟨A48, Rs50.length, cp49⟩ : Lib.Hd))])).map (·.1), ((rs).getD k z34).f0, σ.gone⟩ : Pure.PSt)) ∧ _
      exact ⟨⟨by rw [Pure.pfold, hJ.1]; exact hst_, by omega, by rw [List.take_length], Nat.le_refl _, fun _ => rfl, Pure.pinv_step hJ.2.2.2.2.2 hst_⟩, h⟩
     ·
      refine wc_seq ?_
      refine wc_region ?_
      refine wl_v rfl rfl (ov_bin _ rfl rfl (binR_eql)) ?_
      refine wl_v rfl rfl (ov_assign _ rfl) ?_
      refine wl_nil ?_
      refine qn_then ?_
      refine wc_cond (by rfl) (fun c56 => ?_) (fun c56 => ?_)
      ·
       refine wc_seq ?_
       have hq1_ := hff_.2.2.2.1 (by omega)
       refine wc_region ?_
       refine wl_v rfl rfl (ov_move _ rfl) ?_
       refine wl_v rfl rfl (ov_notb _ rfl) ?_
       refine wl_nil ?_
       refine qn_then ?_
       refine wc_condb (by rfl) (fun c57 => ?_) (fun c57 => ?_)
       ·
        have hi3_ := hi2_ hg_
        refine wc_seq ?_
        refine wc_region ?_
        refine wl_v rfl rfl (ov_move _ rfl) ?_
        refine wl_v rfl rfl (ov_fieldAddr _ ⟨b14, 0, none⟩ _ rfl fo34_0 rfl) ?_
        refine wl_v rfl rfl (ov_loadb 0 _ h rfl rfl sh3 rfl) ?_
        have hcap58 := (Sx.row_reads h (i := 1) rfl).1
        obtain ⟨A59, hA60⟩ : ∃ A_, (if c = 0 then A else Option.map (·.add (0 * 1)) (A)) = A_ := ⟨_, rfl⟩
        refine wl_v rfl rfl (ov_slice _ _ _ 0 (((((rs).getD k z34)).f0 : Int).toNat) (by rfl) (by exact rfl) (by exact ⟨_, _, rfl, (by omega)⟩) es22 (by omega) (by omega) hA60 (n' := ((((Ps).take n).take (((((rs).getD k z34)).f0 : Int).toNat)).drop 0).length) (by simp only [List.length_drop, List.length_take]; omega)) ?_
        refine wl_v rfl rfl (ov_assign _ rfl) ?_
        refine wl_nil ?_
        refine qn_then ?_
        refine wc_region ?_
        refine wl_v rfl rfl (ov_assign _ rfl) ?_
        refine wl_nil ?_
        refine qn_block_normal ?_
        refine qn_block_normal ?_
        refine qn_then ?_
        refine wc_region ?_
        refine wl_v rfl rfl (ov_bin _ rfl rfl (binR_add (r := ((k : Int)) + 1) (Sx.w64 (by omega)))) ?_
        refine wl_v rfl rfl (ov_move _ rfl) ?_
        refine wl_nil ?_
        have hA2_ : A59 = A := by
          rw [← hA60]
          split
          · rfl
          · cases A with
            | none => rfl
            | some a_ => simp [Addr.add]
        have hst_ := Lib.nx_gone (p := ((rs).getD k z34).f0.toNat) hJ.2.2.1 hfit_ (by omega) hg_ rfl (by have := hi2_ hg_; omega)
        replace h := st_front 2 h
        replace h := st_front 2 h
        replace h := st_selT [true, true, false] h
        refine qn_next ((k + 1), A, c, Ps, ((rs).getD k z34).f0.toNat, (⟨(Ps.take ((rs).getD k z34).f0.toNat).map (·.1), ((rs).getD k z34).f0, true⟩ : Pure.PSt)) (by show rs.length - (k + 1) < rs.length - k; omega) ⟨rfl, (congrArg (fun z_ => some (Value.slice (some ad6) z_ (crs))) (show (rs.length : Nat) = rs.length by first | rfl | simp)), (by show some (Value.slice _ _ _) = some (Value.slice A _ c); rw [hA2_, Nat.sub_zero]; congr 2; simp only [List.length_drop, List.length_take]; have := hi2_ hg_; omega), (congrArg (fun z_ => some (Value.int .i64 z_)) (show ((((rs).getD k z34)).f0 : Int) = ((⟨(Ps.take ((rs).getD k z34).f0.toNat).map (·.1), ((rs).getD k z34).f0, true⟩ : Pure.PSt)).last by rfl)), (congrArg (fun z_ => some (Value.bool z_)) (show true = (((⟨(Ps.take ((rs).getD k z34).f0.toNat).map (·.1), ((rs).getD k z34).f0, true⟩ : Pure.PSt)).gone) by first | rfl | exact hg_)), (congrArg (fun z_ => some (Value.slice (some ad6) z_ (crs))) (show (rs.length : Nat) = rs.length by first | rfl | simp)), rfl, (congrArg (fun z_ => some (Value.int .i64 z_)) (show (((k : Int)) + 1 : Int) = ((k + 1) : Int) by omega)), trivial⟩ ?_
        show (Pure.pfold x rs (k + 1) = some (⟨(Ps.take ((rs).getD k z34).f0.toNat).map (·.1), ((rs).getD k z34).f0, true⟩ : Pure.PSt) ∧ (k + 1) ≤ rs.length ∧ (Ps.take ((rs).getD k z34).f0.toNat).map (·.1) = (⟨(Ps.take ((rs).getD k z34).f0.toNat).map (·.1), ((rs).getD k z34).f0, true⟩ : Pure.PSt).out ∧ ((rs).getD k z34).f0.toNat ≤ Ps.length ∧ ((⟨(Ps.take ((rs).getD k z34).f0.toNat).map (·.1), ((rs).getD k z34).f0, true⟩ : Pure.PSt).gone = false → ((rs).getD k z34).f0.toNat = Ps.length) ∧ Pure.PInv x (k + 1) (⟨(Ps.take ((rs).getD k z34).f0.toNat).map (·.1), ((rs).getD k z34).f0, true⟩ : Pure.PSt)) ∧ _
        exact ⟨⟨by rw [Pure.pfold, hJ.1]; exact hst_, by omega, rfl, (by have := hi2_ hg_; omega), (fun z_ => (by cases z_)), Pure.pinv_step hJ.2.2.2.2.2 hst_⟩, h⟩
       ·
        exact absurd (c57) (by simp [hg_])
      ·
       exfalso
       omega
 ·
  refine wc_exit ?_
  refine qn_then_exit ?_
  refine qn_then_exit ?_
  refine qn_block_exit ?_
  refine qn_then ?_
  refine wc_seq ?_
  refine wc_seq ?_
  refine wc_region ?_
  refine wl_v rfl rfl (ov_move _ rfl) ?_
  refine wl_v rfl rfl (ov_move _ rfl) ?_
  refine wl_splitb 92 rfl (fun c61 => ?_) (fun c61 => ?_)
  ·
   have hg_ : σ.gone = true := by simpa using c61
   refine wl_v rfl rfl (ov_move _ rfl) ?_
   refine wl_v rfl rfl (ov_move _ rfl) ?_
   refine wl_v rfl rfl (ov_len _ _ _ _ _ rfl es22) ?_
   refine wl_v rfl rfl (ov_bin _ rfl rfl (binR_sub (r := (((x.length : Nat) : Int)) - 1) (Sx.w64 (by omega)))) ?_
   refine wl_v rfl rfl (ov_bin _ rfl rfl (binR_neq)) ?_
   refine wl_v rfl rfl (ov_pick_true _ rfl rfl) ?_
   refine wl_v rfl rfl (ov_move _ rfl) ?_
   refine wl_split 99 rfl (fun c62 => ?_) (fun c62 => ?_)
   ·
    refine wl_skip rfl rfl ?_
    refine wl_skip rfl rfl ?_
    refine wl_skip rfl rfl ?_
    refine wl_skip rfl rfl ?_
    refine wl_skip rfl rfl ?_
    refine wl_skip rfl rfl ?_
    refine wl_skip rfl rfl ?_
    refine wl_skip rfl rfl ?_
    refine wl_skip rfl rfl ?_
    refine wl_skip rfl rfl ?_
    refine wl_v rfl rfl (ov_pick_true _ rfl rfl) ?_
    refine wl_nil ?_
    refine qn_then ?_
    refine wc_cond_true rfl ?_
    refine wc_seq ?_
    refine wc_region ?_
    refine wl_v rfl rfl (ov_assign _ rfl) ?_
    refine wl_v rfl rfl (ov_assign _ rfl) ?_
    refine wl_nil ?_
    refine qn_then ?_
    refine wc_ret ?_
    refine qn_then_ret ?_
    replace h := st_selT [false, false] h
    refine qn_ret [_, _] ⟨rfl, rfl, trivial⟩ ?_
    have e_ := Lib.patch_at (by omega) hJ.2.1 hJ.1
    have e2_ : Pure.pfin x rs σ = ([], 140) := by unfold Pure.pfin; rw [if_pos (by first | exact .inl ⟨hg_, by omega⟩ | exact .inr ⟨hg_, by rw [hlen_]; simpa using hbad_⟩)]
    rw [e_, e2_]
    exact ⟨none, 0, rfl, Nat.le_refl _, Kd.C_nil _ _, h⟩
   ·
    refine wl_v rfl rfl (ov_move _ rfl) ?_
    refine wl_v rfl rfl (ov_move _ rfl) ?_
    refine wl_splitb 101 rfl (fun c63 => ?_) (fun c63 => ?_)
    ·
     have hg_ : σ.gone = true := by simpa using c63
     refine wl_v rfl rfl (ov_move _ rfl) ?_
     refine wl_v rfl rfl (ov_move _ rfl) ?_
     refine wl_v rfl rfl (ov_len _ _ _ _ _ rfl es22) ?_
     refine wl_v rfl rfl (ov_move _ rfl) ?_
     refine wl_v rfl rfl (ov_len _ _ _ _ _ rfl es22) ?_
     refine wl_call _ rfl rfl rfl ent27 (diff_row.calls 2000 _ _ rs (((n : Nat) : Int)) (((x.length : Nat) : Int)) _ _ ((Sx.ro_C hv h hCrs)) hlrs (Pure.row_val rs (by omega) (((n : Nat) : Int)) (((x.length : Nat) : Int)) (by omega) (by omega))) ?_
     rintro e_ w_ ⟨rfl, hB_⟩
     refine ⟨_, rfl, ?_⟩
     replace h := st_below h hB_
     refine wl_v rfl rfl (ov_notb _ rfl) ?_
     refine wl_v rfl rfl (ov_pick_true _ rfl rfl) ?_
     refine wl_v rfl rfl (ov_pick_false _ rfl rfl) ?_
     refine wl_nil ?_
     refine qn_then ?_
     refine wc_condb (by rfl) (fun c64 => ?_) (fun c64 => ?_)
     ·
      have hbad_ := c64
      refine wc_seq ?_
      refine wc_region ?_
      refine wl_v rfl rfl (ov_assign _ rfl) ?_
      refine wl_v rfl rfl (ov_assign _ rfl) ?_
      refine wl_nil ?_
      refine qn_then ?_
      refine wc_ret ?_
      refine qn_then_ret ?_
      replace h := st_selT [false, false] h
      refine qn_ret [_, _] ⟨rfl, rfl, trivial⟩ ?_
      have e_ := Lib.patch_at (by omega) hJ.2.1 hJ.1
      have e2_ : Pure.pfin x rs σ = ([], 140) := by unfold Pure.pfin; rw [if_pos (by first | exact .inl ⟨hg_, by omega⟩ | exact .inr ⟨hg_, by rw [hlen_]; simpa using hbad_⟩)]
      rw [e_, e2_]
      exact ⟨none, 0, rfl, Nat.le_refl _, Kd.C_nil _ _, h⟩
     ·
      refine wc_skip ?_
      refine qn_then ?_
      refine wc_seq ?_
      refine wc_region ?_
      refine wl_v rfl rfl (ov_move _ rfl) ?_
      refine wl_v rfl rfl (ov_assign _ rfl) ?_
      refine wl_v rfl rfl (ov_assign _ rfl) ?_
      refine wl_nil ?_
      refine qn_then ?_
      refine wc_ret ?_
      have e_ := Lib.patch_at (by omega) hJ.2.1 hJ.1
      have e2_ : Pure.pfin x rs σ = ((Ps.take n).map (·.1), 0) := by unfold Pure.pfin; rw [if_neg (by rintro (⟨z1_, z2_⟩ | ⟨z1_, z2_⟩) <;> first | (rw [z1_] at hg_; cases hg_; done) | omega | (rw [hlen_] at z2_; simp_all; done)), hJ.2.2.1]
      have el_ : ((Ps.take n).map (·.1)).length = n := by rw [List.length_map, List.length_take]; omega
      have hrr_ := Sx.row_reads h (i := 0) rfl
      have hll_ := Lib.lib_now h (i := 1) rfl
      have hC_ : k31.C _ A n ((Ps.take n).map (·.1)) := Lib.up_P (Lib.C_pre hrr_.2 hnn_) (fun p_ hp_ => hll_ p_ (List.mem_of_mem_take hp_))
      replace h := st_selT [false, false] h
      refine qn_ret [_, _] ⟨rfl, rfl, trivial⟩ ?_
      rw [e_, e2_]
      exact ⟨A, c, by rw [el_]; rfl, by show ((Ps.take n).map (·.1)).length ≤ c; rw [el_]; exact Nat.le_trans hnn_ hrr_.1, by show k31.C _ A ((Ps.take n).map (·.1)).length _; rw [el_]; exact hC_, h⟩
    ·
     exact absurd (c61.symm.trans c63) (by decide)
  ·
   have hg_ : σ.gone = false := by simpa using c61
   refine wl_skip rfl rfl ?_
   refine wl_skip rfl rfl ?_
   refine wl_skip rfl rfl ?_
   refine wl_skip rfl rfl ?_
   refine wl_skip rfl rfl ?_
   refine wl_v rfl rfl (ov_pick_false _ rfl rfl) ?_
   refine wl_v rfl rfl (ov_move _ rfl) ?_
   refine wl_v rfl rfl (ov_move _ rfl) ?_
   refine wl_v rfl rfl (ov_move _ rfl) ?_
   refine wl_splitb 101 rfl (fun c65 => ?_) (fun c65 => ?_)
   ·
    exact absurd (c61.symm.trans c65) (by decide)
   ·
    have hg_ : σ.gone = false := by simpa using c65
    refine wl_skip rfl rfl ?_
    refine wl_skip rfl rfl ?_
    refine wl_skip rfl rfl ?_
    refine wl_skip rfl rfl ?_
    refine wl_skip rfl rfl ?_
    refine wl_skip rfl rfl ?_
    refine wl_skip rfl rfl ?_
    refine wl_v rfl rfl (ov_pick_false _ rfl rfl) ?_
    refine wl_v rfl rfl (ov_pick_false _ rfl rfl) ?_
    refine wl_nil ?_
    refine qn_then ?_
    refine wc_cond_false rfl ?_
    refine wc_skip ?_
    refine qn_then ?_
    refine wc_seq ?_
    refine wc_region ?_
    refine wl_v rfl rfl (ov_move _ rfl) ?_
    refine wl_v rfl rfl (ov_assign _ rfl) ?_
    refine wl_v rfl rfl (ov_assign _ rfl) ?_
    refine wl_nil ?_
    refine qn_then ?_
    refine wc_ret ?_
    have e_ := Lib.patch_at (by omega) hJ.2.1 hJ.1
    have e2_ : Pure.pfin x rs σ = ((Ps.take n).map (·.1), 0) := by unfold Pure.pfin; rw [if_neg (by rintro (⟨z1_, z2_⟩ | ⟨z1_, z2_⟩) <;> first | (rw [z1_] at hg_; cases hg_; done) | omega | (rw [hlen_] at z2_; simp_all; done)), hJ.2.2.1]
    have el_ : ((Ps.take n).map (·.1)).length = n := by rw [List.length_map, List.length_take]; omega
    have hrr_ := Sx.row_reads h (i := 0) rfl
    have hll_ := Lib.lib_now h (i := 1) rfl
    have hC_ : k31.C _ A n ((Ps.take n).map (·.1)) := Lib.up_P (Lib.C_pre hrr_.2 hnn_) (fun p_ hp_ => hll_ p_ (List.mem_of_mem_take hp_))
    replace h := st_selT [false, false] h
    refine qn_ret [_, _] ⟨rfl, rfl, trivial⟩ ?_
    rw [e_, e2_]
    exact ⟨A, c, by rw [el_]; rfl, by show ((Ps.take n).map (·.1)).length ≤ c; rw [el_]; exact Nat.le_trans hnn_ hrr_.1, by show k31.C _ A ((Ps.take n).map (·.1)).length _; rw [el_]; exact hC_, h⟩
end Go.Proofs.Ytemgnkloloaeoaa.P
