/- Pruned by wip/prune.py. -/
import Derived.Test.YtemgnkloloaeoaaProg
import Derived.Test.YtemgnkloloaeoaaQSxGlue
import Derived.Test.YtemgnkloloaeoaaQSxKinds
import Derived.Test.YtemgnkloloaeoaaQDiffRead
namespace Go.Proofs.Ytemgnkloloaeoaa.PR
open Go Go.RowKit Go.Proofs.YtemgnkloloaeoaaW.PrintWords Go.Proofs.Ytemgnkloloaeoaa.Kinds Go.Proofs.Ytemgnkloloaeoaa.PAll Go.Proofs.Ytemgnkloloaeoaa.Sx 
set_option linter.unusedVariables false
set_option linter.unusedSimpArgs false
theorem infb31 : (Try.prog.info? 31).map (fun i => (i.zero, i.size)) = some (some (.agg #[.slice (none) (0) (0)]), 1) := by kernel_rfl
theorem inf31 : (Try.prog.info? 31).map (fun i => (i.zero, i.size, i.bytes)) = some (some (.agg #[.slice (none) (0) (0)]), 1, 24) := by kernel_rfl
theorem es27 : Sx.elemSz Try.prog 27 = some (34, 5) := by kernel_rfl
theorem sh34 : Sx.shapeOf Try.prog 34 = some (true, 5) := by kernel_rfl
theorem zo34 : Sx.zeroOf Try.prog 34 = some (.agg #[.int .i64 (0), .int .i64 (0), .int .i64 (0), .int .i64 (0), .slice (none) (0) (0)]) := by kernel_rfl
theorem fo34_0 : Sx.fieldOff Try.prog 34 0 = some 0 := by kernel_rfl
theorem sh3 : Sx.shapeOf Try.prog 3 = some (false, 1) := by kernel_rfl
theorem fo34_1 : Sx.fieldOff Try.prog 34 1 = some 1 := by kernel_rfl
theorem es22 : Sx.elemSz Try.prog 22 = some (31, 1) := by kernel_rfl
theorem fo34_2 : Sx.fieldOff Try.prog 34 2 = some 2 := by kernel_rfl
theorem fo34_3 : Sx.fieldOff Try.prog 34 3 = some 3 := by kernel_rfl
theorem fo31_0 : Sx.fieldOff Try.prog 31 0 = some 0 := by kernel_rfl
theorem sh29 : Sx.shapeOf Try.prog 29 = some (false, 1) := by kernel_rfl
theorem es29 : Sx.elemSz Try.prog 29 = some (39, 9) := by kernel_rfl
theorem fo34_4 : Sx.fieldOff Try.prog 34 4 = some 4 := by kernel_rfl
theorem infb39 : (Try.prog.info? 39).map (fun i => (i.zero, i.size)) = some (some (.agg #[.string (ByteArray.empty), .slice (none) (0) (0), .int .i64 (0), .int .i64 (0), .int .i64 (0), .bool false, .int .i64 (0), .bool false, .bool false]), 9) := by kernel_rfl
theorem inf39 : (Try.prog.info? 39).map (fun i => (i.zero, i.size, i.bytes)) = some (some (.agg #[.string (ByteArray.empty), .slice (none) (0) (0), .int .i64 (0), .int .i64 (0), .int .i64 (0), .bool false, .int .i64 (0), .bool false, .bool false]), 9, 88) := by kernel_rfl
theorem szf31 : (Try.prog.info? 31).map (·.size) = some 1 := by kernel_rfl
set_option maxHeartbeats 4000000 in
set_option maxRecDepth 100000 in
theorem refPatch_calls {w0 w : World} {F0 : Nat → Prop} {R : List Sx.HP} {v0 : World} (x : List S31) (Ax : Option Addr) (cx : Nat) (rs : List S34) (Ars : Option Addr) (crs : Nat) (hv : Sx.RO v0 w0 F0) (hlx : x.length ≤ cx) (hCx : k31.C v0 Ax x.length x) (hmx : x.length ≤ 9223372036854775807) (hlrs : rs.length ≤ crs) (hCrs : k34.C v0 Ars rs.length rs) (hmrs : rs.length ≤ 9223372036854775807) (hFx : Pure.Few x) (hrl : rs.length ≤ 200) (hsh : ∀ r ∈ rs, Pure.Short r.f4) (h : Sx.St w0 F0 ([] ++ R) w) : Calls Try.prog 19 #[.slice (Ax) (x.length) (cx), .slice (Ars) (rs.length) (crs)] w (fun e w1 => ∃ A c, e = .returned (.tuple #[.slice A ((Pure.refV x rs).getD []).length c, .bool (Pure.refV x rs).isSome]) ∧ ((Pure.refV x rs).getD []).length ≤ c ∧ k31.C w1 A ((Pure.refV x rs).getD []).length ((Pure.refV x rs).getD []) ∧ Sx.St w0 F0 R w1) := by
 have hFx1 := hFx.1
 refine Sx.calls_fn (vs := [.slice (Ax) (x.length) (cx), .slice (Ars) (rs.length) (crs)]) Try.func19 rfl Try.ntmps19 rfl ?_
 refine wc_seq ?_
 refine wc_region ?_
 refine wl_v rfl rfl (ov_assign _ rfl) ?_
 refine wl_v rfl rfl (ov_assign _ rfl) ?_
 refine wl_nil ?_
 refine qn_then ?_
 refine wc_seq ?_
 refine wc_region ?_
 refine wl_lit (d := Lib.kP) [] _ [] ([]) h rfl rfl rfl rfl Try.underlying22 infb31 rfl (by decide) (by kernel_rfl) rfl (fun _ _ _ => (Reps.none _ _)) (fun A1 cp2 _ h => ?_)
 refine wl_v rfl rfl (ov_move _ rfl) ?_
 obtain ⟨Rs3, hR4, hC5, hL6, hn7⟩ := Lib.ro_pages hCx
 have hC5n := hC5
 rw [← hn7] at hC5n
 refine wl_append (d := Lib.kP) (L := []) 0 _ 24 _ _ _ (Rs3) Lib.flatP h rfl rfl rfl rfl rfl ((Sx.ro_C hv h hC5)) Try.underlying22 inf31 rfl (by decide) (by decide) (by first | omega | (simp only [List.length_cons, List.length_nil, List.length_append, List.length_set, List.length_drop, List.length_take]; omega)) (by first | rfl | simp) (fun A8 cp9 _ h => ?_)
 refine wl_v rfl rfl (ov_assign _ rfl) ?_
 refine wl_nil ?_
 refine qn_then ?_
 refine wc_seq ?_
 refine wc_region ?_
 refine wl_v rfl rfl (ov_assign _ rfl) ?_
 refine wl_v rfl rfl (ov_assign _ rfl) ?_
 refine wl_nil ?_
 refine qn_then ?_
 refine wc_seq ?_
 refine wc_seq ?_
 refine wc_region ?_
 refine wl_v rfl rfl (ov_assign _ rfl) ?_
 refine wl_nil ?_
 refine qn_then ?_
 refine wc_block ?_
 replace h := Lib.libO_start (φ := Lib.AllP (([]) ++ Rs3)) h hL6
 replace h := st_front 1 h
 refine wc_loop (fun (x_ : Nat × (Option Addr) × Nat × (List Lib.PG) × Pure.RSt) => [(0, .slice (Ax) (x.length) (cx)), (1, .slice (Ars) (rs.length) (crs)), (6, .slice (x_.2.1) (x_.2.2.2.1.length) (x_.2.2.1)), (7, .int .i64 ((x_.2.2.2.2).last)), (8, .int .i64 ((x_.2.2.2.2).keep)), (9, .int .i64 ((x_.1 : Int)))]) (fun (x_ : Nat × (Option Addr) × Nat × (List Lib.PG) × Pure.RSt) (w : World) => (Pure.rfold x rs x_.1 = some x_.2.2.2.2 ∧ x_.1 ≤ rs.length ∧ (x_.2.2.2.1).map (·.1) = (x_.2.2.2.2).out ∧ Pure.RInv x x_.1 x_.2.2.2.2) ∧ Sx.St w0 F0 ([Sx.row Lib.kP 31 (x_.2.1) (x_.2.2.1) (x_.2.2.2.1), Lib.libO v0 (Lib.AllP x_.2.2.2.1)] ++ R) w) (fun (x_ : Nat × (Option Addr) × Nat × (List Lib.PG) × Pure.RSt) => rs.length - x_.1) (0, A8, cp9, (([]) ++ Rs3), (⟨x, -1, -1⟩ : Pure.RSt)) ?_ ?_ ?_
 · exact ⟨rfl, rfl, rfl, (congrArg (fun z_ => some (Value.int .i64 z_)) (show (-1 : Int) = ((⟨x, -1, -1⟩ : Pure.RSt)).last by rfl)), (congrArg (fun z_ => some (Value.int .i64 z_)) (show (-1 : Int) = ((⟨x, -1, -1⟩ : Pure.RSt)).keep by rfl)), (congrArg (fun z_ => some (Value.int .i64 z_)) (show (0 : Int) = (0 : Int) by omega)), trivial⟩
 · exact ⟨⟨rfl, Nat.zero_le _, hR4, Pure.rinv_start x⟩, h⟩
 rintro ⟨k, A, c, Ps, t⟩ w h
 obtain ⟨hJ, h⟩ := h
 replace hJ : Pure.rfold x rs k = some t ∧ k ≤ rs.length ∧ (Ps).map (·.1) = (t).out ∧ Pure.RInv x k t := hJ
 replace h : Sx.St w0 F0 ([Sx.row Lib.kP 31 (A) (c) (Ps), Lib.libO v0 (Lib.AllP Ps)] ++ R) w := h
 show Sx.WC _ _ _ _ [(0, .slice (Ax) (x.length) (cx)), (1, .slice (Ars) (rs.length) (crs)), (6, .slice (A) (Ps.length) (c)), (7, .int .i64 ((t).last)), (8, .int .i64 ((t).keep)), (9, .int .i64 ((k : Int)))] _
 have hi0_ := hJ.2.2.2.last0
 have hi1_ := hJ.2.2.2.keep0
 have hi2_ := hJ.2.2.2.keepl
 have hi3_ := hJ.2.2.2.len
 have hi4_ := hJ.2.2.2.more
 have hi5_ := hJ.2.2.2.lastl
 have hlen_ : t.out.length = Ps.length := by rw [← hJ.2.2.1, List.length_map]
 refine wc_seq ?_
 refine wc_seq ?_
 refine wc_region ?_
 refine wl_v rfl rfl (ov_move _ rfl) ?_
 refine wl_v rfl rfl (ov_move _ rfl) ?_
 refine wl_v rfl rfl (ov_len _ _ _ _ _ rfl es27) ?_
 refine wl_v rfl rfl (ov_bin _ rfl rfl (binR_lss)) ?_
 refine wl_nil ?_
 refine qn_then ?_
 refine wc_cond (by rfl) (fun c10 => ?_) (fun c10 => ?_)
 ·
  refine wc_skip ?_
  refine qn_then ?_
  refine wc_seq ?_
  refine wc_block ?_
  refine wc_seq ?_
  refine wc_region ?_
  refine wl_v rfl rfl (ov_move _ rfl) ?_
  refine wl_v rfl rfl (ov_move _ rfl) ?_
  obtain ⟨ad11, rfl⟩ := Sx.C_some ((Sx.ro_C hv h hCrs)) (k := k) (by first | assumption | omega)
  refine wl_v rfl rfl (ov_indexAddrN _ _ _ _ _ k rfl rfl es27 rfl (by first | assumption | omega | (simp only [List.length_take, List.length_drop, List.length_set]; omega))) ?_
  obtain ⟨cl14, _, hk13, hc12⟩ := Sx.C_cells (hCrs) (z := z34) (k := k) (by first | assumption | omega)
  obtain ⟨A15, cp16, rfl, hl17, hn18⟩ := k34_open hk13
  refine wl_v rfl rfl (ov_loadN _ [.int .i64 ((((rs).getD k z34)).f0), .int .i64 ((((rs).getD k z34)).f1), .int .i64 ((((rs).getD k z34)).f2), .int .i64 ((((rs).getD k z34)).f3), .slice (A15) (((((rs).getD k z34)).f4).length) (cp16)] rfl sh34 (by intro j u hu; rw [Deep.add_add]; exact Sx.ro_cell hv h (hc12 _ _ hu))) ?_
  refine wl_alloc _ h rfl rfl zo34 (fun b19 _ h => ?_)
  replace h : Sx.St _ _ (Sx.blk b19 [.int .i64 (0), .int .i64 (0), .int .i64 (0), .int .i64 (0), .slice (none) (0) (0)] 34 :: _) _ := h
  refine wl_storebN 0 [.int .i64 ((((rs).getD k z34)).f0), .int .i64 ((((rs).getD k z34)).f1), .int .i64 ((((rs).getD k z34)).f2), .int .i64 ((((rs).getD k z34)).f3), .slice (A15) (((((rs).getD k z34)).f4).length) (cp16)] [.int .i64 ((((rs).getD k z34)).f0), .int .i64 ((((rs).getD k z34)).f1), .int .i64 ((((rs).getD k z34)).f2), .int .i64 ((((rs).getD k z34)).f3), .slice (A15) (((((rs).getD k z34)).f4).length) (cp16)] h rfl rfl rfl rfl (by simp [Value.oneCell']) sh34 rfl rfl (fun _ h => ?_)
  refine wl_nil ?_
  refine qn_then ?_
  refine wc_seq ?_
  refine wc_seq ?_
  refine wc_region ?_
  refine wl_v rfl rfl (ov_fieldAddr _ ⟨b19, 0, none⟩ _ rfl fo34_0 rfl) ?_
  refine wl_v rfl rfl (ov_loadb 0 _ h rfl rfl sh3 rfl) ?_
  refine wl_v rfl rfl (ov_move _ rfl) ?_
  refine wl_v rfl rfl (ov_bin _ rfl rfl (binR_leq)) ?_
  refine wl_v rfl rfl (ov_move _ rfl) ?_
  refine wl_split 29 rfl (fun c20 => ?_) (fun c20 => ?_)
  ·
   refine wl_skip rfl rfl ?_
   refine wl_skip rfl rfl ?_
   refine wl_skip rfl rfl ?_
   refine wl_skip rfl rfl ?_
   refine wl_skip rfl rfl ?_
   refine wl_skip rfl rfl ?_
   refine wl_skip rfl rfl ?_
   refine wl_v rfl rfl (ov_pick_true _ rfl rfl) ?_
   refine wl_nil ?_
   refine qn_then ?_
   refine wc_cond_true rfl ?_
   refine wc_seq ?_
   refine wc_region ?_
   refine wl_v rfl rfl (ov_assign _ rfl) ?_
   refine wl_v rfl rfl (ov_assign _ rfl) ?_
   refine wl_nil ?_
   refine qn_then ?_
   refine wc_ret ?_
   refine qn_then_ret ?_
   refine qn_block_ret ?_
   refine qn_then_ret ?_
   refine qn_then_ret ?_
   refine qn_block_ret ?_
   refine qn_then_ret ?_
   replace h := st_selT [false, false, false] h
   refine qn_ret [_, _] ⟨rfl, rfl, trivial⟩ ?_
   have hpg_ : Pure.pgs x ((rs).getD k z34).f0 = (x.getD (((rs).getD k z34).f0 : Int).toNat z31).f0 := rfl
   have e_ := Pure.ref_none (x := x) (rs := rs) (k := k + 1) (by omega) (by rw [Pure.rfold, hJ.1]; exact Lib.rx_none hpg_ hJ.2.2.1 (by omega))
   rw [e_]
   exact ⟨none, 0, rfl, Nat.le_refl _, Kd.C_nil _ _, h⟩
  ·
   refine wl_v rfl rfl (ov_move _ rfl) ?_
   refine wl_v rfl rfl (ov_bin _ rfl rfl (binR_geq)) ?_
   refine wl_v rfl rfl (ov_move _ rfl) ?_
   refine wl_split 32 rfl (fun c21 => ?_) (fun c21 => ?_)
   ·
    refine wl_v rfl rfl (ov_fieldAddr _ ⟨b19, 1, none⟩ _ rfl fo34_1 rfl) ?_
    refine wl_v rfl rfl (ov_loadb 0 _ h rfl rfl sh3 rfl) ?_
    refine wl_v rfl rfl (ov_bin _ rfl rfl (binR_neq)) ?_
    refine wl_v rfl rfl (ov_pick_true _ rfl rfl) ?_
    refine wl_v rfl rfl (ov_pick_false _ rfl rfl) ?_
    refine wl_nil ?_
    refine qn_then ?_
    refine wc_cond (by rfl) (fun c22 => ?_) (fun c22 => ?_)
    ·
     refine wc_seq ?_
     refine wc_region ?_
     refine wl_v rfl rfl (ov_assign _ rfl) ?_
     refine wl_v rfl rfl (ov_assign _ rfl) ?_
     refine wl_nil ?_
     refine qn_then ?_
     refine wc_ret ?_
     refine qn_then_ret ?_
     refine qn_block_ret ?_
     refine qn_then_ret ?_
     refine qn_then_ret ?_
     refine qn_block_ret ?_
     refine qn_then_ret ?_
     replace h := st_selT [false, false, false] h
     refine qn_ret [_, _] ⟨rfl, rfl, trivial⟩ ?_
     have hpg_ : Pure.pgs x ((rs).getD k z34).f0 = (x.getD (((rs).getD k z34).f0 : Int).toNat z31).f0 := rfl
     have e_ := Pure.ref_none (x := x) (rs := rs) (k := k + 1) (by omega) (by rw [Pure.rfold, hJ.1]; exact Lib.rx_none hpg_ hJ.2.2.1 (by omega))
     rw [e_]
     exact ⟨none, 0, rfl, Nat.le_refl _, Kd.C_nil _ _, h⟩
    ·
     refine wc_skip ?_
     refine qn_then ?_
     refine wc_seq ?_
     refine wc_seq ?_
     refine wc_region ?_
     refine wl_v rfl rfl (ov_fieldAddr _ ⟨b19, 1, none⟩ _ rfl fo34_1 rfl) ?_
     refine wl_v rfl rfl (ov_loadb 0 _ h rfl rfl sh3 rfl) ?_
     refine wl_nil ?_
     refine qn_then ?_
     refine wc_block ?_
     refine wc_seq ?_
     refine wc_region ?_
     refine wl_v rfl rfl (ov_bin _ rfl rfl (binR_eql)) ?_
     refine wl_v rfl rfl (ov_assign _ rfl) ?_
     refine wl_nil ?_
     refine qn_then ?_
     refine wc_cond (by rfl) (fun c23 => ?_) (fun c23 => ?_)
     ·
      exfalso
      omega
     ·
      refine wc_seq ?_
      refine wc_region ?_
      refine wl_v rfl rfl (ov_bin _ rfl rfl (binR_eql)) ?_
      refine wl_v rfl rfl (ov_assign _ rfl) ?_
      refine wl_nil ?_
      refine qn_then ?_
      refine wc_cond (by rfl) (fun c24 => ?_) (fun c24 => ?_)
      ·
       exfalso
       omega
      ·
       refine wc_seq ?_
       refine wc_region ?_
       refine wl_v rfl rfl (ov_bin _ rfl rfl (binR_eql)) ?_
       refine wl_v rfl rfl (ov_assign _ rfl) ?_
       refine wl_nil ?_
       refine qn_then ?_
       refine wc_cond (by rfl) (fun c25 => ?_) (fun c25 => ?_)
       ·
        refine wc_seq ?_
        refine wc_seq ?_
        refine wc_draw (fun w => Sx.St w0 F0 ([Sx.blk b19 [.int .i64 ((((rs).getD k z34)).f0), .int .i64 ((((rs).getD k z34)).f1), .int .i64 ((((rs).getD k z34)).f2), .int .i64 ((((rs).getD k z34)).f3), .slice (A15) (((((rs).getD k z34)).f4).length) (cp16)] 34, Sx.row Lib.kP 31 (A) (c) (Ps), Lib.libO v0 (Lib.AllP Ps)] ++ R) w) (by kernel_rfl) ?_
        replace h := st_drew h
        refine wa_tk 0 rfl rfl rfl (st_selT [true, true, true] h) (fun w_ hS => ov_fieldAddr _ ⟨b19, 0, none⟩ _ rfl fo34_0 rfl) ?_
        refine wa_tk 1 rfl rfl rfl (st_selT [true, true, true] h) (fun w_ hS => ov_loadb 0 _ hS rfl rfl sh3 rfl) ?_
        refine wa_tk 2 rfl rfl rfl (st_selT [true, true, true] h) (fun w_ hS => ov_move _ rfl) ?_
        refine wa_tk 3 rfl rfl rfl (st_selT [true, true, true] h) (fun w_ hS => ov_len _ _ _ _ _ rfl es22) ?_
        refine wa_tk 4 rfl rfl rfl (st_selT [true, true, true] h) (fun w_ hS => ov_bin _ rfl rfl (binR_geq)) ?_
        refine wa_tk 5 rfl rfl rfl (st_selT [true, true, true] h) (fun w_ hS => ov_move _ rfl) ?_
        refine wa_split 149 rfl (fun c26 => ?_) (fun c26 => ?_)
        ·
         refine wa_sk 6 rfl rfl rfl (st_selT [true, true, true] h) ?_
         refine wa_sk 7 rfl rfl rfl (st_selT [true, true, true] h) ?_
         refine wa_sk 8 rfl rfl rfl (st_selT [true, true, true] h) ?_
         refine wa_tk 9 rfl rfl rfl (st_selT [true, true, true] h) (fun w_ hS => ov_pick_true _ rfl rfl) ?_
         refine wa_tk 10 rfl rfl rfl (st_selT [true, true, true] h) (fun w_ hS => ov_move _ rfl) ?_
         refine wa_sk 11 rfl rfl rfl (st_selT [true, true, true] h) ?_
         refine wa_sk 12 rfl rfl rfl (st_selT [true, true, true] h) ?_
         refine wa_sk 13 rfl rfl rfl (st_selT [true, true, true] h) ?_
         refine wa_sk 14 rfl rfl rfl (st_selT [true, true, true] h) ?_
         refine wa_sk 15 rfl rfl rfl (st_selT [true, true, true] h) ?_
         refine wa_sk 16 rfl rfl rfl (st_selT [true, true, true] h) ?_
         refine wa_sk 17 rfl rfl rfl (st_selT [true, true, true] h) ?_
         refine wa_sk 18 rfl rfl rfl (st_selT [true, true, true] h) ?_
         refine wa_sk 19 rfl rfl rfl (st_selT [true, true, true] h) ?_
         refine wa_sk 20 rfl rfl rfl (st_selT [true, true, true] h) ?_
         refine wa_tk 21 rfl rfl rfl (st_selT [true, true, true] h) (fun w_ hS => ov_pick_true _ rfl rfl) ?_
         refine wa_tk 22 rfl rfl rfl (st_selT [true, true, true] h) (fun w_ hS => ov_move _ rfl) ?_
         refine wa_sk 23 rfl rfl rfl (st_selT [true, true, true] h) ?_
         refine wa_sk 24 rfl rfl rfl (st_selT [true, true, true] h) ?_
         refine wa_sk 25 rfl rfl rfl (st_selT [true, true, true] h) ?_
         refine wa_sk 26 rfl rfl rfl (st_selT [true, true, true] h) ?_
         refine wa_tk 27 rfl rfl rfl (st_selT [true, true, true] h) (fun w_ hS => ov_pick_true _ rfl rfl) ?_
         refine wa_tk 28 rfl rfl rfl (st_selT [true, true, true] h) (fun w_ hS => ov_move _ rfl) ?_
         refine wa_sk 29 rfl rfl rfl (st_selT [true, true, true] h) ?_
         refine wa_sk 30 rfl rfl rfl (st_selT [true, true, true] h) ?_
         refine wa_sk 31 rfl rfl rfl (st_selT [true, true, true] h) ?_
         refine wa_sk 32 rfl rfl rfl (st_selT [true, true, true] h) ?_
         refine wa_sk 33 rfl rfl rfl (st_selT [true, true, true] h) ?_
         refine wa_sk 34 rfl rfl rfl (st_selT [true, true, true] h) ?_
         refine wa_sk 35 rfl rfl rfl (st_selT [true, true, true] h) ?_
         refine wa_sk 36 rfl rfl rfl (st_selT [true, true, true] h) ?_
         refine wa_sk 37 rfl rfl rfl (st_selT [true, true, true] h) ?_
         refine wa_tk 38 rfl rfl rfl (st_selT [true, true, true] h) (fun w_ hS => ov_pick_true _ rfl rfl) ?_
         refine wa_done (by kernel_rfl) ?_
         refine qn_then ?_
         refine wc_cond_true rfl ?_
         refine wc_seq ?_
         refine wc_region ?_
         refine wl_v rfl rfl (ov_assign _ rfl) ?_
         refine wl_v rfl rfl (ov_assign _ rfl) ?_
         refine wl_nil ?_
         refine qn_then ?_
         refine wc_ret ?_
         refine qn_then_ret ?_
         refine qn_block_ret ?_
         refine qn_then_ret ?_
         refine qn_block_ret ?_
         refine qn_then_ret ?_
         refine qn_then_ret ?_
         refine qn_block_ret ?_
         refine qn_then_ret ?_
         replace h := st_selT [false, false, false] h
         refine qn_ret [_, _] ⟨rfl, rfl, trivial⟩ ?_
         have hpg_ : Pure.pgs x ((rs).getD k z34).f0 = (x.getD (((rs).getD k z34).f0 : Int).toNat z31).f0 := rfl
         have e_ := Pure.ref_none (x := x) (rs := rs) (k := k + 1) (by omega) (by rw [Pure.rfold, hJ.1]; exact Lib.rx_none hpg_ hJ.2.2.1 (by omega))
         rw [e_]
         exact ⟨none, 0, rfl, Nat.le_refl _, Kd.C_nil _ _, h⟩
        ·
         have hpl_ := (Pure.few_at hFx ((rs).getD k z34).f0 (by omega) (by omega)).1
         replace hpl_ : ((x.getD (((rs).getD k z34).f0 : Int).toNat z31).f0).length ≤ 40 := hpl_
         refine wa_tk 6 rfl rfl rfl (st_selT [true, true, true] h) (fun w_ hS => ov_fieldAddr _ ⟨b19, 2, none⟩ _ rfl fo34_2 rfl) ?_
         refine wa_tk 7 rfl rfl rfl (st_selT [true, true, true] h) (fun w_ hS => ov_loadb 0 _ hS rfl rfl sh3 rfl) ?_
         refine wa_tk 8 rfl rfl rfl (st_selT [true, true, true] h) (fun w_ hS => ov_bin _ rfl rfl (binR_neq)) ?_
         refine wa_tk 9 rfl rfl rfl (st_selT [true, true, true] h) (fun w_ hS => ov_pick_false _ rfl rfl) ?_
         refine wa_tk 10 rfl rfl rfl (st_selT [true, true, true] h) (fun w_ hS => ov_move _ rfl) ?_
         refine wa_split 154 rfl (fun c27 => ?_) (fun c27 => ?_)
         ·
          refine wa_sk 11 rfl rfl rfl (st_selT [true, true, true] h) ?_
          refine wa_sk 12 rfl rfl rfl (st_selT [true, true, true] h) ?_
          refine wa_sk 13 rfl rfl rfl (st_selT [true, true, true] h) ?_
          refine wa_sk 14 rfl rfl rfl (st_selT [true, true, true] h) ?_
          refine wa_sk 15 rfl rfl rfl (st_selT [true, true, true] h) ?_
          refine wa_sk 16 rfl rfl rfl (st_selT [true, true, true] h) ?_
          refine wa_sk 17 rfl rfl rfl (st_selT [true, true, true] h) ?_
          refine wa_sk 18 rfl rfl rfl (st_selT [true, true, true] h) ?_
          refine wa_sk 19 rfl rfl rfl (st_selT [true, true, true] h) ?_
          refine wa_sk 20 rfl rfl rfl (st_selT [true, true, true] h) ?_
          refine wa_tk 21 rfl rfl rfl (st_selT [true, true, true] h) (fun w_ hS => ov_pick_true _ rfl rfl) ?_
          refine wa_tk 22 rfl rfl rfl (st_selT [true, true, true] h) (fun w_ hS => ov_move _ rfl) ?_
          refine wa_sk 23 rfl rfl rfl (st_selT [true, true, true] h) ?_
          refine wa_sk 24 rfl rfl rfl (st_selT [true, true, true] h) ?_
          refine wa_sk 25 rfl rfl rfl (st_selT [true, true, true] h) ?_
          refine wa_sk 26 rfl rfl rfl (st_selT [true, true, true] h) ?_
          refine wa_tk 27 rfl rfl rfl (st_selT [true, true, true] h) (fun w_ hS => ov_pick_true _ rfl rfl) ?_
          refine wa_tk 28 rfl rfl rfl (st_selT [true, true, true] h) (fun w_ hS => ov_move _ rfl) ?_
          refine wa_sk 29 rfl rfl rfl (st_selT [true, true, true] h) ?_
          refine wa_sk 30 rfl rfl rfl (st_selT [true, true, true] h) ?_
          refine wa_sk 31 rfl rfl rfl (st_selT [true, true, true] h) ?_
          refine wa_sk 32 rfl rfl rfl (st_selT [true, true, true] h) ?_
          refine wa_sk 33 rfl rfl rfl (st_selT [true, true, true] h) ?_
          refine wa_sk 34 rfl rfl rfl (st_selT [true, true, true] h) ?_
          refine wa_sk 35 rfl rfl rfl (st_selT [true, true, true] h) ?_
          refine wa_sk 36 rfl rfl rfl (st_selT [true, true, true] h) ?_
          refine wa_sk 37 rfl rfl rfl (st_selT [true, true, true] h) ?_
          refine wa_tk 38 rfl rfl rfl (st_selT [true, true, true] h) (fun w_ hS => ov_pick_true _ rfl rfl) ?_
          refine wa_done (by kernel_rfl) ?_
          refine qn_then ?_
          refine wc_cond_true rfl ?_
          refine wc_seq ?_
          refine wc_region ?_
          refine wl_v rfl rfl (ov_assign _ rfl) ?_
          refine wl_v rfl rfl (ov_assign _ rfl) ?_
          refine wl_nil ?_
          refine qn_then ?_
          refine wc_ret ?_
          refine qn_then_ret ?_
          refine qn_block_ret ?_
          refine qn_then_ret ?_
          refine qn_block_ret ?_
          refine qn_then_ret ?_
          refine qn_then_ret ?_
          refine qn_block_ret ?_
          refine qn_then_ret ?_
          replace h := st_selT [false, false, false] h
          refine qn_ret [_, _] ⟨rfl, rfl, trivial⟩ ?_
          have hpg_ : Pure.pgs x ((rs).getD k z34).f0 = (x.getD (((rs).getD k z34).f0 : Int).toNat z31).f0 := rfl
          have e_ := Pure.ref_none (x := x) (rs := rs) (k := k + 1) (by omega) (by rw [Pure.rfold, hJ.1]; exact Lib.rx_none hpg_ hJ.2.2.1 (by omega))
          rw [e_]
          exact ⟨none, 0, rfl, Nat.le_refl _, Kd.C_nil _ _, h⟩
         ·
          refine wa_tk 11 rfl rfl rfl (st_selT [true, true, true] h) (fun w_ hS => ov_fieldAddr _ ⟨b19, 3, none⟩ _ rfl fo34_3 rfl) ?_
          refine wa_tk 12 rfl rfl rfl (st_selT [true, true, true] h) (fun w_ hS => ov_loadb 0 _ hS rfl rfl sh3 rfl) ?_
          refine wa_tk 13 rfl rfl rfl (st_selT [true, true, true] h) (fun w_ hS => ov_move _ rfl) ?_
          refine wa_tk 14 rfl rfl rfl (st_selT [true, true, true] h) (fun w_ hS => ov_fieldAddr _ ⟨b19, 0, none⟩ _ rfl fo34_0 rfl) ?_
          refine wa_tk 15 rfl rfl rfl (st_selT [true, true, true] h) (fun w_ hS => ov_loadb 0 _ hS rfl rfl sh3 rfl) ?_
          obtain ⟨ad28, rfl⟩ := Sx.C_some ((Sx.ro_C hv h hCx)) (k := ((((rs).getD k z34)).f0 : Int).toNat) (by first | assumption | omega)
          refine wa_tk 16 rfl rfl rfl (st_selT [true, true, true] h) (fun w_ hS => ov_indexAddrN _ _ _ _ _ ((((rs).getD k z34)).f0 : Int).toNat rfl rfl es22 (by omega) (by first | assumption | omega | (simp only [List.length_take, List.length_drop, List.length_set]; omega))) ?_
          refine wa_tk 17 rfl rfl rfl (st_selT [true, true, true] h) (fun w_ hS => ov_fieldAddr _ ((ad28).add (((((rs).getD k z34)).f0 : Int).toNat * 1 + 0)) _ rfl fo31_0 (by first | exact Deep.add_add _ _ _ | (rw [Deep.add_add]) | rfl)) ?_
          obtain ⟨cl31, _, hk30, hc29⟩ := Sx.C_cells (hCx) (z := z31) (k := ((((rs).getD k z34)).f0 : Int).toNat) (by first | assumption | omega)
          obtain ⟨A32, cp33, rfl, hl34, hn35⟩ := k31_open hk30
          refine wa_tk 18 rfl rfl rfl (st_selT [true, true, true] h) (fun w_ hS => ov_load1 _ _ rfl sh29 (Sx.ro_cell hv hS (hc29 0 _ rfl))) ?_
          refine wa_tk 19 rfl rfl rfl (st_selT [true, true, true] h) (fun w_ hS => ov_len _ _ _ _ _ rfl es29) ?_
          refine wa_tk 20 rfl rfl rfl (st_selT [true, true, true] h) (fun w_ hS => ov_bin _ rfl rfl (binR_neq)) ?_
          refine wa_tk 21 rfl rfl rfl (st_selT [true, true, true] h) (fun w_ hS => ov_pick_false _ rfl rfl) ?_
          refine wa_tk 22 rfl rfl rfl (st_selT [true, true, true] h) (fun w_ hS => ov_move _ rfl) ?_
          refine wa_split 166 rfl (fun c36 => ?_) (fun c36 => ?_)
          ·
           refine wa_sk 23 rfl rfl rfl (st_selT [true, true, true] h) ?_
           refine wa_sk 24 rfl rfl rfl (st_selT [true, true, true] h) ?_
           refine wa_sk 25 rfl rfl rfl (st_selT [true, true, true] h) ?_
           refine wa_sk 26 rfl rfl rfl (st_selT [true, true, true] h) ?_
           refine wa_tk 27 rfl rfl rfl (st_selT [true, true, true] h) (fun w_ hS => ov_pick_true _ rfl rfl) ?_
           refine wa_tk 28 rfl rfl rfl (st_selT [true, true, true] h) (fun w_ hS => ov_move _ rfl) ?_
           refine wa_sk 29 rfl rfl rfl (st_selT [true, true, true] h) ?_
           refine wa_sk 30 rfl rfl rfl (st_selT [true, true, true] h) ?_
           refine wa_sk 31 rfl rfl rfl (st_selT [true, true, true] h) ?_
           refine wa_sk 32 rfl rfl rfl (st_selT [true, true, true] h) ?_
           refine wa_sk 33 rfl rfl rfl (st_selT [true, true, true] h) ?_
           refine wa_sk 34 rfl rfl rfl (st_selT [true, true, true] h) ?_
           refine wa_sk 35 rfl rfl rfl (st_selT [true, true, true] h) ?_
           refine wa_sk 36 rfl rfl rfl (st_selT [true, true, true] h) ?_
           refine wa_sk 37 rfl rfl rfl (st_selT [true, true, true] h) ?_
           refine wa_tk 38 rfl rfl rfl (st_selT [true, true, true] h) (fun w_ hS => ov_pick_true _ rfl rfl) ?_
           refine wa_done (by kernel_rfl) ?_
           refine qn_then ?_
           refine wc_cond_true rfl ?_
           refine wc_seq ?_
           refine wc_region ?_
           refine wl_v rfl rfl (ov_assign _ rfl) ?_
           refine wl_v rfl rfl (ov_assign _ rfl) ?_
           refine wl_nil ?_
           refine qn_then ?_
           refine wc_ret ?_
           refine qn_then_ret ?_
           refine qn_block_ret ?_
           refine qn_then_ret ?_
           refine qn_block_ret ?_
           refine qn_then_ret ?_
           refine qn_then_ret ?_
           refine qn_block_ret ?_
           refine qn_then_ret ?_
           replace h := st_selT [false, false, false] h
           refine qn_ret [_, _] ⟨rfl, rfl, trivial⟩ ?_
           have hpg_ : Pure.pgs x ((rs).getD k z34).f0 = (x.getD (((rs).getD k z34).f0 : Int).toNat z31).f0 := rfl
           have e_ := Pure.ref_none (x := x) (rs := rs) (k := k + 1) (by omega) (by rw [Pure.rfold, hJ.1]; exact Lib.rx_none hpg_ hJ.2.2.1 (by omega))
           rw [e_]
           exact ⟨none, 0, rfl, Nat.le_refl _, Kd.C_nil _ _, h⟩
          ·
           refine wa_tk 23 rfl rfl rfl (st_selT [true, true, true] h) (fun w_ hS => ov_fieldAddr _ ⟨b19, 4, none⟩ _ rfl fo34_4 rfl) ?_
           refine wa_tk 24 rfl rfl rfl (st_selT [true, true, true] h) (fun w_ hS => ov_loadb 0 _ hS rfl rfl sh29 rfl) ?_
           refine wa_tk 25 rfl rfl rfl (st_selT [true, true, true] h) (fun w_ hS => ov_len _ _ _ _ _ rfl es29) ?_
           refine wa_tk 26 rfl rfl rfl (st_selT [true, true, true] h) (fun w_ hS => ov_bin _ rfl rfl (binR_gtr)) ?_
           refine wa_tk 27 rfl rfl rfl (st_selT [true, true, true] h) (fun w_ hS => ov_pick_false _ rfl rfl) ?_
           refine wa_tk 28 rfl rfl rfl (st_selT [true, true, true] h) (fun w_ hS => ov_move _ rfl) ?_
           refine wa_split 172 rfl (fun c37 => ?_) (fun c37 => ?_)
           ·
            refine wa_sk 29 rfl rfl rfl (st_selT [true, true, true] h) ?_
            refine wa_sk 30 rfl rfl rfl (st_selT [true, true, true] h) ?_
            refine wa_sk 31 rfl rfl rfl (st_selT [true, true, true] h) ?_
            refine wa_sk 32 rfl rfl rfl (st_selT [true, true, true] h) ?_
            refine wa_sk 33 rfl rfl rfl (st_selT [true, true, true] h) ?_
            refine wa_sk 34 rfl rfl rfl (st_selT [true, true, true] h) ?_
            refine wa_sk 35 rfl rfl rfl (st_selT [true, true, true] h) ?_
            refine wa_sk 36 rfl rfl rfl (st_selT [true, true, true] h) ?_
            refine wa_sk 37 rfl rfl rfl (st_selT [true, true, true] h) ?_
            refine wa_tk 38 rfl rfl rfl (st_selT [true, true, true] h) (fun w_ hS => ov_pick_true _ rfl rfl) ?_
            refine wa_done (by kernel_rfl) ?_
            refine qn_then ?_
            refine wc_cond_true rfl ?_
            refine wc_seq ?_
            refine wc_region ?_
            refine wl_v rfl rfl (ov_assign _ rfl) ?_
            refine wl_v rfl rfl (ov_assign _ rfl) ?_
            refine wl_nil ?_
            refine qn_then ?_
            refine wc_ret ?_
            refine qn_then_ret ?_
            refine qn_block_ret ?_
            refine qn_then_ret ?_
            refine qn_block_ret ?_
            refine qn_then_ret ?_
            refine qn_then_ret ?_
            refine qn_block_ret ?_
            refine qn_then_ret ?_
            replace h := st_selT [false, false, false] h
            refine qn_ret [_, _] ⟨rfl, rfl, trivial⟩ ?_
            have hpg_ : Pure.pgs x ((rs).getD k z34).f0 = (x.getD (((rs).getD k z34).f0 : Int).toNat z31).f0 := rfl
            have e_ := Pure.ref_none (x := x) (rs := rs) (k := k + 1) (by omega) (by rw [Pure.rfold, hJ.1]; exact Lib.rx_none hpg_ hJ.2.2.1 (by omega))
            rw [e_]
            exact ⟨none, 0, rfl, Nat.le_refl _, Kd.C_nil _ _, h⟩
           ·
            refine wa_tk 29 rfl rfl rfl (st_selT [true, true, true] h) (fun w_ hS => ov_move _ rfl) ?_
            refine wa_tk 30 rfl rfl rfl (st_selT [true, true, true] h) (fun w_ hS => ov_bin _ rfl rfl (binR_geq)) ?_
            refine wa_tk 31 rfl rfl rfl (st_selT [true, true, true] h) (fun w_ hS => ov_move _ rfl) ?_
            refine wa_split 175 rfl (fun c38 => ?_) (fun c38 => ?_)
            ·
             refine wa_tk 32 rfl rfl rfl (st_selT [true, true, true] h) (fun w_ hS => ov_fieldAddr _ ⟨b19, 0, none⟩ _ rfl fo34_0 rfl) ?_
             refine wa_tk 33 rfl rfl rfl (st_selT [true, true, true] h) (fun w_ hS => ov_loadb 0 _ hS rfl rfl sh3 rfl) ?_
             refine wa_tk 34 rfl rfl rfl (st_selT [true, true, true] h) (fun w_ hS => ov_move _ rfl) ?_
             refine wa_tk 35 rfl rfl rfl (st_selT [true, true, true] h) (fun w_ hS => ov_bin _ rfl rfl (binR_add (r := ((t).last) + 1) (Sx.w64 (by omega)))) ?_
             refine wa_tk 36 rfl rfl rfl (st_selT [true, true, true] h) (fun w_ hS => ov_bin _ rfl rfl (binR_neq)) ?_
             refine wa_tk 37 rfl rfl rfl (st_selT [true, true, true] h) (fun w_ hS => ov_pick_true _ rfl rfl) ?_
             refine wa_tk 38 rfl rfl rfl (st_selT [true, true, true] h) (fun w_ hS => ov_pick_false _ rfl rfl) ?_
             refine wa_done (by kernel_rfl) ?_
             refine qn_then ?_
             refine wc_cond (by rfl) (fun c39 => ?_) (fun c39 => ?_)
             ·
              refine wc_seq ?_
              refine wc_region ?_
              refine wl_v rfl rfl (ov_assign _ rfl) ?_
              refine wl_v rfl rfl (ov_assign _ rfl) ?_
              refine wl_nil ?_
              refine qn_then ?_
              refine wc_ret ?_
              refine qn_then_ret ?_
              refine qn_block_ret ?_
              refine qn_then_ret ?_
              refine qn_block_ret ?_
              refine qn_then_ret ?_
              refine qn_then_ret ?_
              refine qn_block_ret ?_
              refine qn_then_ret ?_
              replace h := st_selT [false, false, false] h
              refine qn_ret [_, _] ⟨rfl, rfl, trivial⟩ ?_
              have hpg_ : Pure.pgs x ((rs).getD k z34).f0 = (x.getD (((rs).getD k z34).f0 : Int).toNat z31).f0 := rfl
              have e_ := Pure.ref_none (x := x) (rs := rs) (k := k + 1) (by omega) (by rw [Pure.rfold, hJ.1]; exact Lib.rx_none hpg_ hJ.2.2.1 (by omega))
              rw [e_]
              exact ⟨none, 0, rfl, Nat.le_refl _, Kd.C_nil _ _, h⟩
             ·
              refine wc_skip ?_
              refine qn_then ?_
              refine wc_seq ?_
              refine wc_region ?_
              refine wl_v rfl rfl (ov_move _ rfl) ?_
              refine wl_v rfl rfl (ov_bin _ rfl rfl (binR_lss)) ?_
              refine wl_nil ?_
              refine qn_then ?_
              refine wc_cond (by rfl) (fun c40 => ?_) (fun c40 => ?_)
              ·
               refine wc_region ?_
               refine wl_v rfl rfl (ov_fieldAddr _ ⟨b19, 0, none⟩ _ rfl fo34_0 rfl) ?_
               refine wl_v rfl rfl (ov_loadb 0 _ h rfl rfl sh3 rfl) ?_
               refine wl_v rfl rfl (ov_assign _ rfl) ?_
               refine wl_nil ?_
               refine qn_block_normal ?_
               refine qn_then ?_
               refine wc_region ?_
               refine wl_v rfl rfl (ov_fieldAddr _ ⟨b19, 0, none⟩ _ rfl fo34_0 rfl) ?_
               refine wl_v rfl rfl (ov_loadb 0 _ h rfl rfl sh3 rfl) ?_
               refine wl_v rfl rfl (ov_assign _ rfl) ?_
               refine wl_nil ?_
               refine qn_block_normal ?_
               refine qn_then ?_
               refine wc_region ?_
               refine wl_v rfl rfl (ov_move _ rfl) ?_
               refine wl_v rfl rfl (ov_bin _ rfl rfl (binR_add (r := ((k : Int)) + 1) (Sx.w64 (by omega)))) ?_
               refine wl_v rfl rfl (ov_assign _ rfl) ?_
               refine wl_nil ?_
               have hpg_ : Pure.pgs x ((rs).getD k z34).f0 = (x.getD (((rs).getD k z34).f0 : Int).toNat z31).f0 := rfl
               have hst_ := Lib.rx_gone (t := t) (kp := (((rs).getD k z34)).f0) hpg_ hJ.2.2.1 (by omega) (by omega) (by omega) (by split <;> omega)
               replace h := st_front 2 h
               replace h := st_front 2 h
               replace h := st_selT [true, true, false] h
               refine qn_next ((k + 1), A, c, (Ps), (⟨(Ps).map (·.1), ((rs).getD k z34).f0, (((rs).getD k z34)).f0⟩ : Pure.RSt)) (by show rs.length - (k + 1) < rs.length - k; omega) ⟨(congrArg (fun z_ => some (Value.slice (some ad28) z_ (cx))) (show (x.length : Nat) = x.length by first | rfl | simp)), (congrArg (fun z_ => some (Value.slice (some ad11) z_ (crs))) (show (rs.length : Nat) = rs.length by first | rfl | simp)), (congrArg (fun z_ => some (Value.slice (A) z_ (c))) (show (Ps.length : Nat) = (Ps).length by first | rfl | simp)), (congrArg (fun z_ => some (Value.int .i64 z_)) (show ((((rs).getD k z34)).f0 : Int) = ((⟨(Ps).map (·.1), ((rs).getD k z34).f0, (((rs).getD k z34)).f0⟩ : Pure.RSt)).last by rfl)), (congrArg (fun z_ => some (Value.int .i64 z_)) (show ((((rs).getD k z34)).f0 : Int) = ((⟨(Ps).map (·.1), ((rs).getD k z34).f0, (((rs).getD k z34)).f0⟩ : Pure.RSt)).keep by rfl)), (congrArg (fun z_ => some (Value.int .i64 z_)) (show (((k : Int)) + 1 : Int) = ((k + 1) : Int) by omega)), trivial⟩ ?_
               show (Pure.rfold x rs (k + 1) = some (⟨(Ps).map (·.1), ((rs).getD k z34).f0, (((rs).getD k z34)).f0⟩ : Pure.RSt) ∧ (k + 1) ≤ rs.length ∧ ((Ps)).map (·.1) = ((⟨(Ps).map (·.1), ((rs).getD k z34).f0, (((rs).getD k z34)).f0⟩ : Pure.RSt)).out ∧ Pure.RInv x (k + 1) (⟨(Ps).map (·.1), ((rs).getD k z34).f0, (((rs).getD k z34)).f0⟩ : Pure.RSt)) ∧ _
               exact ⟨⟨by rw [Pure.rfold, hJ.1]; exact hst_, by omega, rfl, Pure.rinv_step (by omega) hJ.2.2.2 hst_⟩, h⟩
              ·
               refine wc_skip ?_
               refine qn_block_normal ?_
               refine qn_then ?_
               refine wc_region ?_
               refine wl_v rfl rfl (ov_fieldAddr _ ⟨b19, 0, none⟩ _ rfl fo34_0 rfl) ?_
               refine wl_v rfl rfl (ov_loadb 0 _ h rfl rfl sh3 rfl) ?_
               refine wl_v rfl rfl (ov_assign _ rfl) ?_
               refine wl_nil ?_
               refine qn_block_normal ?_
               refine qn_then ?_
               refine wc_region ?_
               refine wl_v rfl rfl (ov_move _ rfl) ?_
               refine wl_v rfl rfl (ov_bin _ rfl rfl (binR_add (r := ((k : Int)) + 1) (Sx.w64 (by omega)))) ?_
               refine wl_v rfl rfl (ov_assign _ rfl) ?_
               refine wl_nil ?_
               have hpg_ : Pure.pgs x ((rs).getD k z34).f0 = (x.getD (((rs).getD k z34).f0 : Int).toNat z31).f0 := rfl
               have hst_ := Lib.rx_gone (t := t) (kp := (t).keep) hpg_ hJ.2.2.1 (by omega) (by omega) (by omega) (by split <;> omega)
               replace h := st_front 2 h
               replace h := st_front 2 h
               replace h := st_selT [true, true, false] h
               refine qn_next ((k + 1), A, c, (Ps), (⟨(Ps).map (·.1), ((rs).getD k z34).f0, (t).keep⟩ : Pure.RSt)) (by show rs.length - (k + 1) < rs.length - k; omega) ⟨(congrArg (fun z_ => some (Value.slice (some ad28) z_ (cx))) (show (x.length : Nat) = x.length by first | rfl | simp)), (congrArg (fun z_ => some (Value.slice (some ad11) z_ (crs))) (show (rs.length : Nat) = rs.length by first | rfl | simp)), (congrArg (fun z_ => some (Value.slice (A) z_ (c))) (show (Ps.length : Nat) = (Ps).length by first | rfl | simp)), (congrArg (fun z_ => some (Value.int .i64 z_)) (show ((((rs).getD k z34)).f0 : Int) = ((⟨(Ps).map (·.1), ((rs).getD k z34).f0, (t).keep⟩ : Pure.RSt)).last by rfl)), (congrArg (fun z_ => some (Value.int .i64 z_)) (show ((t).keep : Int) = ((⟨(Ps).map (·.1), ((rs).getD k z34).f0, (t).keep⟩ : Pure.RSt)).keep by rfl)), (congrArg (fun z_ => some (Value.int .i64 z_)) (show (((k : Int)) + 1 : Int) = ((k + 1) : Int) by omega)), trivial⟩ ?_
               show (Pure.rfold x rs (k + 1) = some (⟨(Ps).map (·.1), ((rs).getD k z34).f0, (t).keep⟩ : Pure.RSt) ∧ (k + 1) ≤ rs.length ∧ ((Ps)).map (·.1) = ((⟨(Ps).map (·.1), ((rs).getD k z34).f0, (t).keep⟩ : Pure.RSt)).out ∧ Pure.RInv x (k + 1) (⟨(Ps).map (·.1), ((rs).getD k z34).f0, (t).keep⟩ : Pure.RSt)) ∧ _
               exact ⟨⟨by rw [Pure.rfold, hJ.1]; exact hst_, by omega, rfl, Pure.rinv_step (by omega) hJ.2.2.2 hst_⟩, h⟩
            ·
             exact absurd c21 c38
       ·
        refine wc_seq ?_
        refine wc_region ?_
        refine wl_v rfl rfl (ov_assign _ rfl) ?_
        refine wl_v rfl rfl (ov_assign _ rfl) ?_
        refine wl_nil ?_
        refine qn_then ?_
        refine wc_ret ?_
        refine qn_block_ret ?_
        refine qn_then_ret ?_
        refine qn_block_ret ?_
        refine qn_then_ret ?_
        refine qn_then_ret ?_
        refine qn_block_ret ?_
        refine qn_then_ret ?_
        replace h := st_selT [false, false, false] h
        refine qn_ret [_, _] ⟨rfl, rfl, trivial⟩ ?_
        have hpg_ : Pure.pgs x ((rs).getD k z34).f0 = (x.getD (((rs).getD k z34).f0 : Int).toNat z31).f0 := rfl
        have e_ := Pure.ref_none (x := x) (rs := rs) (k := k + 1) (by omega) (by rw [Pure.rfold, hJ.1]; exact Lib.rx_none hpg_ hJ.2.2.1 (by omega))
        rw [e_]
        exact ⟨none, 0, rfl, Nat.le_refl _, Kd.C_nil _ _, h⟩
   ·
    refine wl_skip rfl rfl ?_
    refine wl_skip rfl rfl ?_
    refine wl_skip rfl rfl ?_
    refine wl_v rfl rfl (ov_pick_false _ rfl rfl) ?_
    refine wl_v rfl rfl (ov_pick_false _ rfl rfl) ?_
    refine wl_nil ?_
    refine qn_then ?_
    refine wc_cond_false rfl ?_
    refine wc_skip ?_
    refine qn_then ?_
    refine wc_seq ?_
    refine wc_seq ?_
    refine wc_region ?_
    refine wl_v rfl rfl (ov_fieldAddr _ ⟨b19, 1, none⟩ _ rfl fo34_1 rfl) ?_
    refine wl_v rfl rfl (ov_loadb 0 _ h rfl rfl sh3 rfl) ?_
    refine wl_nil ?_
    refine qn_then ?_
    refine wc_block ?_
    refine wc_seq ?_
    refine wc_region ?_
    refine wl_v rfl rfl (ov_bin _ rfl rfl (binR_eql)) ?_
    refine wl_v rfl rfl (ov_assign _ rfl) ?_
    refine wl_nil ?_
    refine qn_then ?_
    refine wc_cond (by rfl) (fun c41 => ?_) (fun c41 => ?_)
    ·
     have hs40_ := (hsh ((rs).getD k z34) (by rw [List.getD_eq_getElem?_getD, List.getElem?_eq_getElem (by omega)]; exact List.getElem_mem _)).1
     refine wc_seq ?_
     refine wc_seq ?_
     refine wc_draw (fun w => Sx.St w0 F0 ([Sx.blk b19 [.int .i64 ((((rs).getD k z34)).f0), .int .i64 ((((rs).getD k z34)).f1), .int .i64 ((((rs).getD k z34)).f2), .int .i64 ((((rs).getD k z34)).f3), .slice (A15) (((((rs).getD k z34)).f4).length) (cp16)] 34, Sx.row Lib.kP 31 (A) (c) (Ps), Lib.libO v0 (Lib.AllP Ps)] ++ R) w) (by kernel_rfl) ?_
     replace h := st_drew h
     refine wa_tk 0 rfl rfl rfl (st_selT [true, true, true] h) (fun w_ hS => ov_fieldAddr _ ⟨b19, 0, none⟩ _ rfl fo34_0 rfl) ?_
     refine wa_tk 1 rfl rfl rfl (st_selT [true, true, true] h) (fun w_ hS => ov_loadb 0 _ hS rfl rfl sh3 rfl) ?_
     refine wa_tk 2 rfl rfl rfl (st_selT [true, true, true] h) (fun w_ hS => ov_move _ rfl) ?_
     refine wa_tk 3 rfl rfl rfl (st_selT [true, true, true] h) (fun w_ hS => ov_len _ _ _ _ _ rfl es22) ?_
     refine wa_tk 4 rfl rfl rfl (st_selT [true, true, true] h) (fun w_ hS => ov_bin _ rfl rfl (binR_geq)) ?_
     refine wa_tk 5 rfl rfl rfl (st_selT [true, true, true] h) (fun w_ hS => ov_move _ rfl) ?_
     refine wa_split 47 rfl (fun c42 => ?_) (fun c42 => ?_)
     ·
      refine wa_sk 6 rfl rfl rfl (st_selT [true, true, true] h) ?_
      refine wa_sk 7 rfl rfl rfl (st_selT [true, true, true] h) ?_
      refine wa_sk 8 rfl rfl rfl (st_selT [true, true, true] h) ?_
      refine wa_tk 9 rfl rfl rfl (st_selT [true, true, true] h) (fun w_ hS => ov_pick_true _ rfl rfl) ?_
      refine wa_tk 10 rfl rfl rfl (st_selT [true, true, true] h) (fun w_ hS => ov_move _ rfl) ?_
      refine wa_sk 11 rfl rfl rfl (st_selT [true, true, true] h) ?_
      refine wa_sk 12 rfl rfl rfl (st_selT [true, true, true] h) ?_
      refine wa_sk 13 rfl rfl rfl (st_selT [true, true, true] h) ?_
      refine wa_tk 14 rfl rfl rfl (st_selT [true, true, true] h) (fun w_ hS => ov_pick_true _ rfl rfl) ?_
      refine wa_tk 15 rfl rfl rfl (st_selT [true, true, true] h) (fun w_ hS => ov_move _ rfl) ?_
      refine wa_sk 16 rfl rfl rfl (st_selT [true, true, true] h) ?_
      refine wa_sk 17 rfl rfl rfl (st_selT [true, true, true] h) ?_
      refine wa_sk 18 rfl rfl rfl (st_selT [true, true, true] h) ?_
      refine wa_sk 19 rfl rfl rfl (st_selT [true, true, true] h) ?_
      refine wa_sk 20 rfl rfl rfl (st_selT [true, true, true] h) ?_
      refine wa_sk 21 rfl rfl rfl (st_selT [true, true, true] h) ?_
      refine wa_sk 22 rfl rfl rfl (st_selT [true, true, true] h) ?_
      refine wa_sk 23 rfl rfl rfl (st_selT [true, true, true] h) ?_
      refine wa_sk 24 rfl rfl rfl (st_selT [true, true, true] h) ?_
      refine wa_sk 25 rfl rfl rfl (st_selT [true, true, true] h) ?_
      refine wa_tk 26 rfl rfl rfl (st_selT [true, true, true] h) (fun w_ hS => ov_pick_true _ rfl rfl) ?_
      refine wa_tk 27 rfl rfl rfl (st_selT [true, true, true] h) (fun w_ hS => ov_move _ rfl) ?_
      refine wa_sk 28 rfl rfl rfl (st_selT [true, true, true] h) ?_
      refine wa_sk 29 rfl rfl rfl (st_selT [true, true, true] h) ?_
      refine wa_sk 30 rfl rfl rfl (st_selT [true, true, true] h) ?_
      refine wa_sk 31 rfl rfl rfl (st_selT [true, true, true] h) ?_
      refine wa_sk 32 rfl rfl rfl (st_selT [true, true, true] h) ?_
      refine wa_sk 33 rfl rfl rfl (st_selT [true, true, true] h) ?_
      refine wa_sk 34 rfl rfl rfl (st_selT [true, true, true] h) ?_
      refine wa_sk 35 rfl rfl rfl (st_selT [true, true, true] h) ?_
      refine wa_sk 36 rfl rfl rfl (st_selT [true, true, true] h) ?_
      refine wa_sk 37 rfl rfl rfl (st_selT [true, true, true] h) ?_
      refine wa_sk 38 rfl rfl rfl (st_selT [true, true, true] h) ?_
      refine wa_sk 39 rfl rfl rfl (st_selT [true, true, true] h) ?_
      refine wa_sk 40 rfl rfl rfl (st_selT [true, true, true] h) ?_
      refine wa_tk 41 rfl rfl rfl (st_selT [true, true, true] h) (fun w_ hS => ov_pick_true _ rfl rfl) ?_
      refine wa_done (by kernel_rfl) ?_
      refine qn_then ?_
      refine wc_cond_true rfl ?_
      refine wc_seq ?_
      refine wc_region ?_
      refine wl_v rfl rfl (ov_assign _ rfl) ?_
      refine wl_v rfl rfl (ov_assign _ rfl) ?_
      refine wl_nil ?_
      refine qn_then ?_
      refine wc_ret ?_
      refine qn_then_ret ?_
      refine qn_block_ret ?_
      refine qn_then_ret ?_
      refine qn_block_ret ?_
      refine qn_then_ret ?_
      refine qn_then_ret ?_
      refine qn_block_ret ?_
      refine qn_then_ret ?_
      replace h := st_selT [false, false, false] h
      refine qn_ret [_, _] ⟨rfl, rfl, trivial⟩ ?_
      have hpg_ : Pure.pgs x ((rs).getD k z34).f0 = (x.getD (((rs).getD k z34).f0 : Int).toNat z31).f0 := rfl
      have e_ := Pure.ref_none (x := x) (rs := rs) (k := k + 1) (by omega) (by rw [Pure.rfold, hJ.1]; exact Lib.rx_none hpg_ hJ.2.2.1 (by omega))
      rw [e_]
      exact ⟨none, 0, rfl, Nat.le_refl _, Kd.C_nil _ _, h⟩
     ·
      have hpl_ := (Pure.few_at hFx ((rs).getD k z34).f0 (by omega) (by omega)).1
      replace hpl_ : ((x.getD (((rs).getD k z34).f0 : Int).toNat z31).f0).length ≤ 40 := hpl_
      refine wa_tk 6 rfl rfl rfl (st_selT [true, true, true] h) (fun w_ hS => ov_fieldAddr _ ⟨b19, 2, none⟩ _ rfl fo34_2 rfl) ?_
      refine wa_tk 7 rfl rfl rfl (st_selT [true, true, true] h) (fun w_ hS => ov_loadb 0 _ hS rfl rfl sh3 rfl) ?_
      refine wa_tk 8 rfl rfl rfl (st_selT [true, true, true] h) (fun w_ hS => ov_bin _ rfl rfl (binR_lss)) ?_
      refine wa_tk 9 rfl rfl rfl (st_selT [true, true, true] h) (fun w_ hS => ov_pick_false _ rfl rfl) ?_
      refine wa_tk 10 rfl rfl rfl (st_selT [true, true, true] h) (fun w_ hS => ov_move _ rfl) ?_
      refine wa_split 52 rfl (fun c43 => ?_) (fun c43 => ?_)
      ·
       refine wa_sk 11 rfl rfl rfl (st_selT [true, true, true] h) ?_
       refine wa_sk 12 rfl rfl rfl (st_selT [true, true, true] h) ?_
       refine wa_sk 13 rfl rfl rfl (st_selT [true, true, true] h) ?_
       refine wa_tk 14 rfl rfl rfl (st_selT [true, true, true] h) (fun w_ hS => ov_pick_true _ rfl rfl) ?_
       refine wa_tk 15 rfl rfl rfl (st_selT [true, true, true] h) (fun w_ hS => ov_move _ rfl) ?_
       refine wa_sk 16 rfl rfl rfl (st_selT [true, true, true] h) ?_
       refine wa_sk 17 rfl rfl rfl (st_selT [true, true, true] h) ?_
       refine wa_sk 18 rfl rfl rfl (st_selT [true, true, true] h) ?_
       refine wa_sk 19 rfl rfl rfl (st_selT [true, true, true] h) ?_
       refine wa_sk 20 rfl rfl rfl (st_selT [true, true, true] h) ?_
       refine wa_sk 21 rfl rfl rfl (st_selT [true, true, true] h) ?_
       refine wa_sk 22 rfl rfl rfl (st_selT [true, true, true] h) ?_
       refine wa_sk 23 rfl rfl rfl (st_selT [true, true, true] h) ?_
       refine wa_sk 24 rfl rfl rfl (st_selT [true, true, true] h) ?_
       refine wa_sk 25 rfl rfl rfl (st_selT [true, true, true] h) ?_
       refine wa_tk 26 rfl rfl rfl (st_selT [true, true, true] h) (fun w_ hS => ov_pick_true _ rfl rfl) ?_
       refine wa_tk 27 rfl rfl rfl (st_selT [true, true, true] h) (fun w_ hS => ov_move _ rfl) ?_
       refine wa_sk 28 rfl rfl rfl (st_selT [true, true, true] h) ?_
       refine wa_sk 29 rfl rfl rfl (st_selT [true, true, true] h) ?_
       refine wa_sk 30 rfl rfl rfl (st_selT [true, true, true] h) ?_
       refine wa_sk 31 rfl rfl rfl (st_selT [true, true, true] h) ?_
       refine wa_sk 32 rfl rfl rfl (st_selT [true, true, true] h) ?_
       refine wa_sk 33 rfl rfl rfl (st_selT [true, true, true] h) ?_
       refine wa_sk 34 rfl rfl rfl (st_selT [true, true, true] h) ?_
       refine wa_sk 35 rfl rfl rfl (st_selT [true, true, true] h) ?_
       refine wa_sk 36 rfl rfl rfl (st_selT [true, true, true] h) ?_
       refine wa_sk 37 rfl rfl rfl (st_selT [true, true, true] h) ?_
       refine wa_sk 38 rfl rfl rfl (st_selT [true, true, true] h) ?_
       refine wa_sk 39 rfl rfl rfl (st_selT [true, true, true] h) ?_
       refine wa_sk 40 rfl rfl rfl (st_selT [true, true, true] h) ?_
       refine wa_tk 41 rfl rfl rfl (st_selT [true, true, true] h) (fun w_ hS => ov_pick_true _ rfl rfl) ?_
       refine wa_done (by kernel_rfl) ?_
       refine qn_then ?_
       refine wc_cond_true rfl ?_
       refine wc_seq ?_
       refine wc_region ?_
       refine wl_v rfl rfl (ov_assign _ rfl) ?_
       refine wl_v rfl rfl (ov_assign _ rfl) ?_
       refine wl_nil ?_
       refine qn_then ?_
       refine wc_ret ?_
       refine qn_then_ret ?_
       refine qn_block_ret ?_
       refine qn_then_ret ?_
       refine qn_block_ret ?_
       refine qn_then_ret ?_
       refine qn_then_ret ?_
       refine qn_block_ret ?_
       refine qn_then_ret ?_
       replace h := st_selT [false, false, false] h
       refine qn_ret [_, _] ⟨rfl, rfl, trivial⟩ ?_
       have hpg_ : Pure.pgs x ((rs).getD k z34).f0 = (x.getD (((rs).getD k z34).f0 : Int).toNat z31).f0 := rfl
       have e_ := Pure.ref_none (x := x) (rs := rs) (k := k + 1) (by omega) (by rw [Pure.rfold, hJ.1]; exact Lib.rx_none hpg_ hJ.2.2.1 (by omega))
       rw [e_]
       exact ⟨none, 0, rfl, Nat.le_refl _, Kd.C_nil _ _, h⟩
      ·
       refine wa_tk 11 rfl rfl rfl (st_selT [true, true, true] h) (fun w_ hS => ov_fieldAddr _ ⟨b19, 3, none⟩ _ rfl fo34_3 rfl) ?_
       refine wa_tk 12 rfl rfl rfl (st_selT [true, true, true] h) (fun w_ hS => ov_loadb 0 _ hS rfl rfl sh3 rfl) ?_
       refine wa_tk 13 rfl rfl rfl (st_selT [true, true, true] h) (fun w_ hS => ov_bin _ rfl rfl (binR_lss)) ?_
       refine wa_tk 14 rfl rfl rfl (st_selT [true, true, true] h) (fun w_ hS => ov_pick_false _ rfl rfl) ?_
       refine wa_tk 15 rfl rfl rfl (st_selT [true, true, true] h) (fun w_ hS => ov_move _ rfl) ?_
       refine wa_split 57 rfl (fun c44 => ?_) (fun c44 => ?_)
       ·
        refine wa_sk 16 rfl rfl rfl (st_selT [true, true, true] h) ?_
        refine wa_sk 17 rfl rfl rfl (st_selT [true, true, true] h) ?_
        refine wa_sk 18 rfl rfl rfl (st_selT [true, true, true] h) ?_
        refine wa_sk 19 rfl rfl rfl (st_selT [true, true, true] h) ?_
        refine wa_sk 20 rfl rfl rfl (st_selT [true, true, true] h) ?_
        refine wa_sk 21 rfl rfl rfl (st_selT [true, true, true] h) ?_
        refine wa_sk 22 rfl rfl rfl (st_selT [true, true, true] h) ?_
        refine wa_sk 23 rfl rfl rfl (st_selT [true, true, true] h) ?_
        refine wa_sk 24 rfl rfl rfl (st_selT [true, true, true] h) ?_
        refine wa_sk 25 rfl rfl rfl (st_selT [true, true, true] h) ?_
        refine wa_tk 26 rfl rfl rfl (st_selT [true, true, true] h) (fun w_ hS => ov_pick_true _ rfl rfl) ?_
        refine wa_tk 27 rfl rfl rfl (st_selT [true, true, true] h) (fun w_ hS => ov_move _ rfl) ?_
        refine wa_sk 28 rfl rfl rfl (st_selT [true, true, true] h) ?_
        refine wa_sk 29 rfl rfl rfl (st_selT [true, true, true] h) ?_
        refine wa_sk 30 rfl rfl rfl (st_selT [true, true, true] h) ?_
        refine wa_sk 31 rfl rfl rfl (st_selT [true, true, true] h) ?_
        refine wa_sk 32 rfl rfl rfl (st_selT [true, true, true] h) ?_
        refine wa_sk 33 rfl rfl rfl (st_selT [true, true, true] h) ?_
        refine wa_sk 34 rfl rfl rfl (st_selT [true, true, true] h) ?_
        refine wa_sk 35 rfl rfl rfl (st_selT [true, true, true] h) ?_
        refine wa_sk 36 rfl rfl rfl (st_selT [true, true, true] h) ?_
        refine wa_sk 37 rfl rfl rfl (st_selT [true, true, true] h) ?_
        refine wa_sk 38 rfl rfl rfl (st_selT [true, true, true] h) ?_
        refine wa_sk 39 rfl rfl rfl (st_selT [true, true, true] h) ?_
        refine wa_sk 40 rfl rfl rfl (st_selT [true, true, true] h) ?_
        refine wa_tk 41 rfl rfl rfl (st_selT [true, true, true] h) (fun w_ hS => ov_pick_true _ rfl rfl) ?_
        refine wa_done (by kernel_rfl) ?_
        refine qn_then ?_
        refine wc_cond_true rfl ?_
        refine wc_seq ?_
        refine wc_region ?_
        refine wl_v rfl rfl (ov_assign _ rfl) ?_
        refine wl_v rfl rfl (ov_assign _ rfl) ?_
        refine wl_nil ?_
        refine qn_then ?_
        refine wc_ret ?_
        refine qn_then_ret ?_
        refine qn_block_ret ?_
        refine qn_then_ret ?_
        refine qn_block_ret ?_
        refine qn_then_ret ?_
        refine qn_then_ret ?_
        refine qn_block_ret ?_
        refine qn_then_ret ?_
        replace h := st_selT [false, false, false] h
        refine qn_ret [_, _] ⟨rfl, rfl, trivial⟩ ?_
        have hpg_ : Pure.pgs x ((rs).getD k z34).f0 = (x.getD (((rs).getD k z34).f0 : Int).toNat z31).f0 := rfl
        have e_ := Pure.ref_none (x := x) (rs := rs) (k := k + 1) (by omega) (by rw [Pure.rfold, hJ.1]; exact Lib.rx_none hpg_ hJ.2.2.1 (by omega))
        rw [e_]
        exact ⟨none, 0, rfl, Nat.le_refl _, Kd.C_nil _ _, h⟩
       ·
        refine wa_tk 16 rfl rfl rfl (st_selT [true, true, true] h) (fun w_ hS => ov_fieldAddr _ ⟨b19, 2, none⟩ _ rfl fo34_2 rfl) ?_
        refine wa_tk 17 rfl rfl rfl (st_selT [true, true, true] h) (fun w_ hS => ov_loadb 0 _ hS rfl rfl sh3 rfl) ?_
        refine wa_tk 18 rfl rfl rfl (st_selT [true, true, true] h) (fun w_ hS => ov_move _ rfl) ?_
        refine wa_tk 19 rfl rfl rfl (st_selT [true, true, true] h) (fun w_ hS => ov_fieldAddr _ ⟨b19, 0, none⟩ _ rfl fo34_0 rfl) ?_
        refine wa_tk 20 rfl rfl rfl (st_selT [true, true, true] h) (fun w_ hS => ov_loadb 0 _ hS rfl rfl sh3 rfl) ?_
        obtain ⟨ad45, rfl⟩ := Sx.C_some ((Sx.ro_C hv h hCx)) (k := ((((rs).getD k z34)).f0 : Int).toNat) (by first | assumption | omega)
        refine wa_tk 21 rfl rfl rfl (st_selT [true, true, true] h) (fun w_ hS => ov_indexAddrN _ _ _ _ _ ((((rs).getD k z34)).f0 : Int).toNat rfl rfl es22 (by omega) (by first | assumption | omega | (simp only [List.length_take, List.length_drop, List.length_set]; omega))) ?_
        refine wa_tk 22 rfl rfl rfl (st_selT [true, true, true] h) (fun w_ hS => ov_fieldAddr _ ((ad45).add (((((rs).getD k z34)).f0 : Int).toNat * 1 + 0)) _ rfl fo31_0 (by first | exact Deep.add_add _ _ _ | (rw [Deep.add_add]) | rfl)) ?_
        obtain ⟨cl48, _, hk47, hc46⟩ := Sx.C_cells (hCx) (z := z31) (k := ((((rs).getD k z34)).f0 : Int).toNat) (by first | assumption | omega)
        obtain ⟨A49, cp50, rfl, hl51, hn52⟩ := k31_open hk47
        refine wa_tk 23 rfl rfl rfl (st_selT [true, true, true] h) (fun w_ hS => ov_load1 _ _ rfl sh29 (Sx.ro_cell hv hS (hc46 0 _ rfl))) ?_
        refine wa_tk 24 rfl rfl rfl (st_selT [true, true, true] h) (fun w_ hS => ov_len _ _ _ _ _ rfl es29) ?_
        refine wa_tk 25 rfl rfl rfl (st_selT [true, true, true] h) (fun w_ hS => ov_bin _ rfl rfl (binR_gtr)) ?_
        refine wa_tk 26 rfl rfl rfl (st_selT [true, true, true] h) (fun w_ hS => ov_pick_false _ rfl rfl) ?_
        refine wa_tk 27 rfl rfl rfl (st_selT [true, true, true] h) (fun w_ hS => ov_move _ rfl) ?_
        refine wa_split 69 rfl (fun c53 => ?_) (fun c53 => ?_)
        ·
         refine wa_sk 28 rfl rfl rfl (st_selT [true, true, true] h) ?_
         refine wa_sk 29 rfl rfl rfl (st_selT [true, true, true] h) ?_
         refine wa_sk 30 rfl rfl rfl (st_selT [true, true, true] h) ?_
         refine wa_sk 31 rfl rfl rfl (st_selT [true, true, true] h) ?_
         refine wa_sk 32 rfl rfl rfl (st_selT [true, true, true] h) ?_
         refine wa_sk 33 rfl rfl rfl (st_selT [true, true, true] h) ?_
         refine wa_sk 34 rfl rfl rfl (st_selT [true, true, true] h) ?_
         refine wa_sk 35 rfl rfl rfl (st_selT [true, true, true] h) ?_
         refine wa_sk 36 rfl rfl rfl (st_selT [true, true, true] h) ?_
         refine wa_sk 37 rfl rfl rfl (st_selT [true, true, true] h) ?_
         refine wa_sk 38 rfl rfl rfl (st_selT [true, true, true] h) ?_
         refine wa_sk 39 rfl rfl rfl (st_selT [true, true, true] h) ?_
         refine wa_sk 40 rfl rfl rfl (st_selT [true, true, true] h) ?_
         refine wa_tk 41 rfl rfl rfl (st_selT [true, true, true] h) (fun w_ hS => ov_pick_true _ rfl rfl) ?_
         refine wa_done (by kernel_rfl) ?_
         refine qn_then ?_
         refine wc_cond_true rfl ?_
         refine wc_seq ?_
         refine wc_region ?_
         refine wl_v rfl rfl (ov_assign _ rfl) ?_
         refine wl_v rfl rfl (ov_assign _ rfl) ?_
         refine wl_nil ?_
         refine qn_then ?_
         refine wc_ret ?_
         refine qn_then_ret ?_
         refine qn_block_ret ?_
         refine qn_then_ret ?_
         refine qn_block_ret ?_
         refine qn_then_ret ?_
         refine qn_then_ret ?_
         refine qn_block_ret ?_
         refine qn_then_ret ?_
         replace h := st_selT [false, false, false] h
         refine qn_ret [_, _] ⟨rfl, rfl, trivial⟩ ?_
         have hpg_ : Pure.pgs x ((rs).getD k z34).f0 = (x.getD (((rs).getD k z34).f0 : Int).toNat z31).f0 := rfl
         have e_ := Pure.ref_none (x := x) (rs := rs) (k := k + 1) (by omega) (by rw [Pure.rfold, hJ.1]; exact Lib.rx_none hpg_ hJ.2.2.1 (by omega))
         rw [e_]
         exact ⟨none, 0, rfl, Nat.le_refl _, Kd.C_nil _ _, h⟩
        ·
         refine wa_tk 28 rfl rfl rfl (st_selT [true, true, true] h) (fun w_ hS => ov_fieldAddr _ ⟨b19, 3, none⟩ _ rfl fo34_3 rfl) ?_
         refine wa_tk 29 rfl rfl rfl (st_selT [true, true, true] h) (fun w_ hS => ov_loadb 0 _ hS rfl rfl sh3 rfl) ?_
         refine wa_tk 30 rfl rfl rfl (st_selT [true, true, true] h) (fun w_ hS => ov_move _ rfl) ?_
         refine wa_tk 31 rfl rfl rfl (st_selT [true, true, true] h) (fun w_ hS => ov_fieldAddr _ ⟨b19, 0, none⟩ _ rfl fo34_0 rfl) ?_
         refine wa_tk 32 rfl rfl rfl (st_selT [true, true, true] h) (fun w_ hS => ov_loadb 0 _ hS rfl rfl sh3 rfl) ?_
         refine wa_tk 33 rfl rfl rfl (st_selT [true, true, true] h) (fun w_ hS => ov_indexAddrN _ _ _ _ _ ((((rs).getD k z34)).f0 : Int).toNat rfl rfl es22 (by omega) (by first | assumption | omega | (simp only [List.length_take, List.length_drop, List.length_set]; omega))) ?_
         refine wa_tk 34 rfl rfl rfl (st_selT [true, true, true] h) (fun w_ hS => ov_fieldAddr _ ((ad45).add (((((rs).getD k z34)).f0 : Int).toNat * 1 + 0)) _ rfl fo31_0 (by first | exact Deep.add_add _ _ _ | (rw [Deep.add_add]) | rfl)) ?_
         refine wa_tk 35 rfl rfl rfl (st_selT [true, true, true] h) (fun w_ hS => ov_load1 _ _ rfl sh29 (Sx.ro_cell hv hS (hc46 0 _ rfl))) ?_
         refine wa_tk 36 rfl rfl rfl (st_selT [true, true, true] h) (fun w_ hS => ov_len _ _ _ _ _ rfl es29) ?_
         refine wa_tk 37 rfl rfl rfl (st_selT [true, true, true] h) (fun w_ hS => ov_fieldAddr _ ⟨b19, 2, none⟩ _ rfl fo34_2 rfl) ?_
         refine wa_tk 38 rfl rfl rfl (st_selT [true, true, true] h) (fun w_ hS => ov_loadb 0 _ hS rfl rfl sh3 rfl) ?_
         refine wa_tk 39 rfl rfl rfl (st_selT [true, true, true] h) (fun w_ hS => ov_bin _ rfl rfl (binR_sub (r := (((((((x).getD ((((rs).getD k z34)).f0 : Int).toNat z31)).f0).length : Nat) : Int)) - ((((rs).getD k z34)).f2)) (Sx.w64 (by omega)))) ?_
         refine wa_tk 40 rfl rfl rfl (st_selT [true, true, true] h) (fun w_ hS => ov_bin _ rfl rfl (binR_gtr)) ?_
         refine wa_tk 41 rfl rfl rfl (st_selT [true, true, true] h) (fun w_ hS => ov_pick_false _ rfl rfl) ?_
         refine wa_done (by kernel_rfl) ?_
         refine qn_then ?_
         refine wc_cond (by rfl) (fun c54 => ?_) (fun c54 => ?_)
         ·
          refine wc_seq ?_
          refine wc_region ?_
          refine wl_v rfl rfl (ov_assign _ rfl) ?_
          refine wl_v rfl rfl (ov_assign _ rfl) ?_
          refine wl_nil ?_
          refine qn_then ?_
          refine wc_ret ?_
          refine qn_then_ret ?_
          refine qn_block_ret ?_
          refine qn_then_ret ?_
          refine qn_block_ret ?_
          refine qn_then_ret ?_
          refine qn_then_ret ?_
          refine qn_block_ret ?_
          refine qn_then_ret ?_
          replace h := st_selT [false, false, false] h
          refine qn_ret [_, _] ⟨rfl, rfl, trivial⟩ ?_
          have hpg_ : Pure.pgs x ((rs).getD k z34).f0 = (x.getD (((rs).getD k z34).f0 : Int).toNat z31).f0 := rfl
          have e_ := Pure.ref_none (x := x) (rs := rs) (k := k + 1) (by omega) (by rw [Pure.rfold, hJ.1]; exact Lib.rx_none hpg_ hJ.2.2.1 (by omega))
          rw [e_]
          exact ⟨none, 0, rfl, Nat.le_refl _, Kd.C_nil _ _, h⟩
         ·
          refine wc_skip ?_
          refine qn_then ?_
          refine wc_seq ?_
          refine wc_draw (fun w => Sx.St w0 F0 ([Sx.blk b19 [.int .i64 ((((rs).getD k z34)).f0), .int .i64 ((((rs).getD k z34)).f1), .int .i64 ((((rs).getD k z34)).f2), .int .i64 ((((rs).getD k z34)).f3), .slice (A15) (((((rs).getD k z34)).f4).length) (cp16)] 34, Sx.row Lib.kP 31 (A) (c) (Ps), Lib.libO v0 (Lib.AllP Ps)] ++ R) w) (by kernel_rfl) ?_
          replace h := st_drew h
          refine wa_tk 1 rfl rfl rfl (st_selT [true, true, true] h) (fun w_ hS => ov_move _ rfl) ?_
          refine wa_tk 2 rfl rfl rfl (st_selT [true, true, true] h) (fun w_ hS => ov_fieldAddr _ ⟨b19, 0, none⟩ _ rfl fo34_0 rfl) ?_
          refine wa_tk 3 rfl rfl rfl (st_selT [true, true, true] h) (fun w_ hS => ov_loadb 0 _ hS rfl rfl sh3 rfl) ?_
          refine wa_tk 4 rfl rfl rfl (st_selT [true, true, true] h) (fun w_ hS => ov_indexAddrN _ _ _ _ _ ((((rs).getD k z34)).f0 : Int).toNat rfl rfl es22 (by omega) (by first | assumption | omega | (simp only [List.length_take, List.length_drop, List.length_set]; omega))) ?_
          refine wa_tk 5 rfl rfl rfl (st_selT [true, true, true] h) (fun w_ hS => ov_fieldAddr _ ((ad45).add (((((rs).getD k z34)).f0 : Int).toNat * 1 + 0)) _ rfl fo31_0 (by first | exact Deep.add_add _ _ _ | (rw [Deep.add_add]) | rfl)) ?_
          refine wa_tk 6 rfl rfl rfl (st_selT [true, true, true] h) (fun w_ hS => ov_load1 _ _ rfl sh29 (Sx.ro_cell hv hS (hc46 0 _ rfl))) ?_
          refine wa_tk 7 rfl rfl rfl (st_selT [true, true, true] h) (fun w_ hS => ov_fieldAddr _ ⟨b19, 2, none⟩ _ rfl fo34_2 rfl) ?_
          refine wa_tk 8 rfl rfl rfl (st_selT [true, true, true] h) (fun w_ hS => ov_loadb 0 _ hS rfl rfl sh3 rfl) ?_
          obtain ⟨Rs55, hR56, hC57, hL58, hn59⟩ := Lib.ro_lines hn52
          have hC57n := hC57
          rw [← hn59] at hC57n
          have hcap60 := (Nat.le_trans (Nat.le_of_eq hn59) hl51)
          obtain ⟨A61, hA62⟩ : ∃ A_, (if cp50 = 0 then A49 else Option.map (·.add (0 * 9)) (A49)) = A_ := ⟨_, rfl⟩
          refine wa_tk 9 rfl rfl rfl (st_selT [true, true, true] h) (fun w_ hS => by exact ov_slice _ _ _ 0 (((((rs).getD k z34)).f2 : Int).toNat) (by rfl) (by exact rfl) (by exact ⟨_, _, rfl, (by omega)⟩) es29 (by omega) (by omega) hA62 (n' := (((Rs55).take (((((rs).getD k z34)).f2 : Int).toNat)).drop 0).length) (by simp only [List.length_drop, List.length_take]; omega)) ?_
          refine wa_one 0 rfl (by kernel_rfl) ?_
          refine wl_lit (d := Lib.kL) [] _ [] ([]) h rfl rfl rfl rfl Try.underlying29 infb39 rfl (by decide) (by kernel_rfl) rfl (fun _ _ _ => (Reps.none _ _)) (fun A63 cp64 _ h => ?_)
          refine wl_nil ?_
          refine qn_wa (st_selT [false, true, true, true] h) ?_
          refine wa_one 10 rfl (by kernel_rfl) ?_
          refine wl_append (d := Lib.kL) (L := []) 0 _ 88 _ _ _ (((Rs55).take (((((rs).getD k z34)).f2 : Int).toNat)).drop 0) Lib.flatL h rfl rfl rfl rfl rfl ((Sx.mid_C (lo := 0) (hi := (((((rs).getD k z34)).f2 : Int).toNat)) (by omega) (by omega) hcap60 hA62 ((Sx.ro_C hv h hC57n)))) Try.underlying29 inf39 rfl (by decide) (by decide) (by first | omega | (simp only [List.length_cons, List.length_nil, List.length_append, List.length_set, List.length_drop, List.length_take]; omega)) (by first | rfl | simp) (fun A65 cp66 _ h => ?_)
          refine wl_nil ?_
          refine qn_wa (st_selT [false, true, true, true] h) ?_
          refine wa_tk 11 rfl rfl rfl (st_selT [false, true, true, true] h) (fun w_ hS => ov_assign _ rfl) ?_
          refine wa_done (by kernel_rfl) ?_
          refine qn_then ?_
          refine wc_seq ?_
          refine wc_region ?_
          refine wl_v rfl rfl (ov_move _ rfl) ?_
          refine wl_v rfl rfl (ov_fieldAddr _ ⟨b19, 4, none⟩ _ rfl fo34_4 rfl) ?_
          refine wl_v rfl rfl (ov_loadb 1 _ h rfl rfl sh29 rfl) ?_
          obtain ⟨Rs67, hR68, hC69, hL70, hn71⟩ := Lib.ro_lines hn18
          have hC69n := hC69
          rw [← hn71] at hC69n
          refine wl_append (d := Lib.kL) (L := ([]) ++ (((Rs55).take (((((rs).getD k z34)).f2 : Int).toNat)).drop 0)) 0 _ 88 _ _ _ (Rs67) Lib.flatL h rfl rfl rfl rfl rfl ((Sx.ro_C hv h hC69)) Try.underlying29 inf39 rfl (by decide) (by decide) (by first | omega | (simp only [List.length_cons, List.length_nil, List.length_append, List.length_set, List.length_drop, List.length_take]; omega)) (by first | rfl | simp) (fun A72 cp73 _ h => ?_)
          refine wl_v rfl rfl (ov_assign _ rfl) ?_
          refine wl_nil ?_
          refine qn_then ?_
          refine wc_seq ?_
          refine wc_draw (fun w => Sx.St w0 F0 ([Sx.blk b19 [.int .i64 ((((rs).getD k z34)).f0), .int .i64 ((((rs).getD k z34)).f1), .int .i64 ((((rs).getD k z34)).f2), .int .i64 ((((rs).getD k z34)).f3), .slice (A15) (((((rs).getD k z34)).f4).length) (cp16)] 34, Sx.row Lib.kP 31 (A) (c) (Ps), Lib.libO v0 (Lib.AllP Ps)] ++ R) w) (by kernel_rfl) ?_
          replace h := st_drew h
          refine wa_tk 0 rfl rfl rfl (st_selT [false, true, true, true] h) (fun w_ hS => ov_move _ rfl) ?_
          refine wa_tk 1 rfl rfl rfl (st_selT [false, true, true, true] h) (fun w_ hS => ov_move _ rfl) ?_
          refine wa_tk 2 rfl rfl rfl (st_selT [false, true, true, true] h) (fun w_ hS => ov_fieldAddr _ ⟨b19, 0, none⟩ _ rfl fo34_0 rfl) ?_
          refine wa_tk 3 rfl rfl rfl (st_selT [false, true, true, true] h) (fun w_ hS => ov_loadb 0 _ hS rfl rfl sh3 rfl) ?_
          refine wa_tk 4 rfl rfl rfl (st_selT [false, true, true, true] h) (fun w_ hS => ov_indexAddrN _ _ _ _ _ ((((rs).getD k z34)).f0 : Int).toNat rfl rfl es22 (by omega) (by first | assumption | omega | (simp only [List.length_take, List.length_drop, List.length_set]; omega))) ?_
          refine wa_tk 5 rfl rfl rfl (st_selT [false, true, true, true] h) (fun w_ hS => ov_fieldAddr _ ((ad45).add (((((rs).getD k z34)).f0 : Int).toNat * 1 + 0)) _ rfl fo31_0 (by first | exact Deep.add_add _ _ _ | (rw [Deep.add_add]) | rfl)) ?_
          refine wa_tk 6 rfl rfl rfl (st_selT [false, true, true, true] h) (fun w_ hS => ov_load1 _ _ rfl sh29 (Sx.ro_cell hv hS (hc46 0 _ rfl))) ?_
          refine wa_tk 7 rfl rfl rfl (st_selT [false, true, true, true] h) (fun w_ hS => ov_fieldAddr _ ⟨b19, 2, none⟩ _ rfl fo34_2 rfl) ?_
          refine wa_tk 8 rfl rfl rfl (st_selT [false, true, true, true] h) (fun w_ hS => ov_loadb 0 _ hS rfl rfl sh3 rfl) ?_
          refine wa_tk 9 rfl rfl rfl (st_selT [false, true, true, true] h) (fun w_ hS => ov_fieldAddr _ ⟨b19, 3, none⟩ _ rfl fo34_3 rfl) ?_
          refine wa_tk 10 rfl rfl rfl (st_selT [false, true, true, true] h) (fun w_ hS => ov_loadb 0 _ hS rfl rfl sh3 rfl) ?_
          refine wa_tk 11 rfl rfl rfl (st_selT [false, true, true, true] h) (fun w_ hS => ov_bin _ rfl rfl (binR_add (r := ((((rs).getD k z34)).f2) + ((((rs).getD k z34)).f3)) (Sx.w64 (by omega)))) ?_
          have hcap74 := (Nat.le_trans (Nat.le_of_eq hn59) hl51)
          obtain ⟨A75, hA76⟩ : ∃ A_, (if cp50 = ((((((rs).getD k z34)).f2) + ((((rs).getD k z34)).f3) : Int).toNat) then A49 else Option.map (·.add (((((((rs).getD k z34)).f2) + ((((rs).getD k z34)).f3) : Int).toNat) * 9)) (A49)) = A_ := ⟨_, rfl⟩
          refine wa_tk 12 rfl rfl rfl (st_selT [false, true, true, true] h) (fun w_ hS => by exact ov_slice _ _ _ ((((((rs).getD k z34)).f2) + ((((rs).getD k z34)).f3) : Int).toNat) (((((x).getD ((((rs).getD k z34)).f0 : Int).toNat z31)).f0).length) (by rfl) (by exact ⟨_, _, rfl, (by omega)⟩) (by exact rfl) es29 (by omega) (by omega) hA76 (n' := (((Rs55).take (((((x).getD ((((rs).getD k z34)).f0 : Int).toNat z31)).f0).length)).drop ((((((rs).getD k z34)).f2) + ((((rs).getD k z34)).f3) : Int).toNat)).length) (by simp only [List.length_drop, List.length_take]; omega)) ?_
          refine wa_one 13 rfl (by kernel_rfl) ?_
          refine wl_append (d := Lib.kL) (L := (([]) ++ (((Rs55).take (((((rs).getD k z34)).f2 : Int).toNat)).drop 0)) ++ Rs67) 0 _ 88 _ _ _ (((Rs55).take (((((x).getD ((((rs).getD k z34)).f0 : Int).toNat z31)).f0).length)).drop ((((((rs).getD k z34)).f2) + ((((rs).getD k z34)).f3) : Int).toNat)) Lib.flatL h rfl rfl rfl rfl rfl ((Sx.mid_C (lo := ((((((rs).getD k z34)).f2) + ((((rs).getD k z34)).f3) : Int).toNat)) (hi := (((((x).getD ((((rs).getD k z34)).f0 : Int).toNat z31)).f0).length)) (by omega) (by omega) hcap74 hA76 ((Sx.ro_C hv h hC57n)))) Try.underlying29 inf39 rfl (by decide) (by decide) (by first | omega | (simp only [List.length_cons, List.length_nil, List.length_append, List.length_set, List.length_drop, List.length_take]; omega)) (by first | rfl | simp) (fun A77 cp78 _ h => ?_)
          refine wl_nil ?_
          refine qn_wa (st_selT [false, true, true, true] h) ?_
          refine wa_tk 14 rfl rfl rfl (st_selT [false, true, true, true] h) (fun w_ hS => ov_assign _ rfl) ?_
          refine wa_done (by kernel_rfl) ?_
          refine qn_then ?_
          refine wc_region ?_
          refine wl_v rfl rfl (ov_move _ rfl) ?_
          refine wl_v rfl rfl (ov_fieldAddr _ ⟨b19, 0, none⟩ _ rfl fo34_0 rfl) ?_
          refine wl_v rfl rfl (ov_loadb 1 _ h rfl rfl sh3 rfl) ?_
          refine wl_v rfl rfl (ov_move _ rfl) ?_
          refine wl_v rfl rfl (ov_build [(0, .slice (A77) ((((([]) ++ (((Rs55).take (((((rs).getD k z34)).f2 : Int).toNat)).drop 0)) ++ Rs67) ++ (((Rs55).take (((((x).getD ((((rs).getD k z34)).f0 : Int).toNat z31)).f0).length)).drop ((((((rs).getD k z34)).f2) + ((((rs).getD k z34)).f3) : Int).toNat))).length) (cp78))] [.slice (A77) ((((([]) ++ (((Rs55).take (((((rs).getD k z34)).f2 : Int).toNat)).drop 0)) ++ Rs67) ++ (((Rs55).take (((((x).getD ((((rs).getD k z34)).f0 : Int).toNat z31)).f0).length)).drop ((((((rs).getD k z34)).f2) + ((((rs).getD k z34)).f3) : Int).toNat))).length) (cp78)] rfl rfl (by kernel_rfl)) ?_
          obtain ⟨ad79, rfl⟩ := Sx.C_some ((Sx.row_reads h (i := 2) rfl).2) (k := ((((rs).getD k z34)).f0 : Int).toNat) (by first | assumption | omega)
          refine wl_v rfl rfl (ov_indexAddrN _ _ _ _ _ ((((rs).getD k z34)).f0 : Int).toNat rfl rfl es22 (by omega) (by first | assumption | omega | (simp only [List.length_take, List.length_drop, List.length_set]; omega))) ?_
          refine wl_storeeN 2 ((((rs).getD k z34)).f0 : Int).toNat 0 (.agg #[.slice (A77) ((((([]) ++ (((Rs55).take (((((rs).getD k z34)).f2 : Int).toNat)).drop 0)) ++ Rs67) ++ (((Rs55).take (((((x).getD ((((rs).getD k z34)).f0 : Int).toNat z31)).f0).length)).drop ((((((rs).getD k z34)).f2) + ((((rs).getD k z34)).f3) : Int).toNat))).length) (cp78)]) [.slice (A77) ((((([]) ++ (((Rs55).take (((((rs).getD k z34)).f2 : Int).toNat)).drop 0)) ++ Rs67) ++ (((Rs55).take (((((x).getD ((((rs).getD k z34)).f0 : Int).toNat z31)).f0).length)).drop ((((((rs).getD k z34)).f2) + ((((rs).getD k z34)).f3) : Int).toNat))).length) (cp78)] Lib.zP (((⟨(((([]) ++ (((Rs55).take (((((rs).getD k z34)).f2 : Int).toNat)).drop 0)) ++ Rs67) ++ (((Rs55).take (((((x).getD ((((rs).getD k z34)).f0 : Int).toNat z31)).f0).length)).drop ((((((rs).getD k z34)).f2) + ((((rs).getD k z34)).f3) : Int).toNat)) : List Lib.LN).map (·.1)⟩ : S31), (⟨A77, (((([]) ++ (((Rs55).take (((((rs).getD k z34)).f2 : Int).toNat)).drop 0)) ++ Rs67) ++ (((Rs55).take (((((x).getD ((((rs).getD k z34)).f0 : Int).toNat z31)).f0).length)).drop ((((((rs).getD k z34)).f2) + ((((rs).getD k z34)).f3) : Int).toNat))).length, cp78⟩ : Lib.Hd))) h rfl rfl rfl (by first | rfl | simp) rfl rfl (by simp [Value.oneCell']) szf31 (by first | assumption | omega) (Nat.le_of_ble_eq_true rfl) (by intro cl hcl hM; obtain ⟨_, _, _, hM⟩ := hM; obtain rfl := Lib.kP_openM hM; intro _ _ _; exact Lib.kP_mkM _ _ _ (((⟨(((([]) ++ (((Rs55).take (((((rs).getD k z34)).f2 : Int).toNat)).drop 0)) ++ Rs67) ++ (((Rs55).take (((((x).getD ((((rs).getD k z34)).f0 : Int).toNat z31)).f0).length)).drop ((((((rs).getD k z34)).f2) + ((((rs).getD k z34)).f3) : Int).toNat)) : List Lib.LN).map (·.1)⟩ : S31), (⟨A77, (((([]) ++ (((Rs55).take (((((rs).getD k z34)).f2 : Int).toNat)).drop 0)) ++ Rs67) ++ (((Rs55).take (((((x).getD ((((rs).getD k z34)).f0 : Int).toNat z31)).f0).length)).drop ((((((rs).getD k z34)).f2) + ((((rs).getD k z34)).f3) : Int).toNat))).length, cp78⟩ : Lib.Hd)))) (fun _ h => ?_)
          refine wl_nil ?_
          refine qn_block_normal ?_
          refine qn_then ?_
          refine wc_region ?_
          refine wl_v rfl rfl (ov_fieldAddr _ ⟨b19, 0, none⟩ _ rfl fo34_0 rfl) ?_
          refine wl_v rfl rfl (ov_loadb 1 _ h rfl rfl sh3 rfl) ?_
          refine wl_v rfl rfl (ov_assign _ rfl) ?_
          refine wl_nil ?_
          refine qn_block_normal ?_
          refine qn_then ?_
          refine wc_region ?_
          refine wl_v rfl rfl (ov_move _ rfl) ?_
          refine wl_v rfl rfl (ov_bin _ rfl rfl (binR_add (r := ((k : Int)) + 1) (Sx.w64 (by omega)))) ?_
          refine wl_v rfl rfl (ov_assign _ rfl) ?_
          refine wl_nil ?_
          have hpg_ : Pure.pgs x ((rs).getD k z34).f0 = (x.getD (((rs).getD k z34).f0 : Int).toNat z31).f0 := rfl
          replace h := st_front 3 h
          replace h := st_front 1 h
          replace h := Lib.closeO_changed (p := (((rs).getD k z34).f0 : Int).toNat) h (Lib.old_lines hL58 hL70)
          replace h : Sx.St w0 F0 ([Lib.libO v0 (Lib.AllP ((Ps).set ((((rs).getD k z34)).f0 : Int).toNat (((⟨(((([]) ++ (((Rs55).take (((((rs).getD k z34)).f2 : Int).toNat)).drop 0)) ++ Rs67) ++ (((Rs55).take (((((x).getD ((((rs).getD k z34)).f0 : Int).toNat z31)).f0).length)).drop ((((((rs).getD k z34)).f2) + ((((rs).getD k z34)).f3) : Int).toNat)) : List Lib.LN).map (·.1)⟩ : S31), (⟨A77, (((([]) ++ (((Rs55).take (((((rs).getD k z34)).f2 : Int).toNat)).drop 0)) ++ Rs67) ++ (((Rs55).take (((((x).getD ((((rs).getD k z34)).f0 : Int).toNat z31)).f0).length)).drop ((((((rs).getD k z34)).f2) + ((((rs).getD k z34)).f3) : Int).toNat))).length, cp78⟩ : Lib.Hd))))), Sx.blk b19 [.int .i64 ((((rs).getD k z34)).f0), .int .i64 ((((rs).getD k z34)).f1), .int .i64 ((((rs).getD k z34)).f2), .int .i64 ((((rs).getD k z34)).f3), .slice (A15) (((((rs).getD k z34)).f4).length) (cp16)] 34, Sx.row Lib.kP 31 (some ad79) (c) ((Ps).set ((((rs).getD k z34)).f0 : Int).toNat (((⟨(((([]) ++ (((Rs55).take (((((rs).getD k z34)).f2 : Int).toNat)).drop 0)) ++ Rs67) ++ (((Rs55).take (((((x).getD ((((rs).getD k z34)).f0 : Int).toNat z31)).f0).length)).drop ((((((rs).getD k z34)).f2) + ((((rs).getD k z34)).f3) : Int).toNat)) : List Lib.LN).map (·.1)⟩ : S31), (⟨A77, (((([]) ++ (((Rs55).take (((((rs).getD k z34)).f2 : Int).toNat)).drop 0)) ++ Rs67) ++ (((Rs55).take (((((x).getD ((((rs).getD k z34)).f0 : Int).toNat z31)).f0).length)).drop ((((((rs).getD k z34)).f2) + ((((rs).getD k z34)).f3) : Int).toNat))).length, cp78⟩ : Lib.Hd))))] ++ R) _ := h
          have hst_ := Lib.rx_changed (t := t) (B := A77) (c := cp78) hpg_ hJ.2.2.1 (by omega) (by omega) (by omega) (Lib.changed_mapN (r := (rs).getD k z34) hR56 hn59 hR68)
          replace h := st_front 2 h
          replace h := st_selT [true, true, false] h
          refine qn_next ((k + 1), some ad79, c, ((Ps).set ((((rs).getD k z34)).f0 : Int).toNat (((⟨(((([]) ++ (((Rs55).take (((((rs).getD k z34)).f2 : Int).toNat)).drop 0)) ++ Rs67) ++ (((Rs55).take (((((x).getD ((((rs).getD k z34)).f0 : Int).toNat z31)).f0).length)).drop ((((((rs).getD k z34)).f2) + ((((rs).getD k z34)).f3) : Int).toNat)) : List Lib.LN).map (·.1)⟩ : S31), (⟨A77, (((([]) ++ (((Rs55).take (((((rs).getD k z34)).f2 : Int).toNat)).drop 0)) ++ Rs67) ++ (((Rs55).take (((((x).getD ((((rs).getD k z34)).f0 : Int).toNat z31)).f0).length)).drop ((((((rs).getD k z34)).f2) + ((((rs).getD k z34)).f3) : Int).toNat))).length, cp78⟩ : Lib.Hd)))), (⟨((Ps).set ((((rs).getD k z34)).f0 : Int).toNat (((⟨(((([]) ++ (((Rs55).take (((((rs).getD k z34)).f2 : Int).toNat)).drop 0)) ++ Rs67) ++ (((Rs55).take (((((x).getD ((((rs).getD k z34)).f0 : Int).toNat z31)).f0).length)).drop ((((((rs).getD k z34)).f2) + ((((rs).getD k z34)).f3) : Int).toNat)) : List Lib.LN).map (·.1)⟩ : S31), (⟨A77, (((([]) ++ (((Rs55).take (((((rs).getD k z34)).f2 : Int).toNat)).drop 0)) ++ Rs67) ++ (((Rs55).take (((((x).getD ((((rs).getD k z34)).f0 : Int).toNat z31)).f0).length)).drop ((((((rs).getD k z34)).f2) + ((((rs).getD k z34)).f3) : Int).toNat))).length, cp78⟩ : Lib.Hd)))).map (·.1), ((rs).getD k z34).f0, (t).keep⟩ : Pure.RSt)) (by show rs.length - (k + 1) < rs.length - k; omega) ⟨(congrArg (fun z_ => some (Value.slice (some ad45) z_ (cx))) (show (x.length : Nat) = x.length by first | rfl | simp)), (congrArg (fun z_ => some (Value.slice (some ad11) z_ (crs))) (show (rs.length : Nat) = rs.length by first | rfl | simp)), (congrArg (fun z_ => some (Value.slice (some ad79) z_ (c))) (show (Ps.length : Nat) = ((Ps).set ((((rs).getD k z34)).f0 : Int).toNat (((⟨(((([]) ++ (((Rs55).take (((((rs).getD k z34)).f2 : Int).toNat)).drop 0)) ++ Rs67) ++ (((Rs55).take (((((x).getD ((((rs).getD k z34)).f0 : Int).toNat z31)).f0).length)).drop ((((((rs).getD k z34)).f2) + ((((rs).getD k z34)).f3) : Int).toNat)) : List Lib.LN).map (·.1)⟩ : S31), (⟨A77, (((([]) ++ (((Rs55).take (((((rs).getD k z34)).f2 : Int).toNat)).drop 0)) ++ Rs67) ++ (((Rs55).take (((((x).getD ((((rs).getD k z34)).f0 : Int).toNat z31)).f0).length)).drop ((((((rs).getD k z34)).f2) + ((((rs).getD k z34)).f3) : Int).toNat))).length, cp78⟩ : Lib.Hd)))).length by first | rfl | simp)), (congrArg (fun z_ => some (Value.int .i64 z_)) (show ((((rs).getD k z34)).f0 : Int) = ((⟨((Ps).set ((((rs).getD k z34)).f0 : Int).toNat (((⟨(((([]) ++ (((Rs55).take (((((rs).getD k z34)).f2 : Int).toNat)).drop 0)) ++ Rs67) ++ (((Rs55).take (((((x).getD ((((rs).getD k z34)).f0 : Int).toNat z31)).f0).length)).drop ((((((rs).getD k z34)).f2) + ((((rs).getD k z34)).f3) : Int).toNat)) : List Lib.LN).map (·.1)⟩ : S31), (⟨A77, (((([]) ++ (((Rs55).take (((((rs).getD k z34)).f2 : Int).toNat)).drop 0)) ++ Rs67) ++ (((Rs55).take (((((x).getD ((((rs).getD k z34)).f0 : Int).toNat z31)).f0).length)).drop ((((((rs).getD k z34)).f2) + ((((rs).getD k z34)).f3) : Int).toNat))).length, cp78⟩ : Lib.Hd)))).map (·.1), ((rs).getD k z34).f0, (t).keep⟩ : Pure.RSt)).last by rfl)), (congrArg (fun z_ => some (Value.int .i64 z_)) (show ((t).keep : Int) = ((⟨((Ps).set ((((rs).getD k z34)).f0 : Int).toNat (((⟨(((([]) ++ (((Rs55).take (((((rs).getD k z34)).f2 : Int).toNat)).drop 0)) ++ Rs67) ++ (((Rs55).take (((((x).getD ((((rs).getD k z34)).f0 : Int).toNat z31)).f0).length)).drop ((((((rs).getD k z34)).f2) + ((((rs).getD k z34)).f3) : Int).toNat)) : List Lib.LN).map (·.1)⟩ : S31), (⟨A77, (((([]) ++ (((Rs55).take (((((rs).getD k z34)).f2 : Int).toNat)).drop 0)) ++ Rs67) ++ (((Rs55).take (((((x).getD ((((rs).getD k z34)).f0 : Int).toNat z31)).f0).length)).drop ((((((rs).getD k z34)).f2) + ((((rs).getD k z34)).f3) : Int).toNat))).length, cp78⟩ : Lib.Hd)))).map (·.1), ((rs).getD k z34).f0, (t).keep⟩ : Pure.RSt)).keep by rfl)), (congrArg (fun z_ => some (Value.int .i64 z_)) (show (((k : Int)) + 1 : Int) = ((k + 1) : Int) by omega)), trivial⟩ ?_
          show (Pure.rfold x rs (k + 1) = some (⟨((Ps).set ((((rs).getD k z34)).f0 : Int).toNat (((⟨(((([]) ++ (((Rs55).take (((((rs).getD k z34)).f2 : Int).toNat)).drop 0)) ++ Rs67) ++ (((Rs55).take (((((x).getD ((((rs).getD k z34)).f0 : Int).toNat z31)).f0).length)).drop ((((((rs).getD k z34)).f2) + ((((rs).getD k z34)).f3) : Int).toNat)) : List Lib.LN).map (·.1)⟩ : S31), (⟨A77, (((([]) ++ (((Rs55).take (((((rs).getD k z34)).f2 : Int).toNat)).drop 0)) ++ Rs67) ++ (((Rs55).take (((((x).getD ((((rs).getD k z34)).f0 : Int).toNat z31)).f0).length)).drop ((((((rs).getD k z34)).f2) + ((((rs).getD k z34)).f3) : Int).toNat))).length, cp78⟩ : Lib.Hd)))).map (·.1), ((rs).getD k z34).f0, (t).keep⟩ : Pure.RSt) ∧ (k + 1) ≤ rs.length ∧ (((Ps).set ((((rs).getD k z34)).f0 : Int).toNat (((⟨(((([]) ++ (((Rs55).take (((((rs).getD k z34)).f2 : Int).toNat)).drop 0)) ++ Rs67) ++ (((Rs55).take (((((x).getD ((((rs).getD k z34)).f0 : Int).toNat z31)).f0).length)).drop ((((((rs).getD k z34)).f2) + ((((rs).getD k z34)).f3) : Int).toNat)) : List Lib.LN).map (·.1)⟩ : S31), (⟨A77, (((([]) ++ (((Rs55).take (((((rs).getD k z34)).f2 : Int).toNat)).drop 0)) ++ Rs67) ++ (((Rs55).take (((((x).getD ((((rs).getD k z34)).f0 : Int).toNat z31)).f0).length)).drop ((((((rs).getD k z34)).f2) + ((((rs).getD k z34)).f3) : Int).toNat))).length, cp78⟩ : Lib.Hd))))).map (·.1) = ((⟨((Ps).set ((((rs).getD k z34)).f0 : Int).toNat (((⟨(((([]) ++ (((Rs55).take (((((rs).getD k z34)).f2 : Int).toNat)).drop 0)) ++ Rs67) ++ (((Rs55).take (((((x).getD ((((rs).getD k z34)).f0 : Int).toNat z31)).f0).length)).drop ((((((rs).getD k z34)).f2) + ((((rs).getD k z34)).f3) : Int).toNat)) : List Lib.LN).map (·.1)⟩ : S31), (⟨A77, (((([]) ++ (((Rs55).take (((((rs).getD k z34)).f2 : Int).toNat)).drop 0)) ++ Rs67) ++ (((Rs55).take (((((x).getD ((((rs).getD k z34)).f0 : Int).toNat z31)).f0).length)).drop ((((((rs).getD k z34)).f2) + ((((rs).getD k z34)).f3) : Int).toNat))).length, cp78⟩ : Lib.Hd)))).map (·.1), ((rs).getD k z34).f0, (t).keep⟩ : Pure.RSt)).out ∧ Pure.RInv x (k + 1) (⟨((Ps).set ((((rs).getD k z34)).f0 : Int).toNat (((⟨(((([]) ++ (((Rs55).take (((((rs).getD k z34)).f2 : Int).toNat)).drop 0)) ++ Rs67) ++ (((Rs55).take (((((x).getD ((((rs).getD k z34)).f0 : Int).toNat z31)).f0).length)).drop ((((((rs).getD k z34)).f2) + ((((rs).getD k z34)).f3) : Int).toNat)) : List Lib.LN).map (·.1)⟩ : S31), (⟨A77, (((([]) ++ (((Rs55).take (((((rs).getD k z34)).f2 : Int).toNat)).drop 0)) ++ Rs67) ++ (((Rs55).take (((((x).getD ((((rs).getD k z34)).f0 : Int).toNat z31)).f0).length)).drop ((((((rs).getD k z34)).f2) + ((((rs).getD k z34)).f3) : Int).toNat))).length, cp78⟩ : Lib.Hd)))).map (·.1), ((rs).getD k z34).f0, (t).keep⟩ : Pure.RSt)) ∧ _
          exact ⟨⟨by rw [Pure.rfold, hJ.1]; exact hst_, by omega, rfl, Pure.rinv_step (by omega) hJ.2.2.2 hst_⟩, h⟩
    ·
     refine wc_seq ?_
     refine wc_region ?_
     refine wl_v rfl rfl (ov_bin _ rfl rfl (binR_eql)) ?_
     refine wl_v rfl rfl (ov_assign _ rfl) ?_
     refine wl_nil ?_
     refine qn_then ?_
     refine wc_cond (by rfl) (fun c80 => ?_) (fun c80 => ?_)
     ·
      refine wc_seq ?_
      refine wc_seq ?_
      refine wc_region ?_
      refine wl_v rfl rfl (ov_fieldAddr _ ⟨b19, 0, none⟩ _ rfl fo34_0 rfl) ?_
      refine wl_v rfl rfl (ov_loadb 0 _ h rfl rfl sh3 rfl) ?_
      refine wl_v rfl rfl (ov_move _ rfl) ?_
      refine wl_v rfl rfl (ov_len _ _ _ _ _ rfl es22) ?_
      refine wl_v rfl rfl (ov_bin _ rfl rfl (binR_neq)) ?_
      refine wl_v rfl rfl (ov_move _ rfl) ?_
      refine wl_split 126 rfl (fun c81 => ?_) (fun c81 => ?_)
      ·
       refine wl_skip rfl rfl ?_
       refine wl_skip rfl rfl ?_
       refine wl_skip rfl rfl ?_
       refine wl_v rfl rfl (ov_pick_true _ rfl rfl) ?_
       refine wl_v rfl rfl (ov_move _ rfl) ?_
       refine wl_skip rfl rfl ?_
       refine wl_skip rfl rfl ?_
       refine wl_skip rfl rfl ?_
       refine wl_v rfl rfl (ov_pick_true _ rfl rfl) ?_
       refine wl_nil ?_
       refine qn_then ?_
       refine wc_cond_true rfl ?_
       refine wc_seq ?_
       refine wc_region ?_
       refine wl_v rfl rfl (ov_assign _ rfl) ?_
       refine wl_v rfl rfl (ov_assign _ rfl) ?_
       refine wl_nil ?_
       refine qn_then ?_
       refine wc_ret ?_
       refine qn_then_ret ?_
       refine qn_block_ret ?_
       refine qn_then_ret ?_
       refine qn_block_ret ?_
       refine qn_then_ret ?_
       refine qn_then_ret ?_
       refine qn_block_ret ?_
       refine qn_then_ret ?_
       replace h := st_selT [false, false, false] h
       refine qn_ret [_, _] ⟨rfl, rfl, trivial⟩ ?_
       have hpg_ : Pure.pgs x ((rs).getD k z34).f0 = (x.getD (((rs).getD k z34).f0 : Int).toNat z31).f0 := rfl
       have e_ := Pure.ref_none (x := x) (rs := rs) (k := k + 1) (by omega) (by rw [Pure.rfold, hJ.1]; exact Lib.rx_none hpg_ hJ.2.2.1 (by omega))
       rw [e_]
       exact ⟨none, 0, rfl, Nat.le_refl _, Kd.C_nil _ _, h⟩
      ·
       refine wl_v rfl rfl (ov_fieldAddr _ ⟨b19, 2, none⟩ _ rfl fo34_2 rfl) ?_
       refine wl_v rfl rfl (ov_loadb 0 _ h rfl rfl sh3 rfl) ?_
       refine wl_v rfl rfl (ov_bin _ rfl rfl (binR_neq)) ?_
       refine wl_v rfl rfl (ov_pick_false _ rfl rfl) ?_
       refine wl_v rfl rfl (ov_move _ rfl) ?_
       refine wl_split 131 rfl (fun c82 => ?_) (fun c82 => ?_)
       ·
        refine wl_skip rfl rfl ?_
        refine wl_skip rfl rfl ?_
        refine wl_skip rfl rfl ?_
        refine wl_v rfl rfl (ov_pick_true _ rfl rfl) ?_
        refine wl_nil ?_
        refine qn_then ?_
        refine wc_cond_true rfl ?_
        refine wc_seq ?_
        refine wc_region ?_
        refine wl_v rfl rfl (ov_assign _ rfl) ?_
        refine wl_v rfl rfl (ov_assign _ rfl) ?_
        refine wl_nil ?_
        refine qn_then ?_
        refine wc_ret ?_
        refine qn_then_ret ?_
        refine qn_block_ret ?_
        refine qn_then_ret ?_
        refine qn_block_ret ?_
        refine qn_then_ret ?_
        refine qn_then_ret ?_
        refine qn_block_ret ?_
        refine qn_then_ret ?_
        replace h := st_selT [false, false, false] h
        refine qn_ret [_, _] ⟨rfl, rfl, trivial⟩ ?_
        have hpg_ : Pure.pgs x ((rs).getD k z34).f0 = (x.getD (((rs).getD k z34).f0 : Int).toNat z31).f0 := rfl
        have e_ := Pure.ref_none (x := x) (rs := rs) (k := k + 1) (by omega) (by rw [Pure.rfold, hJ.1]; exact Lib.rx_none hpg_ hJ.2.2.1 (by omega))
        rw [e_]
        exact ⟨none, 0, rfl, Nat.le_refl _, Kd.C_nil _ _, h⟩
       ·
        refine wl_v rfl rfl (ov_fieldAddr _ ⟨b19, 3, none⟩ _ rfl fo34_3 rfl) ?_
        refine wl_v rfl rfl (ov_loadb 0 _ h rfl rfl sh3 rfl) ?_
        refine wl_v rfl rfl (ov_bin _ rfl rfl (binR_neq)) ?_
        refine wl_v rfl rfl (ov_pick_false _ rfl rfl) ?_
        refine wl_nil ?_
        refine qn_then ?_
        refine wc_cond (by rfl) (fun c83 => ?_) (fun c83 => ?_)
        ·
         refine wc_seq ?_
         refine wc_region ?_
         refine wl_v rfl rfl (ov_assign _ rfl) ?_
         refine wl_v rfl rfl (ov_assign _ rfl) ?_
         refine wl_nil ?_
         refine qn_then ?_
         refine wc_ret ?_
         refine qn_then_ret ?_
         refine qn_block_ret ?_
         refine qn_then_ret ?_
         refine qn_block_ret ?_
         refine qn_then_ret ?_
         refine qn_then_ret ?_
         refine qn_block_ret ?_
         refine qn_then_ret ?_
         replace h := st_selT [false, false, false] h
         refine qn_ret [_, _] ⟨rfl, rfl, trivial⟩ ?_
         have hpg_ : Pure.pgs x ((rs).getD k z34).f0 = (x.getD (((rs).getD k z34).f0 : Int).toNat z31).f0 := rfl
         have e_ := Pure.ref_none (x := x) (rs := rs) (k := k + 1) (by omega) (by rw [Pure.rfold, hJ.1]; exact Lib.rx_none hpg_ hJ.2.2.1 (by omega))
         rw [e_]
         exact ⟨none, 0, rfl, Nat.le_refl _, Kd.C_nil _ _, h⟩
        ·
         refine wc_skip ?_
         refine qn_then ?_
         refine wc_region ?_
         refine wl_v rfl rfl (ov_move _ rfl) ?_
         refine wl_v rfl rfl (ov_fieldAddr _ ⟨b19, 4, none⟩ _ rfl fo34_4 rfl) ?_
         refine wl_v rfl rfl (ov_loadb 0 _ h rfl rfl sh29 rfl) ?_
         refine wl_v rfl rfl (ov_build [(0, .slice (A15) (((((rs).getD k z34)).f4).length) (cp16))] [.slice (A15) (((((rs).getD k z34)).f4).length) (cp16)] rfl rfl (by kernel_rfl)) ?_
         refine wl_lit (d := Lib.kP) [(0, .agg #[.slice (A15) (((((rs).getD k z34)).f4).length) (cp16)])] _ [.slice (A15) (((((rs).getD k z34)).f4).length) (cp16)] ([((⟨(((rs).getD k z34)).f4⟩ : S31), (⟨A15, ((((rs).getD k z34)).f4).length, cp16⟩ : Lib.Hd))]) h rfl rfl rfl rfl Try.underlying22 infb31 rfl (by decide) (by kernel_rfl) rfl (fun _ _ _ => ((Reps.none _ _).snoc (Lib.kP_mkM _ _ _ (((⟨(((rs).getD k z34)).f4⟩ : S31), (⟨A15, ((((rs).getD k z34)).f4).length, cp16⟩ : Lib.Hd)))) rfl)) (fun A84 cp85 _ h => ?_)
         refine wl_append (d := Lib.kP) (L := Ps) 2 _ 24 _ _ _ ([((⟨(((rs).getD k z34)).f4⟩ : S31), (⟨A15, ((((rs).getD k z34)).f4).length, cp16⟩ : Lib.Hd))]) Lib.flatP h rfl rfl rfl rfl rfl ((Sx.row_reads h (i := 0) rfl).2) Try.underlying22 inf31 rfl (by decide) (by decide) (by first | omega | (simp only [List.length_cons, List.length_nil, List.length_append, List.length_set, List.length_drop, List.length_take]; omega)) (by first | rfl | simp) (fun A86 cp87 _ h => ?_)
         replace h := st_selT [false, true, true, true] h
         refine wl_v rfl rfl (ov_assign _ rfl) ?_
         refine wl_nil ?_
         refine qn_block_normal ?_
         refine qn_then ?_
         refine wc_region ?_
         refine wl_v rfl rfl (ov_fieldAddr _ ⟨b19, 0, none⟩ _ rfl fo34_0 rfl) ?_
         refine wl_v rfl rfl (ov_loadb 0 _ h rfl rfl sh3 rfl) ?_
         refine wl_v rfl rfl (ov_assign _ rfl) ?_
         refine wl_nil ?_
         refine qn_block_normal ?_
         refine qn_then ?_
         refine wc_region ?_
         refine wl_v rfl rfl (ov_move _ rfl) ?_
         refine wl_v rfl rfl (ov_bin _ rfl rfl (binR_add (r := ((k : Int)) + 1) (Sx.w64 (by omega)))) ?_
         refine wl_v rfl rfl (ov_assign _ rfl) ?_
         refine wl_nil ?_
         have hpg_ : Pure.pgs x ((rs).getD k z34).f0 = (x.getD (((rs).getD k z34).f0 : Int).toNat z31).f0 := rfl
         replace h := st_front 2 h
         replace h := Lib.closeO_added h (Lib.gp_old hl17 hn18)
         replace h : Sx.St w0 F0 ([Lib.libO v0 (Lib.AllP (Ps ++ ([((⟨(((rs).getD k z34)).f4⟩ : S31), (⟨A15, ((((rs).getD k z34)).f4).length, cp16⟩ : Lib.Hd))]))), Sx.blk b19 [.int .i64 ((((rs).getD k z34)).f0), .int .i64 ((((rs).getD k z34)).f1), .int .i64 ((((rs).getD k z34)).f2), .int .i64 ((((rs).getD k z34)).f3), .slice (A15) (((((rs).getD k z34)).f4).length) (cp16)] 34, Sx.row Lib.kP 31 (A86) (cp87) (Ps ++ ([((⟨(((rs).getD k z34)).f4⟩ : S31), (⟨A15, ((((rs).getD k z34)).f4).length, cp16⟩ : Lib.Hd))]))] ++ R) _ := h
         have hst_ := Lib.rx_added (x := x) (t := t) (r := (rs).getD k z34) (B := A15) (c := cp16) hJ.2.2.1 (by omega) (by omega) (by omega)
         replace h := st_front 2 h
         replace h := st_selT [true, true, false] h
         refine qn_next ((k + 1), A86, cp87, (Ps ++ ([((⟨(((rs).getD k z34)).f4⟩ : S31), (⟨A15, ((((rs).getD k z34)).f4).length, cp16⟩ : Lib.Hd))])), (⟨(Ps ++ ([((⟨(((rs).getD k z34)).f4⟩ : S31), (⟨A15, ((((rs).getD k z34)).f4).length, cp16⟩ : Lib.Hd))])).map (·.1), ((rs).getD k z34).f0, (t).keep⟩ : Pure.RSt)) (by show rs.length - (k + 1) < rs.length - k; omega) ⟨rfl, (congrArg (fun z_ => some (Value.slice (some ad11) z_ (crs))) (show (rs.length : Nat) = rs.length by first | rfl | simp)), rfl, (congrArg (fun z_ => some (Value.int .i64 z_)) (show ((((rs).getD k z34)).f0 : Int) = ((⟨(Ps ++ ([((⟨(((rs).getD k z34)).f4⟩ : S31), (⟨A15, ((((rs).getD k z34)).f4).length, cp16⟩ : Lib.Hd))])).map (·.1), ((rs).getD k z34).f0, (t).keep⟩ : Pure.RSt)).last by rfl)), (congrArg (fun z_ => some (Value.int .i64 z_)) (show ((t).keep : Int) = ((⟨(Ps ++ ([((⟨(((rs).getD k z34)).f4⟩ : S31), (⟨A15, ((((rs).getD k z34)).f4).length, cp16⟩ : Lib.Hd))])).map (·.1), ((rs).getD k z34).f0, (t).keep⟩ : Pure.RSt)).keep by rfl)), (congrArg (fun z_ => some (Value.int .i64 z_)) (show (((k : Int)) + 1 : Int) = ((k + 1) : Int) by omega)), trivial⟩ ?_
         show (Pure.rfold x rs (k + 1) = some (⟨(Ps ++ ([((⟨(((rs).getD k z34)).f4⟩ : S31), (⟨A15, ((((rs).getD k z34)).f4).length, cp16⟩ : Lib.Hd))])).map (·.1), ((rs).getD k z34).f0, (t).keep⟩ : Pure.RSt) ∧ (k + 1) ≤ rs.length ∧ ((Ps ++ ([((⟨(((rs).getD k z34)).f4⟩ : S31), (⟨A15, ((((rs).getD k z34)).f4).length, cp16⟩ : Lib.Hd))]))).map (·.1) = ((⟨(Ps ++ ([((⟨(((rs).getD k z34)).f4⟩ : S31), (⟨A15, ((((rs).getD k z34)).f4).length, cp16⟩ : Lib.Hd))])).map (·.1), ((rs).getD k z34).f0, (t).keep⟩ : Pure.RSt)).out ∧ Pure.RInv x (k + 1) (⟨(Ps ++ ([((⟨(((rs).getD k z34)).f4⟩ : S31), (⟨A15, ((((rs).getD k z34)).f4).length, cp16⟩ : Lib.Hd))])).map (·.1), ((rs).getD k z34).f0, (t).keep⟩ : Pure.RSt)) ∧ _
         exact ⟨⟨by rw [Pure.rfold, hJ.1]; exact hst_, by omega, rfl, Pure.rinv_step (by omega) hJ.2.2.2 hst_⟩, h⟩
     ·
      refine wc_seq ?_
      refine wc_region ?_
      refine wl_v rfl rfl (ov_bin _ rfl rfl (binR_eql)) ?_
      refine wl_v rfl rfl (ov_assign _ rfl) ?_
      refine wl_nil ?_
      refine qn_then ?_
      refine wc_cond (by rfl) (fun c88 => ?_) (fun c88 => ?_)
      ·
       refine wc_seq ?_
       refine wc_seq ?_
       refine wc_draw (fun w => Sx.St w0 F0 ([Sx.blk b19 [.int .i64 ((((rs).getD k z34)).f0), .int .i64 ((((rs).getD k z34)).f1), .int .i64 ((((rs).getD k z34)).f2), .int .i64 ((((rs).getD k z34)).f3), .slice (A15) (((((rs).getD k z34)).f4).length) (cp16)] 34, Sx.row Lib.kP 31 (A) (c) (Ps), Lib.libO v0 (Lib.AllP Ps)] ++ R) w) (by kernel_rfl) ?_
       replace h := st_drew h
       refine wa_tk 0 rfl rfl rfl (st_selT [true, true, true] h) (fun w_ hS => ov_fieldAddr _ ⟨b19, 0, none⟩ _ rfl fo34_0 rfl) ?_
       refine wa_tk 1 rfl rfl rfl (st_selT [true, true, true] h) (fun w_ hS => ov_loadb 0 _ hS rfl rfl sh3 rfl) ?_
       refine wa_tk 2 rfl rfl rfl (st_selT [true, true, true] h) (fun w_ hS => ov_move _ rfl) ?_
       refine wa_tk 3 rfl rfl rfl (st_selT [true, true, true] h) (fun w_ hS => ov_len _ _ _ _ _ rfl es22) ?_
       refine wa_tk 4 rfl rfl rfl (st_selT [true, true, true] h) (fun w_ hS => ov_bin _ rfl rfl (binR_geq)) ?_
       refine wa_tk 5 rfl rfl rfl (st_selT [true, true, true] h) (fun w_ hS => ov_move _ rfl) ?_
       refine wa_split 149 rfl (fun c89 => ?_) (fun c89 => ?_)
       ·
        refine wa_sk 6 rfl rfl rfl (st_selT [true, true, true] h) ?_
        refine wa_sk 7 rfl rfl rfl (st_selT [true, true, true] h) ?_
        refine wa_sk 8 rfl rfl rfl (st_selT [true, true, true] h) ?_
        refine wa_tk 9 rfl rfl rfl (st_selT [true, true, true] h) (fun w_ hS => ov_pick_true _ rfl rfl) ?_
        refine wa_tk 10 rfl rfl rfl (st_selT [true, true, true] h) (fun w_ hS => ov_move _ rfl) ?_
        refine wa_sk 11 rfl rfl rfl (st_selT [true, true, true] h) ?_
        refine wa_sk 12 rfl rfl rfl (st_selT [true, true, true] h) ?_
        refine wa_sk 13 rfl rfl rfl (st_selT [true, true, true] h) ?_
        refine wa_sk 14 rfl rfl rfl (st_selT [true, true, true] h) ?_
        refine wa_sk 15 rfl rfl rfl (st_selT [true, true, true] h) ?_
        refine wa_sk 16 rfl rfl rfl (st_selT [true, true, true] h) ?_
        refine wa_sk 17 rfl rfl rfl (st_selT [true, true, true] h) ?_
        refine wa_sk 18 rfl rfl rfl (st_selT [true, true, true] h) ?_
        refine wa_sk 19 rfl rfl rfl (st_selT [true, true, true] h) ?_
        refine wa_sk 20 rfl rfl rfl (st_selT [true, true, true] h) ?_
        refine wa_tk 21 rfl rfl rfl (st_selT [true, true, true] h) (fun w_ hS => ov_pick_true _ rfl rfl) ?_
        refine wa_tk 22 rfl rfl rfl (st_selT [true, true, true] h) (fun w_ hS => ov_move _ rfl) ?_
        refine wa_sk 23 rfl rfl rfl (st_selT [true, true, true] h) ?_
        refine wa_sk 24 rfl rfl rfl (st_selT [true, true, true] h) ?_
        refine wa_sk 25 rfl rfl rfl (st_selT [true, true, true] h) ?_
        refine wa_sk 26 rfl rfl rfl (st_selT [true, true, true] h) ?_
        refine wa_tk 27 rfl rfl rfl (st_selT [true, true, true] h) (fun w_ hS => ov_pick_true _ rfl rfl) ?_
        refine wa_tk 28 rfl rfl rfl (st_selT [true, true, true] h) (fun w_ hS => ov_move _ rfl) ?_
        refine wa_sk 29 rfl rfl rfl (st_selT [true, true, true] h) ?_
        refine wa_sk 30 rfl rfl rfl (st_selT [true, true, true] h) ?_
        refine wa_sk 31 rfl rfl rfl (st_selT [true, true, true] h) ?_
        refine wa_sk 32 rfl rfl rfl (st_selT [true, true, true] h) ?_
        refine wa_sk 33 rfl rfl rfl (st_selT [true, true, true] h) ?_
        refine wa_sk 34 rfl rfl rfl (st_selT [true, true, true] h) ?_
        refine wa_sk 35 rfl rfl rfl (st_selT [true, true, true] h) ?_
        refine wa_sk 36 rfl rfl rfl (st_selT [true, true, true] h) ?_
        refine wa_sk 37 rfl rfl rfl (st_selT [true, true, true] h) ?_
        refine wa_tk 38 rfl rfl rfl (st_selT [true, true, true] h) (fun w_ hS => ov_pick_true _ rfl rfl) ?_
        refine wa_done (by kernel_rfl) ?_
        refine qn_then ?_
        refine wc_cond_true rfl ?_
        refine wc_seq ?_
        refine wc_region ?_
        refine wl_v rfl rfl (ov_assign _ rfl) ?_
        refine wl_v rfl rfl (ov_assign _ rfl) ?_
        refine wl_nil ?_
        refine qn_then ?_
        refine wc_ret ?_
        refine qn_then_ret ?_
        refine qn_block_ret ?_
        refine qn_then_ret ?_
        refine qn_block_ret ?_
        refine qn_then_ret ?_
        refine qn_then_ret ?_
        refine qn_block_ret ?_
        refine qn_then_ret ?_
        replace h := st_selT [false, false, false] h
        refine qn_ret [_, _] ⟨rfl, rfl, trivial⟩ ?_
        have hpg_ : Pure.pgs x ((rs).getD k z34).f0 = (x.getD (((rs).getD k z34).f0 : Int).toNat z31).f0 := rfl
        have e_ := Pure.ref_none (x := x) (rs := rs) (k := k + 1) (by omega) (by rw [Pure.rfold, hJ.1]; exact Lib.rx_none hpg_ hJ.2.2.1 (by omega))
        rw [e_]
        exact ⟨none, 0, rfl, Nat.le_refl _, Kd.C_nil _ _, h⟩
       ·
        have hpl_ := (Pure.few_at hFx ((rs).getD k z34).f0 (by omega) (by omega)).1
        replace hpl_ : ((x.getD (((rs).getD k z34).f0 : Int).toNat z31).f0).length ≤ 40 := hpl_
        refine wa_tk 6 rfl rfl rfl (st_selT [true, true, true] h) (fun w_ hS => ov_fieldAddr _ ⟨b19, 2, none⟩ _ rfl fo34_2 rfl) ?_
        refine wa_tk 7 rfl rfl rfl (st_selT [true, true, true] h) (fun w_ hS => ov_loadb 0 _ hS rfl rfl sh3 rfl) ?_
        refine wa_tk 8 rfl rfl rfl (st_selT [true, true, true] h) (fun w_ hS => ov_bin _ rfl rfl (binR_neq)) ?_
        refine wa_tk 9 rfl rfl rfl (st_selT [true, true, true] h) (fun w_ hS => ov_pick_false _ rfl rfl) ?_
        refine wa_tk 10 rfl rfl rfl (st_selT [true, true, true] h) (fun w_ hS => ov_move _ rfl) ?_
        refine wa_split 154 rfl (fun c90 => ?_) (fun c90 => ?_)
        ·
         refine wa_sk 11 rfl rfl rfl (st_selT [true, true, true] h) ?_
         refine wa_sk 12 rfl rfl rfl (st_selT [true, true, true] h) ?_
         refine wa_sk 13 rfl rfl rfl (st_selT [true, true, true] h) ?_
         refine wa_sk 14 rfl rfl rfl (st_selT [true, true, true] h) ?_
         refine wa_sk 15 rfl rfl rfl (st_selT [true, true, true] h) ?_
         refine wa_sk 16 rfl rfl rfl (st_selT [true, true, true] h) ?_
         refine wa_sk 17 rfl rfl rfl (st_selT [true, true, true] h) ?_
         refine wa_sk 18 rfl rfl rfl (st_selT [true, true, true] h) ?_
         refine wa_sk 19 rfl rfl rfl (st_selT [true, true, true] h) ?_
         refine wa_sk 20 rfl rfl rfl (st_selT [true, true, true] h) ?_
         refine wa_tk 21 rfl rfl rfl (st_selT [true, true, true] h) (fun w_ hS => ov_pick_true _ rfl rfl) ?_
         refine wa_tk 22 rfl rfl rfl (st_selT [true, true, true] h) (fun w_ hS => ov_move _ rfl) ?_
         refine wa_sk 23 rfl rfl rfl (st_selT [true, true, true] h) ?_
         refine wa_sk 24 rfl rfl rfl (st_selT [true, true, true] h) ?_
         refine wa_sk 25 rfl rfl rfl (st_selT [true, true, true] h) ?_
         refine wa_sk 26 rfl rfl rfl (st_selT [true, true, true] h) ?_
         refine wa_tk 27 rfl rfl rfl (st_selT [true, true, true] h) (fun w_ hS => ov_pick_true _ rfl rfl) ?_
         refine wa_tk 28 rfl rfl rfl (st_selT [true, true, true] h) (fun w_ hS => ov_move _ rfl) ?_
         refine wa_sk 29 rfl rfl rfl (st_selT [true, true, true] h) ?_
         refine wa_sk 30 rfl rfl rfl (st_selT [true, true, true] h) ?_
         refine wa_sk 31 rfl rfl rfl (st_selT [true, true, true] h) ?_
         refine wa_sk 32 rfl rfl rfl (st_selT [true, true, true] h) ?_
         refine wa_sk 33 rfl rfl rfl (st_selT [true, true, true] h) ?_
         refine wa_sk 34 rfl rfl rfl (st_selT [true, true, true] h) ?_
         refine wa_sk 35 rfl rfl rfl (st_selT [true, true, true] h) ?_
         refine wa_sk 36 rfl rfl rfl (st_selT [true, true, true] h) ?_
         refine wa_sk 37 rfl rfl rfl (st_selT [true, true, true] h) ?_
         refine wa_tk 38 rfl rfl rfl (st_selT [true, true, true] h) (fun w_ hS => ov_pick_true _ rfl rfl) ?_
         refine wa_done (by kernel_rfl) ?_
         refine qn_then ?_
         refine wc_cond_true rfl ?_
         refine wc_seq ?_
         refine wc_region ?_
         refine wl_v rfl rfl (ov_assign _ rfl) ?_
         refine wl_v rfl rfl (ov_assign _ rfl) ?_
         refine wl_nil ?_
         refine qn_then ?_
         refine wc_ret ?_
         refine qn_then_ret ?_
         refine qn_block_ret ?_
         refine qn_then_ret ?_
         refine qn_block_ret ?_
         refine qn_then_ret ?_
         refine qn_then_ret ?_
         refine qn_block_ret ?_
         refine qn_then_ret ?_
         replace h := st_selT [false, false, false] h
         refine qn_ret [_, _] ⟨rfl, rfl, trivial⟩ ?_
         have hpg_ : Pure.pgs x ((rs).getD k z34).f0 = (x.getD (((rs).getD k z34).f0 : Int).toNat z31).f0 := rfl
         have e_ := Pure.ref_none (x := x) (rs := rs) (k := k + 1) (by omega) (by rw [Pure.rfold, hJ.1]; exact Lib.rx_none hpg_ hJ.2.2.1 (by omega))
         rw [e_]
         exact ⟨none, 0, rfl, Nat.le_refl _, Kd.C_nil _ _, h⟩
        ·
         refine wa_tk 11 rfl rfl rfl (st_selT [true, true, true] h) (fun w_ hS => ov_fieldAddr _ ⟨b19, 3, none⟩ _ rfl fo34_3 rfl) ?_
         refine wa_tk 12 rfl rfl rfl (st_selT [true, true, true] h) (fun w_ hS => ov_loadb 0 _ hS rfl rfl sh3 rfl) ?_
         refine wa_tk 13 rfl rfl rfl (st_selT [true, true, true] h) (fun w_ hS => ov_move _ rfl) ?_
         refine wa_tk 14 rfl rfl rfl (st_selT [true, true, true] h) (fun w_ hS => ov_fieldAddr _ ⟨b19, 0, none⟩ _ rfl fo34_0 rfl) ?_
         refine wa_tk 15 rfl rfl rfl (st_selT [true, true, true] h) (fun w_ hS => ov_loadb 0 _ hS rfl rfl sh3 rfl) ?_
         obtain ⟨ad91, rfl⟩ := Sx.C_some ((Sx.ro_C hv h hCx)) (k := ((((rs).getD k z34)).f0 : Int).toNat) (by first | assumption | omega)
         refine wa_tk 16 rfl rfl rfl (st_selT [true, true, true] h) (fun w_ hS => ov_indexAddrN _ _ _ _ _ ((((rs).getD k z34)).f0 : Int).toNat rfl rfl es22 (by omega) (by first | assumption | omega | (simp only [List.length_take, List.length_drop, List.length_set]; omega))) ?_
         refine wa_tk 17 rfl rfl rfl (st_selT [true, true, true] h) (fun w_ hS => ov_fieldAddr _ ((ad91).add (((((rs).getD k z34)).f0 : Int).toNat * 1 + 0)) _ rfl fo31_0 (by first | exact Deep.add_add _ _ _ | (rw [Deep.add_add]) | rfl)) ?_
         obtain ⟨cl94, _, hk93, hc92⟩ := Sx.C_cells (hCx) (z := z31) (k := ((((rs).getD k z34)).f0 : Int).toNat) (by first | assumption | omega)
         obtain ⟨A95, cp96, rfl, hl97, hn98⟩ := k31_open hk93
         refine wa_tk 18 rfl rfl rfl (st_selT [true, true, true] h) (fun w_ hS => ov_load1 _ _ rfl sh29 (Sx.ro_cell hv hS (hc92 0 _ rfl))) ?_
         refine wa_tk 19 rfl rfl rfl (st_selT [true, true, true] h) (fun w_ hS => ov_len _ _ _ _ _ rfl es29) ?_
         refine wa_tk 20 rfl rfl rfl (st_selT [true, true, true] h) (fun w_ hS => ov_bin _ rfl rfl (binR_neq)) ?_
         refine wa_tk 21 rfl rfl rfl (st_selT [true, true, true] h) (fun w_ hS => ov_pick_false _ rfl rfl) ?_
         refine wa_tk 22 rfl rfl rfl (st_selT [true, true, true] h) (fun w_ hS => ov_move _ rfl) ?_
         refine wa_split 166 rfl (fun c99 => ?_) (fun c99 => ?_)
         ·
          refine wa_sk 23 rfl rfl rfl (st_selT [true, true, true] h) ?_
          refine wa_sk 24 rfl rfl rfl (st_selT [true, true, true] h) ?_
          refine wa_sk 25 rfl rfl rfl (st_selT [true, true, true] h) ?_
          refine wa_sk 26 rfl rfl rfl (st_selT [true, true, true] h) ?_
          refine wa_tk 27 rfl rfl rfl (st_selT [true, true, true] h) (fun w_ hS => ov_pick_true _ rfl rfl) ?_
          refine wa_tk 28 rfl rfl rfl (st_selT [true, true, true] h) (fun w_ hS => ov_move _ rfl) ?_
          refine wa_sk 29 rfl rfl rfl (st_selT [true, true, true] h) ?_
          refine wa_sk 30 rfl rfl rfl (st_selT [true, true, true] h) ?_
          refine wa_sk 31 rfl rfl rfl (st_selT [true, true, true] h) ?_
          refine wa_sk 32 rfl rfl rfl (st_selT [true, true, true] h) ?_
          refine wa_sk 33 rfl rfl rfl (st_selT [true, true, true] h) ?_
          refine wa_sk 34 rfl rfl rfl (st_selT [true, true, true] h) ?_
          refine wa_sk 35 rfl rfl rfl (st_selT [true, true, true] h) ?_
          refine wa_sk 36 rfl rfl rfl (st_selT [true, true, true] h) ?_
          refine wa_sk 37 rfl rfl rfl (st_selT [true, true, true] h) ?_
          refine wa_tk 38 rfl rfl rfl (st_selT [true, true, true] h) (fun w_ hS => ov_pick_true _ rfl rfl) ?_
          refine wa_done (by kernel_rfl) ?_
          refine qn_then ?_
          refine wc_cond_true rfl ?_
          refine wc_seq ?_
          refine wc_region ?_
          refine wl_v rfl rfl (ov_assign _ rfl) ?_
          refine wl_v rfl rfl (ov_assign _ rfl) ?_
          refine wl_nil ?_
          refine qn_then ?_
          refine wc_ret ?_
          refine qn_then_ret ?_
          refine qn_block_ret ?_
          refine qn_then_ret ?_
          refine qn_block_ret ?_
          refine qn_then_ret ?_
          refine qn_then_ret ?_
          refine qn_block_ret ?_
          refine qn_then_ret ?_
          replace h := st_selT [false, false, false] h
          refine qn_ret [_, _] ⟨rfl, rfl, trivial⟩ ?_
          have hpg_ : Pure.pgs x ((rs).getD k z34).f0 = (x.getD (((rs).getD k z34).f0 : Int).toNat z31).f0 := rfl
          have e_ := Pure.ref_none (x := x) (rs := rs) (k := k + 1) (by omega) (by rw [Pure.rfold, hJ.1]; exact Lib.rx_none hpg_ hJ.2.2.1 (by omega))
          rw [e_]
          exact ⟨none, 0, rfl, Nat.le_refl _, Kd.C_nil _ _, h⟩
         ·
          refine wa_tk 23 rfl rfl rfl (st_selT [true, true, true] h) (fun w_ hS => ov_fieldAddr _ ⟨b19, 4, none⟩ _ rfl fo34_4 rfl) ?_
          refine wa_tk 24 rfl rfl rfl (st_selT [true, true, true] h) (fun w_ hS => ov_loadb 0 _ hS rfl rfl sh29 rfl) ?_
          refine wa_tk 25 rfl rfl rfl (st_selT [true, true, true] h) (fun w_ hS => ov_len _ _ _ _ _ rfl es29) ?_
          refine wa_tk 26 rfl rfl rfl (st_selT [true, true, true] h) (fun w_ hS => ov_bin _ rfl rfl (binR_gtr)) ?_
          refine wa_tk 27 rfl rfl rfl (st_selT [true, true, true] h) (fun w_ hS => ov_pick_false _ rfl rfl) ?_
          refine wa_tk 28 rfl rfl rfl (st_selT [true, true, true] h) (fun w_ hS => ov_move _ rfl) ?_
          refine wa_split 172 rfl (fun c100 => ?_) (fun c100 => ?_)
          ·
           refine wa_sk 29 rfl rfl rfl (st_selT [true, true, true] h) ?_
           refine wa_sk 30 rfl rfl rfl (st_selT [true, true, true] h) ?_
           refine wa_sk 31 rfl rfl rfl (st_selT [true, true, true] h) ?_
           refine wa_sk 32 rfl rfl rfl (st_selT [true, true, true] h) ?_
           refine wa_sk 33 rfl rfl rfl (st_selT [true, true, true] h) ?_
           refine wa_sk 34 rfl rfl rfl (st_selT [true, true, true] h) ?_
           refine wa_sk 35 rfl rfl rfl (st_selT [true, true, true] h) ?_
           refine wa_sk 36 rfl rfl rfl (st_selT [true, true, true] h) ?_
           refine wa_sk 37 rfl rfl rfl (st_selT [true, true, true] h) ?_
           refine wa_tk 38 rfl rfl rfl (st_selT [true, true, true] h) (fun w_ hS => ov_pick_true _ rfl rfl) ?_
           refine wa_done (by kernel_rfl) ?_
           refine qn_then ?_
           refine wc_cond_true rfl ?_
           refine wc_seq ?_
           refine wc_region ?_
           refine wl_v rfl rfl (ov_assign _ rfl) ?_
           refine wl_v rfl rfl (ov_assign _ rfl) ?_
           refine wl_nil ?_
           refine qn_then ?_
           refine wc_ret ?_
           refine qn_then_ret ?_
           refine qn_block_ret ?_
           refine qn_then_ret ?_
           refine qn_block_ret ?_
           refine qn_then_ret ?_
           refine qn_then_ret ?_
           refine qn_block_ret ?_
           refine qn_then_ret ?_
           replace h := st_selT [false, false, false] h
           refine qn_ret [_, _] ⟨rfl, rfl, trivial⟩ ?_
           have hpg_ : Pure.pgs x ((rs).getD k z34).f0 = (x.getD (((rs).getD k z34).f0 : Int).toNat z31).f0 := rfl
           have e_ := Pure.ref_none (x := x) (rs := rs) (k := k + 1) (by omega) (by rw [Pure.rfold, hJ.1]; exact Lib.rx_none hpg_ hJ.2.2.1 (by omega))
           rw [e_]
           exact ⟨none, 0, rfl, Nat.le_refl _, Kd.C_nil _ _, h⟩
          ·
           refine wa_tk 29 rfl rfl rfl (st_selT [true, true, true] h) (fun w_ hS => ov_move _ rfl) ?_
           refine wa_tk 30 rfl rfl rfl (st_selT [true, true, true] h) (fun w_ hS => ov_bin _ rfl rfl (binR_geq)) ?_
           refine wa_tk 31 rfl rfl rfl (st_selT [true, true, true] h) (fun w_ hS => ov_move _ rfl) ?_
           refine wa_split 175 rfl (fun c101 => ?_) (fun c101 => ?_)
           ·
            exact absurd c101 c21
           ·
            refine wa_sk 32 rfl rfl rfl (st_selT [true, true, true] h) ?_
            refine wa_sk 33 rfl rfl rfl (st_selT [true, true, true] h) ?_
            refine wa_sk 34 rfl rfl rfl (st_selT [true, true, true] h) ?_
            refine wa_sk 35 rfl rfl rfl (st_selT [true, true, true] h) ?_
            refine wa_sk 36 rfl rfl rfl (st_selT [true, true, true] h) ?_
            refine wa_tk 37 rfl rfl rfl (st_selT [true, true, true] h) (fun w_ hS => ov_pick_false _ rfl rfl) ?_
            refine wa_tk 38 rfl rfl rfl (st_selT [true, true, true] h) (fun w_ hS => ov_pick_false _ rfl rfl) ?_
            refine wa_done (by kernel_rfl) ?_
            refine qn_then ?_
            refine wc_cond_false rfl ?_
            refine wc_skip ?_
            refine qn_then ?_
            refine wc_seq ?_
            refine wc_region ?_
            refine wl_v rfl rfl (ov_move _ rfl) ?_
            refine wl_v rfl rfl (ov_bin _ rfl rfl (binR_lss)) ?_
            refine wl_nil ?_
            refine qn_then ?_
            refine wc_cond (by rfl) (fun c102 => ?_) (fun c102 => ?_)
            ·
             refine wc_region ?_
             refine wl_v rfl rfl (ov_fieldAddr _ ⟨b19, 0, none⟩ _ rfl fo34_0 rfl) ?_
             refine wl_v rfl rfl (ov_loadb 0 _ h rfl rfl sh3 rfl) ?_
             refine wl_v rfl rfl (ov_assign _ rfl) ?_
             refine wl_nil ?_
             refine qn_block_normal ?_
             refine qn_then ?_
             refine wc_region ?_
             refine wl_v rfl rfl (ov_fieldAddr _ ⟨b19, 0, none⟩ _ rfl fo34_0 rfl) ?_
             refine wl_v rfl rfl (ov_loadb 0 _ h rfl rfl sh3 rfl) ?_
             refine wl_v rfl rfl (ov_assign _ rfl) ?_
             refine wl_nil ?_
             refine qn_block_normal ?_
             refine qn_then ?_
             refine wc_region ?_
             refine wl_v rfl rfl (ov_move _ rfl) ?_
             refine wl_v rfl rfl (ov_bin _ rfl rfl (binR_add (r := ((k : Int)) + 1) (Sx.w64 (by omega)))) ?_
             refine wl_v rfl rfl (ov_assign _ rfl) ?_
             refine wl_nil ?_
             have hpg_ : Pure.pgs x ((rs).getD k z34).f0 = (x.getD (((rs).getD k z34).f0 : Int).toNat z31).f0 := rfl
             have hst_ := Lib.rx_gone (t := t) (kp := (((rs).getD k z34)).f0) hpg_ hJ.2.2.1 (by omega) (by omega) (by omega) (by split <;> omega)
             replace h := st_front 2 h
             replace h := st_front 2 h
             replace h := st_selT [true, true, false] h
             refine qn_next ((k + 1), A, c, (Ps), (⟨(Ps).map (·.1), ((rs).getD k z34).f0, (((rs).getD k z34)).f0⟩ : Pure.RSt)) (by show rs.length - (k + 1) < rs.length - k; omega) ⟨(congrArg (fun z_ => some (Value.slice (some ad91) z_ (cx))) (show (x.length : Nat) = x.length by first | rfl | simp)), (congrArg (fun z_ => some (Value.slice (some ad11) z_ (crs))) (show (rs.length : Nat) = rs.length by first | rfl | simp)), (congrArg (fun z_ => some (Value.slice (A) z_ (c))) (show (Ps.length : Nat) = (Ps).length by first | rfl | simp)), (congrArg (fun z_ => some (Value.int .i64 z_)) (show ((((rs).getD k z34)).f0 : Int) = ((⟨(Ps).map (·.1), ((rs).getD k z34).f0, (((rs).getD k z34)).f0⟩ : Pure.RSt)).last by rfl)), (congrArg (fun z_ => some (Value.int .i64 z_)) (show ((((rs).getD k z34)).f0 : Int) = ((⟨(Ps).map (·.1), ((rs).getD k z34).f0, (((rs).getD k z34)).f0⟩ : Pure.RSt)).keep by rfl)), (congrArg (fun z_ => some (Value.int .i64 z_)) (show (((k : Int)) + 1 : Int) = ((k + 1) : Int) by omega)), trivial⟩ ?_
             show (Pure.rfold x rs (k + 1) = some (⟨(Ps).map (·.1), ((rs).getD k z34).f0, (((rs).getD k z34)).f0⟩ : Pure.RSt) ∧ (k + 1) ≤ rs.length ∧ ((Ps)).map (·.1) = ((⟨(Ps).map (·.1), ((rs).getD k z34).f0, (((rs).getD k z34)).f0⟩ : Pure.RSt)).out ∧ Pure.RInv x (k + 1) (⟨(Ps).map (·.1), ((rs).getD k z34).f0, (((rs).getD k z34)).f0⟩ : Pure.RSt)) ∧ _
             exact ⟨⟨by rw [Pure.rfold, hJ.1]; exact hst_, by omega, rfl, Pure.rinv_step (by omega) hJ.2.2.2 hst_⟩, h⟩
            ·
             refine wc_skip ?_
             refine qn_block_normal ?_
             refine qn_then ?_
             refine wc_region ?_
             refine wl_v rfl rfl (ov_fieldAddr _ ⟨b19, 0, none⟩ _ rfl fo34_0 rfl) ?_
             refine wl_v rfl rfl (ov_loadb 0 _ h rfl rfl sh3 rfl) ?_
             refine wl_v rfl rfl (ov_assign _ rfl) ?_
             refine wl_nil ?_
             refine qn_block_normal ?_
             refine qn_then ?_
             refine wc_region ?_
             refine wl_v rfl rfl (ov_move _ rfl) ?_
             refine wl_v rfl rfl (ov_bin _ rfl rfl (binR_add (r := ((k : Int)) + 1) (Sx.w64 (by omega)))) ?_
             refine wl_v rfl rfl (ov_assign _ rfl) ?_
             refine wl_nil ?_
             have hpg_ : Pure.pgs x ((rs).getD k z34).f0 = (x.getD (((rs).getD k z34).f0 : Int).toNat z31).f0 := rfl
             have hst_ := Lib.rx_gone (t := t) (kp := (t).keep) hpg_ hJ.2.2.1 (by omega) (by omega) (by omega) (by split <;> omega)
             replace h := st_front 2 h
             replace h := st_front 2 h
             replace h := st_selT [true, true, false] h
             refine qn_next ((k + 1), A, c, (Ps), (⟨(Ps).map (·.1), ((rs).getD k z34).f0, (t).keep⟩ : Pure.RSt)) (by show rs.length - (k + 1) < rs.length - k; omega) ⟨(congrArg (fun z_ => some (Value.slice (some ad91) z_ (cx))) (show (x.length : Nat) = x.length by first | rfl | simp)), (congrArg (fun z_ => some (Value.slice (some ad11) z_ (crs))) (show (rs.length : Nat) = rs.length by first | rfl | simp)), (congrArg (fun z_ => some (Value.slice (A) z_ (c))) (show (Ps.length : Nat) = (Ps).length by first | rfl | simp)), (congrArg (fun z_ => some (Value.int .i64 z_)) (show ((((rs).getD k z34)).f0 : Int) = ((⟨(Ps).map (·.1), ((rs).getD k z34).f0, (t).keep⟩ : Pure.RSt)).last by rfl)), (congrArg (fun z_ => some (Value.int .i64 z_)) (show ((t).keep : Int) = ((⟨(Ps).map (·.1), ((rs).getD k z34).f0, (t).keep⟩ : Pure.RSt)).keep by rfl)), (congrArg (fun z_ => some (Value.int .i64 z_)) (show (((k : Int)) + 1 : Int) = ((k + 1) : Int) by omega)), trivial⟩ ?_
             show (Pure.rfold x rs (k + 1) = some (⟨(Ps).map (·.1), ((rs).getD k z34).f0, (t).keep⟩ : Pure.RSt) ∧ (k + 1) ≤ rs.length ∧ ((Ps)).map (·.1) = ((⟨(Ps).map (·.1), ((rs).getD k z34).f0, (t).keep⟩ : Pure.RSt)).out ∧ Pure.RInv x (k + 1) (⟨(Ps).map (·.1), ((rs).getD k z34).f0, (t).keep⟩ : Pure.RSt)) ∧ _
             exact ⟨⟨by rw [Pure.rfold, hJ.1]; exact hst_, by omega, rfl, Pure.rinv_step (by omega) hJ.2.2.2 hst_⟩, h⟩
      ·
       refine wc_seq ?_
       refine wc_region ?_
       refine wl_v rfl rfl (ov_assign _ rfl) ?_
       refine wl_v rfl rfl (ov_assign _ rfl) ?_
       refine wl_nil ?_
       refine qn_then ?_
       refine wc_ret ?_
       refine qn_block_ret ?_
       refine qn_then_ret ?_
       refine qn_block_ret ?_
       refine qn_then_ret ?_
       refine qn_then_ret ?_
       refine qn_block_ret ?_
       refine qn_then_ret ?_
       replace h := st_selT [false, false, false] h
       refine qn_ret [_, _] ⟨rfl, rfl, trivial⟩ ?_
       have hpg_ : Pure.pgs x ((rs).getD k z34).f0 = (x.getD (((rs).getD k z34).f0 : Int).toNat z31).f0 := rfl
       have e_ := Pure.ref_none (x := x) (rs := rs) (k := k + 1) (by omega) (by rw [Pure.rfold, hJ.1]; exact Lib.rx_none hpg_ hJ.2.2.1 (by omega))
       rw [e_]
       exact ⟨none, 0, rfl, Nat.le_refl _, Kd.C_nil _ _, h⟩
 ·
  refine wc_exit ?_
  refine qn_then_exit ?_
  refine qn_then_exit ?_
  refine qn_block_exit ?_
  refine qn_then ?_
  refine wc_seq ?_
  refine wc_seq ?_
  refine wc_region ?_
  refine wl_v rfl rfl (ov_move _ rfl) ?_
  refine wl_v rfl rfl (ov_bin _ rfl rfl (binR_geq)) ?_
  refine wl_nil ?_
  refine qn_then ?_
  refine wc_cond (by rfl) (fun c103 => ?_) (fun c103 => ?_)
  ·
   refine wc_seq ?_
   refine wc_seq ?_
   refine wc_region ?_
   refine wl_v rfl rfl (ov_move _ rfl) ?_
   refine wl_v rfl rfl (ov_move _ rfl) ?_
   refine wl_v rfl rfl (ov_len _ _ _ _ _ rfl es22) ?_
   refine wl_v rfl rfl (ov_bin _ rfl rfl (binR_sub (r := (((x.length : Nat) : Int)) - 1) (Sx.w64 (by omega)))) ?_
   refine wl_v rfl rfl (ov_bin _ rfl rfl (binR_neq)) ?_
   refine wl_nil ?_
   refine qn_then ?_
   refine wc_cond (by rfl) (fun c104 => ?_) (fun c104 => ?_)
   ·
    refine wc_seq ?_
    refine wc_region ?_
    refine wl_v rfl rfl (ov_assign _ rfl) ?_
    refine wl_v rfl rfl (ov_assign _ rfl) ?_
    refine wl_nil ?_
    refine qn_then ?_
    refine wc_ret ?_
    refine qn_then_ret ?_
    refine qn_then_ret ?_
    replace h := st_selT [false, false] h
    refine qn_ret [_, _] ⟨rfl, rfl, trivial⟩ ?_
    have e_ := (Pure.ref_at (by omega) hJ.2.1 hJ.1).trans (show Pure.rfin x t = none by unfold Pure.rfin; rw [if_pos (by omega), if_pos (by omega)])
    rw [e_]
    exact ⟨none, 0, rfl, Nat.le_refl _, Kd.C_nil _ _, h⟩
   ·
    refine wc_skip ?_
    refine qn_then ?_
    refine wc_region ?_
    refine wl_v rfl rfl (ov_move _ rfl) ?_
    refine wl_v rfl rfl (ov_move _ rfl) ?_
    have hcap105 := (Sx.row_reads h (i := 0) rfl).1
    obtain ⟨A106, hA107⟩ : ∃ A_, (if c = 0 then A else Option.map (·.add (0 * 1)) (A)) = A_ := ⟨_, rfl⟩
    refine wl_v rfl rfl (ov_slice _ _ _ 0 (((t).keep : Int).toNat) (by rfl) (by exact rfl) (by exact ⟨_, _, rfl, (by omega)⟩) es22 (by omega) (by omega) hA107 (n' := (((Ps).take (((t).keep : Int).toNat)).drop 0).length) (by simp only [List.length_drop, List.length_take]; omega)) ?_
    refine wl_v rfl rfl (ov_assign _ rfl) ?_
    refine wl_nil ?_
    refine qn_then ?_
    refine wc_seq ?_
    refine wc_region ?_
    refine wl_v rfl rfl (ov_move _ rfl) ?_
    refine wl_v rfl rfl (ov_assign _ rfl) ?_
    refine wl_v rfl rfl (ov_assign _ rfl) ?_
    refine wl_nil ?_
    refine qn_then ?_
    refine wc_ret ?_
    have hll_ := Lib.libO_now hv h (i := 1) rfl
    have hC_ := Lib.up_P ((Sx.mid_C (lo := 0) (hi := (((t).keep : Int).toNat)) (by omega) (by omega) hcap105 hA107 ((Sx.row_reads h (i := 0) rfl).2))) (fun p_ hp_ => by first | exact hll_ p_ hp_ | exact hll_ p_ (List.mem_of_mem_take (List.mem_of_mem_drop hp_)))
    have hcap_ := ((by simp only [List.length_drop, List.length_take]; omega) : (((Ps).take (((t).keep : Int).toNat)).drop 0).length ≤ c - 0)
    have e_ : Pure.refV x rs = some ((((Ps).take (((t).keep : Int).toNat)).drop 0).map (·.1)) := (Pure.ref_at (by omega) hJ.2.1 hJ.1).trans (by unfold Pure.rfin; first | (rw [if_neg (by omega), hJ.2.2.1]) | (rw [if_pos (by omega), if_neg (by omega), ← hJ.2.2.1, ← List.map_take]; rfl))
    have el_ : ((((Ps).take (((t).keep : Int).toNat)).drop 0).map (·.1)).length = (((Ps).take (((t).keep : Int).toNat)).drop 0).length := List.length_map ..
    replace h := st_selT [false, false] h
    refine qn_ret [_, _] ⟨rfl, rfl, trivial⟩ ?_
    rw [e_]
    exact ⟨A106, c - 0, by show _ = Ending.returned (Value.tuple #[.slice _ ((((Ps).take (((t).keep : Int).toNat)).drop 0).map (·.1)).length _, .bool true]); rw [el_]; rfl, by show ((((Ps).take (((t).keep : Int).toNat)).drop 0).map (·.1)).length ≤ _; rw [el_]; exact hcap_, by show k31.C _ _ ((((Ps).take (((t).keep : Int).toNat)).drop 0).map (·.1)).length _; rw [el_]; exact hC_, h⟩
  ·
   refine wc_skip ?_
   refine qn_then ?_
   refine wc_seq ?_
   refine wc_region ?_
   refine wl_v rfl rfl (ov_move _ rfl) ?_
   refine wl_v rfl rfl (ov_assign _ rfl) ?_
   refine wl_v rfl rfl (ov_assign _ rfl) ?_
   refine wl_nil ?_
   refine qn_then ?_
   refine wc_ret ?_
   have hll_ := Lib.libO_now hv h (i := 1) rfl
   have hC_ := Lib.up_P ((Sx.row_reads h (i := 0) rfl).2) (fun p_ hp_ => by first | exact hll_ p_ hp_ | exact hll_ p_ (List.mem_of_mem_take (List.mem_of_mem_drop hp_)))
   have hcap_ := (Sx.row_reads h (i := 0) rfl).1
   have e_ : Pure.refV x rs = some ((Ps).map (·.1)) := (Pure.ref_at (by omega) hJ.2.1 hJ.1).trans (by unfold Pure.rfin; first | (rw [if_neg (by omega), hJ.2.2.1]) | (rw [if_pos (by omega), if_neg (by omega), ← hJ.2.2.1, ← List.map_take]; rfl))
   have el_ : ((Ps).map (·.1)).length = (Ps).length := List.length_map ..
   replace h := st_selT [false, false] h
   refine qn_ret [_, _] ⟨rfl, rfl, trivial⟩ ?_
   rw [e_]
   exact ⟨A, c, by show _ = Ending.returned (Value.tuple #[.slice _ ((Ps).map (·.1)).length _, .bool true]); rw [el_]; rfl, by show ((Ps).map (·.1)).length ≤ _; rw [el_]; exact hcap_, by show k31.C _ _ ((Ps).map (·.1)).length _; rw [el_]; exact hC_, h⟩
end Go.Proofs.Ytemgnkloloaeoaa.PR
