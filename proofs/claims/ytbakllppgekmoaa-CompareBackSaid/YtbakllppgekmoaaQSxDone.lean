/- Pruned by wip/prune.py. -/
import Derived.Test.YtbakllppgekmoaaProg
import Derived.Test.YtbakllppgekmoaaQSxGlue
import Derived.Test.YtbakllppgekmoaaQSxFlow
import Derived.Test.YtbakllppgekmoaaQSxShrink
import Derived.Test.YtbakllppgekmoaaQCmpDone
import Derived.Test.YtbakllppgekmoaaQSxRunes
import Derived.Test.YtbakllppgekmoaaQSxEdits
import Derived.Test.YtbakllppgekmoaaQSxApply
namespace Go.Proofs.Ytbakllppgekmoaa.DN
open Go Go.RowKit Go.Proofs.YtbakllppgekmoaaW.PrintWords Go.Proofs.Ytbakllppgekmoaa.Kinds Go.Proofs.Ytbakllppgekmoaa.Cmp Go.Proofs.Ytbakllppgekmoaa.Given Go.Proofs.Ytbakllppgekmoaa.Rn Go.Proofs.Ytbakllppgekmoaa.Sx 
set_option linter.unusedVariables false
set_option linter.unusedSimpArgs false
theorem es22 : Sx.elemSz Try.prog 22 = some (33, 3) := by kernel_rfl
theorem fo33_0 : Sx.fieldOff Try.prog 33 0 = some 0 := by kernel_rfl
theorem sh3 : Sx.shapeOf Try.prog 3 = some (false, 1) := by kernel_rfl
theorem fo33_2 : Sx.fieldOff Try.prog 33 2 = some 2 := by kernel_rfl
theorem sh9 : Sx.shapeOf Try.prog 9 = some (false, 1) := by kernel_rfl
theorem fo33_1 : Sx.fieldOff Try.prog 33 1 = some 1 := by kernel_rfl
theorem ent23 : Sx.Ent Try.prog 23 := ⟨Try.f23, Try.func23, by kernel_rfl, by kernel_rfl⟩
theorem sh33 : Sx.shapeOf Try.prog 33 = some (true, 3) := by kernel_rfl
theorem zo33 : Sx.zeroOf Try.prog 33 = some (.agg #[.int .i64 (0), .int .i64 (0), .string (ByteArray.empty)]) := by kernel_rfl
theorem szf3 : (Try.prog.info? 3).map (·.size) = some 1 := by kernel_rfl
theorem szf9 : (Try.prog.info? 9).map (·.size) = some 1 := by kernel_rfl
theorem infb33 : (Try.prog.info? 33).map (fun i => (i.zero, i.size)) = some (some (.agg #[.int .i64 (0), .int .i64 (0), .string (ByteArray.empty)]), 3) := by kernel_rfl
theorem inf33 : (Try.prog.info? 33).map (fun i => (i.zero, i.size, i.bytes)) = some (some (.agg #[.int .i64 (0), .int .i64 (0), .string (ByteArray.empty)]), 3, 32) := by kernel_rfl
set_option maxHeartbeats 4000000 in
set_option maxRecDepth 100000 in
theorem Back_calls {w0 w : World} {F0 : Nat → Prop} {R : List Sx.HP} {v0 : World} (s : ByteArray) (a : List Edit) (Aa : Option Addr) (ca : Nat) (hv : Sx.RO v0 w0 F0) (hla : a.length ≤ ca) (hCa : k33.C v0 Aa a.length a) (hs : s.size ≤ 300) (hF : FewE a) (h : Sx.St w0 F0 ([] ++ R) w) : Calls Try.prog 22 #[.string (s), .slice (Aa) (a.length) (ca)] w (fun e w1 => ∃ A c, e = .returned (.tuple #[.slice A (if (applyV s a).isSome then backV s a else []).length c, .int .i64 (if (applyV s a).isSome then 0 else 190)]) ∧ Sx.St w0 F0 ([Sx.row k33 33 (A) (c) (if (applyV s a).isSome then backV s a else [])] ++ R) w1) := by
 have hFl_ := hF.1
 refine Sx.calls_fn (vs := [.string (s), .slice (Aa) (a.length) (ca)]) Try.func22 rfl Try.ntmps22 rfl ?_
 refine wc_seq ?_
 refine wc_region ?_
 refine wl_v rfl rfl (ov_assign _ rfl) ?_
 refine wl_v rfl rfl (ov_assign _ rfl) ?_
 refine wl_nil ?_
 refine qn_then ?_
 refine wc_seq ?_
 refine wc_seq ?_
 refine wc_region ?_
 refine wl_v rfl rfl (ov_move _ rfl) ?_
 refine wl_v rfl rfl (ov_move _ rfl) ?_
 refine wl_call _ rfl rfl rfl ent23 (A.Apply_calls (v0 := _) (w0 := _) (F0 := fun _ => False) (R := []) (s) a (Aa) (ca) (Sx.ro_self _) (hla) (Sx.ro_C hv h hCa) (by omega) (by have q_ := hF.1; omega) (fun e_ he_ => Nat.le_trans (hF.2 e_ he_) (by decide)) (st_start _)) ?_
 rintro e_ w_ ⟨rfl, h2_⟩
 refine ⟨_, rfl, ?_⟩
 replace h := st_below h (st_below0 h2_)
 refine wl_v rfl rfl (ov_move _ rfl) ?_
 refine wl_v rfl rfl (ov_extract [.string ((applyV (s) a).getD ByteArray.empty), .int .i64 ((if (applyV (s) a).isSome then 0 else 190))] _ rfl rfl) ?_
 refine wl_v rfl rfl (ov_extract [.string ((applyV (s) a).getD ByteArray.empty), .int .i64 ((if (applyV (s) a).isSome then 0 else 190))] _ rfl rfl) ?_
 refine wl_v rfl rfl (ov_assign _ rfl) ?_
 refine wl_v rfl rfl (ov_assign _ rfl) ?_
 refine wl_nil ?_
 refine qn_then ?_
 refine wc_seq ?_
 refine wc_region ?_
 refine wl_v rfl rfl (ov_move _ rfl) ?_
 refine wl_v rfl rfl (ov_bin _ rfl rfl (binR_neq)) ?_
 refine wl_nil ?_
 refine qn_then ?_
 refine wc_cond (by rfl) (fun c1 => ?_) (fun c1 => ?_)
 ·
  have hsm_ : (applyV (s) a).isSome = false := by
    cases hq_ : (applyV (s) a).isSome with
    | false => rfl
    | true => simp [hq_] at c1
  refine wc_seq ?_
  refine wc_region ?_
  refine wl_v rfl rfl (ov_move _ rfl) ?_
  refine wl_v rfl rfl (ov_assign _ rfl) ?_
  refine wl_v rfl rfl (ov_assign _ rfl) ?_
  refine wl_nil ?_
  refine qn_then ?_
  refine wc_ret ?_
  refine qn_then_ret ?_
  replace h := st_nilrow k33 33 h
  refine qn_ret [_, _] ⟨rfl, rfl, trivial⟩ ?_
  exact ⟨none, 0, by rw [hsm_]; rfl, by rw [hsm_]; exact h⟩
 ·
  have hsm_ : (applyV (s) a).isSome = true := by
    cases hq_ : (applyV (s) a).isSome with
    | true => rfl
    | false => simp [hq_] at c1
  have hio_ := apply_ord hsm_
  refine wc_skip ?_
  refine qn_then ?_
  refine wc_seq ?_
  refine wc_region ?_
  refine wl_v rfl rfl (ov_assign _ rfl) ?_
  refine wl_nil ?_
  refine qn_then ?_
  refine wc_seq ?_
  refine wc_region ?_
  refine wl_v rfl rfl (ov_assign _ rfl) ?_
  refine wl_nil ?_
  refine qn_then ?_
  refine wc_seq ?_
  refine wc_seq ?_
  refine wc_region ?_
  refine wl_v rfl rfl (ov_move _ rfl) ?_
  refine wl_v rfl rfl (ov_len _ _ _ _ _ rfl es22) ?_
  refine wl_v rfl rfl (ov_move _ rfl) ?_
  refine wl_nil ?_
  refine qn_then ?_
  refine wc_block ?_
  replace h := st_nilrow k33 33 h
  have e_ : [] = (backK s a 0).1 := by rfl
  replace h := st_cast (congrArg (fun z_ => ([Sx.row k33 33 (none) (0) (z_)] ++ R)) e_) h
  clear e_
  refine wc_loop (fun (x_ : Nat × (Option Addr) × Nat) => [(0, .string (s)), (8, .slice (x_.2.1) ((backK s a x_.1).1.length) (x_.2.2)), (9, .int .i64 ((backK s a x_.1).2)), (23, .slice (Aa) (a.length) (ca)), (24, .int .i64 ((a.length : Int))), (25, .int .i64 ((x_.1 : Int)))]) (fun (x_ : Nat × (Option Addr) × Nat) (w : World) => (x_.1 ≤ a.length) ∧ Sx.St w0 F0 ([Sx.row k33 33 (x_.2.1) (x_.2.2) ((backK s a x_.1).1)] ++ R) w) (fun (x_ : Nat × (Option Addr) × Nat) => a.length - x_.1) (0, none, 0) ?_ ?_ ?_
  · exact ⟨rfl, rfl, (congrArg (fun z_ => some (Value.int .i64 z_)) (show (0 : Int) = (backK s a 0).2 by rfl)), rfl, (congrArg (fun z_ => some (Value.int .i64 z_)) (show (((a.length : Nat) : Int) : Int) = (a.length : Int) by omega)), (congrArg (fun z_ => some (Value.int .i64 z_)) (show (0 : Int) = (0 : Int) by omega)), trivial⟩
  · exact ⟨Nat.zero_le _, h⟩
  rintro ⟨k, A, c⟩ w h
  obtain ⟨hJ, h⟩ := h
  replace hJ : k ≤ a.length := hJ
  replace h : Sx.St w0 F0 ([Sx.row k33 33 (A) (c) ((backK s a k).1)] ++ R) w := h
  show Sx.WC _ _ _ _ [(0, .string (s)), (8, .slice (A) ((backK s a k).1.length) (c)), (9, .int .i64 ((backK s a k).2)), (23, .slice (Aa) (a.length) (ca)), (24, .int .i64 ((a.length : Int))), (25, .int .i64 ((k : Int)))] _
  have hbf_ := back_facts hio_ hs hF hJ
  refine wc_seq ?_
  refine wc_region ?_
  refine wl_v rfl rfl (ov_bin _ rfl rfl (binR_lss)) ?_
  refine wl_nil ?_
  refine qn_then ?_
  refine wc_seq ?_
  refine wc_cond (by rfl) (fun c2 => ?_) (fun c2 => ?_)
  ·
   have hft_ : (a.getD k z33).f2.size ≤ 400 := hF.2 _ (ge_mem (by omega))
   have hok_ := hio_ k (by omega)
   unfold OkAt at hok_
   refine wc_skip ?_
   refine qn_then ?_
   refine wc_seq ?_
   refine wc_block ?_
   refine wc_seq ?_
   refine wc_region ?_
   obtain ⟨ad3, rfl⟩ := Sx.C_some ((Sx.ro_C hv h hCa)) (k := k) (by first | assumption | omega)
   refine wl_v rfl rfl (ov_indexAddrN _ _ _ _ _ k rfl rfl es22 rfl (by first | assumption | omega | (simp only [List.length_take, List.length_drop, List.length_set]; omega))) ?_
   obtain ⟨cl6, _, hk5, hc4⟩ := Sx.C_cells (hCa) (z := z33) (k := k) (by first | assumption | omega)
   obtain rfl := k33_open hk5
   refine wl_v rfl rfl (ov_loadN _ [.int .i64 (((a).getD k z33).f0), .int .i64 (((a).getD k z33).f1), .string (((a).getD k z33).f2)] rfl sh33 (by intro j u hu; rw [Deep.add_add]; exact Sx.ro_cell hv h (hc4 _ _ hu))) ?_
   refine wl_alloc _ h rfl rfl zo33 (fun b7 _ h => ?_)
   replace h : Sx.St _ _ (Sx.blk b7 [.int .i64 (0), .int .i64 (0), .string (ByteArray.empty)] 33 :: _) _ := h
   refine wl_storebN 0 [.int .i64 (((a).getD k z33).f0), .int .i64 (((a).getD k z33).f1), .string (((a).getD k z33).f2)] [.int .i64 (((a).getD k z33).f0), .int .i64 (((a).getD k z33).f1), .string (((a).getD k z33).f2)] h rfl rfl rfl rfl (by simp [Value.oneCell']) sh33 rfl rfl (fun _ h => ?_)
   refine wl_nil ?_
   refine qn_then ?_
   refine wc_seq ?_
   refine wc_region ?_
   refine wl_v rfl rfl (ov_fieldAddr _ ⟨b7, 0, none⟩ _ rfl fo33_0 rfl) ?_
   refine wl_v rfl rfl (ov_loadb 0 _ h rfl rfl sh3 rfl) ?_
   refine wl_v rfl rfl (ov_move _ rfl) ?_
   refine wl_v rfl rfl (ov_bin _ rfl rfl (binR_add (r := (((a).getD k z33).f0) + ((backK s a k).2)) (Sx.w64 (by first | omega | (simp only [ByteArray.size_append, ByteArray.size_extract]; omega))))) ?_
   refine wl_v rfl rfl (ov_assign _ rfl) ?_
   refine wl_nil ?_
   refine qn_then ?_
   refine wc_seq ?_
   refine wc_seq ?_
   refine wc_region ?_
   refine wl_v rfl rfl (ov_move _ rfl) ?_
   refine wl_v rfl rfl (ov_len _ _ _ _ _ rfl es22) ?_
   refine wl_v rfl rfl (ov_bin _ rfl rfl (binR_sub (r := ((((backK s a k).1.length : Nat) : Int)) - 1) (Sx.w64 (by first | omega | (simp only [ByteArray.size_append, ByteArray.size_extract]; omega))))) ?_
   refine wl_v rfl rfl (ov_assign _ rfl) ?_
   refine wl_nil ?_
   refine qn_then ?_
   refine wc_seq ?_
   refine wc_region ?_
   refine wl_v rfl rfl (ov_move _ rfl) ?_
   refine wl_v rfl rfl (ov_bin _ rfl rfl (binR_geq)) ?_
   refine wl_v rfl rfl (ov_move _ rfl) ?_
   refine wl_split 38 rfl (fun c8 => ?_) (fun c8 => ?_)
   ·
    refine wl_v rfl rfl (ov_move _ rfl) ?_
    refine wl_v rfl rfl (ov_move _ rfl) ?_
    obtain ⟨ad9, rfl⟩ := Sx.C_some ((Sx.row_reads h (i := 1) rfl).2) (k := (((backK s a k).1.length) - 1)) (by first | assumption | omega)
    refine wl_v rfl rfl (ov_indexAddrN _ _ _ _ _ (((backK s a k).1.length) - 1) rfl rfl es22 (by omega) (by first | assumption | omega | (simp only [List.length_take, List.length_drop, List.length_set]; omega))) ?_
    refine wl_v rfl rfl (ov_fieldAddr _ ((ad9).add ((((backK s a k).1.length) - 1) * 3 + 1)) _ rfl fo33_1 (by first | exact Deep.add_add _ _ _ | (rw [Deep.add_add]) | rfl)) ?_
    obtain ⟨cl12, _, hk11, hc10⟩ := Sx.C_cells ((Sx.row_reads h (i := 1) rfl).2) (z := z33) (k := (((backK s a k).1.length) - 1)) (by first | assumption | omega | (simp only [List.length_set]; omega))
    obtain rfl := k33_open hk11
    refine wl_v rfl rfl (ov_load1 _ _ rfl sh3 ((hc10 1 _ rfl))) ?_
    refine wl_v rfl rfl (ov_move _ rfl) ?_
    refine wl_v rfl rfl (ov_bin _ rfl rfl (binR_eql)) ?_
    refine wl_v rfl rfl (ov_pick_true _ rfl rfl) ?_
    refine wl_nil ?_
    refine qn_then ?_
    refine wc_cond (by rfl) (fun c13 => ?_) (fun c13 => ?_)
    ·
     have hbt_ : ((backK s a k).1.getD (((backK s a k).1.length) - 1) z33).f2.size ≤ 20000 := back_text hio_ hs hF (by omega) _ (ge_mem (by omega))
     have hbm_ := hbf_.2.2.2 _ (ge_mem (l := (backK s a k).1) (i := (backK s a k).1.length - 1) (by omega))
     dsimp only [ge] at hbm_
     refine wc_seq ?_
     refine wc_draw (fun w => Sx.St w0 F0 ([Sx.blk b7 [.int .i64 (((a).getD k z33).f0), .int .i64 (((a).getD k z33).f1), .string (((a).getD k z33).f2)] 33] ++ R) w) (by kernel_rfl) ?_
     replace h := st_drew h
     refine wa_tk 0 rfl rfl rfl (st_selT [true, false] h) (fun w_ hS => ov_move _ rfl) ?_
     refine wa_tk 1 rfl rfl rfl (st_selT [true, false] h) (fun w_ hS => ov_move _ rfl) ?_
     refine wa_tk 2 rfl rfl rfl (st_selT [true, false] h) (fun w_ hS => ov_indexAddrN _ _ _ _ _ (((backK s a k).1.length) - 1) rfl rfl es22 (by omega) (by first | assumption | omega | (simp only [List.length_take, List.length_drop, List.length_set]; omega))) ?_
     refine wa_tk 3 rfl rfl rfl (st_selT [true, false] h) (fun w_ hS => ov_fieldAddr _ ((ad9).add ((((backK s a k).1.length) - 1) * 3 + 1)) _ rfl fo33_1 (by first | exact Deep.add_add _ _ _ | (rw [Deep.add_add]) | rfl)) ?_
     refine wa_tk 5 rfl rfl rfl (st_selT [true, false] h) (fun w_ hS => ov_fieldAddr _ ⟨b7, 2, none⟩ _ rfl fo33_2 rfl) ?_
     refine wa_tk 6 rfl rfl rfl (st_selT [true, false] h) (fun w_ hS => ov_loadb 0 _ hS rfl rfl sh9 rfl) ?_
     refine wa_tk 7 rfl rfl rfl (st_selT [true, false] h) (fun w_ hS => ov_lens _ rfl Try.underlying9) ?_
     refine wa_one 4 rfl (by kernel_rfl) ?_
     obtain ⟨cl28, _, hk27, hc26⟩ := Sx.C_cells ((Sx.row_reads h (i := 1) rfl).2) (z := z33) (k := (((backK s a k).1.length) - 1)) (by first | assumption | omega | (simp only [List.length_set]; omega))
     obtain rfl := k33_open hk27
     refine wl_v rfl rfl (ov_load1 _ _ rfl sh3 ((hc26 1 _ rfl))) ?_
     refine wl_nil ?_
     refine qn_wa (st_selT [true, false] h) ?_
     refine wa_tk 8 rfl rfl rfl (st_selT [true, false] h) (fun w_ hS => ov_bin _ rfl rfl (binR_add (r := ((((backK s a k).1).getD (((backK s a k).1.length) - 1) z33).f1) + (((((a).getD k z33).f2).size : Int))) (Sx.w64 (by first | omega | (simp only [ByteArray.size_append, ByteArray.size_extract]; omega))))) ?_
     refine wa_tk 9 rfl rfl rfl (st_selT [true, false] h) (fun w_ hS => ov_indexAddrN _ _ _ _ _ (((backK s a k).1.length) - 1) rfl rfl es22 (by omega) (by first | assumption | omega | (simp only [List.length_take, List.length_drop, List.length_set]; omega))) ?_
     refine wa_tk 10 rfl rfl rfl (st_selT [true, false] h) (fun w_ hS => ov_fieldAddr _ ((ad9).add ((((backK s a k).1.length) - 1) * 3 + 1)) _ rfl fo33_1 (by first | exact Deep.add_add _ _ _ | (rw [Deep.add_add]) | rfl)) ?_
     refine wa_one 11 rfl (by kernel_rfl) ?_
     refine wl_storeeN 1 (((backK s a k).1.length) - 1) 1 (.int .i64 (((((backK s a k).1).getD (((backK s a k).1.length) - 1) z33).f1) + (((((a).getD k z33).f2).size : Int)))) [.int .i64 (((((backK s a k).1).getD (((backK s a k).1.length) - 1) z33).f1) + (((((a).getD k z33).f2).size : Int)))] z33 ((⟨(((backK s a k).1).getD (((backK s a k).1.length) - 1) z33).f0, ((((backK s a k).1).getD (((backK s a k).1.length) - 1) z33).f1) + (((((a).getD k z33).f2).size : Int)), (((backK s a k).1).getD (((backK s a k).1.length) - 1) z33).f2⟩ : S33)) h rfl rfl rfl (by first | rfl | simp) rfl rfl (by simp [Value.oneCell']) szf3 (by first | assumption | omega | (simp only [List.length_set]; omega)) (Nat.le_of_ble_eq_true rfl) (by intro cl hcl hM; obtain ⟨_, _, _, hM⟩ := hM; obtain rfl := k33_openM hM; intro _ _ _; exact k33_mkM _ _ _ ((⟨(((backK s a k).1).getD (((backK s a k).1.length) - 1) z33).f0, ((((backK s a k).1).getD (((backK s a k).1.length) - 1) z33).f1) + (((((a).getD k z33).f2).size : Int)), (((backK s a k).1).getD (((backK s a k).1.length) - 1) z33).f2⟩ : S33))) (fun _ h => ?_)
     refine wl_nil ?_
     refine qn_wa (st_selT [true, false] h) ?_
     refine wa_done (by kernel_rfl) ?_
     refine qn_then ?_
     have hbs_ : ((((backK s a k).1).set (((backK s a k).1.length) - 1) ((⟨(((backK s a k).1).getD (((backK s a k).1.length) - 1) z33).f0, ((((backK s a k).1).getD (((backK s a k).1.length) - 1) z33).f1) + (((((a).getD k z33).f2).size : Int)), (((backK s a k).1).getD (((backK s a k).1.length) - 1) z33).f2⟩ : S33))).getD (((backK s a k).1.length) - 1) z33).f2.size ≤ 20000 := by rw [getD_set0 _ (by omega)]; exact hbt_
     refine wc_draw (fun w => Sx.St w0 F0 ([Sx.blk b7 [.int .i64 (((a).getD k z33).f0), .int .i64 (((a).getD k z33).f1), .string (((a).getD k z33).f2)] 33] ++ R) w) (by kernel_rfl) ?_
     replace h := st_drew h
     refine wa_tk 0 rfl rfl rfl (st_selT [true, false] h) (fun w_ hS => ov_move _ rfl) ?_
     refine wa_tk 1 rfl rfl rfl (st_selT [true, false] h) (fun w_ hS => ov_move _ rfl) ?_
     refine wa_tk 2 rfl rfl rfl (st_selT [true, false] h) (fun w_ hS => ov_indexAddrN _ _ _ _ _ (((backK s a k).1.length) - 1) rfl rfl es22 (by omega) (by first | assumption | omega | (simp only [List.length_take, List.length_drop, List.length_set]; omega))) ?_
     refine wa_tk 3 rfl rfl rfl (st_selT [true, false] h) (fun w_ hS => ov_fieldAddr _ ((ad9).add ((((backK s a k).1.length) - 1) * 3 + 2)) _ rfl fo33_2 (by first | exact Deep.add_add _ _ _ | (rw [Deep.add_add]) | rfl)) ?_
     refine wa_tk 5 rfl rfl rfl (st_selT [true, false] h) (fun w_ hS => ov_move _ rfl) ?_
     refine wa_tk 6 rfl rfl rfl (st_selT [true, false] h) (fun w_ hS => ov_fieldAddr _ ⟨b7, 0, none⟩ _ rfl fo33_0 rfl) ?_
     refine wa_tk 7 rfl rfl rfl (st_selT [true, false] h) (fun w_ hS => ov_loadb 0 _ hS rfl rfl sh3 rfl) ?_
     refine wa_tk 8 rfl rfl rfl (st_selT [true, false] h) (fun w_ hS => ov_fieldAddr _ ⟨b7, 1, none⟩ _ rfl fo33_1 rfl) ?_
     refine wa_tk 9 rfl rfl rfl (st_selT [true, false] h) (fun w_ hS => ov_loadb 0 _ hS rfl rfl sh3 rfl) ?_
     refine wa_tk 10 rfl rfl rfl (st_selT [true, false] h) (fun w_ hS => by exact ov_slices _ ((((a).getD k z33).f0 : Int).toNat) ((((a).getD k z33).f1 : Int).toNat) (by rfl) (by exact ⟨_, _, rfl, (by omega)⟩) (by exact ⟨_, _, rfl, (by omega)⟩) Try.underlying9 (by first | omega | (simp only [List.length_set]; omega)) (by first | omega | (simp only [List.length_set]; omega))) ?_
     refine wa_one 4 rfl (by kernel_rfl) ?_
     obtain ⟨cl52, _, hk51, hc50⟩ := Sx.C_cells ((Sx.row_reads h (i := 1) rfl).2) (z := z33) (k := (((backK s a k).1.length) - 1)) (by first | assumption | omega | (simp only [List.length_set]; omega))
     obtain rfl := k33_open hk51
     refine wl_v rfl rfl (ov_load1 _ _ rfl sh9 ((hc50 2 _ rfl))) ?_
     refine wl_nil ?_
     refine qn_wa (st_selT [true, false] h) ?_
     refine wa_tk 11 rfl rfl rfl (st_selT [true, false] h) (fun w_ hS => ov_bin _ rfl rfl (binR_adds (by first | omega | (simp only [ByteArray.size_append, ByteArray.size_extract]; omega)))) ?_
     refine wa_tk 12 rfl rfl rfl (st_selT [true, false] h) (fun w_ hS => ov_indexAddrN _ _ _ _ _ (((backK s a k).1.length) - 1) rfl rfl es22 (by omega) (by first | assumption | omega | (simp only [List.length_take, List.length_drop, List.length_set]; omega))) ?_
     refine wa_tk 13 rfl rfl rfl (st_selT [true, false] h) (fun w_ hS => ov_fieldAddr _ ((ad9).add ((((backK s a k).1.length) - 1) * 3 + 2)) _ rfl fo33_2 (by first | exact Deep.add_add _ _ _ | (rw [Deep.add_add]) | rfl)) ?_
     refine wa_one 14 rfl (by kernel_rfl) ?_
     refine wl_storeeN 1 (((backK s a k).1.length) - 1) 2 (.string ((((((backK s a k).1).set (((backK s a k).1.length) - 1) ((⟨(((backK s a k).1).getD (((backK s a k).1.length) - 1) z33).f0, ((((backK s a k).1).getD (((backK s a k).1.length) - 1) z33).f1) + (((((a).getD k z33).f2).size : Int)), (((backK s a k).1).getD (((backK s a k).1.length) - 1) z33).f2⟩ : S33))).getD (((backK s a k).1.length) - 1) z33).f2) ++ ((s).extract ((((a).getD k z33).f0 : Int).toNat) ((((a).getD k z33).f1 : Int).toNat)))) [.string ((((((backK s a k).1).set (((backK s a k).1.length) - 1) ((⟨(((backK s a k).1).getD (((backK s a k).1.length) - 1) z33).f0, ((((backK s a k).1).getD (((backK s a k).1.length) - 1) z33).f1) + (((((a).getD k z33).f2).size : Int)), (((backK s a k).1).getD (((backK s a k).1.length) - 1) z33).f2⟩ : S33))).getD (((backK s a k).1.length) - 1) z33).f2) ++ ((s).extract ((((a).getD k z33).f0 : Int).toNat) ((((a).getD k z33).f1 : Int).toNat)))] z33 ((⟨((((backK s a k).1).set (((backK s a k).1.length) - 1) ((⟨(((backK s a k).1).getD (((backK s a k).1.length) - 1) z33).f0, ((((backK s a k).1).getD (((backK s a k).1.length) - 1) z33).f1) + (((((a).getD k z33).f2).size : Int)), (((backK s a k).1).getD (((backK s a k).1.length) - 1) z33).f2⟩ : S33))).getD (((backK s a k).1.length) - 1) z33).f0, ((((backK s a k).1).set (((backK s a k).1.length) - 1) ((⟨(((backK s a k).1).getD (((backK s a k).1.length) - 1) z33).f0, ((((backK s a k).1).getD (((backK s a k).1.length) - 1) z33).f1) + (((((a).getD k z33).f2).size : Int)), (((backK s a k).1).getD (((backK s a k).1.length) - 1) z33).f2⟩ : S33))).getD (((backK s a k).1.length) - 1) z33).f1, (((((backK s a k).1).set (((backK s a k).1.length) - 1) ((⟨(((backK s a k).1).getD (((backK s a k).1.length) - 1) z33).f0, ((((backK s a k).1).getD (((backK s a k).1.length) - 1) z33).f1) + (((((a).getD k z33).f2).size : Int)), (((backK s a k).1).getD (((backK s a k).1.length) - 1) z33).f2⟩ : S33))).getD (((backK s a k).1.length) - 1) z33).f2) ++ ((s).extract ((((a).getD k z33).f0 : Int).toNat) ((((a).getD k z33).f1 : Int).toNat))⟩ : S33)) h rfl rfl rfl (by first | rfl | simp) rfl rfl (by simp [Value.oneCell']) szf9 (by first | assumption | omega | (simp only [List.length_set]; omega)) (Nat.le_of_ble_eq_true rfl) (by intro cl hcl hM; obtain ⟨_, _, _, hM⟩ := hM; obtain rfl := k33_openM hM; intro _ _ _; exact k33_mkM _ _ _ ((⟨((((backK s a k).1).set (((backK s a k).1.length) - 1) ((⟨(((backK s a k).1).getD (((backK s a k).1.length) - 1) z33).f0, ((((backK s a k).1).getD (((backK s a k).1.length) - 1) z33).f1) + (((((a).getD k z33).f2).size : Int)), (((backK s a k).1).getD (((backK s a k).1.length) - 1) z33).f2⟩ : S33))).getD (((backK s a k).1.length) - 1) z33).f0, ((((backK s a k).1).set (((backK s a k).1.length) - 1) ((⟨(((backK s a k).1).getD (((backK s a k).1.length) - 1) z33).f0, ((((backK s a k).1).getD (((backK s a k).1.length) - 1) z33).f1) + (((((a).getD k z33).f2).size : Int)), (((backK s a k).1).getD (((backK s a k).1.length) - 1) z33).f2⟩ : S33))).getD (((backK s a k).1.length) - 1) z33).f1, (((((backK s a k).1).set (((backK s a k).1.length) - 1) ((⟨(((backK s a k).1).getD (((backK s a k).1.length) - 1) z33).f0, ((((backK s a k).1).getD (((backK s a k).1.length) - 1) z33).f1) + (((((a).getD k z33).f2).size : Int)), (((backK s a k).1).getD (((backK s a k).1.length) - 1) z33).f2⟩ : S33))).getD (((backK s a k).1.length) - 1) z33).f2) ++ ((s).extract ((((a).getD k z33).f0 : Int).toNat) ((((a).getD k z33).f1 : Int).toNat))⟩ : S33))) (fun _ h => ?_)
     refine wl_nil ?_
     refine qn_wa (st_selT [true, false] h) ?_
     refine wa_done (by kernel_rfl) ?_
     refine qn_then ?_
     refine wc_region ?_
     refine wl_v rfl rfl (ov_move _ rfl) ?_
     refine wl_v rfl rfl (ov_fieldAddr _ ⟨b7, 2, none⟩ _ rfl fo33_2 rfl) ?_
     refine wl_v rfl rfl (ov_loadb 0 _ h rfl rfl sh9 rfl) ?_
     refine wl_v rfl rfl (ov_lens _ rfl Try.underlying9) ?_
     refine wl_v rfl rfl (ov_fieldAddr _ ⟨b7, 1, none⟩ _ rfl fo33_1 rfl) ?_
     refine wl_v rfl rfl (ov_loadb 0 _ h rfl rfl sh3 rfl) ?_
     refine wl_v rfl rfl (ov_fieldAddr _ ⟨b7, 0, none⟩ _ rfl fo33_0 rfl) ?_
     refine wl_v rfl rfl (ov_loadb 0 _ h rfl rfl sh3 rfl) ?_
     refine wl_v rfl rfl (ov_bin _ rfl rfl (binR_sub (r := (((a).getD k z33).f1) - (((a).getD k z33).f0)) (Sx.w64 (by first | omega | (simp only [ByteArray.size_append, ByteArray.size_extract]; omega))))) ?_
     refine wl_v rfl rfl (ov_bin _ rfl rfl (binR_sub (r := (((((a).getD k z33).f2).size : Int)) - ((((a).getD k z33).f1) - (((a).getD k z33).f0))) (Sx.w64 (by first | omega | (simp only [ByteArray.size_append, ByteArray.size_extract]; omega))))) ?_
     refine wl_v rfl rfl (ov_bin _ rfl rfl (binR_add (r := ((backK s a k).2) + ((((((a).getD k z33).f2).size : Int)) - ((((a).getD k z33).f1) - (((a).getD k z33).f0)))) (Sx.w64 (by first | omega | (simp only [ByteArray.size_append, ByteArray.size_extract]; omega))))) ?_
     refine wl_v rfl rfl (ov_assign _ rfl) ?_
     refine wl_nil ?_
     refine qn_block_normal ?_
     refine qn_then ?_
     refine wc_region ?_
     refine wl_v rfl rfl (ov_bin _ rfl rfl (binR_add (r := ((k : Int)) + 1) (Sx.w64 (by first | omega | (simp only [ByteArray.size_append, ByteArray.size_extract]; omega))))) ?_
     refine wl_v rfl rfl (ov_move _ rfl) ?_
     refine wl_nil ?_
     have hE_ : (((backK s a k).1).set (((backK s a k).1.length) - 1) ((⟨(((backK s a k).1).getD (((backK s a k).1.length) - 1) z33).f0, ((((backK s a k).1).getD (((backK s a k).1.length) - 1) z33).f1) + (((((a).getD k z33).f2).size : Int)), (((backK s a k).1).getD (((backK s a k).1.length) - 1) z33).f2⟩ : S33))).set (((backK s a k).1.length) - 1) ((⟨((((backK s a k).1).set (((backK s a k).1.length) - 1) ((⟨(((backK s a k).1).getD (((backK s a k).1.length) - 1) z33).f0, ((((backK s a k).1).getD (((backK s a k).1.length) - 1) z33).f1) + (((((a).getD k z33).f2).size : Int)), (((backK s a k).1).getD (((backK s a k).1.length) - 1) z33).f2⟩ : S33))).getD (((backK s a k).1.length) - 1) z33).f0, ((((backK s a k).1).set (((backK s a k).1.length) - 1) ((⟨(((backK s a k).1).getD (((backK s a k).1.length) - 1) z33).f0, ((((backK s a k).1).getD (((backK s a k).1.length) - 1) z33).f1) + (((((a).getD k z33).f2).size : Int)), (((backK s a k).1).getD (((backK s a k).1.length) - 1) z33).f2⟩ : S33))).getD (((backK s a k).1.length) - 1) z33).f1, (((((backK s a k).1).set (((backK s a k).1.length) - 1) ((⟨(((backK s a k).1).getD (((backK s a k).1.length) - 1) z33).f0, ((((backK s a k).1).getD (((backK s a k).1.length) - 1) z33).f1) + (((((a).getD k z33).f2).size : Int)), (((backK s a k).1).getD (((backK s a k).1.length) - 1) z33).f2⟩ : S33))).getD (((backK s a k).1.length) - 1) z33).f2) ++ ((s).extract ((((a).getD k z33).f0 : Int).toNat) ((((a).getD k z33).f1 : Int).toNat))⟩ : S33)) = (backK s a (k + 1)).1 := by (show _ = (backStep s (ge a k) (backK s a k)).1; unfold backStep; rw [if_pos ⟨by omega, by dsimp only [ge]; omega⟩]; rw [List.set_set]; simp only [getD_set0 _ (show (((backK s a k).1.length - 1 : Nat)) < (backK s a k).1.length by omega)])
     have hnl_ : (backK s a k).1.length = (backK s a (k + 1)).1.length := by rw [← hE_]; simp only [List.length_set]
     have e_ : (((backK s a k).1).set (((backK s a k).1.length) - 1) ((⟨(((backK s a k).1).getD (((backK s a k).1.length) - 1) z33).f0, ((((backK s a k).1).getD (((backK s a k).1.length) - 1) z33).f1) + (((((a).getD k z33).f2).size : Int)), (((backK s a k).1).getD (((backK s a k).1.length) - 1) z33).f2⟩ : S33))).set (((backK s a k).1.length) - 1) ((⟨((((backK s a k).1).set (((backK s a k).1.length) - 1) ((⟨(((backK s a k).1).getD (((backK s a k).1.length) - 1) z33).f0, ((((backK s a k).1).getD (((backK s a k).1.length) - 1) z33).f1) + (((((a).getD k z33).f2).size : Int)), (((backK s a k).1).getD (((backK s a k).1.length) - 1) z33).f2⟩ : S33))).getD (((backK s a k).1.length) - 1) z33).f0, ((((backK s a k).1).set (((backK s a k).1.length) - 1) ((⟨(((backK s a k).1).getD (((backK s a k).1.length) - 1) z33).f0, ((((backK s a k).1).getD (((backK s a k).1.length) - 1) z33).f1) + (((((a).getD k z33).f2).size : Int)), (((backK s a k).1).getD (((backK s a k).1.length) - 1) z33).f2⟩ : S33))).getD (((backK s a k).1.length) - 1) z33).f1, (((((backK s a k).1).set (((backK s a k).1.length) - 1) ((⟨(((backK s a k).1).getD (((backK s a k).1.length) - 1) z33).f0, ((((backK s a k).1).getD (((backK s a k).1.length) - 1) z33).f1) + (((((a).getD k z33).f2).size : Int)), (((backK s a k).1).getD (((backK s a k).1.length) - 1) z33).f2⟩ : S33))).getD (((backK s a k).1.length) - 1) z33).f2) ++ ((s).extract ((((a).getD k z33).f0 : Int).toNat) ((((a).getD k z33).f1 : Int).toNat))⟩ : S33)) = (backK s a (k + 1)).1 := by exact hE_
     replace h := st_cast (congrArg (fun z_ => ([Sx.blk b7 [.int .i64 (((a).getD k z33).f0), .int .i64 (((a).getD k z33).f1), .string (((a).getD k z33).f2)] 33, Sx.row k33 33 (some ad9) (c) (z_)] ++ R)) e_) h
     clear e_
     replace h := st_front 1 h
     replace h := st_selT [true, false] h
     refine qn_next ((k + 1), some ad9, c) (by show a.length - (k + 1) < a.length - k; omega) ⟨rfl, (congrArg (fun z_ => some (Value.slice (some ad9) z_ (c))) (by exact hnl_)), (congrArg (fun z_ => some (Value.int .i64 z_)) (show (((backK s a k).2) + ((((((a).getD k z33).f2).size : Int)) - ((((a).getD k z33).f1) - (((a).getD k z33).f0))) : Int) = (backK s a (k + 1)).2 by (have e_ : (backK s a (k + 1)).2 = (backK s a k).2 + (((ge a k).f2.size : Int) - ((ge a k).f1 - (ge a k).f0)) := rfl; rw [e_]; first | done | (dsimp only [ge]; first | done | omega)))), (congrArg (fun z_ => some (Value.slice (some ad3) z_ (ca))) (show (a.length : Nat) = a.length by first | rfl | simp)), rfl, (congrArg (fun z_ => some (Value.int .i64 z_)) (show (((k : Int)) + 1 : Int) = ((k + 1) : Int) by omega)), trivial⟩ ?_
     show ((k + 1) ≤ a.length) ∧ _
     exact ⟨by omega, h⟩
    ·
     refine wc_draw (fun w => Sx.St w0 F0 ([Sx.blk b7 [.int .i64 (((a).getD k z33).f0), .int .i64 (((a).getD k z33).f1), .string (((a).getD k z33).f2)] 33] ++ R) w) (by kernel_rfl) ?_
     replace h := st_drew h
     refine wa_tk 0 rfl rfl rfl (st_selT [true, false] h) (fun w_ hS => ov_move _ rfl) ?_
     refine wa_tk 1 rfl rfl rfl (st_selT [true, false] h) (fun w_ hS => ov_move _ rfl) ?_
     refine wa_tk 2 rfl rfl rfl (st_selT [true, false] h) (fun w_ hS => ov_move _ rfl) ?_
     refine wa_tk 3 rfl rfl rfl (st_selT [true, false] h) (fun w_ hS => ov_fieldAddr _ ⟨b7, 2, none⟩ _ rfl fo33_2 rfl) ?_
     refine wa_tk 4 rfl rfl rfl (st_selT [true, false] h) (fun w_ hS => ov_loadb 0 _ hS rfl rfl sh9 rfl) ?_
     refine wa_tk 5 rfl rfl rfl (st_selT [true, false] h) (fun w_ hS => ov_lens _ rfl Try.underlying9) ?_
     refine wa_tk 6 rfl rfl rfl (st_selT [true, false] h) (fun w_ hS => ov_bin _ rfl rfl (binR_add (r := ((((a).getD k z33).f0) + ((backK s a k).2)) + (((((a).getD k z33).f2).size : Int))) (Sx.w64 (by first | omega | (simp only [ByteArray.size_append, ByteArray.size_extract]; omega))))) ?_
     refine wa_tk 7 rfl rfl rfl (st_selT [true, false] h) (fun w_ hS => ov_move _ rfl) ?_
     refine wa_tk 8 rfl rfl rfl (st_selT [true, false] h) (fun w_ hS => ov_fieldAddr _ ⟨b7, 0, none⟩ _ rfl fo33_0 rfl) ?_
     refine wa_tk 9 rfl rfl rfl (st_selT [true, false] h) (fun w_ hS => ov_loadb 0 _ hS rfl rfl sh3 rfl) ?_
     refine wa_tk 10 rfl rfl rfl (st_selT [true, false] h) (fun w_ hS => ov_fieldAddr _ ⟨b7, 1, none⟩ _ rfl fo33_1 rfl) ?_
     refine wa_tk 11 rfl rfl rfl (st_selT [true, false] h) (fun w_ hS => ov_loadb 0 _ hS rfl rfl sh3 rfl) ?_
     refine wa_tk 12 rfl rfl rfl (st_selT [true, false] h) (fun w_ hS => by exact ov_slices _ ((((a).getD k z33).f0 : Int).toNat) ((((a).getD k z33).f1 : Int).toNat) (by rfl) (by exact ⟨_, _, rfl, (by omega)⟩) (by exact ⟨_, _, rfl, (by omega)⟩) Try.underlying9 (by first | omega | (simp only [List.length_set]; omega)) (by first | omega | (simp only [List.length_set]; omega))) ?_
     refine wa_tk 13 rfl rfl rfl (st_selT [true, false] h) (fun w_ hS => ov_build [(0, .int .i64 ((((a).getD k z33).f0) + ((backK s a k).2))), (1, .int .i64 (((((a).getD k z33).f0) + ((backK s a k).2)) + (((((a).getD k z33).f2).size : Int)))), (2, .string ((s).extract ((((a).getD k z33).f0 : Int).toNat) ((((a).getD k z33).f1 : Int).toNat)))] [.int .i64 ((((a).getD k z33).f0) + ((backK s a k).2)), .int .i64 (((((a).getD k z33).f0) + ((backK s a k).2)) + (((((a).getD k z33).f2).size : Int))), .string ((s).extract ((((a).getD k z33).f0 : Int).toNat) ((((a).getD k z33).f1 : Int).toNat))] rfl rfl (by kernel_rfl)) ?_
     refine wa_one 14 rfl (by kernel_rfl) ?_
     refine wl_lit (d := k33) [(0, .agg #[.int .i64 ((((a).getD k z33).f0) + ((backK s a k).2)), .int .i64 (((((a).getD k z33).f0) + ((backK s a k).2)) + (((((a).getD k z33).f2).size : Int))), .string ((s).extract ((((a).getD k z33).f0 : Int).toNat) ((((a).getD k z33).f1 : Int).toNat))])] _ [.int .i64 ((((a).getD k z33).f0) + ((backK s a k).2)), .int .i64 (((((a).getD k z33).f0) + ((backK s a k).2)) + (((((a).getD k z33).f2).size : Int))), .string ((s).extract ((((a).getD k z33).f0 : Int).toNat) ((((a).getD k z33).f1 : Int).toNat))] ([(⟨(((a).getD k z33).f0) + ((backK s a k).2), ((((a).getD k z33).f0) + ((backK s a k).2)) + (((((a).getD k z33).f2).size : Int)), (s).extract ((((a).getD k z33).f0 : Int).toNat) ((((a).getD k z33).f1 : Int).toNat)⟩ : S33)]) h rfl rfl rfl rfl Try.underlying22 infb33 rfl (by decide) (by kernel_rfl) rfl (fun _ _ _ => ((Reps.none _ _).snoc (k33_mkM _ _ _ ((⟨(((a).getD k z33).f0) + ((backK s a k).2), ((((a).getD k z33).f0) + ((backK s a k).2)) + (((((a).getD k z33).f2).size : Int)), (s).extract ((((a).getD k z33).f0 : Int).toNat) ((((a).getD k z33).f1 : Int).toNat)⟩ : S33))) rfl)) (fun A53 cp54 _ h => ?_)
     refine wl_nil ?_
     refine qn_wa (st_selT [false, true, false] h) ?_
     refine wa_one 15 rfl (by kernel_rfl) ?_
     refine wl_append (d := k33) (L := (backK s a k).1) 2 _ 32 _ _ _ ([(⟨(((a).getD k z33).f0) + ((backK s a k).2), ((((a).getD k z33).f0) + ((backK s a k).2)) + (((((a).getD k z33).f2).size : Int)), (s).extract ((((a).getD k z33).f0 : Int).toNat) ((((a).getD k z33).f1 : Int).toNat)⟩ : S33)]) flat33 h rfl rfl rfl rfl rfl ((Sx.row_reads h (i := 0) rfl).2) Try.underlying22 inf33 rfl (by decide) (by decide) (by first | omega | (simp only [List.length_cons, List.length_nil, List.length_append]; omega)) (by first | rfl | simp) (fun A55 cp56 _ h => ?_)
     replace h := st_selT [false, true, true] h
     refine wl_nil ?_
     refine qn_wa (st_selT [true, false] h) ?_
     refine wa_tk 16 rfl rfl rfl (st_selT [true, false] h) (fun w_ hS => ov_assign _ rfl) ?_
     refine wa_done (by kernel_rfl) ?_
     refine qn_then ?_
     refine wc_region ?_
     refine wl_v rfl rfl (ov_move _ rfl) ?_
     refine wl_v rfl rfl (ov_fieldAddr _ ⟨b7, 2, none⟩ _ rfl fo33_2 rfl) ?_
     refine wl_v rfl rfl (ov_loadb 0 _ h rfl rfl sh9 rfl) ?_
     refine wl_v rfl rfl (ov_lens _ rfl Try.underlying9) ?_
     refine wl_v rfl rfl (ov_fieldAddr _ ⟨b7, 1, none⟩ _ rfl fo33_1 rfl) ?_
     refine wl_v rfl rfl (ov_loadb 0 _ h rfl rfl sh3 rfl) ?_
     refine wl_v rfl rfl (ov_fieldAddr _ ⟨b7, 0, none⟩ _ rfl fo33_0 rfl) ?_
     refine wl_v rfl rfl (ov_loadb 0 _ h rfl rfl sh3 rfl) ?_
     refine wl_v rfl rfl (ov_bin _ rfl rfl (binR_sub (r := (((a).getD k z33).f1) - (((a).getD k z33).f0)) (Sx.w64 (by first | omega | (simp only [ByteArray.size_append, ByteArray.size_extract]; omega))))) ?_
     refine wl_v rfl rfl (ov_bin _ rfl rfl (binR_sub (r := (((((a).getD k z33).f2).size : Int)) - ((((a).getD k z33).f1) - (((a).getD k z33).f0))) (Sx.w64 (by first | omega | (simp only [ByteArray.size_append, ByteArray.size_extract]; omega))))) ?_
     refine wl_v rfl rfl (ov_bin _ rfl rfl (binR_add (r := ((backK s a k).2) + ((((((a).getD k z33).f2).size : Int)) - ((((a).getD k z33).f1) - (((a).getD k z33).f0)))) (Sx.w64 (by first | omega | (simp only [ByteArray.size_append, ByteArray.size_extract]; omega))))) ?_
     refine wl_v rfl rfl (ov_assign _ rfl) ?_
     refine wl_nil ?_
     refine qn_block_normal ?_
     refine qn_then ?_
     refine wc_region ?_
     refine wl_v rfl rfl (ov_bin _ rfl rfl (binR_add (r := ((k : Int)) + 1) (Sx.w64 (by first | omega | (simp only [ByteArray.size_append, ByteArray.size_extract]; omega))))) ?_
     refine wl_v rfl rfl (ov_move _ rfl) ?_
     refine wl_nil ?_
     have hE_ : ((backK s a k).1) ++ ([(⟨(((a).getD k z33).f0) + ((backK s a k).2), ((((a).getD k z33).f0) + ((backK s a k).2)) + (((((a).getD k z33).f2).size : Int)), (s).extract ((((a).getD k z33).f0 : Int).toNat) ((((a).getD k z33).f1 : Int).toNat)⟩ : S33)]) = (backK s a (k + 1)).1 := by (show _ = (backStep s (ge a k) (backK s a k)).1; unfold backStep; rw [if_neg (fun z_ => by have z1_ := z_.1; have z2_ := z_.2; dsimp only [ge] at z2_; omega)])
     have hnl_ : (((backK s a k).1) ++ ([(⟨(((a).getD k z33).f0) + ((backK s a k).2), ((((a).getD k z33).f0) + ((backK s a k).2)) + (((((a).getD k z33).f2).size : Int)), (s).extract ((((a).getD k z33).f0 : Int).toNat) ((((a).getD k z33).f1 : Int).toNat)⟩ : S33)])).length = (backK s a (k + 1)).1.length := by rw [← hE_]
     have e_ : ((backK s a k).1) ++ ([(⟨(((a).getD k z33).f0) + ((backK s a k).2), ((((a).getD k z33).f0) + ((backK s a k).2)) + (((((a).getD k z33).f2).size : Int)), (s).extract ((((a).getD k z33).f0 : Int).toNat) ((((a).getD k z33).f1 : Int).toNat)⟩ : S33)]) = (backK s a (k + 1)).1 := by exact hE_
     replace h := st_cast (congrArg (fun z_ => ([Sx.blk b7 [.int .i64 (((a).getD k z33).f0), .int .i64 (((a).getD k z33).f1), .string (((a).getD k z33).f2)] 33, Sx.row k33 33 (A55) (cp56) (z_)] ++ R)) e_) h
     clear e_
     replace h := st_front 1 h
     replace h := st_selT [true, false] h
     refine qn_next ((k + 1), A55, cp56) (by show a.length - (k + 1) < a.length - k; omega) ⟨rfl, (congrArg (fun z_ => some (Value.slice (A55) z_ (cp56))) (by exact hnl_)), (congrArg (fun z_ => some (Value.int .i64 z_)) (show (((backK s a k).2) + ((((((a).getD k z33).f2).size : Int)) - ((((a).getD k z33).f1) - (((a).getD k z33).f0))) : Int) = (backK s a (k + 1)).2 by (have e_ : (backK s a (k + 1)).2 = (backK s a k).2 + (((ge a k).f2.size : Int) - ((ge a k).f1 - (ge a k).f0)) := rfl; rw [e_]; first | done | (dsimp only [ge]; first | done | omega)))), (congrArg (fun z_ => some (Value.slice (some ad3) z_ (ca))) (show (a.length : Nat) = a.length by first | rfl | simp)), rfl, (congrArg (fun z_ => some (Value.int .i64 z_)) (show (((k : Int)) + 1 : Int) = ((k + 1) : Int) by omega)), trivial⟩ ?_
     show ((k + 1) ≤ a.length) ∧ _
     exact ⟨by omega, h⟩
   ·
    refine wl_skip rfl rfl ?_
    refine wl_skip rfl rfl ?_
    refine wl_skip rfl rfl ?_
    refine wl_skip rfl rfl ?_
    refine wl_skip rfl rfl ?_
    refine wl_skip rfl rfl ?_
    refine wl_skip rfl rfl ?_
    refine wl_v rfl rfl (ov_pick_false _ rfl rfl) ?_
    refine wl_nil ?_
    refine qn_then ?_
    refine wc_cond_false rfl ?_
    refine wc_draw (fun w => Sx.St w0 F0 ([Sx.blk b7 [.int .i64 (((a).getD k z33).f0), .int .i64 (((a).getD k z33).f1), .string (((a).getD k z33).f2)] 33] ++ R) w) (by kernel_rfl) ?_
    replace h := st_drew h
    refine wa_tk 0 rfl rfl rfl (st_selT [true, false] h) (fun w_ hS => ov_move _ rfl) ?_
    refine wa_tk 1 rfl rfl rfl (st_selT [true, false] h) (fun w_ hS => ov_move _ rfl) ?_
    refine wa_tk 2 rfl rfl rfl (st_selT [true, false] h) (fun w_ hS => ov_move _ rfl) ?_
    refine wa_tk 3 rfl rfl rfl (st_selT [true, false] h) (fun w_ hS => ov_fieldAddr _ ⟨b7, 2, none⟩ _ rfl fo33_2 rfl) ?_
    refine wa_tk 4 rfl rfl rfl (st_selT [true, false] h) (fun w_ hS => ov_loadb 0 _ hS rfl rfl sh9 rfl) ?_
    refine wa_tk 5 rfl rfl rfl (st_selT [true, false] h) (fun w_ hS => ov_lens _ rfl Try.underlying9) ?_
    refine wa_tk 6 rfl rfl rfl (st_selT [true, false] h) (fun w_ hS => ov_bin _ rfl rfl (binR_add (r := ((((a).getD k z33).f0) + ((backK s a k).2)) + (((((a).getD k z33).f2).size : Int))) (Sx.w64 (by first | omega | (simp only [ByteArray.size_append, ByteArray.size_extract]; omega))))) ?_
    refine wa_tk 7 rfl rfl rfl (st_selT [true, false] h) (fun w_ hS => ov_move _ rfl) ?_
    refine wa_tk 8 rfl rfl rfl (st_selT [true, false] h) (fun w_ hS => ov_fieldAddr _ ⟨b7, 0, none⟩ _ rfl fo33_0 rfl) ?_
    refine wa_tk 9 rfl rfl rfl (st_selT [true, false] h) (fun w_ hS => ov_loadb 0 _ hS rfl rfl sh3 rfl) ?_
    refine wa_tk 10 rfl rfl rfl (st_selT [true, false] h) (fun w_ hS => ov_fieldAddr _ ⟨b7, 1, none⟩ _ rfl fo33_1 rfl) ?_
    refine wa_tk 11 rfl rfl rfl (st_selT [true, false] h) (fun w_ hS => ov_loadb 0 _ hS rfl rfl sh3 rfl) ?_
    refine wa_tk 12 rfl rfl rfl (st_selT [true, false] h) (fun w_ hS => by exact ov_slices _ ((((a).getD k z33).f0 : Int).toNat) ((((a).getD k z33).f1 : Int).toNat) (by rfl) (by exact ⟨_, _, rfl, (by omega)⟩) (by exact ⟨_, _, rfl, (by omega)⟩) Try.underlying9 (by first | omega | (simp only [List.length_set]; omega)) (by first | omega | (simp only [List.length_set]; omega))) ?_
    refine wa_tk 13 rfl rfl rfl (st_selT [true, false] h) (fun w_ hS => ov_build [(0, .int .i64 ((((a).getD k z33).f0) + ((backK s a k).2))), (1, .int .i64 (((((a).getD k z33).f0) + ((backK s a k).2)) + (((((a).getD k z33).f2).size : Int)))), (2, .string ((s).extract ((((a).getD k z33).f0 : Int).toNat) ((((a).getD k z33).f1 : Int).toNat)))] [.int .i64 ((((a).getD k z33).f0) + ((backK s a k).2)), .int .i64 (((((a).getD k z33).f0) + ((backK s a k).2)) + (((((a).getD k z33).f2).size : Int))), .string ((s).extract ((((a).getD k z33).f0 : Int).toNat) ((((a).getD k z33).f1 : Int).toNat))] rfl rfl (by kernel_rfl)) ?_
    refine wa_one 14 rfl (by kernel_rfl) ?_
    refine wl_lit (d := k33) [(0, .agg #[.int .i64 ((((a).getD k z33).f0) + ((backK s a k).2)), .int .i64 (((((a).getD k z33).f0) + ((backK s a k).2)) + (((((a).getD k z33).f2).size : Int))), .string ((s).extract ((((a).getD k z33).f0 : Int).toNat) ((((a).getD k z33).f1 : Int).toNat))])] _ [.int .i64 ((((a).getD k z33).f0) + ((backK s a k).2)), .int .i64 (((((a).getD k z33).f0) + ((backK s a k).2)) + (((((a).getD k z33).f2).size : Int))), .string ((s).extract ((((a).getD k z33).f0 : Int).toNat) ((((a).getD k z33).f1 : Int).toNat))] ([(⟨(((a).getD k z33).f0) + ((backK s a k).2), ((((a).getD k z33).f0) + ((backK s a k).2)) + (((((a).getD k z33).f2).size : Int)), (s).extract ((((a).getD k z33).f0 : Int).toNat) ((((a).getD k z33).f1 : Int).toNat)⟩ : S33)]) h rfl rfl rfl rfl Try.underlying22 infb33 rfl (by decide) (by kernel_rfl) rfl (fun _ _ _ => ((Reps.none _ _).snoc (k33_mkM _ _ _ ((⟨(((a).getD k z33).f0) + ((backK s a k).2), ((((a).getD k z33).f0) + ((backK s a k).2)) + (((((a).getD k z33).f2).size : Int)), (s).extract ((((a).getD k z33).f0 : Int).toNat) ((((a).getD k z33).f1 : Int).toNat)⟩ : S33))) rfl)) (fun A57 cp58 _ h => ?_)
    refine wl_nil ?_
    refine qn_wa (st_selT [false, true, false] h) ?_
    refine wa_one 15 rfl (by kernel_rfl) ?_
    refine wl_append (d := k33) (L := (backK s a k).1) 2 _ 32 _ _ _ ([(⟨(((a).getD k z33).f0) + ((backK s a k).2), ((((a).getD k z33).f0) + ((backK s a k).2)) + (((((a).getD k z33).f2).size : Int)), (s).extract ((((a).getD k z33).f0 : Int).toNat) ((((a).getD k z33).f1 : Int).toNat)⟩ : S33)]) flat33 h rfl rfl rfl rfl rfl ((Sx.row_reads h (i := 0) rfl).2) Try.underlying22 inf33 rfl (by decide) (by decide) (by first | omega | (simp only [List.length_cons, List.length_nil, List.length_append]; omega)) (by first | rfl | simp) (fun A59 cp60 _ h => ?_)
    replace h := st_selT [false, true, true] h
    refine wl_nil ?_
    refine qn_wa (st_selT [true, false] h) ?_
    refine wa_tk 16 rfl rfl rfl (st_selT [true, false] h) (fun w_ hS => ov_assign _ rfl) ?_
    refine wa_done (by kernel_rfl) ?_
    refine qn_then ?_
    refine wc_region ?_
    refine wl_v rfl rfl (ov_move _ rfl) ?_
    refine wl_v rfl rfl (ov_fieldAddr _ ⟨b7, 2, none⟩ _ rfl fo33_2 rfl) ?_
    refine wl_v rfl rfl (ov_loadb 0 _ h rfl rfl sh9 rfl) ?_
    refine wl_v rfl rfl (ov_lens _ rfl Try.underlying9) ?_
    refine wl_v rfl rfl (ov_fieldAddr _ ⟨b7, 1, none⟩ _ rfl fo33_1 rfl) ?_
    refine wl_v rfl rfl (ov_loadb 0 _ h rfl rfl sh3 rfl) ?_
    refine wl_v rfl rfl (ov_fieldAddr _ ⟨b7, 0, none⟩ _ rfl fo33_0 rfl) ?_
    refine wl_v rfl rfl (ov_loadb 0 _ h rfl rfl sh3 rfl) ?_
    refine wl_v rfl rfl (ov_bin _ rfl rfl (binR_sub (r := (((a).getD k z33).f1) - (((a).getD k z33).f0)) (Sx.w64 (by first | omega | (simp only [ByteArray.size_append, ByteArray.size_extract]; omega))))) ?_
    refine wl_v rfl rfl (ov_bin _ rfl rfl (binR_sub (r := (((((a).getD k z33).f2).size : Int)) - ((((a).getD k z33).f1) - (((a).getD k z33).f0))) (Sx.w64 (by first | omega | (simp only [ByteArray.size_append, ByteArray.size_extract]; omega))))) ?_
    refine wl_v rfl rfl (ov_bin _ rfl rfl (binR_add (r := ((backK s a k).2) + ((((((a).getD k z33).f2).size : Int)) - ((((a).getD k z33).f1) - (((a).getD k z33).f0)))) (Sx.w64 (by first | omega | (simp only [ByteArray.size_append, ByteArray.size_extract]; omega))))) ?_
    refine wl_v rfl rfl (ov_assign _ rfl) ?_
    refine wl_nil ?_
    refine qn_block_normal ?_
    refine qn_then ?_
    refine wc_region ?_
    refine wl_v rfl rfl (ov_bin _ rfl rfl (binR_add (r := ((k : Int)) + 1) (Sx.w64 (by first | omega | (simp only [ByteArray.size_append, ByteArray.size_extract]; omega))))) ?_
    refine wl_v rfl rfl (ov_move _ rfl) ?_
    refine wl_nil ?_
    have hE_ : ((backK s a k).1) ++ ([(⟨(((a).getD k z33).f0) + ((backK s a k).2), ((((a).getD k z33).f0) + ((backK s a k).2)) + (((((a).getD k z33).f2).size : Int)), (s).extract ((((a).getD k z33).f0 : Int).toNat) ((((a).getD k z33).f1 : Int).toNat)⟩ : S33)]) = (backK s a (k + 1)).1 := by (show _ = (backStep s (ge a k) (backK s a k)).1; unfold backStep; rw [if_neg (fun z_ => by have z1_ := z_.1; have z2_ := z_.2; dsimp only [ge] at z2_; omega)])
    have hnl_ : (((backK s a k).1) ++ ([(⟨(((a).getD k z33).f0) + ((backK s a k).2), ((((a).getD k z33).f0) + ((backK s a k).2)) + (((((a).getD k z33).f2).size : Int)), (s).extract ((((a).getD k z33).f0 : Int).toNat) ((((a).getD k z33).f1 : Int).toNat)⟩ : S33)])).length = (backK s a (k + 1)).1.length := by rw [← hE_]
    have e_ : ((backK s a k).1) ++ ([(⟨(((a).getD k z33).f0) + ((backK s a k).2), ((((a).getD k z33).f0) + ((backK s a k).2)) + (((((a).getD k z33).f2).size : Int)), (s).extract ((((a).getD k z33).f0 : Int).toNat) ((((a).getD k z33).f1 : Int).toNat)⟩ : S33)]) = (backK s a (k + 1)).1 := by exact hE_
    replace h := st_cast (congrArg (fun z_ => ([Sx.blk b7 [.int .i64 (((a).getD k z33).f0), .int .i64 (((a).getD k z33).f1), .string (((a).getD k z33).f2)] 33, Sx.row k33 33 (A59) (cp60) (z_)] ++ R)) e_) h
    clear e_
    replace h := st_front 1 h
    replace h := st_selT [true, false] h
    refine qn_next ((k + 1), A59, cp60) (by show a.length - (k + 1) < a.length - k; omega) ⟨rfl, (congrArg (fun z_ => some (Value.slice (A59) z_ (cp60))) (by exact hnl_)), (congrArg (fun z_ => some (Value.int .i64 z_)) (show (((backK s a k).2) + ((((((a).getD k z33).f2).size : Int)) - ((((a).getD k z33).f1) - (((a).getD k z33).f0))) : Int) = (backK s a (k + 1)).2 by (have e_ : (backK s a (k + 1)).2 = (backK s a k).2 + (((ge a k).f2.size : Int) - ((ge a k).f1 - (ge a k).f0)) := rfl; rw [e_]; first | done | (dsimp only [ge]; first | done | omega)))), (congrArg (fun z_ => some (Value.slice (some ad3) z_ (ca))) (show (a.length : Nat) = a.length by first | rfl | simp)), rfl, (congrArg (fun z_ => some (Value.int .i64 z_)) (show (((k : Int)) + 1 : Int) = ((k + 1) : Int) by omega)), trivial⟩ ?_
    show ((k + 1) ≤ a.length) ∧ _
    exact ⟨by omega, h⟩
  ·
   refine wc_exit ?_
   refine qn_then_exit ?_
   refine qn_then_exit ?_
   refine qn_block_exit ?_
   refine qn_then ?_
   refine wc_seq ?_
   refine wc_region ?_
   refine wl_v rfl rfl (ov_move _ rfl) ?_
   refine wl_v rfl rfl (ov_assign _ rfl) ?_
   refine wl_v rfl rfl (ov_assign _ rfl) ?_
   refine wl_nil ?_
   refine qn_then ?_
   refine wc_ret ?_
   refine qn_ret [_, _] ⟨rfl, rfl, trivial⟩ ?_
   obtain rfl : k = a.length := by omega
   exact ⟨A, c, by rw [hsm_]; rfl, by rw [hsm_]; exact h⟩
end Go.Proofs.Ytbakllppgekmoaa.DN
