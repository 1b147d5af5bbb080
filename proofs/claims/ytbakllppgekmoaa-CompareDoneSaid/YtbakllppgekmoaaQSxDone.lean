/- Pruned by wip/prune.py. -/
import Derived.Test.YtbakllppgekmoaaProg
import Derived.Test.YtbakllppgekmoaaQSxGlue
import Derived.Test.YtbakllppgekmoaaQSxFlow
import Derived.Test.YtbakllppgekmoaaQSxShrink
import Derived.Test.YtbakllppgekmoaaQCmpDone
import Derived.Test.YtbakllppgekmoaaQSxRunes
import Derived.Test.YtbakllppgekmoaaQSxEdits
import Derived.Test.YtbakllppgekmoaaQSxApply
namespace Go.Proofs.Ytbakllppgekmoaa.DN
open Go Go.RowKit Go.Proofs.YtbakllppgekmoaaW.PrintWords Go.Proofs.Ytbakllppgekmoaa.Kinds Go.Proofs.Ytbakllppgekmoaa.Cmp Go.Proofs.Ytbakllppgekmoaa.Given Go.Proofs.Ytbakllppgekmoaa.Rn Go.Proofs.Ytbakllppgekmoaa.Sx 
set_option linter.unusedVariables false
set_option linter.unusedSimpArgs false
theorem ent26 : Sx.Ent Try.prog 26 := ⟨Try.f26, Try.func26, by kernel_rfl, by kernel_rfl⟩
theorem es22 : Sx.elemSz Try.prog 22 = some (33, 3) := by kernel_rfl
theorem fo33_0 : Sx.fieldOff Try.prog 33 0 = some 0 := by kernel_rfl
theorem sh3 : Sx.shapeOf Try.prog 3 = some (false, 1) := by kernel_rfl
theorem fo33_2 : Sx.fieldOff Try.prog 33 2 = some 2 := by kernel_rfl
theorem sh9 : Sx.shapeOf Try.prog 9 = some (false, 1) := by kernel_rfl
theorem fo33_1 : Sx.fieldOff Try.prog 33 1 = some 1 := by kernel_rfl
theorem ent23 : Sx.Ent Try.prog 23 := ⟨Try.f23, Try.func23, by kernel_rfl, by kernel_rfl⟩
theorem sh33 : Sx.shapeOf Try.prog 33 = some (true, 3) := by kernel_rfl
theorem zo33 : Sx.zeroOf Try.prog 33 = some (.agg #[.int .i64 (0), .int .i64 (0), .string (ByteArray.empty)]) := by kernel_rfl
theorem ent34 : Sx.Ent Try.prog 34 := ⟨Try.f34, Try.func34, by kernel_rfl, by kernel_rfl⟩
theorem ent35 : Sx.Ent Try.prog 35 := ⟨Try.f35, Try.func35, by kernel_rfl, by kernel_rfl⟩
theorem szf3 : (Try.prog.info? 3).map (·.size) = some 1 := by kernel_rfl
theorem infb33 : (Try.prog.info? 33).map (fun i => (i.zero, i.size)) = some (some (.agg #[.int .i64 (0), .int .i64 (0), .string (ByteArray.empty)]), 3) := by kernel_rfl
theorem inf33 : (Try.prog.info? 33).map (fun i => (i.zero, i.size, i.bytes)) = some (some (.agg #[.int .i64 (0), .int .i64 (0), .string (ByteArray.empty)]), 3, 32) := by kernel_rfl
set_option maxHeartbeats 4000000 in
set_option maxRecDepth 100000 in
theorem refApply_calls {w0 w : World} {F0 : Nat → Prop} {R : List Sx.HP} {v0 : World} (s : ByteArray) (a : List Edit) (Aa : Option Addr) (ca : Nat) (hv : Sx.RO v0 w0 F0) (hla : a.length ≤ ca) (hCa : k33.C v0 Aa a.length a) (hs : s.size ≤ 300) (hF : FewE a) (h : Sx.St w0 F0 ([] ++ R) w) : Calls Try.prog 24 #[.string (s), .slice (Aa) (a.length) (ca)] w (fun e w1 => e = .returned (.tuple #[.string ((applyV s a).getD ByteArray.empty), .bool (applyV s a).isSome]) ∧ Sx.St w0 F0 R w1) := by
 have hFl_ := hF.1
 refine Sx.calls_fn (vs := [.string (s), .slice (Aa) (a.length) (ca)]) Try.func24 rfl Try.ntmps24 rfl ?_
 refine wc_seq ?_
 refine wc_region ?_
 refine wl_v rfl rfl (ov_assign _ rfl) ?_
 refine wl_v rfl rfl (ov_assign _ rfl) ?_
 refine wl_nil ?_
 refine qn_then ?_
 refine wc_seq ?_
 refine wc_seq ?_
 refine wc_region ?_
 refine wl_v rfl rfl (ov_move _ rfl) ?_
 refine wl_v rfl rfl (ov_lens _ rfl Try.underlying9) ?_
 refine wl_v rfl rfl (ov_move _ rfl) ?_
 refine wl_call _ rfl rfl rfl ent26 (E.InOrder_calls (R := [] ++ R) (((s).size : Int)) a (Aa) ca hv hla hCa (by omega) h) ?_
 rintro e_ w_ ⟨rfl, h⟩
 refine ⟨_, rfl, ?_⟩
 refine wl_v rfl rfl (ov_not _ (¬ (InOrd (((s).size : Int)) a)) rfl (by first | exact decide_not.symm | simp)) ?_
 refine wl_nil ?_
 refine qn_then ?_
 refine wc_cond (by rfl) (fun c1 => ?_) (fun c1 => ?_)
 ·
  refine wc_seq ?_
  refine wc_region ?_
  refine wl_v rfl rfl (ov_assign _ rfl) ?_
  refine wl_v rfl rfl (ov_assign _ rfl) ?_
  refine wl_nil ?_
  refine qn_then ?_
  refine wc_ret ?_
  refine qn_then_ret ?_
  refine qn_ret [_, _] ⟨rfl, rfl, trivial⟩ ?_
  have e_ : (applyV s a) = none := if_neg (by assumption)
  rw [e_]
  exact ⟨rfl, h⟩
 ·
  have hio_ : InOrd s.size a := Classical.not_not.1 c1
  refine wc_skip ?_
  refine qn_then ?_
  refine wc_seq ?_
  refine wc_seq ?_
  refine wc_region ?_
  refine wl_v rfl rfl (ov_move _ rfl) ?_
  refine wl_v rfl rfl (ov_len _ _ _ _ _ rfl es22) ?_
  refine wl_v rfl rfl (ov_bin _ rfl rfl (binR_sub (r := (((a.length : Nat) : Int)) - 1) (Sx.w64 (by first | omega | (simp only [ByteArray.size_append, ByteArray.size_extract]; omega))))) ?_
  refine wl_v rfl rfl (ov_assign _ rfl) ?_
  refine wl_nil ?_
  refine qn_then ?_
  refine wc_block ?_
  refine wc_loop (fun (x_ : Nat) => [(0, .string (refL s (a.drop x_))), (1, .slice (Aa) (a.length) (ca)), (6, .int .i64 ((((x_ : Nat) : Int) - 1)))]) (fun (x_ : Nat) (w : World) => (x_ ≤ a.length) ∧ Sx.St w0 F0 ([] ++ R) w) (fun (x_ : Nat) => x_) (a.length) ?_ ?_ ?_
  · exact ⟨(congrArg (fun z_ => some (Value.string z_)) (show s = refL s (a.drop a.length) by rw [List.drop_length]; rfl)), rfl, (congrArg (fun z_ => some (Value.int .i64 z_)) (show ((((a.length : Nat) : Int)) - 1 : Int) = (((a.length : Nat) : Int) - 1) by omega)), trivial⟩
  · exact ⟨Nat.le_refl _, h⟩
  intro k w h
  obtain ⟨hJ, h⟩ := h
  replace hJ : k ≤ a.length := hJ
  replace h : Sx.St w0 F0 ([] ++ R) w := h
  show Sx.WC _ _ _ _ [(0, .string (refL s (a.drop k))), (1, .slice (Aa) (a.length) (ca)), (6, .int .i64 ((((k : Nat) : Int) - 1)))] _
  have hro_ := refL_room hio_ hs hF hJ
  refine wc_seq ?_
  refine wc_seq ?_
  refine wc_region ?_
  refine wl_v rfl rfl (ov_move _ rfl) ?_
  refine wl_v rfl rfl (ov_bin _ rfl rfl (binR_geq)) ?_
  refine wl_nil ?_
  refine qn_then ?_
  refine wc_cond (by rfl) (fun c2 => ?_) (fun c2 => ?_)
  ·
   rw [if_neg (by omega)] at hro_
   have hok_ := hio_ (k - 1) (by omega)
   unfold OkAt at hok_
   have hft_ := hF.2 _ (ge_mem (show k - 1 < a.length by omega))
   dsimp only [ge] at hro_ hft_
   refine wc_skip ?_
   refine qn_then ?_
   refine wc_seq ?_
   refine wc_block ?_
   refine wc_draw (fun w => Sx.St w0 F0 ([] ++ R) w) (by kernel_rfl) ?_
   replace h := st_drew h
   refine wa_tk 0 rfl rfl rfl (st_selT [] h) (fun w_ hS => ov_move _ rfl) ?_
   refine wa_tk 1 rfl rfl rfl (st_selT [] h) (fun w_ hS => ov_move _ rfl) ?_
   refine wa_tk 2 rfl rfl rfl (st_selT [] h) (fun w_ hS => ov_move _ rfl) ?_
   obtain ⟨ad3, rfl⟩ := Sx.C_some ((Sx.ro_C hv h hCa)) (k := (k - 1)) (by first | assumption | omega)
   refine wa_tk 3 rfl rfl rfl (st_selT [] h) (fun w_ hS => ov_indexAddrN _ _ _ _ _ (k - 1) rfl rfl es22 (by omega) (by first | assumption | omega | (simp only [List.length_take, List.length_drop, List.length_set]; omega))) ?_
   refine wa_tk 4 rfl rfl rfl (st_selT [] h) (fun w_ hS => ov_fieldAddr _ ((ad3).add ((k - 1) * 3 + 0)) _ rfl fo33_0 (by first | exact Deep.add_add _ _ _ | (rw [Deep.add_add]) | rfl)) ?_
   obtain ⟨cl6, _, hk5, hc4⟩ := Sx.C_cells (hCa) (z := z33) (k := (k - 1)) (by first | assumption | omega)
   obtain rfl := k33_open hk5
   refine wa_tk 5 rfl rfl rfl (st_selT [] h) (fun w_ hS => ov_load1 _ _ rfl sh3 (Sx.ro_cell hv hS (hc4 0 _ rfl))) ?_
   refine wa_tk 6 rfl rfl rfl (st_selT [] h) (fun w_ hS => by exact ov_slices _ 0 ((((a).getD (k - 1) z33).f0 : Int).toNat) (by rfl) (by exact rfl) (by exact ⟨_, _, rfl, (by omega)⟩) Try.underlying9 (by first | omega | (simp only [ByteArray.size_append, ByteArray.size_extract]; omega)) (by first | omega | (simp only [ByteArray.size_append, ByteArray.size_extract]; omega))) ?_
   refine wa_tk 7 rfl rfl rfl (st_selT [] h) (fun w_ hS => ov_move _ rfl) ?_
   refine wa_tk 8 rfl rfl rfl (st_selT [] h) (fun w_ hS => ov_move _ rfl) ?_
   refine wa_tk 9 rfl rfl rfl (st_selT [] h) (fun w_ hS => ov_indexAddrN _ _ _ _ _ (k - 1) rfl rfl es22 (by omega) (by first | assumption | omega | (simp only [List.length_take, List.length_drop, List.length_set]; omega))) ?_
   refine wa_tk 10 rfl rfl rfl (st_selT [] h) (fun w_ hS => ov_fieldAddr _ ((ad3).add ((k - 1) * 3 + 2)) _ rfl fo33_2 (by first | exact Deep.add_add _ _ _ | (rw [Deep.add_add]) | rfl)) ?_
   refine wa_tk 11 rfl rfl rfl (st_selT [] h) (fun w_ hS => ov_load1 _ _ rfl sh9 (Sx.ro_cell hv hS (hc4 2 _ rfl))) ?_
   refine wa_tk 12 rfl rfl rfl (st_selT [] h) (fun w_ hS => ov_bin _ rfl rfl (binR_adds (by first | omega | (simp only [ByteArray.size_append, ByteArray.size_extract]; omega)))) ?_
   refine wa_tk 13 rfl rfl rfl (st_selT [] h) (fun w_ hS => ov_move _ rfl) ?_
   refine wa_tk 14 rfl rfl rfl (st_selT [] h) (fun w_ hS => ov_move _ rfl) ?_
   refine wa_tk 15 rfl rfl rfl (st_selT [] h) (fun w_ hS => ov_move _ rfl) ?_
   refine wa_tk 16 rfl rfl rfl (st_selT [] h) (fun w_ hS => ov_indexAddrN _ _ _ _ _ (k - 1) rfl rfl es22 (by omega) (by first | assumption | omega | (simp only [List.length_take, List.length_drop, List.length_set]; omega))) ?_
   refine wa_tk 17 rfl rfl rfl (st_selT [] h) (fun w_ hS => ov_fieldAddr _ ((ad3).add ((k - 1) * 3 + 1)) _ rfl fo33_1 (by first | exact Deep.add_add _ _ _ | (rw [Deep.add_add]) | rfl)) ?_
   refine wa_tk 18 rfl rfl rfl (st_selT [] h) (fun w_ hS => ov_load1 _ _ rfl sh3 (Sx.ro_cell hv hS (hc4 1 _ rfl))) ?_
   refine wa_tk 19 rfl rfl rfl (st_selT [] h) (fun w_ hS => by exact ov_slices _ ((((a).getD (k - 1) z33).f1 : Int).toNat) ((refL s (a.drop k)).size) (by rfl) (by exact ⟨_, _, rfl, (by omega)⟩) (by exact rfl) Try.underlying9 (by first | omega | (simp only [ByteArray.size_append, ByteArray.size_extract]; omega)) (by first | omega | (simp only [ByteArray.size_append, ByteArray.size_extract]; omega))) ?_
   refine wa_tk 20 rfl rfl rfl (st_selT [] h) (fun w_ hS => ov_bin _ rfl rfl (binR_adds (by first | omega | (simp only [ByteArray.size_append, ByteArray.size_extract]; omega)))) ?_
   refine wa_tk 21 rfl rfl rfl (st_selT [] h) (fun w_ hS => ov_assign _ rfl) ?_
   refine wa_done (by kernel_rfl) ?_
   refine qn_block_normal ?_
   refine qn_then ?_
   refine wc_region ?_
   refine wl_v rfl rfl (ov_move _ rfl) ?_
   refine wl_v rfl rfl (ov_bin _ rfl rfl (binR_sub (r := ((((k : Nat) : Int) - 1)) - 1) (Sx.w64 (by first | omega | (simp only [ByteArray.size_append, ByteArray.size_extract]; omega))))) ?_
   refine wl_v rfl rfl (ov_assign _ rfl) ?_
   refine wl_nil ?_
   refine qn_next ((k - 1)) (by show (k - 1) < k; omega) ⟨(congrArg (fun z_ => some (Value.string z_)) (refL_step (by omega) (by omega)).symm), (congrArg (fun z_ => some (Value.slice (some ad3) z_ (ca))) (show (a.length : Nat) = a.length by first | rfl | simp)), (congrArg (fun z_ => some (Value.int .i64 z_)) (show (((((k : Nat) : Int) - 1)) - 1 : Int) = ((((k - 1) : Nat) : Int) - 1) by omega)), trivial⟩ ?_
   show ((k - 1) ≤ a.length) ∧ _
   exact ⟨by omega, h⟩
  ·
   refine wc_exit ?_
   refine qn_then_exit ?_
   refine qn_then_exit ?_
   refine qn_block_exit ?_
   refine qn_then ?_
   refine wc_seq ?_
   refine wc_region ?_
   refine wl_v rfl rfl (ov_move _ rfl) ?_
   refine wl_v rfl rfl (ov_assign _ rfl) ?_
   refine wl_v rfl rfl (ov_assign _ rfl) ?_
   refine wl_nil ?_
   refine qn_then ?_
   refine wc_ret ?_
   refine qn_ret [_, _] ⟨rfl, rfl, trivial⟩ ?_
   obtain rfl : k = 0 := by omega
   have e_ : (applyV s a) = some (refL s a) := by rw [ref_done hio_]; exact if_pos hio_
   rw [e_]
   exact ⟨rfl, h⟩
set_option maxHeartbeats 4000000 in
set_option maxRecDepth 100000 in
theorem CCheck_calls {w0 w : World} {F0 : Nat → Prop} {R : List Sx.HP} {v0 : World} (s : ByteArray) (a : List Edit) (Aa : Option Addr) (ca : Nat) (hv : Sx.RO v0 w0 F0) (hla : a.length ≤ ca) (hCa : k33.C v0 Aa a.length a) (hs : s.size ≤ 300) (hF : FewE a) (h : Sx.St w0 F0 ([] ++ R) w) : Calls Try.prog 25 #[.string (s), .slice (Aa) (a.length) (ca)] w (fun e w1 => e = .returned (.int .i64 (codeV s a)) ∧ Sx.St w0 F0 R w1) := by
 have hFl_ := hF.1
 refine Sx.calls_fn (vs := [.string (s), .slice (Aa) (a.length) (ca)]) Try.func25 rfl Try.ntmps25 rfl ?_
 refine wc_seq ?_
 refine wc_region ?_
 refine wl_v rfl rfl (ov_assign _ rfl) ?_
 refine wl_nil ?_
 refine qn_then ?_
 refine wc_seq ?_
 refine wc_seq ?_
 refine wc_region ?_
 refine wl_v rfl rfl (ov_move _ rfl) ?_
 refine wl_v rfl rfl (ov_move _ rfl) ?_
 refine wl_call _ rfl rfl rfl ent23 (A.Apply_calls (v0 := _) (w0 := _) (F0 := fun _ => False) (R := []) (s) a (Aa) (ca) (Sx.ro_self _) (hla) (Sx.ro_C hv h hCa) (by omega) (by have q_ := hF.1; omega) (fun e_ he_ => Nat.le_trans (hF.2 e_ he_) (by decide)) (st_start _)) ?_
 rintro e_ w_ ⟨rfl, h2_⟩
 refine ⟨_, rfl, ?_⟩
 replace h := st_below h (st_below0 h2_)
 refine wl_v rfl rfl (ov_move _ rfl) ?_
 refine wl_v rfl rfl (ov_extract [.string ((applyV (s) a).getD ByteArray.empty), .int .i64 ((if (applyV (s) a).isSome then 0 else 190))] _ rfl rfl) ?_
 refine wl_v rfl rfl (ov_extract [.string ((applyV (s) a).getD ByteArray.empty), .int .i64 ((if (applyV (s) a).isSome then 0 else 190))] _ rfl rfl) ?_
 refine wl_v rfl rfl (ov_assign _ rfl) ?_
 refine wl_v rfl rfl (ov_assign _ rfl) ?_
 refine wl_nil ?_
 refine qn_then ?_
 refine wc_seq ?_
 refine wc_region ?_
 refine wl_v rfl rfl (ov_move _ rfl) ?_
 refine wl_v rfl rfl (ov_bin _ rfl rfl (binR_neq)) ?_
 refine wl_nil ?_
 refine qn_then ?_
 refine wc_cond (by rfl) (fun c1 => ?_) (fun c1 => ?_)
 ·
  have hsm_ : (applyV (s) a).isSome = false := by
    cases hq_ : (applyV (s) a).isSome with
    | false => rfl
    | true => simp [hq_] at c1
  refine wc_seq ?_
  refine wc_region ?_
  refine wl_v rfl rfl (ov_move _ rfl) ?_
  refine wl_v rfl rfl (ov_assign _ rfl) ?_
  refine wl_nil ?_
  refine qn_then ?_
  refine wc_ret ?_
  refine qn_then_ret ?_
  refine qn_ret [_] ⟨rfl, trivial⟩ ?_
  have e_ : codeV s a = 190 := by unfold codeV; rw [if_neg (by rw [hsm_]; decide)]
  rw [e_]
  exact ⟨by rw [hsm_]; rfl, h⟩
 ·
  have hsm_ : (applyV (s) a).isSome = true := by
    cases hq_ : (applyV (s) a).isSome with
    | true => rfl
    | false => simp [hq_] at c1
  refine wc_skip ?_
  refine qn_then ?_
  refine wc_seq ?_
  refine wc_seq ?_
  refine wc_region ?_
  refine wl_v rfl rfl (ov_move _ rfl) ?_
  refine wl_v rfl rfl (ov_len _ _ _ _ _ rfl es22) ?_
  refine wl_v rfl rfl (ov_move _ rfl) ?_
  refine wl_nil ?_
  refine qn_then ?_
  refine wc_block ?_
  refine wc_loop (fun (x_ : Nat) => [(0, .string (s)), (21, .slice (Aa) (a.length) (ca)), (22, .int .i64 ((a.length : Int))), (23, .int .i64 ((x_ : Int)))]) (fun (x_ : Nat) (w : World) => (x_ ≤ a.length ∧ codeL s a = codeL s (a.drop x_)) ∧ Sx.St w0 F0 ([] ++ R) w) (fun (x_ : Nat) => a.length - x_) (0) ?_ ?_ ?_
  · exact ⟨rfl, rfl, (congrArg (fun z_ => some (Value.int .i64 z_)) (show (((a.length : Nat) : Int) : Int) = (a.length : Int) by omega)), (congrArg (fun z_ => some (Value.int .i64 z_)) (show (0 : Int) = (0 : Int) by omega)), trivial⟩
  · exact ⟨⟨Nat.zero_le _, rfl⟩, h⟩
  intro k w h
  obtain ⟨hJ, h⟩ := h
  replace hJ : k ≤ a.length ∧ codeL s a = codeL s (a.drop k) := hJ
  replace h : Sx.St w0 F0 ([] ++ R) w := h
  show Sx.WC _ _ _ _ [(0, .string (s)), (21, .slice (Aa) (a.length) (ca)), (22, .int .i64 ((a.length : Int))), (23, .int .i64 ((k : Int)))] _
  refine wc_seq ?_
  refine wc_region ?_
  refine wl_v rfl rfl (ov_bin _ rfl rfl (binR_lss)) ?_
  refine wl_nil ?_
  refine qn_then ?_
  refine wc_seq ?_
  refine wc_cond (by rfl) (fun c2 => ?_) (fun c2 => ?_)
  ·
   have hft_ : (a.getD k z33).f2.size ≤ 400 := hF.2 _ (ge_mem (by omega))
   refine wc_skip ?_
   refine qn_then ?_
   refine wc_seq ?_
   refine wc_block ?_
   refine wc_seq ?_
   refine wc_region ?_
   obtain ⟨ad3, rfl⟩ := Sx.C_some ((Sx.ro_C hv h hCa)) (k := k) (by first | assumption | omega)
   refine wl_v rfl rfl (ov_indexAddrN _ _ _ _ _ k rfl rfl es22 rfl (by first | assumption | omega | (simp only [List.length_take, List.length_drop, List.length_set]; omega))) ?_
   obtain ⟨cl6, _, hk5, hc4⟩ := Sx.C_cells (hCa) (z := z33) (k := k) (by first | assumption | omega)
   obtain rfl := k33_open hk5
   refine wl_v rfl rfl (ov_loadN _ [.int .i64 (((a).getD k z33).f0), .int .i64 (((a).getD k z33).f1), .string (((a).getD k z33).f2)] rfl sh33 (by intro j u hu; rw [Deep.add_add]; exact Sx.ro_cell hv h (hc4 _ _ hu))) ?_
   refine wl_alloc _ h rfl rfl zo33 (fun b7 _ h => ?_)
   replace h : Sx.St _ _ (Sx.blk b7 [.int .i64 (0), .int .i64 (0), .string (ByteArray.empty)] 33 :: _) _ := h
   refine wl_storebN 0 [.int .i64 (((a).getD k z33).f0), .int .i64 (((a).getD k z33).f1), .string (((a).getD k z33).f2)] [.int .i64 (((a).getD k z33).f0), .int .i64 (((a).getD k z33).f1), .string (((a).getD k z33).f2)] h rfl rfl rfl rfl (by simp [Value.oneCell']) sh33 rfl rfl (fun _ h => ?_)
   refine wl_nil ?_
   refine qn_then ?_
   refine wc_seq ?_
   refine wc_seq ?_
   refine wc_region ?_
   refine wl_v rfl rfl (ov_move _ rfl) ?_
   refine wl_v rfl rfl (ov_fieldAddr _ ⟨b7, 0, none⟩ _ rfl fo33_0 rfl) ?_
   refine wl_v rfl rfl (ov_loadb 0 _ h rfl rfl sh3 rfl) ?_
   refine wl_call _ rfl rfl rfl ent34 (RN.Boundary_calls (R := [Sx.blk b7 [.int .i64 (((a).getD k z33).f0), .int .i64 (((a).getD k z33).f1), .string (((a).getD k z33).f2)] 33] ++ R) s (((a).getD k z33).f0) (by omega) h) ?_
   rintro e_ w_ ⟨rfl, h⟩
   refine ⟨_, rfl, ?_⟩
   refine wl_v rfl rfl (ov_assign _ rfl) ?_
   refine wl_nil ?_
   refine qn_then ?_
   refine wc_seq ?_
   refine wc_region ?_
   refine wl_v rfl rfl (ov_move _ rfl) ?_
   refine wl_v rfl rfl (ov_bin _ rfl rfl (binR_neq)) ?_
   refine wl_nil ?_
   refine qn_then ?_
   refine wc_cond (by rfl) (fun c8 => ?_) (fun c8 => ?_)
   ·
    refine wc_seq ?_
    refine wc_region ?_
    refine wl_v rfl rfl (ov_move _ rfl) ?_
    refine wl_v rfl rfl (ov_assign _ rfl) ?_
    refine wl_nil ?_
    refine qn_then ?_
    refine wc_ret ?_
    refine qn_then_ret ?_
    refine qn_block_ret ?_
    refine qn_then_ret ?_
    refine qn_then_ret ?_
    refine qn_block_ret ?_
    refine qn_then_ret ?_
    replace h := st_selT [false] h
    refine qn_ret [_] ⟨rfl, trivial⟩ ?_
    have e1_ : code1 s (ge a k) = boundV s (((a).getD k z33).f0) := by
      unfold code1
      dsimp only [ge]
      first
      | rw [if_neg (by omega), if_neg (by omega)]
      | rw [if_neg (by omega), if_pos (by omega)]
      | rw [if_pos (by omega)]
    have e_ : codeV s a = boundV s (((a).getD k z33).f0) := by unfold codeV; rw [if_pos hsm_, hJ.2]; exact codeL_stop (by omega) e1_ (by omega)
    rw [e_]
    exact ⟨rfl, h⟩
   ·
    refine wc_skip ?_
    refine qn_then ?_
    refine wc_seq ?_
    refine wc_seq ?_
    refine wc_region ?_
    refine wl_v rfl rfl (ov_move _ rfl) ?_
    refine wl_v rfl rfl (ov_fieldAddr _ ⟨b7, 1, none⟩ _ rfl fo33_1 rfl) ?_
    refine wl_v rfl rfl (ov_loadb 0 _ h rfl rfl sh3 rfl) ?_
    refine wl_call _ rfl rfl rfl ent34 (RN.Boundary_calls (R := [Sx.blk b7 [.int .i64 (((a).getD k z33).f0), .int .i64 (((a).getD k z33).f1), .string (((a).getD k z33).f2)] 33] ++ R) s (((a).getD k z33).f1) (by omega) h) ?_
    rintro e_ w_ ⟨rfl, h⟩
    refine ⟨_, rfl, ?_⟩
    refine wl_v rfl rfl (ov_assign _ rfl) ?_
    refine wl_nil ?_
    refine qn_then ?_
    refine wc_seq ?_
    refine wc_region ?_
    refine wl_v rfl rfl (ov_move _ rfl) ?_
    refine wl_v rfl rfl (ov_bin _ rfl rfl (binR_neq)) ?_
    refine wl_nil ?_
    refine qn_then ?_
    refine wc_cond (by rfl) (fun c9 => ?_) (fun c9 => ?_)
    ·
     refine wc_seq ?_
     refine wc_region ?_
     refine wl_v rfl rfl (ov_move _ rfl) ?_
     refine wl_v rfl rfl (ov_assign _ rfl) ?_
     refine wl_nil ?_
     refine qn_then ?_
     refine wc_ret ?_
     refine qn_then_ret ?_
     refine qn_block_ret ?_
     refine qn_then_ret ?_
     refine qn_then_ret ?_
     refine qn_block_ret ?_
     refine qn_then_ret ?_
     replace h := st_selT [false] h
     refine qn_ret [_] ⟨rfl, trivial⟩ ?_
     have e1_ : code1 s (ge a k) = boundV s (((a).getD k z33).f1) := by
       unfold code1
       dsimp only [ge]
       first
       | rw [if_neg (by omega), if_neg (by omega)]
       | rw [if_neg (by omega), if_pos (by omega)]
       | rw [if_pos (by omega)]
     have e_ : codeV s a = boundV s (((a).getD k z33).f1) := by unfold codeV; rw [if_pos hsm_, hJ.2]; exact codeL_stop (by omega) e1_ (by omega)
     rw [e_]
     exact ⟨rfl, h⟩
    ·
     refine wc_skip ?_
     refine qn_then ?_
     refine wc_seq ?_
     refine wc_region ?_
     refine wl_v rfl rfl (ov_fieldAddr _ ⟨b7, 2, none⟩ _ rfl fo33_2 rfl) ?_
     refine wl_v rfl rfl (ov_loadb 0 _ h rfl rfl sh9 rfl) ?_
     refine wl_call _ rfl rfl rfl ent35 (RN.RCheck_calls (R := [Sx.blk b7 [.int .i64 (((a).getD k z33).f0), .int .i64 (((a).getD k z33).f1), .string (((a).getD k z33).f2)] 33] ++ R) (((a).getD k z33).f2) (by omega) h) ?_
     rintro e_ w_ ⟨rfl, h⟩
     refine ⟨_, rfl, ?_⟩
     refine wl_v rfl rfl (ov_assign _ rfl) ?_
     refine wl_nil ?_
     refine qn_then ?_
     refine wc_seq ?_
     refine wc_region ?_
     refine wl_v rfl rfl (ov_move _ rfl) ?_
     refine wl_v rfl rfl (ov_bin _ rfl rfl (binR_neq)) ?_
     refine wl_nil ?_
     refine qn_then ?_
     refine wc_cond (by rfl) (fun c10 => ?_) (fun c10 => ?_)
     ·
      refine wc_seq ?_
      refine wc_region ?_
      refine wl_v rfl rfl (ov_move _ rfl) ?_
      refine wl_v rfl rfl (ov_assign _ rfl) ?_
      refine wl_nil ?_
      refine qn_then ?_
      refine wc_ret ?_
      refine qn_block_ret ?_
      refine qn_then_ret ?_
      refine qn_then_ret ?_
      refine qn_block_ret ?_
      refine qn_then_ret ?_
      replace h := st_selT [false] h
      refine qn_ret [_] ⟨rfl, trivial⟩ ?_
      have e1_ : code1 s (ge a k) = checkV (((a).getD k z33).f2) := by
        unfold code1
        dsimp only [ge]
        first
        | rw [if_neg (by omega), if_neg (by omega)]
        | rw [if_neg (by omega), if_pos (by omega)]
        | rw [if_pos (by omega)]
      have e_ : codeV s a = checkV (((a).getD k z33).f2) := by unfold codeV; rw [if_pos hsm_, hJ.2]; exact codeL_stop (by omega) e1_ (by omega)
      rw [e_]
      exact ⟨rfl, h⟩
     ·
      refine wc_skip ?_
      refine qn_block_normal ?_
      refine qn_then ?_
      refine wc_region ?_
      refine wl_v rfl rfl (ov_bin _ rfl rfl (binR_add (r := ((k : Int)) + 1) (Sx.w64 (by omega)))) ?_
      refine wl_v rfl rfl (ov_move _ rfl) ?_
      refine wl_nil ?_
      replace h := st_selT [false] h
      refine qn_next ((k + 1)) (by show a.length - (k + 1) < a.length - k; omega) ⟨rfl, (congrArg (fun z_ => some (Value.slice (some ad3) z_ (ca))) (show (a.length : Nat) = a.length by first | rfl | simp)), rfl, (congrArg (fun z_ => some (Value.int .i64 z_)) (show (((k : Int)) + 1 : Int) = ((k + 1) : Int) by omega)), trivial⟩ ?_
      show ((k + 1) ≤ a.length ∧ codeL s a = codeL s (a.drop (k + 1))) ∧ _
      have e1_ : code1 s (ge a k) = 0 := by
        unfold code1
        dsimp only [ge]
        rw [if_neg (by omega), if_neg (by omega)]
        omega
      exact ⟨⟨by omega, by rw [hJ.2]; exact codeL_next (by omega) e1_⟩, h⟩
  ·
   refine wc_exit ?_
   refine qn_then_exit ?_
   refine qn_then_exit ?_
   refine qn_block_exit ?_
   refine qn_then ?_
   refine wc_seq ?_
   refine wc_region ?_
   refine wl_v rfl rfl (ov_assign _ rfl) ?_
   refine wl_nil ?_
   refine qn_then ?_
   refine wc_ret ?_
   refine qn_ret [_] ⟨rfl, trivial⟩ ?_
   have e_ : codeV s a = 0 := by unfold codeV; rw [if_pos hsm_, hJ.2]; exact codeL_end (by omega)
   rw [e_]
   exact ⟨rfl, h⟩
end Go.Proofs.Ytbakllppgekmoaa.DN
