/- Pruned by wip/prune.py. -/
import Derived.Test.YtbakllppgekmoaaProg
import Derived.Test.YtbakllppgekmoaaQSxGlue
import Derived.Test.YtbakllppgekmoaaQSxBytes
import Derived.Test.YtbakllppgekmoaaQSxIter
import Derived.Test.YtbakllppgekmoaaQSxKinds
import Derived.Test.YtbakllppgekmoaaQSxDiff
import Derived.Test.YtbakllppgekmoaaQSxEdits
import Derived.Test.YtbakllppgekmoaaQSxApply
import Derived.Test.YtbakllppgekmoaaQSxFlow
import Derived.Test.YtbakllppgekmoaaQRunesParts
import Derived.Test.YtbakllppgekmoaaQSxRunes
import Derived.Test.YtbakllppgekmoaaQSxTexts
import Derived.Test.YtbakllppgekmoaaQSxDone
namespace Go.Proofs.Ytbakllppgekmoaa.L
open Go Go.RowKit Go.Proofs.YtbakllppgekmoaaW.PrintWords Go.Proofs.Ytbakllppgekmoaa.Kinds Go.Proofs.Ytbakllppgekmoaa.Cmp Go.Proofs.Ytbakllppgekmoaa.Given Go.Proofs.Ytbakllppgekmoaa.Rn Go.Proofs.Ytbakllppgekmoaa.Sx 
set_option linter.unusedVariables false
set_option linter.unusedSimpArgs false
theorem ent9 : Sx.Ent Try.prog 9 := ⟨Try.f9, Try.func9, by kernel_rfl, by kernel_rfl⟩
theorem ent14 : Sx.Ent Try.prog 14 := ⟨Try.f14, Try.func14, by kernel_rfl, by kernel_rfl⟩
theorem ent17 : Sx.Ent Try.prog 17 := ⟨Try.f17, Try.func17, by kernel_rfl, by kernel_rfl⟩
theorem ent22 : Sx.Ent Try.prog 22 := ⟨Try.f22, Try.func22, by kernel_rfl, by kernel_rfl⟩
theorem ent23 : Sx.Ent Try.prog 23 := ⟨Try.f23, Try.func23, by kernel_rfl, by kernel_rfl⟩
theorem es22 : Sx.elemSz Try.prog 22 = some (33, 3) := by kernel_rfl
theorem fo33_0 : Sx.fieldOff Try.prog 33 0 = some 0 := by kernel_rfl
theorem sh3 : Sx.shapeOf Try.prog 3 = some (false, 1) := by kernel_rfl
theorem fo33_1 : Sx.fieldOff Try.prog 33 1 = some 1 := by kernel_rfl
set_option maxHeartbeats 4000000 in
set_option maxRecDepth 100000 in
theorem CompareBack_calls {w0 w : World} {F0 : Nat → Prop} {R : List Sx.HP} {v0 : World} (s : ByteArray) (edits : List S33) (Aedits : Option Addr) (cedits : Nat) (hv : Sx.RO v0 w0 F0) (hzs : s.size ≤ 9223372036854775807) (hledits : edits.length ≤ cedits) (hCedits : k33.C v0 Aedits edits.length edits) (hmedits : edits.length ≤ 9223372036854775807) (h : Sx.St w0 F0 ([] ++ R) w) : Calls Try.prog 7 #[.string (s), .slice (Aedits) (edits.length) (cedits)] w (fun e w1 => e = .returned (.bool true) ∧ Sx.St w0 F0 R w1) := by
 refine Sx.calls_fn (vs := [.string (s), .slice (Aedits) (edits.length) (cedits)]) Try.func7 rfl Try.ntmps7 rfl ?_
 refine wc_seq ?_
 refine wc_region ?_
 refine wl_v rfl rfl (ov_assign _ rfl) ?_
 refine wl_nil ?_
 refine qn_then ?_
 refine wc_seq ?_
 refine wc_seq ?_
 refine wc_region ?_
 refine wl_call _ rfl rfl rfl ent9 (A.awake_calls (R := [] ++ R) h) ?_
 rintro e_ w_ ⟨rfl, h⟩
 refine ⟨_, rfl, ?_⟩
 refine wl_v rfl rfl (ov_notb _ rfl) ?_
 refine wl_nil ?_
 refine qn_then ?_
 refine wc_cond_false rfl ?_
 refine wc_skip ?_
 refine qn_then ?_
 refine wc_seq ?_
 refine wc_seq ?_
 refine wc_region ?_
 refine wl_v rfl rfl (ov_move _ rfl) ?_
 refine wl_call _ rfl rfl rfl ent14 (TX.right_calls (R := [] ++ R) (s) h) ?_
 rintro e_ w_ ⟨br1, rfl, hr2, h⟩
 refine ⟨_, rfl, ?_⟩
 refine wl_v rfl rfl (ov_notb _ rfl) ?_
 refine wl_v rfl rfl (ov_move _ rfl) ?_
 refine wl_splitb 18 rfl (fun c3 => ?_) (fun c3 => ?_)
 ·
  refine wl_skip rfl rfl ?_
  refine wl_skip rfl rfl ?_
  refine wl_skip rfl rfl ?_
  refine wl_v rfl rfl (ov_pick_true _ rfl rfl) ?_
  refine wl_nil ?_
  refine qn_then ?_
  refine wc_cond_true rfl ?_
  refine wc_seq ?_
  refine wc_region ?_
  refine wl_v rfl rfl (ov_assign _ rfl) ?_
  refine wl_nil ?_
  refine qn_then ?_
  refine wc_ret ?_
  refine qn_then_ret ?_
  refine qn_ret [_] ⟨rfl, trivial⟩ ?_
  exact ⟨rfl, h⟩
 ·
  have hRs := hr2 (by simpa using c3)
  refine wl_v rfl rfl (ov_move _ rfl) ?_
  refine wl_call _ rfl rfl rfl ent17 (E.few_calls (R := [] ++ R) edits (Aedits) cedits hv hledits hCedits h) ?_
  rintro e_ w_ ⟨bg4, rfl, hg5, h⟩
  refine ⟨_, rfl, ?_⟩
  refine wl_v rfl rfl (ov_notb _ rfl) ?_
  refine wl_v rfl rfl (ov_pick_false _ rfl rfl) ?_
  refine wl_nil ?_
  refine qn_then ?_
  refine wc_condb (by rfl) (fun c6 => ?_) (fun c6 => ?_)
  ·
   refine wc_seq ?_
   refine wc_region ?_
   refine wl_v rfl rfl (ov_assign _ rfl) ?_
   refine wl_nil ?_
   refine qn_then ?_
   refine wc_ret ?_
   refine qn_then_ret ?_
   refine qn_ret [_] ⟨rfl, trivial⟩ ?_
   exact ⟨rfl, h⟩
  ·
   have hFedits := hg5 (by simpa using c6)
   have hel_ := hFedits.1
   have hsl_ := hRs.1
   refine wc_skip ?_
   refine qn_then ?_
   refine wc_seq ?_
   refine wc_region ?_
   refine wl_v rfl rfl (ov_move _ rfl) ?_
   refine wl_v rfl rfl (ov_move _ rfl) ?_
   refine wl_call _ rfl rfl rfl ent22 (DN.Back_calls (v0 := _) (w0 := _) (F0 := fun _ => False) (R := []) (s) edits (Aedits) (cedits) (Sx.ro_self _) (hledits) (Sx.ro_C hv h hCedits) hRs.1 hFedits (st_start _)) ?_
   rintro e_ w_ ⟨Ay7, cy7, rfl, h2_⟩
   refine ⟨_, rfl, ?_⟩
   replace h := st_rebase h h2_
   replace h : Sx.St w0 F0 ([Sx.row k33 33 (Ay7) (cy7) ((if (applyV (s) edits).isSome then backV s edits else []))] ++ R) _ := h
   refine wl_v rfl rfl (ov_move _ rfl) ?_
   refine wl_v rfl rfl (ov_extract [.slice (Ay7) ((if (applyV (s) edits).isSome then backV s edits else []).length) (cy7), .int .i64 ((if (applyV (s) edits).isSome then 0 else 190))] _ rfl rfl) ?_
   refine wl_v rfl rfl (ov_extract [.slice (Ay7) ((if (applyV (s) edits).isSome then backV s edits else []).length) (cy7), .int .i64 ((if (applyV (s) edits).isSome then 0 else 190))] _ rfl rfl) ?_
   refine wl_v rfl rfl (ov_assign _ rfl) ?_
   refine wl_v rfl rfl (ov_assign _ rfl) ?_
   refine wl_nil ?_
   refine qn_then ?_
   refine wc_seq ?_
   refine wc_region ?_
   refine wl_v rfl rfl (ov_move _ rfl) ?_
   refine wl_v rfl rfl (ov_move _ rfl) ?_
   refine wl_call _ rfl rfl rfl ent23 (A.Apply_calls (v0 := _) (w0 := _) (F0 := fun _ => False) (R := []) (s) edits (Aedits) (cedits) (Sx.ro_self _) (hledits) (Sx.ro_C hv h hCedits) (by have q_ := hRs.1; omega) (by have q_ := hFedits.1; omega) (fun e_ he_ => Nat.le_trans (hFedits.2 e_ he_) (by decide)) (st_start _)) ?_
   rintro e_ w_ ⟨rfl, h2_⟩
   refine ⟨_, rfl, ?_⟩
   replace h := st_below h (st_below0 h2_)
   refine wl_v rfl rfl (ov_move _ rfl) ?_
   refine wl_v rfl rfl (ov_extract [.string ((applyV (s) edits).getD ByteArray.empty), .int .i64 ((if (applyV (s) edits).isSome then 0 else 190))] _ rfl rfl) ?_
   refine wl_v rfl rfl (ov_extract [.string ((applyV (s) edits).getD ByteArray.empty), .int .i64 ((if (applyV (s) edits).isSome then 0 else 190))] _ rfl rfl) ?_
   refine wl_v rfl rfl (ov_assign _ rfl) ?_
   refine wl_v rfl rfl (ov_assign _ rfl) ?_
   refine wl_nil ?_
   refine qn_then ?_
   refine wc_seq ?_
   refine wc_seq ?_
   refine wc_region ?_
   refine wl_v rfl rfl (ov_move _ rfl) ?_
   refine wl_v rfl rfl (ov_move _ rfl) ?_
   refine wl_v rfl rfl (ov_bin _ rfl rfl (binR_neq)) ?_
   refine wl_v rfl rfl (ov_move _ rfl) ?_
   refine wl_split 38 rfl (fun c8 => ?_) (fun c8 => ?_)
   ·
    exact absurd rfl c8
   ·
    refine wl_v rfl rfl (ov_move _ rfl) ?_
    refine wl_v rfl rfl (ov_bin _ rfl rfl (binR_neq)) ?_
    refine wl_v rfl rfl (ov_pick_false _ rfl rfl) ?_
    refine wl_nil ?_
    refine qn_then ?_
    refine wc_cond (by rfl) (fun c9 => ?_) (fun c9 => ?_)
    ·
     have hsm_ : (applyV (s) edits).isSome = false := by
       cases hq_ : (applyV (s) edits).isSome with
       | false => rfl
       | true => simp [hq_] at c9
     refine wc_seq ?_
     refine wc_region ?_
     refine wl_v rfl rfl (ov_move _ rfl) ?_
     refine wl_v rfl rfl (ov_move _ rfl) ?_
     refine wl_v rfl rfl (ov_bin _ rfl rfl (binR_eql)) ?_
     refine wl_v rfl rfl (ov_move _ rfl) ?_
     refine wl_split 45 rfl (fun c10 => ?_) (fun c10 => ?_)
     ·
      refine wl_v rfl rfl (ov_move _ rfl) ?_
      refine wl_v rfl rfl (ov_len _ _ _ _ _ rfl es22) ?_
      refine wl_v rfl rfl (ov_bin _ rfl rfl (binR_eql)) ?_
      refine wl_v rfl rfl (ov_pick_true _ rfl rfl) ?_
      refine wl_v rfl rfl (ov_assign _ rfl) ?_
      refine wl_nil ?_
      refine qn_then ?_
      refine wc_ret ?_
      refine qn_then_ret ?_
      replace h := st_selT [false] h
      refine qn_ret [_] ⟨rfl, trivial⟩ ?_
      have b_ : (decide (((((if (applyV (s) edits).isSome then backV s edits else []).length : Nat) : Int) : Int) = 0)) = true := by
        apply decide_eq_true
        rw [if_neg (by rw [hsm_]; decide)]
        rfl
      exact ⟨congrArg (fun z => Ending.returned (Value.bool z)) b_, h⟩
     ·
      exact absurd rfl c10
    ·
     have hsm_ : (applyV (s) edits).isSome = true := by
       cases hq_ : (applyV (s) edits).isSome with
       | true => rfl
       | false => simp [hq_] at c9
     have hio_ := apply_ord hsm_
     have hbd_ := back_done hio_
     have hbf_ := back_facts hio_ hRs.1 hFedits (Nat.le_refl _)
     have hV_ : (applyV (s) edits) = some (doneV s edits) := if_pos hio_
     have hLL_ : (if (applyV (s) edits).isSome then backV s edits else []) = backV s edits := if_pos hsm_
     have ht_ : ((applyV (s) edits).getD ByteArray.empty).size ≤ 100000 := by
       rw [hV_]
       show (doneV s edits).size ≤ _
       rw [← ref_done hio_]
       exact (refL_room hio_ hRs.1 hFedits (Nat.zero_le _)).2
     have hLl_ : (if (applyV (s) edits).isSome then backV s edits else []).length ≤ 1000000 := by
       rw [hLL_]
       have q_ := hbf_.2.2.1
       show (backK s edits edits.length).1.length ≤ _
       omega
     have hLt_ : ∀ e_ ∈ (if (applyV (s) edits).isSome then backV s edits else []), e_.f2.size ≤ 100000 := by
       rw [hLL_]
       exact fun e_ he_ => Nat.le_trans (back_text hio_ hRs.1 hFedits (Nat.le_refl _) e_ he_) (by decide)
     have hU_ : applyV ((applyV (s) edits).getD ByteArray.empty) (if (applyV (s) edits).isSome then backV s edits else []) = some s := by
       rw [hLL_, hV_]
       exact hbd_.1
     refine wc_skip ?_
     refine qn_then ?_
     refine wc_seq ?_
     refine wc_region ?_
     refine wl_v rfl rfl (ov_move _ rfl) ?_
     refine wl_v rfl rfl (ov_move _ rfl) ?_
     refine wl_call _ rfl rfl rfl ent23 (A.Apply_calls (v0 := _) (w0 := _) (F0 := fun _ => False) (R := []) ((applyV (s) edits).getD ByteArray.empty) (if (applyV (s) edits).isSome then backV s edits else []) (Ay7) (cy7) (Sx.ro_self _) ((Sx.row_reads h (i := 0) rfl).1) (Sx.row_reads h (i := 0) rfl).2 ht_ hLl_ hLt_ (st_start _)) ?_
     rintro e_ w_ ⟨rfl, h2_⟩
     refine ⟨_, rfl, ?_⟩
     replace h := st_below h (st_below0 h2_)
     refine wl_v rfl rfl (ov_move _ rfl) ?_
     refine wl_v rfl rfl (ov_extract [.string ((applyV ((applyV (s) edits).getD ByteArray.empty) (if (applyV (s) edits).isSome then backV s edits else [])).getD ByteArray.empty), .int .i64 ((if (applyV ((applyV (s) edits).getD ByteArray.empty) (if (applyV (s) edits).isSome then backV s edits else [])).isSome then 0 else 190))] _ rfl rfl) ?_
     refine wl_v rfl rfl (ov_extract [.string ((applyV ((applyV (s) edits).getD ByteArray.empty) (if (applyV (s) edits).isSome then backV s edits else [])).getD ByteArray.empty), .int .i64 ((if (applyV ((applyV (s) edits).getD ByteArray.empty) (if (applyV (s) edits).isSome then backV s edits else [])).isSome then 0 else 190))] _ rfl rfl) ?_
     refine wl_v rfl rfl (ov_assign _ rfl) ?_
     refine wl_v rfl rfl (ov_assign _ rfl) ?_
     refine wl_nil ?_
     refine qn_then ?_
     refine wc_seq ?_
     refine wc_region ?_
     refine wl_v rfl rfl (ov_assign _ rfl) ?_
     refine wl_nil ?_
     refine qn_then ?_
     refine wc_seq ?_
     refine wc_seq ?_
     refine wc_region ?_
     refine wl_v rfl rfl (ov_assign _ rfl) ?_
     refine wl_nil ?_
     refine qn_then ?_
     refine wc_block ?_
     replace h := st_selT [false] h
     refine wc_loop (fun (x_ : Nat) => [(0, .string (s)), (1, .slice (Aedits) (edits.length) (cedits)), (5, .slice (Ay7) ((if (applyV (s) edits).isSome then backV s edits else []).length) (cy7)), (9, .string ((applyV ((applyV (s) edits).getD ByteArray.empty) (if (applyV (s) edits).isSome then backV s edits else [])).getD ByteArray.empty)), (10, .int .i64 ((if (applyV ((applyV (s) edits).getD ByteArray.empty) (if (applyV (s) edits).isSome then backV s edits else [])).isSome then 0 else 190))), (11, .int .i64 (touchN edits x_)), (12, .int .i64 (((x_ : Nat) : Int)))]) (fun (x_ : Nat) (w : World) => (1 ≤ x_ ∧ (x_ = 1 ∨ x_ ≤ edits.length)) ∧ Sx.St w0 F0 ([] ++ R) w) (fun (x_ : Nat) => edits.length - x_) (1) ?_ ?_ ?_
     · exact ⟨rfl, rfl, rfl, rfl, rfl, (congrArg (fun z_ => some (Value.int .i64 z_)) (show (0 : Int) = touchN edits 1 by rfl)), (congrArg (fun z_ => some (Value.int .i64 z_)) (show (1 : Int) = ((1 : Nat) : Int) by omega)), trivial⟩
     · exact ⟨⟨Nat.le_refl _, .inl rfl⟩, h⟩
     intro k w h
     obtain ⟨hJ, h⟩ := h
     replace hJ : 1 ≤ k ∧ (k = 1 ∨ k ≤ edits.length) := hJ
     replace h : Sx.St w0 F0 ([] ++ R) w := h
     show Sx.WC _ _ _ _ [(0, .string (s)), (1, .slice (Aedits) (edits.length) (cedits)), (5, .slice (Ay7) ((if (applyV (s) edits).isSome then backV s edits else []).length) (cy7)), (9, .string ((applyV ((applyV (s) edits).getD ByteArray.empty) (if (applyV (s) edits).isSome then backV s edits else [])).getD ByteArray.empty)), (10, .int .i64 ((if (applyV ((applyV (s) edits).getD ByteArray.empty) (if (applyV (s) edits).isSome then backV s edits else [])).isSome then 0 else 190))), (11, .int .i64 (touchN edits k)), (12, .int .i64 (((k : Nat) : Int)))] _
     have htb_ := touch_bound edits k
     refine wc_seq ?_
     refine wc_seq ?_
     refine wc_region ?_
     refine wl_v rfl rfl (ov_move _ rfl) ?_
     refine wl_v rfl rfl (ov_move _ rfl) ?_
     refine wl_v rfl rfl (ov_len _ _ _ _ _ rfl es22) ?_
     refine wl_v rfl rfl (ov_bin _ rfl rfl (binR_lss)) ?_
     refine wl_nil ?_
     refine qn_then ?_
     refine wc_cond (by rfl) (fun c11 => ?_) (fun c11 => ?_)
     ·
      refine wc_skip ?_
      refine qn_then ?_
      refine wc_seq ?_
      refine wc_block ?_
      refine wc_seq ?_
      refine wc_draw (fun w => Sx.St w0 F0 ([] ++ R) w) (by kernel_rfl) ?_
      replace h := st_drew h
      refine wa_tk 0 rfl rfl rfl (st_selT [] h) (fun w_ hS => ov_move _ rfl) ?_
      refine wa_tk 1 rfl rfl rfl (st_selT [] h) (fun w_ hS => ov_move _ rfl) ?_
      obtain ⟨ad12, rfl⟩ := Sx.C_some ((Sx.ro_C hv h hCedits)) (k := (k : Nat)) (by first | assumption | omega)
      refine wa_tk 2 rfl rfl rfl (st_selT [] h) (fun w_ hS => ov_indexAddrN _ _ _ _ _ (k : Nat) rfl rfl es22 rfl (by first | assumption | omega | (simp only [List.length_take, List.length_drop, List.length_set]; omega))) ?_
      refine wa_tk 3 rfl rfl rfl (st_selT [] h) (fun w_ hS => ov_fieldAddr _ ((ad12).add ((k : Nat) * 3 + 0)) _ rfl fo33_0 (by first | exact Deep.add_add _ _ _ | (rw [Deep.add_add]) | rfl)) ?_
      obtain ⟨cl15, _, hk14, hc13⟩ := Sx.C_cells (hCedits) (z := z33) (k := (k : Nat)) (by first | assumption | omega)
      obtain rfl := k33_open hk14
      refine wa_tk 4 rfl rfl rfl (st_selT [] h) (fun w_ hS => ov_load1 _ _ rfl sh3 (Sx.ro_cell hv hS (hc13 0 _ rfl))) ?_
      refine wa_tk 5 rfl rfl rfl (st_selT [] h) (fun w_ hS => ov_move _ rfl) ?_
      refine wa_tk 6 rfl rfl rfl (st_selT [] h) (fun w_ hS => ov_move _ rfl) ?_
      refine wa_tk 7 rfl rfl rfl (st_selT [] h) (fun w_ hS => ov_bin _ rfl rfl (binR_sub (r := (((k : Nat) : Int)) - 1) (Sx.w64 (by omega)))) ?_
      refine wa_tk 8 rfl rfl rfl (st_selT [] h) (fun w_ hS => ov_indexAddrN _ _ _ _ _ (((k : Nat)) - 1) rfl rfl es22 (by omega) (by first | assumption | omega | (simp only [List.length_take, List.length_drop, List.length_set]; omega))) ?_
      refine wa_tk 9 rfl rfl rfl (st_selT [] h) (fun w_ hS => ov_fieldAddr _ ((ad12).add ((((k : Nat)) - 1) * 3 + 1)) _ rfl fo33_1 (by first | exact Deep.add_add _ _ _ | (rw [Deep.add_add]) | rfl)) ?_
      obtain ⟨cl18, _, hk17, hc16⟩ := Sx.C_cells (hCedits) (z := z33) (k := (((k : Nat)) - 1)) (by first | assumption | omega)
      obtain rfl := k33_open hk17
      refine wa_tk 10 rfl rfl rfl (st_selT [] h) (fun w_ hS => ov_load1 _ _ rfl sh3 (Sx.ro_cell hv hS (hc16 1 _ rfl))) ?_
      refine wa_tk 11 rfl rfl rfl (st_selT [] h) (fun w_ hS => ov_bin _ rfl rfl (binR_eql)) ?_
      refine wa_done (by kernel_rfl) ?_
      refine qn_then ?_
      refine wc_cond (by rfl) (fun c19 => ?_) (fun c19 => ?_)
      ·
       refine wc_region ?_
       refine wl_v rfl rfl (ov_move _ rfl) ?_
       refine wl_v rfl rfl (ov_bin _ rfl rfl (binR_add (r := (touchN edits k) + 1) (Sx.w64 (by omega)))) ?_
       refine wl_v rfl rfl (ov_assign _ rfl) ?_
       refine wl_nil ?_
       refine qn_block_normal ?_
       refine qn_then ?_
       refine wc_region ?_
       refine wl_v rfl rfl (ov_move _ rfl) ?_
       refine wl_v rfl rfl (ov_bin _ rfl rfl (binR_add (r := (((k : Nat) : Int)) + 1) (Sx.w64 (by omega)))) ?_
       refine wl_v rfl rfl (ov_assign _ rfl) ?_
       refine wl_nil ?_
       refine qn_next ((k + 1)) (by show edits.length - (k + 1) < edits.length - k; omega) ⟨rfl, (congrArg (fun z_ => some (Value.slice (some ad12) z_ (cedits))) (show (edits.length : Nat) = edits.length by first | rfl | simp)), rfl, rfl, rfl, (congrArg (fun z_ => some (Value.int .i64 z_)) (show ((touchN edits k) + 1 : Int) = touchN edits (k + 1) by (have e_ : touchN edits (k + 1) = touchN edits k + (if 0 < k ∧ (ge edits k).f0 = (ge edits (k - 1)).f1 then 1 else 0) := rfl; rw [e_]; dsimp only [ge]; first | (rw [if_pos ⟨by omega, by omega⟩]; done) | (rw [if_pos ⟨by omega, by omega⟩]; omega) | (rw [if_neg (fun z_ => by have q_ := z_.2; omega)]; omega)))), (congrArg (fun z_ => some (Value.int .i64 z_)) (show ((((k : Nat) : Int)) + 1 : Int) = (((k + 1) : Nat) : Int) by omega)), trivial⟩ ?_
       show (1 ≤ (k + 1) ∧ ((k + 1) = 1 ∨ (k + 1) ≤ edits.length)) ∧ _
       exact ⟨⟨by omega, by omega⟩, h⟩
      ·
       refine wc_skip ?_
       refine qn_block_normal ?_
       refine qn_then ?_
       refine wc_region ?_
       refine wl_v rfl rfl (ov_move _ rfl) ?_
       refine wl_v rfl rfl (ov_bin _ rfl rfl (binR_add (r := (((k : Nat) : Int)) + 1) (Sx.w64 (by omega)))) ?_
       refine wl_v rfl rfl (ov_assign _ rfl) ?_
       refine wl_nil ?_
       refine qn_next ((k + 1)) (by show edits.length - (k + 1) < edits.length - k; omega) ⟨rfl, (congrArg (fun z_ => some (Value.slice (some ad12) z_ (cedits))) (show (edits.length : Nat) = edits.length by first | rfl | simp)), rfl, rfl, rfl, (congrArg (fun z_ => some (Value.int .i64 z_)) (show (touchN edits k : Int) = touchN edits (k + 1) by (have e_ : touchN edits (k + 1) = touchN edits k + (if 0 < k ∧ (ge edits k).f0 = (ge edits (k - 1)).f1 then 1 else 0) := rfl; rw [e_]; dsimp only [ge]; first | (rw [if_pos ⟨by omega, by omega⟩]; done) | (rw [if_pos ⟨by omega, by omega⟩]; omega) | (rw [if_neg (fun z_ => by have q_ := z_.2; omega)]; omega)))), (congrArg (fun z_ => some (Value.int .i64 z_)) (show ((((k : Nat) : Int)) + 1 : Int) = (((k + 1) : Nat) : Int) by omega)), trivial⟩ ?_
       show (1 ≤ (k + 1) ∧ ((k + 1) = 1 ∨ (k + 1) ≤ edits.length)) ∧ _
       exact ⟨⟨by omega, by omega⟩, h⟩
     ·
      refine wc_exit ?_
      refine qn_then_exit ?_
      refine qn_then_exit ?_
      refine qn_block_exit ?_
      refine qn_then ?_
      refine wc_seq ?_
      refine wc_region ?_
      refine wl_v rfl rfl (ov_move _ rfl) ?_
      refine wl_v rfl rfl (ov_bin _ rfl rfl (binR_eql)) ?_
      refine wl_v rfl rfl (ov_move _ rfl) ?_
      refine wl_split 78 rfl (fun c20 => ?_) (fun c20 => ?_)
      ·
       refine wl_v rfl rfl (ov_move _ rfl) ?_
       refine wl_v rfl rfl (ov_move _ rfl) ?_
       refine wl_v rfl rfl (ov_bin _ rfl rfl (binR_eqs)) ?_
       refine wl_v rfl rfl (ov_pick_true _ rfl rfl) ?_
       refine wl_v rfl rfl (ov_move _ rfl) ?_
       refine wl_split 83 rfl (fun c21 => ?_) (fun c21 => ?_)
       ·
        refine wl_v rfl rfl (ov_move _ rfl) ?_
        refine wl_v rfl rfl (ov_len _ _ _ _ _ rfl es22) ?_
        refine wl_v rfl rfl (ov_move _ rfl) ?_
        refine wl_v rfl rfl (ov_len _ _ _ _ _ rfl es22) ?_
        refine wl_v rfl rfl (ov_move _ rfl) ?_
        refine wl_v rfl rfl (ov_bin _ rfl rfl (binR_sub (r := (((edits.length : Nat) : Int)) - (touchN edits k)) (Sx.w64 (by omega)))) ?_
        refine wl_v rfl rfl (ov_bin _ rfl rfl (binR_eql)) ?_
        refine wl_v rfl rfl (ov_pick_true _ rfl rfl) ?_
        refine wl_v rfl rfl (ov_assign _ rfl) ?_
        refine wl_nil ?_
        refine qn_then ?_
        refine wc_ret ?_
        refine qn_ret [_] ⟨rfl, trivial⟩ ?_
        have hk_ : touchN edits k = touchN edits edits.length := by
          rcases hJ.2 with z_ | z_
          · subst z_
            rcases Nat.eq_zero_or_pos edits.length with y_ | y_
            · rw [y_]; rfl
            · rw [show edits.length = 1 by omega]
          · rw [show k = edits.length by omega]
        have b_ : (decide (((((if (applyV (s) edits).isSome then backV s edits else []).length : Nat) : Int) : Int) = ((((edits.length : Nat) : Int)) - (touchN edits k)))) = true := by
          apply decide_eq_true
          rw [hLL_, hk_]
          exact hbd_.2
        exact ⟨congrArg (fun z => Ending.returned (Value.bool z)) b_, h⟩
       ·
        exact absurd (by rw [hU_]; rfl) c21
      ·
       exact absurd (by rw [hU_]; rfl) c20
end Go.Proofs.Ytbakllppgekmoaa.L
