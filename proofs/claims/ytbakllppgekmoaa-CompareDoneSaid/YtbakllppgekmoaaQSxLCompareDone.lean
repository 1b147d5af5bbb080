/- Pruned by wip/prune.py. -/
import Derived.Test.YtbakllppgekmoaaProg
import Derived.Test.YtbakllppgekmoaaQSxGlue
import Derived.Test.YtbakllppgekmoaaQSxBytes
import Derived.Test.YtbakllppgekmoaaQSxIter
import Derived.Test.YtbakllppgekmoaaQSxKinds
import Derived.Test.YtbakllppgekmoaaQSxDiff
import Derived.Test.YtbakllppgekmoaaQSxEdits
import Derived.Test.YtbakllppgekmoaaQSxApply
import Derived.Test.YtbakllppgekmoaaQSxFlow
import Derived.Test.YtbakllppgekmoaaQRunesParts
import Derived.Test.YtbakllppgekmoaaQSxRunes
import Derived.Test.YtbakllppgekmoaaQSxTexts
import Derived.Test.YtbakllppgekmoaaQSxDone
namespace Go.Proofs.Ytbakllppgekmoaa.L
open Go Go.RowKit Go.Proofs.YtbakllppgekmoaaW.PrintWords Go.Proofs.Ytbakllppgekmoaa.Kinds Go.Proofs.Ytbakllppgekmoaa.Cmp Go.Proofs.Ytbakllppgekmoaa.Given Go.Proofs.Ytbakllppgekmoaa.Rn Go.Proofs.Ytbakllppgekmoaa.Sx 
set_option linter.unusedVariables false
set_option linter.unusedSimpArgs false
theorem ent9 : Sx.Ent Try.prog 9 := ⟨Try.f9, Try.func9, by kernel_rfl, by kernel_rfl⟩
theorem ent14 : Sx.Ent Try.prog 14 := ⟨Try.f14, Try.func14, by kernel_rfl, by kernel_rfl⟩
theorem ent17 : Sx.Ent Try.prog 17 := ⟨Try.f17, Try.func17, by kernel_rfl, by kernel_rfl⟩
theorem ent23 : Sx.Ent Try.prog 23 := ⟨Try.f23, Try.func23, by kernel_rfl, by kernel_rfl⟩
theorem ent24 : Sx.Ent Try.prog 24 := ⟨Try.f24, Try.func24, by kernel_rfl, by kernel_rfl⟩
theorem ent25 : Sx.Ent Try.prog 25 := ⟨Try.f25, Try.func25, by kernel_rfl, by kernel_rfl⟩
theorem es22 : Sx.elemSz Try.prog 22 = some (33, 3) := by kernel_rfl
theorem fo33_0 : Sx.fieldOff Try.prog 33 0 = some 0 := by kernel_rfl
theorem sh3 : Sx.shapeOf Try.prog 3 = some (false, 1) := by kernel_rfl
theorem ent19 : Sx.Ent Try.prog 19 := ⟨Try.f19, Try.func19, by kernel_rfl, by kernel_rfl⟩
theorem fo33_1 : Sx.fieldOff Try.prog 33 1 = some 1 := by kernel_rfl
theorem fo33_2 : Sx.fieldOff Try.prog 33 2 = some 2 := by kernel_rfl
theorem sh9 : Sx.shapeOf Try.prog 9 = some (false, 1) := by kernel_rfl
theorem ent16 : Sx.Ent Try.prog 16 := ⟨Try.f16, Try.func16, by kernel_rfl, by kernel_rfl⟩
set_option maxHeartbeats 4000000 in
set_option maxRecDepth 100000 in
theorem CompareDone_calls {w0 w : World} {F0 : Nat → Prop} {R : List Sx.HP} {v0 : World} (s : ByteArray) (edits : List S33) (Aedits : Option Addr) (cedits : Nat) (hv : Sx.RO v0 w0 F0) (hzs : s.size ≤ 9223372036854775807) (hledits : edits.length ≤ cedits) (hCedits : k33.C v0 Aedits edits.length edits) (hmedits : edits.length ≤ 9223372036854775807) (h : Sx.St w0 F0 ([] ++ R) w) : Calls Try.prog 8 #[.string (s), .slice (Aedits) (edits.length) (cedits)] w (fun e w1 => e = .returned (.bool true) ∧ Sx.St w0 F0 R w1) := by
 refine Sx.calls_fn (vs := [.string (s), .slice (Aedits) (edits.length) (cedits)]) Try.func8 rfl Try.ntmps8 rfl ?_
 refine wc_seq ?_
 refine wc_region ?_
 refine wl_v rfl rfl (ov_assign _ rfl) ?_
 refine wl_nil ?_
 refine qn_then ?_
 refine wc_seq ?_
 refine wc_seq ?_
 refine wc_region ?_
 refine wl_call _ rfl rfl rfl ent9 (A.awake_calls (R := [] ++ R) h) ?_
 rintro e_ w_ ⟨rfl, h⟩
 refine ⟨_, rfl, ?_⟩
 refine wl_v rfl rfl (ov_notb _ rfl) ?_
 refine wl_nil ?_
 refine qn_then ?_
 refine wc_cond_false rfl ?_
 refine wc_skip ?_
 refine qn_then ?_
 refine wc_seq ?_
 refine wc_seq ?_
 refine wc_region ?_
 refine wl_v rfl rfl (ov_move _ rfl) ?_
 refine wl_call _ rfl rfl rfl ent14 (TX.right_calls (R := [] ++ R) (s) h) ?_
 rintro e_ w_ ⟨br1, rfl, hr2, h⟩
 refine ⟨_, rfl, ?_⟩
 refine wl_v rfl rfl (ov_notb _ rfl) ?_
 refine wl_v rfl rfl (ov_move _ rfl) ?_
 refine wl_splitb 16 rfl (fun c3 => ?_) (fun c3 => ?_)
 ·
  refine wl_skip rfl rfl ?_
  refine wl_skip rfl rfl ?_
  refine wl_skip rfl rfl ?_
  refine wl_v rfl rfl (ov_pick_true _ rfl rfl) ?_
  refine wl_nil ?_
  refine qn_then ?_
  refine wc_cond_true rfl ?_
  refine wc_seq ?_
  refine wc_region ?_
  refine wl_v rfl rfl (ov_assign _ rfl) ?_
  refine wl_nil ?_
  refine qn_then ?_
  refine wc_ret ?_
  refine qn_then_ret ?_
  refine qn_ret [_] ⟨rfl, trivial⟩ ?_
  exact ⟨rfl, h⟩
 ·
  have hRs := hr2 (by simpa using c3)
  refine wl_v rfl rfl (ov_move _ rfl) ?_
  refine wl_call _ rfl rfl rfl ent17 (E.few_calls (R := [] ++ R) edits (Aedits) cedits hv hledits hCedits h) ?_
  rintro e_ w_ ⟨bg4, rfl, hg5, h⟩
  refine ⟨_, rfl, ?_⟩
  refine wl_v rfl rfl (ov_notb _ rfl) ?_
  refine wl_v rfl rfl (ov_pick_false _ rfl rfl) ?_
  refine wl_nil ?_
  refine qn_then ?_
  refine wc_condb (by rfl) (fun c6 => ?_) (fun c6 => ?_)
  ·
   refine wc_seq ?_
   refine wc_region ?_
   refine wl_v rfl rfl (ov_assign _ rfl) ?_
   refine wl_nil ?_
   refine qn_then ?_
   refine wc_ret ?_
   refine qn_then_ret ?_
   refine qn_ret [_] ⟨rfl, trivial⟩ ?_
   exact ⟨rfl, h⟩
  ·
   have hFedits := hg5 (by simpa using c6)
   have hel_ := hFedits.1
   have hsl_ := hRs.1
   refine wc_skip ?_
   refine qn_then ?_
   refine wc_seq ?_
   refine wc_region ?_
   refine wl_v rfl rfl (ov_move _ rfl) ?_
   refine wl_v rfl rfl (ov_move _ rfl) ?_
   refine wl_call _ rfl rfl rfl ent23 (A.Apply_calls (v0 := _) (w0 := _) (F0 := fun _ => False) (R := []) (s) edits (Aedits) (cedits) (Sx.ro_self _) (hledits) (Sx.ro_C hv h hCedits) (by have q_ := hRs.1; omega) (by have q_ := hFedits.1; omega) (fun e_ he_ => Nat.le_trans (hFedits.2 e_ he_) (by decide)) (st_start _)) ?_
   rintro e_ w_ ⟨rfl, h2_⟩
   refine ⟨_, rfl, ?_⟩
   replace h := st_below h (st_below0 h2_)
   refine wl_v rfl rfl (ov_move _ rfl) ?_
   refine wl_v rfl rfl (ov_extract [.string ((applyV (s) edits).getD ByteArray.empty), .int .i64 ((if (applyV (s) edits).isSome then 0 else 190))] _ rfl rfl) ?_
   refine wl_v rfl rfl (ov_extract [.string ((applyV (s) edits).getD ByteArray.empty), .int .i64 ((if (applyV (s) edits).isSome then 0 else 190))] _ rfl rfl) ?_
   refine wl_v rfl rfl (ov_assign _ rfl) ?_
   refine wl_v rfl rfl (ov_assign _ rfl) ?_
   refine wl_nil ?_
   refine qn_then ?_
   refine wc_seq ?_
   refine wc_region ?_
   refine wl_v rfl rfl (ov_move _ rfl) ?_
   refine wl_v rfl rfl (ov_move _ rfl) ?_
   refine wl_call _ rfl rfl rfl ent24 (DN.refApply_calls (v0 := _) (w0 := _) (F0 := fun _ => False) (R := []) (s) edits (Aedits) (cedits) (Sx.ro_self _) (hledits) (Sx.ro_C hv h hCedits) hRs.1 hFedits (st_start _)) ?_
   rintro e_ w_ ⟨rfl, h2_⟩
   refine ⟨_, rfl, ?_⟩
   replace h := st_below h (st_below0 h2_)
   refine wl_v rfl rfl (ov_move _ rfl) ?_
   refine wl_v rfl rfl (ov_extract [.string ((applyV (s) edits).getD ByteArray.empty), .bool ((applyV (s) edits).isSome)] _ rfl rfl) ?_
   refine wl_v rfl rfl (ov_extract [.string ((applyV (s) edits).getD ByteArray.empty), .bool ((applyV (s) edits).isSome)] _ rfl rfl) ?_
   refine wl_v rfl rfl (ov_assign _ rfl) ?_
   refine wl_v rfl rfl (ov_assign _ rfl) ?_
   refine wl_nil ?_
   refine qn_then ?_
   refine wc_seq ?_
   refine wc_seq ?_
   refine wc_region ?_
   refine wl_v rfl rfl (ov_move _ rfl) ?_
   refine wl_v rfl rfl (ov_bin _ rfl rfl (binR_eql)) ?_
   refine wl_v rfl rfl (ov_move _ rfl) ?_
   refine wl_v rfl rfl (ov_bin _ rfl rfl (binR_neb Try.underlying4)) ?_
   refine wl_v rfl rfl (ov_move _ rfl) ?_
   refine wl_split 37 rfl (fun c7 => ?_) (fun c7 => ?_)
   ·
    exfalso
    cases hq_ : (applyV (s) edits).isSome <;> simp [hq_] at c7
   ·
    refine wl_v rfl rfl (ov_move _ rfl) ?_
    refine wl_v rfl rfl (ov_bin _ rfl rfl (binR_eql)) ?_
    refine wl_v rfl rfl (ov_move _ rfl) ?_
    refine wl_v rfl rfl (ov_bin _ rfl rfl (binR_eqb Try.underlying4)) ?_
    refine wl_v rfl rfl (ov_pick_false _ rfl rfl) ?_
    refine wl_v rfl rfl (ov_move _ rfl) ?_
    refine wl_split 43 rfl (fun c8 => ?_) (fun c8 => ?_)
    ·
     exfalso
     cases hq_ : (applyV (s) edits).isSome <;> simp [hq_] at c8
    ·
     refine wl_v rfl rfl (ov_move _ rfl) ?_
     refine wl_v rfl rfl (ov_move _ rfl) ?_
     refine wl_v rfl rfl (ov_bin _ rfl rfl (binR_nes)) ?_
     refine wl_v rfl rfl (ov_pick_false _ rfl rfl) ?_
     refine wl_nil ?_
     refine qn_then ?_
     refine wc_cond (by rfl) (fun c9 => ?_) (fun c9 => ?_)
     ·
      exact absurd rfl c9
     ·
      refine wc_skip ?_
      refine qn_then ?_
      refine wc_seq ?_
      refine wc_region ?_
      refine wl_v rfl rfl (ov_move _ rfl) ?_
      refine wl_v rfl rfl (ov_move _ rfl) ?_
      refine wl_call _ rfl rfl rfl ent25 (DN.CCheck_calls (v0 := _) (w0 := _) (F0 := fun _ => False) (R := []) (s) edits (Aedits) (cedits) (Sx.ro_self _) (hledits) (Sx.ro_C hv h hCedits) hRs.1 hFedits (st_start _)) ?_
      rintro e_ w_ ⟨rfl, h2_⟩
      refine ⟨_, rfl, ?_⟩
      replace h := st_below h (st_below0 h2_)
      refine wl_v rfl rfl (ov_assign _ rfl) ?_
      refine wl_nil ?_
      refine qn_then ?_
      refine wc_seq ?_
      refine wc_seq ?_
      refine wc_region ?_
      refine wl_v rfl rfl (ov_move _ rfl) ?_
      refine wl_v rfl rfl (ov_notb _ rfl) ?_
      refine wl_nil ?_
      refine qn_then ?_
      refine wc_condb (by rfl) (fun c10 => ?_) (fun c10 => ?_)
      ·
       have hsm_ : (applyV (s) edits).isSome = false := by simpa using c10
       refine wc_seq ?_
       refine wc_region ?_
       refine wl_v rfl rfl (ov_move _ rfl) ?_
       refine wl_v rfl rfl (ov_bin _ rfl rfl (binR_eql)) ?_
       refine wl_v rfl rfl (ov_assign _ rfl) ?_
       refine wl_nil ?_
       refine qn_then ?_
       refine wc_ret ?_
       refine qn_then_ret ?_
       refine qn_ret [_] ⟨rfl, trivial⟩ ?_
       have b_ : (decide ((codeV s edits : Int) = 190)) = true := by apply decide_eq_true; show codeV s edits = 190; exact (by unfold codeV; rw [if_neg (by rw [hsm_]; decide)])
       exact ⟨congrArg (fun z => Ending.returned (Value.bool z)) b_, h⟩
      ·
       have hsm_ : (applyV (s) edits).isSome = true := by simpa using c10
       refine wc_skip ?_
       refine qn_then ?_
       refine wc_seq ?_
       refine wc_seq ?_
       refine wc_region ?_
       refine wl_v rfl rfl (ov_assign _ rfl) ?_
       refine wl_nil ?_
       refine qn_then ?_
       refine wc_block ?_
       refine wc_loop (fun (x_ : Nat) => [(0, .string (s)), (1, .slice (Aedits) (edits.length) (cedits)), (9, .int .i64 (codeV s edits)), (10, .int .i64 ((x_ : Int)))]) (fun (x_ : Nat) (w : World) => (x_ ≤ edits.length ∧ codeV s edits = codeL s (edits.drop x_)) ∧ Sx.St w0 F0 ([] ++ R) w) (fun (x_ : Nat) => edits.length - x_) (0) ?_ ?_ ?_
       · exact ⟨rfl, rfl, rfl, (congrArg (fun z_ => some (Value.int .i64 z_)) (show (0 : Int) = (0 : Int) by omega)), trivial⟩
       · exact ⟨⟨Nat.zero_le _, by unfold codeV; rw [if_pos hsm_]; rfl⟩, h⟩
       intro k w h
       obtain ⟨hJ, h⟩ := h
       replace hJ : k ≤ edits.length ∧ codeV s edits = codeL s (edits.drop k) := hJ
       replace h : Sx.St w0 F0 ([] ++ R) w := h
       show Sx.WC _ _ _ _ [(0, .string (s)), (1, .slice (Aedits) (edits.length) (cedits)), (9, .int .i64 (codeV s edits)), (10, .int .i64 ((k : Int)))] _
       refine wc_seq ?_
       refine wc_seq ?_
       refine wc_region ?_
       refine wl_v rfl rfl (ov_move _ rfl) ?_
       refine wl_v rfl rfl (ov_move _ rfl) ?_
       refine wl_v rfl rfl (ov_len _ _ _ _ _ rfl es22) ?_
       refine wl_v rfl rfl (ov_bin _ rfl rfl (binR_lss)) ?_
       refine wl_nil ?_
       refine qn_then ?_
       refine wc_cond (by rfl) (fun c11 => ?_) (fun c11 => ?_)
       ·
        have hft_ : (edits.getD k z33).f2.size ≤ 400 := hFedits.2 _ (ge_mem (by omega))
        have hok_ := apply_ord hsm_ k (by omega)
        unfold OkAt at hok_
        have hb0_ := bound_between hRs.2 (a := (edits.getD k z33).f0) (by omega) (by omega)
        have hb1_ := bound_between hRs.2 (a := (edits.getD k z33).f1) (by omega) (by omega)
        refine wc_skip ?_
        refine qn_then ?_
        refine wc_seq ?_
        refine wc_block ?_
        refine wc_seq ?_
        refine wc_seq ?_
        refine wc_region ?_
        refine wl_v rfl rfl (ov_move _ rfl) ?_
        refine wl_v rfl rfl (ov_move _ rfl) ?_
        refine wl_v rfl rfl (ov_move _ rfl) ?_
        obtain ⟨ad12, rfl⟩ := Sx.C_some ((Sx.ro_C hv h hCedits)) (k := k) (by first | assumption | omega)
        refine wl_v rfl rfl (ov_indexAddrN _ _ _ _ _ k rfl rfl es22 rfl (by first | assumption | omega | (simp only [List.length_take, List.length_drop, List.length_set]; omega))) ?_
        refine wl_v rfl rfl (ov_fieldAddr _ ((ad12).add (k * 3 + 0)) _ rfl fo33_0 (by first | exact Deep.add_add _ _ _ | (rw [Deep.add_add]) | rfl)) ?_
        obtain ⟨cl15, _, hk14, hc13⟩ := Sx.C_cells (hCedits) (z := z33) (k := k) (by first | assumption | omega)
        obtain rfl := k33_open hk14
        refine wl_v rfl rfl (ov_load1 _ _ rfl sh3 (Sx.ro_cell hv h (hc13 0 _ rfl))) ?_
        refine wl_call _ rfl rfl rfl ent19 (RN.Between_calls (R := [] ++ R) s (((edits).getD k z33).f0) (by omega) h) ?_
        rintro e_ w_ ⟨rfl, h⟩
        refine ⟨_, rfl, ?_⟩
        refine wl_v rfl rfl (ov_not _ (¬ (BetweenP s (((edits).getD k z33).f0))) rfl (by first | exact decide_not.symm | simp)) ?_
        refine wl_v rfl rfl (ov_move _ rfl) ?_
        refine wl_split 69 rfl (fun c16 => ?_) (fun c16 => ?_)
        ·
         refine wl_skip rfl rfl ?_
         refine wl_skip rfl rfl ?_
         refine wl_skip rfl rfl ?_
         refine wl_skip rfl rfl ?_
         refine wl_skip rfl rfl ?_
         refine wl_skip rfl rfl ?_
         refine wl_skip rfl rfl ?_
         refine wl_skip rfl rfl ?_
         refine wl_v rfl rfl (ov_pick_true _ rfl rfl) ?_
         refine wl_nil ?_
         refine qn_then ?_
         refine wc_cond_true rfl ?_
         refine wc_seq ?_
         refine wc_region ?_
         refine wl_v rfl rfl (ov_move _ rfl) ?_
         refine wl_v rfl rfl (ov_bin _ rfl rfl (binR_eql)) ?_
         refine wl_v rfl rfl (ov_assign _ rfl) ?_
         refine wl_nil ?_
         refine qn_then ?_
         refine wc_ret ?_
         refine qn_then_ret ?_
         refine qn_block_ret ?_
         refine qn_then_ret ?_
         refine qn_then_ret ?_
         refine qn_block_ret ?_
         refine qn_then_ret ?_
         refine qn_ret [_] ⟨rfl, trivial⟩ ?_
         have e1_ : code1 s (ge edits k) = 21 := by
           unfold code1
           dsimp only [ge]
           rw [hb0_, hb1_, check_right]
           repeat' split
           all_goals first | rfl | contradiction | (exfalso; omega)
         have b_ : (decide ((codeV s edits : Int) = 21)) = true := by apply decide_eq_true; show codeV s edits = 21; exact (by rw [hJ.2]; exact codeL_stop (by omega) e1_ (by decide))
         exact ⟨congrArg (fun z => Ending.returned (Value.bool z)) b_, h⟩
        ·
         refine wl_v rfl rfl (ov_move _ rfl) ?_
         refine wl_v rfl rfl (ov_move _ rfl) ?_
         refine wl_v rfl rfl (ov_move _ rfl) ?_
         refine wl_v rfl rfl (ov_indexAddrN _ _ _ _ _ k rfl rfl es22 rfl (by first | assumption | omega | (simp only [List.length_take, List.length_drop, List.length_set]; omega))) ?_
         refine wl_v rfl rfl (ov_fieldAddr _ ((ad12).add (k * 3 + 1)) _ rfl fo33_1 (by first | exact Deep.add_add _ _ _ | (rw [Deep.add_add]) | rfl)) ?_
         refine wl_v rfl rfl (ov_load1 _ _ rfl sh3 (Sx.ro_cell hv h (hc13 1 _ rfl))) ?_
         refine wl_call _ rfl rfl rfl ent19 (RN.Between_calls (R := [] ++ R) s (((edits).getD k z33).f1) (by omega) h) ?_
         rintro e_ w_ ⟨rfl, h⟩
         refine ⟨_, rfl, ?_⟩
         refine wl_v rfl rfl (ov_not _ (¬ (BetweenP s (((edits).getD k z33).f1))) rfl (by first | exact decide_not.symm | simp)) ?_
         refine wl_v rfl rfl (ov_pick_false _ rfl rfl) ?_
         refine wl_nil ?_
         refine qn_then ?_
         refine wc_cond (by rfl) (fun c17 => ?_) (fun c17 => ?_)
         ·
          refine wc_seq ?_
          refine wc_region ?_
          refine wl_v rfl rfl (ov_move _ rfl) ?_
          refine wl_v rfl rfl (ov_bin _ rfl rfl (binR_eql)) ?_
          refine wl_v rfl rfl (ov_assign _ rfl) ?_
          refine wl_nil ?_
          refine qn_then ?_
          refine wc_ret ?_
          refine qn_then_ret ?_
          refine qn_block_ret ?_
          refine qn_then_ret ?_
          refine qn_then_ret ?_
          refine qn_block_ret ?_
          refine qn_then_ret ?_
          refine qn_ret [_] ⟨rfl, trivial⟩ ?_
          have e1_ : code1 s (ge edits k) = 21 := by
            unfold code1
            dsimp only [ge]
            rw [hb0_, hb1_, check_right]
            repeat' split
            all_goals first | rfl | contradiction | (exfalso; omega)
          have b_ : (decide ((codeV s edits : Int) = 21)) = true := by apply decide_eq_true; show codeV s edits = 21; exact (by rw [hJ.2]; exact codeL_stop (by omega) e1_ (by decide))
          exact ⟨congrArg (fun z => Ending.returned (Value.bool z)) b_, h⟩
         ·
          refine wc_skip ?_
          refine qn_then ?_
          refine wc_seq ?_
          refine wc_region ?_
          refine wl_v rfl rfl (ov_move _ rfl) ?_
          refine wl_v rfl rfl (ov_move _ rfl) ?_
          refine wl_v rfl rfl (ov_indexAddrN _ _ _ _ _ k rfl rfl es22 rfl (by first | assumption | omega | (simp only [List.length_take, List.length_drop, List.length_set]; omega))) ?_
          refine wl_v rfl rfl (ov_fieldAddr _ ((ad12).add (k * 3 + 2)) _ rfl fo33_2 (by first | exact Deep.add_add _ _ _ | (rw [Deep.add_add]) | rfl)) ?_
          refine wl_v rfl rfl (ov_load1 _ _ rfl sh9 (Sx.ro_cell hv h (hc13 2 _ rfl))) ?_
          refine wl_call _ rfl rfl rfl ent16 (RN.Right_calls (R := [] ++ R) (((edits).getD k z33).f2) (by omega) h) ?_
          rintro e_ w_ ⟨rfl, h⟩
          refine ⟨_, rfl, ?_⟩
          refine wl_v rfl rfl (ov_not _ (¬ ((refV (((edits).getD k z33).f2)).2 < 0)) rfl (by first | exact decide_not.symm | simp)) ?_
          refine wl_nil ?_
          refine qn_then ?_
          refine wc_cond (by rfl) (fun c18 => ?_) (fun c18 => ?_)
          ·
           refine wc_seq ?_
           refine wc_region ?_
           refine wl_v rfl rfl (ov_move _ rfl) ?_
           refine wl_v rfl rfl (ov_bin _ rfl rfl (binR_eql)) ?_
           refine wl_v rfl rfl (ov_assign _ rfl) ?_
           refine wl_nil ?_
           refine qn_then ?_
           refine wc_ret ?_
           refine qn_block_ret ?_
           refine qn_then_ret ?_
           refine qn_then_ret ?_
           refine qn_block_ret ?_
           refine qn_then_ret ?_
           refine qn_ret [_] ⟨rfl, trivial⟩ ?_
           have e1_ : code1 s (ge edits k) = 20 := by
             unfold code1
             dsimp only [ge]
             rw [hb0_, hb1_, check_right]
             repeat' split
             all_goals first | rfl | contradiction | (exfalso; omega)
           have b_ : (decide ((codeV s edits : Int) = 20)) = true := by apply decide_eq_true; show codeV s edits = 20; exact (by rw [hJ.2]; exact codeL_stop (by omega) e1_ (by decide))
           exact ⟨congrArg (fun z => Ending.returned (Value.bool z)) b_, h⟩
          ·
           refine wc_skip ?_
           refine qn_block_normal ?_
           refine qn_then ?_
           refine wc_region ?_
           refine wl_v rfl rfl (ov_move _ rfl) ?_
           refine wl_v rfl rfl (ov_bin _ rfl rfl (binR_add (r := ((k : Int)) + 1) (Sx.w64 (by omega)))) ?_
           refine wl_v rfl rfl (ov_assign _ rfl) ?_
           refine wl_nil ?_
           refine qn_next ((k + 1)) (by show edits.length - (k + 1) < edits.length - k; omega) ⟨rfl, (congrArg (fun z_ => some (Value.slice (some ad12) z_ (cedits))) (show (edits.length : Nat) = edits.length by first | rfl | simp)), rfl, (congrArg (fun z_ => some (Value.int .i64 z_)) (show (((k : Int)) + 1 : Int) = ((k + 1) : Int) by omega)), trivial⟩ ?_
           show ((k + 1) ≤ edits.length ∧ codeV s edits = codeL s (edits.drop (k + 1))) ∧ _
           have e1_ : code1 s (ge edits k) = 0 := by
             unfold code1
             dsimp only [ge]
             rw [hb0_, hb1_, check_right]
             repeat' split
             all_goals first | rfl | contradiction | (exfalso; omega)
           exact ⟨⟨by omega, by rw [hJ.2]; exact codeL_next (by omega) e1_⟩, h⟩
       ·
        refine wc_exit ?_
        refine qn_then_exit ?_
        refine qn_then_exit ?_
        refine qn_block_exit ?_
        refine qn_then ?_
        refine wc_seq ?_
        refine wc_region ?_
        refine wl_v rfl rfl (ov_move _ rfl) ?_
        refine wl_v rfl rfl (ov_bin _ rfl rfl (binR_eql)) ?_
        refine wl_v rfl rfl (ov_assign _ rfl) ?_
        refine wl_nil ?_
        refine qn_then ?_
        refine wc_ret ?_
        refine qn_ret [_] ⟨rfl, trivial⟩ ?_
        have b_ : (decide ((codeV s edits : Int) = 0)) = true := by apply decide_eq_true; show codeV s edits = 0; exact (by rw [hJ.2]; exact codeL_end (by omega))
        exact ⟨congrArg (fun z => Ending.returned (Value.bool z)) b_, h⟩
end Go.Proofs.Ytbakllppgekmoaa.L
