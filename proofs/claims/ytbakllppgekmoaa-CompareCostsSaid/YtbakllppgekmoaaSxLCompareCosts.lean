/- The walk of CompareCosts. -/
import Derived.Test.YtbakllppgekmoaaProg
import Derived.Test.YtbakllppgekmoaaSxGlue
import Derived.Test.YtbakllppgekmoaaSxBytes
import Derived.Test.YtbakllppgekmoaaSxIter
import Derived.Test.YtbakllppgekmoaaSxKinds
import Derived.Test.YtbakllppgekmoaaSxDiff
import Derived.Test.YtbakllppgekmoaaSxEdits
import Derived.Test.YtbakllppgekmoaaSxApply
import Derived.Test.YtbakllppgekmoaaSxFlow
import Derived.Test.YtbakllppgekmoaaRunesParts
import Derived.Test.YtbakllppgekmoaaSxRunes
import Derived.Test.YtbakllppgekmoaaSxTexts
namespace Go.Proofs.Ytbakllppgekmoaa.L
open Go Go.RowKit Go.Proofs.YtbakllppgekmoaaW.PrintWords Go.Proofs.Ytbakllppgekmoaa.Kinds Go.Proofs.Ytbakllppgekmoaa.Cmp Go.Proofs.Ytbakllppgekmoaa.Given Go.Proofs.Ytbakllppgekmoaa.Rn Go.Proofs.Ytbakllppgekmoaa.Sx 
set_option linter.unusedVariables false
set_option linter.unusedSimpArgs false
theorem ent9 : Sx.Ent Try.prog 9 := ⟨Try.f9, Try.func9, by kernel_rfl, by kernel_rfl⟩
theorem ent14 : Sx.Ent Try.prog 14 := ⟨Try.f14, Try.func14, by kernel_rfl, by kernel_rfl⟩
theorem ent17 : Sx.Ent Try.prog 17 := ⟨Try.f17, Try.func17, by kernel_rfl, by kernel_rfl⟩
theorem es22 : Sx.elemSz Try.prog 22 = some (33, 3) := by kernel_rfl
theorem sh33 : Sx.shapeOf Try.prog 33 = some (true, 3) := by kernel_rfl
theorem zo33 : Sx.zeroOf Try.prog 33 = some (.agg #[.int .i64 (0), .int .i64 (0), .string (ByteArray.empty)]) := by kernel_rfl
theorem fo33_2 : Sx.fieldOff Try.prog 33 2 = some 2 := by kernel_rfl
theorem sh9 : Sx.shapeOf Try.prog 9 = some (false, 1) := by kernel_rfl
theorem ent16 : Sx.Ent Try.prog 16 := ⟨Try.f16, Try.func16, by kernel_rfl, by kernel_rfl⟩
theorem ent18 : Sx.Ent Try.prog 18 := ⟨Try.f18, Try.func18, by kernel_rfl, by kernel_rfl⟩
theorem fo33_0 : Sx.fieldOff Try.prog 33 0 = some 0 := by kernel_rfl
theorem sh3 : Sx.shapeOf Try.prog 3 = some (false, 1) := by kernel_rfl
theorem fo33_1 : Sx.fieldOff Try.prog 33 1 = some 1 := by kernel_rfl
theorem ent19 : Sx.Ent Try.prog 19 := ⟨Try.f19, Try.func19, by kernel_rfl, by kernel_rfl⟩
theorem ent20 : Sx.Ent Try.prog 20 := ⟨Try.f20, Try.func20, by kernel_rfl, by kernel_rfl⟩
set_option maxHeartbeats 4000000 in
set_option maxRecDepth 100000 in
theorem CompareCosts_calls {w0 w : World} {F0 : Nat → Prop} {R : List Sx.HP} {v0 : World} (s : ByteArray) (edits : List S33) (Aedits : Option Addr) (cedits : Nat) (hv : Sx.RO v0 w0 F0) (hzs : s.size ≤ 9223372036854775807) (hledits : edits.length ≤ cedits) (hCedits : k33.C v0 Aedits edits.length edits) (hmedits : edits.length ≤ 9223372036854775807) (h : Sx.St w0 F0 ([] ++ R) w) : Calls Try.prog 5 #[.string (s), .slice (Aedits) (edits.length) (cedits)] w (fun e w1 => e = .returned (.bool true) ∧ Sx.St w0 F0 R w1) := by
 refine Sx.calls_fn (vs := [.string (s), .slice (Aedits) (edits.length) (cedits)]) Try.func5 rfl Try.ntmps5 rfl ?_
 refine wc_seq ?_
 refine wc_region ?_
 refine wl_v rfl rfl (ov_assign _ rfl) ?_
 refine wl_nil ?_
 refine qn_then ?_
 refine wc_seq ?_
 refine wc_seq ?_
 refine wc_region ?_
 refine wl_call _ rfl rfl rfl ent9 (A.awake_calls (R := [] ++ R) h) ?_
 rintro e_ w_ ⟨rfl, h⟩
 refine ⟨_, rfl, ?_⟩
 refine wl_v rfl rfl (ov_notb _ rfl) ?_
 refine wl_nil ?_
 refine qn_then ?_
 refine wc_cond_false rfl ?_
 refine wc_skip ?_
 refine qn_then ?_
 refine wc_seq ?_
 refine wc_seq ?_
 refine wc_region ?_
 refine wl_v rfl rfl (ov_move _ rfl) ?_
 refine wl_call _ rfl rfl rfl ent14 (TX.right_calls (R := [] ++ R) (s) h) ?_
 rintro e_ w_ ⟨br1, rfl, hr2, h⟩
 refine ⟨_, rfl, ?_⟩
 refine wl_v rfl rfl (ov_notb _ rfl) ?_
 refine wl_v rfl rfl (ov_move _ rfl) ?_
 refine wl_splitb 13 rfl (fun c3 => ?_) (fun c3 => ?_)
 ·
  refine wl_skip rfl rfl ?_
  refine wl_skip rfl rfl ?_
  refine wl_skip rfl rfl ?_
  refine wl_v rfl rfl (ov_pick_true _ rfl rfl) ?_
  refine wl_nil ?_
  refine qn_then ?_
  refine wc_cond_true rfl ?_
  refine wc_seq ?_
  refine wc_region ?_
  refine wl_v rfl rfl (ov_assign _ rfl) ?_
  refine wl_nil ?_
  refine qn_then ?_
  refine wc_ret ?_
  refine qn_then_ret ?_
  refine qn_ret [_] ⟨rfl, trivial⟩ ?_
  exact ⟨rfl, h⟩
 ·
  have hRs := hr2 (by simpa using c3)
  refine wl_v rfl rfl (ov_move _ rfl) ?_
  refine wl_call _ rfl rfl rfl ent17 (E.few_calls (R := [] ++ R) edits (Aedits) cedits hv hledits hCedits h) ?_
  rintro e_ w_ ⟨bg4, rfl, hg5, h⟩
  refine ⟨_, rfl, ?_⟩
  refine wl_v rfl rfl (ov_notb _ rfl) ?_
  refine wl_v rfl rfl (ov_pick_false _ rfl rfl) ?_
  refine wl_nil ?_
  refine qn_then ?_
  refine wc_condb (by rfl) (fun c6 => ?_) (fun c6 => ?_)
  ·
   refine wc_seq ?_
   refine wc_region ?_
   refine wl_v rfl rfl (ov_assign _ rfl) ?_
   refine wl_nil ?_
   refine qn_then ?_
   refine wc_ret ?_
   refine qn_then_ret ?_
   refine qn_ret [_] ⟨rfl, trivial⟩ ?_
   exact ⟨rfl, h⟩
  ·
   have hFedits := hg5 (by simpa using c6)
   refine wc_skip ?_
   refine qn_then ?_
   refine wc_seq ?_
   refine wc_region ?_
   refine wl_v rfl rfl (ov_assign _ rfl) ?_
   refine wl_nil ?_
   refine qn_then ?_
   refine wc_seq ?_
   refine wc_seq ?_
   refine wc_region ?_
   refine wl_v rfl rfl (ov_assign _ rfl) ?_
   refine wl_nil ?_
   refine qn_then ?_
   refine wc_block ?_
   refine wc_loop (fun (x_ : Nat) => [(0, .string (s)), (1, .slice (Aedits) (edits.length) (cedits)), (5, .int .i64 (costN s edits x_)), (6, .int .i64 ((x_ : Int)))]) (fun (x_ : Nat) (w : World) => (x_ ≤ edits.length) ∧ Sx.St w0 F0 ([] ++ R) w) (fun (x_ : Nat) => edits.length - x_) (0) ?_ ?_ ?_
   · exact ⟨rfl, rfl, (congrArg (fun z_ => some (Value.int .i64 z_)) (show (0 : Int) = costN s edits 0 by rfl)), (congrArg (fun z_ => some (Value.int .i64 z_)) (show (0 : Int) = (0 : Int) by omega)), trivial⟩
   · exact ⟨Nat.zero_le _, h⟩
   intro k w h
   obtain ⟨hJ, h⟩ := h
   replace hJ : k ≤ edits.length := hJ
   replace h : Sx.St w0 F0 ([] ++ R) w := h
   show Sx.WC _ _ _ _ [(0, .string (s)), (1, .slice (Aedits) (edits.length) (cedits)), (5, .int .i64 (costN s edits k)), (6, .int .i64 ((k : Int)))] _
   have hro_ := costN_room s edits (by have q_ := hRs.1; omega) (by have q_ := hFedits.1; omega) (fun e_ he_ => Nat.le_trans (hFedits.2 e_ he_) (by decide)) k hJ
   refine wc_seq ?_
   refine wc_seq ?_
   refine wc_region ?_
   refine wl_v rfl rfl (ov_move _ rfl) ?_
   refine wl_v rfl rfl (ov_move _ rfl) ?_
   refine wl_v rfl rfl (ov_len _ _ _ _ _ rfl es22) ?_
   refine wl_v rfl rfl (ov_bin _ rfl rfl (binR_lss)) ?_
   refine wl_nil ?_
   refine qn_then ?_
   refine wc_cond (by rfl) (fun c7 => ?_) (fun c7 => ?_)
   ·
    have hft_ : (edits.getD k z33).f2.size ≤ 400 := hFedits.2 _ (ge_mem (by omega))
    refine wc_skip ?_
    refine qn_then ?_
    refine wc_seq ?_
    refine wc_block ?_
    refine wc_seq ?_
    refine wc_region ?_
    refine wl_v rfl rfl (ov_move _ rfl) ?_
    refine wl_v rfl rfl (ov_move _ rfl) ?_
    obtain ⟨ad8, rfl⟩ := Sx.C_some ((Sx.ro_C hv h hCedits)) (k := k) (by first | assumption | omega)
    refine wl_v rfl rfl (ov_indexAddrN _ _ _ _ _ k rfl rfl es22 rfl (by first | assumption | omega | (simp only [List.length_take, List.length_drop, List.length_set]; omega))) ?_
    obtain ⟨cl11, _, hk10, hc9⟩ := Sx.C_cells (hCedits) (z := z33) (k := k) (by first | assumption | omega)
    obtain rfl := k33_open hk10
    refine wl_v rfl rfl (ov_loadN _ [.int .i64 (((edits).getD k z33).f0), .int .i64 (((edits).getD k z33).f1), .string (((edits).getD k z33).f2)] rfl sh33 (by intro j u hu; rw [Deep.add_add]; exact Sx.ro_cell hv h (hc9 _ _ hu))) ?_
    refine wl_alloc _ h rfl rfl zo33 (fun b12 _ h => ?_)
    replace h : Sx.St _ _ (Sx.blk b12 [.int .i64 (0), .int .i64 (0), .string (ByteArray.empty)] 33 :: _) _ := h
    refine wl_storebN 0 [.int .i64 (((edits).getD k z33).f0), .int .i64 (((edits).getD k z33).f1), .string (((edits).getD k z33).f2)] [.int .i64 (((edits).getD k z33).f0), .int .i64 (((edits).getD k z33).f1), .string (((edits).getD k z33).f2)] h rfl rfl rfl rfl (by simp [Value.oneCell']) sh33 rfl rfl (fun _ h => ?_)
    refine wl_nil ?_
    refine qn_then ?_
    refine wc_seq ?_
    refine wc_seq ?_
    refine wc_region ?_
    refine wl_v rfl rfl (ov_fieldAddr _ ⟨b12, 2, none⟩ _ rfl fo33_2 rfl) ?_
    refine wl_v rfl rfl (ov_loadb 0 _ h rfl rfl sh9 rfl) ?_
    refine wl_call _ rfl rfl rfl ent16 (RN.Right_calls (R := [Sx.blk b12 [.int .i64 (((edits).getD k z33).f0), .int .i64 (((edits).getD k z33).f1), .string (((edits).getD k z33).f2)] 33] ++ R) (((edits).getD k z33).f2) (by (first | omega | (rw [ByteArray.size_extract]; omega))) h) ?_
    rintro e_ w_ ⟨rfl, h⟩
    refine ⟨_, rfl, ?_⟩
    refine wl_v rfl rfl (ov_not _ (¬ ((refV (((edits).getD k z33).f2)).2 < 0)) rfl (by first | exact decide_not.symm | simp)) ?_
    refine wl_nil ?_
    refine qn_then ?_
    refine wc_cond (by rfl) (fun c13 => ?_) (fun c13 => ?_)
    ·
     refine wc_seq ?_
     refine wc_region ?_
     refine wl_v rfl rfl (ov_assign _ rfl) ?_
     refine wl_nil ?_
     refine qn_then ?_
     refine wc_ret ?_
     refine qn_then_ret ?_
     refine qn_block_ret ?_
     refine qn_then_ret ?_
     refine qn_then_ret ?_
     refine qn_block_ret ?_
     refine qn_then_ret ?_
     replace h := st_selT [false] h
     refine qn_ret [_] ⟨rfl, trivial⟩ ?_
     exact ⟨rfl, h⟩
    ·
     have hce_ := count_eq (t := (edits.getD k z33).f2) (by omega)
     have hrl_ := runes_le (edits.getD k z33).f2
     refine wc_skip ?_
     refine qn_then ?_
     refine wc_seq ?_
     refine wc_region ?_
     refine wl_v rfl rfl (ov_move _ rfl) ?_
     refine wl_v rfl rfl (ov_fieldAddr _ ⟨b12, 2, none⟩ _ rfl fo33_2 rfl) ?_
     refine wl_v rfl rfl (ov_loadb 0 _ h rfl rfl sh9 rfl) ?_
     refine wl_call _ rfl rfl rfl ent18 (TX.NRunes_calls (R := [Sx.blk b12 [.int .i64 (((edits).getD k z33).f0), .int .i64 (((edits).getD k z33).f1), .string (((edits).getD k z33).f2)] 33] ++ R) (((edits).getD k z33).f2) (by (first | omega | (rw [ByteArray.size_extract]; omega))) h) ?_
     rintro e_ w_ ⟨rfl, h⟩
     refine ⟨_, rfl, ?_⟩
     refine wl_v rfl rfl (ov_bin _ rfl rfl (binR_add (r := (costN s edits k) + (((runesL (((edits).getD k z33).f2)).length : Int))) (Sx.w64 (by omega)))) ?_
     refine wl_v rfl rfl (ov_assign _ rfl) ?_
     refine wl_nil ?_
     refine qn_then ?_
     refine wc_seq ?_
     refine wc_region ?_
     refine wl_v rfl rfl (ov_fieldAddr _ ⟨b12, 0, none⟩ _ rfl fo33_0 rfl) ?_
     refine wl_v rfl rfl (ov_loadb 0 _ h rfl rfl sh3 rfl) ?_
     refine wl_v rfl rfl (ov_bin _ rfl rfl (binR_geq)) ?_
     refine wl_v rfl rfl (ov_move _ rfl) ?_
     refine wl_split 40 rfl (fun c14 => ?_) (fun c14 => ?_)
     ·
      refine wl_v rfl rfl (ov_fieldAddr _ ⟨b12, 0, none⟩ _ rfl fo33_0 rfl) ?_
      refine wl_v rfl rfl (ov_loadb 0 _ h rfl rfl sh3 rfl) ?_
      refine wl_v rfl rfl (ov_fieldAddr _ ⟨b12, 1, none⟩ _ rfl fo33_1 rfl) ?_
      refine wl_v rfl rfl (ov_loadb 0 _ h rfl rfl sh3 rfl) ?_
      refine wl_v rfl rfl (ov_bin _ rfl rfl (binR_leq)) ?_
      refine wl_v rfl rfl (ov_pick_true _ rfl rfl) ?_
      refine wl_v rfl rfl (ov_move _ rfl) ?_
      refine wl_split 47 rfl (fun c15 => ?_) (fun c15 => ?_)
      ·
       refine wl_v rfl rfl (ov_fieldAddr _ ⟨b12, 1, none⟩ _ rfl fo33_1 rfl) ?_
       refine wl_v rfl rfl (ov_loadb 0 _ h rfl rfl sh3 rfl) ?_
       refine wl_v rfl rfl (ov_move _ rfl) ?_
       refine wl_v rfl rfl (ov_lens _ rfl Try.underlying9) ?_
       refine wl_v rfl rfl (ov_bin _ rfl rfl (binR_leq)) ?_
       refine wl_v rfl rfl (ov_pick_true _ rfl rfl) ?_
       refine wl_nil ?_
       refine qn_then ?_
       refine wc_cond (by rfl) (fun c16 => ?_) (fun c16 => ?_)
       ·
        refine wc_seq ?_
        refine wc_seq ?_
        refine wc_region ?_
        refine wl_v rfl rfl (ov_move _ rfl) ?_
        refine wl_v rfl rfl (ov_fieldAddr _ ⟨b12, 0, none⟩ _ rfl fo33_0 rfl) ?_
        refine wl_v rfl rfl (ov_loadb 0 _ h rfl rfl sh3 rfl) ?_
        refine wl_call _ rfl rfl rfl ent19 (RN.Between_calls (R := [Sx.blk b12 [.int .i64 (((edits).getD k z33).f0), .int .i64 (((edits).getD k z33).f1), .string (((edits).getD k z33).f2)] 33] ++ R) s (((edits).getD k z33).f0) (by (first | omega | (rw [ByteArray.size_extract]; omega))) h) ?_
        rintro e_ w_ ⟨rfl, h⟩
        refine ⟨_, rfl, ?_⟩
        refine wl_v rfl rfl (ov_not _ (¬ (BetweenP s (((edits).getD k z33).f0))) rfl (by first | exact decide_not.symm | simp)) ?_
        refine wl_v rfl rfl (ov_move _ rfl) ?_
        refine wl_split 59 rfl (fun c17 => ?_) (fun c17 => ?_)
        ·
         refine wl_skip rfl rfl ?_
         refine wl_skip rfl rfl ?_
         refine wl_skip rfl rfl ?_
         refine wl_skip rfl rfl ?_
         refine wl_skip rfl rfl ?_
         refine wl_v rfl rfl (ov_pick_true _ rfl rfl) ?_
         refine wl_nil ?_
         refine qn_then ?_
         refine wc_cond_true rfl ?_
         refine wc_seq ?_
         refine wc_region ?_
         refine wl_v rfl rfl (ov_assign _ rfl) ?_
         refine wl_nil ?_
         refine qn_then ?_
         refine wc_ret ?_
         refine qn_then_ret ?_
         refine qn_block_ret ?_
         refine qn_then_ret ?_
         refine qn_then_ret ?_
         refine qn_block_ret ?_
         refine qn_then_ret ?_
         replace h := st_selT [false] h
         refine qn_ret [_] ⟨rfl, trivial⟩ ?_
         exact ⟨rfl, h⟩
        ·
         refine wl_v rfl rfl (ov_move _ rfl) ?_
         refine wl_v rfl rfl (ov_fieldAddr _ ⟨b12, 1, none⟩ _ rfl fo33_1 rfl) ?_
         refine wl_v rfl rfl (ov_loadb 0 _ h rfl rfl sh3 rfl) ?_
         refine wl_call _ rfl rfl rfl ent19 (RN.Between_calls (R := [Sx.blk b12 [.int .i64 (((edits).getD k z33).f0), .int .i64 (((edits).getD k z33).f1), .string (((edits).getD k z33).f2)] 33] ++ R) s (((edits).getD k z33).f1) (by (first | omega | (rw [ByteArray.size_extract]; omega))) h) ?_
         rintro e_ w_ ⟨rfl, h⟩
         refine ⟨_, rfl, ?_⟩
         refine wl_v rfl rfl (ov_not _ (¬ (BetweenP s (((edits).getD k z33).f1))) rfl (by first | exact decide_not.symm | simp)) ?_
         refine wl_v rfl rfl (ov_pick_false _ rfl rfl) ?_
         refine wl_nil ?_
         refine qn_then ?_
         refine wc_cond (by rfl) (fun c18 => ?_) (fun c18 => ?_)
         ·
          refine wc_seq ?_
          refine wc_region ?_
          refine wl_v rfl rfl (ov_assign _ rfl) ?_
          refine wl_nil ?_
          refine qn_then ?_
          refine wc_ret ?_
          refine qn_then_ret ?_
          refine qn_block_ret ?_
          refine qn_then_ret ?_
          refine qn_then_ret ?_
          refine qn_block_ret ?_
          refine qn_then_ret ?_
          replace h := st_selT [false] h
          refine qn_ret [_] ⟨rfl, trivial⟩ ?_
          exact ⟨rfl, h⟩
         ·
          have hcx_ := count_eq (sub_right hRs.2 (Classical.not_not.1 c17) (Classical.not_not.1 c18) (by omega))
          have hrx_ := runes_le (s.extract ((edits.getD k z33).f0).toNat ((edits.getD k z33).f1).toNat)
          rw [ByteArray.size_extract] at hrx_
          refine wc_skip ?_
          refine qn_then ?_
          refine wc_region ?_
          refine wl_v rfl rfl (ov_move _ rfl) ?_
          refine wl_v rfl rfl (ov_move _ rfl) ?_
          refine wl_v rfl rfl (ov_fieldAddr _ ⟨b12, 0, none⟩ _ rfl fo33_0 rfl) ?_
          refine wl_v rfl rfl (ov_loadb 0 _ h rfl rfl sh3 rfl) ?_
          refine wl_v rfl rfl (ov_fieldAddr _ ⟨b12, 1, none⟩ _ rfl fo33_1 rfl) ?_
          refine wl_v rfl rfl (ov_loadb 0 _ h rfl rfl sh3 rfl) ?_
          refine wl_v rfl rfl (ov_slices _ ((((edits).getD k z33).f0 : Int).toNat) ((((edits).getD k z33).f1 : Int).toNat) (by rfl) (by exact ⟨_, _, rfl, (by omega)⟩) (by exact ⟨_, _, rfl, (by omega)⟩) Try.underlying9 (by omega) (by omega)) ?_
          refine wl_call _ rfl rfl rfl ent18 (TX.NRunes_calls (R := [Sx.blk b12 [.int .i64 (((edits).getD k z33).f0), .int .i64 (((edits).getD k z33).f1), .string (((edits).getD k z33).f2)] 33] ++ R) ((s).extract ((((edits).getD k z33).f0 : Int).toNat) ((((edits).getD k z33).f1 : Int).toNat)) (by (first | omega | (rw [ByteArray.size_extract]; omega))) h) ?_
          rintro e_ w_ ⟨rfl, h⟩
          refine ⟨_, rfl, ?_⟩
          refine wl_v rfl rfl (ov_bin _ rfl rfl (binR_add (r := ((costN s edits k) + (((runesL (((edits).getD k z33).f2)).length : Int))) + (((runesL ((s).extract ((((edits).getD k z33).f0 : Int).toNat) ((((edits).getD k z33).f1 : Int).toNat))).length : Int))) (Sx.w64 (by omega)))) ?_
          refine wl_v rfl rfl (ov_assign _ rfl) ?_
          refine wl_nil ?_
          refine qn_block_normal ?_
          refine qn_then ?_
          refine wc_region ?_
          refine wl_v rfl rfl (ov_move _ rfl) ?_
          refine wl_v rfl rfl (ov_bin _ rfl rfl (binR_add (r := ((k : Int)) + 1) (Sx.w64 (by omega)))) ?_
          refine wl_v rfl rfl (ov_assign _ rfl) ?_
          refine wl_nil ?_
          replace h := st_selT [false] h
          refine qn_next ((k + 1)) (by show edits.length - (k + 1) < edits.length - k; omega) ⟨rfl, (congrArg (fun z_ => some (Value.slice (some ad8) z_ (cedits))) (show (edits.length : Nat) = edits.length by first | rfl | simp)), (congrArg (fun z_ => some (Value.int .i64 z_)) (show (((costN s edits k) + (((runesL (((edits).getD k z33).f2)).length : Int))) + (((runesL ((s).extract ((((edits).getD k z33).f0 : Int).toNat) ((((edits).getD k z33).f1 : Int).toNat))).length : Int)) : Int) = costN s edits (k + 1) by (have e_ : costN s edits (k + 1) = costN s edits k + cost1 s (ge edits k) := rfl; rw [e_]; unfold cost1; dsimp only [ge]; split <;> omega))), (congrArg (fun z_ => some (Value.int .i64 z_)) (show (((k : Int)) + 1 : Int) = ((k + 1) : Int) by omega)), trivial⟩ ?_
          show ((k + 1) ≤ edits.length) ∧ _
          exact ⟨by omega, h⟩
       ·
        refine wc_skip ?_
        refine qn_block_normal ?_
        refine qn_then ?_
        refine wc_region ?_
        refine wl_v rfl rfl (ov_move _ rfl) ?_
        refine wl_v rfl rfl (ov_bin _ rfl rfl (binR_add (r := ((k : Int)) + 1) (Sx.w64 (by omega)))) ?_
        refine wl_v rfl rfl (ov_assign _ rfl) ?_
        refine wl_nil ?_
        replace h := st_selT [false] h
        refine qn_next ((k + 1)) (by show edits.length - (k + 1) < edits.length - k; omega) ⟨rfl, (congrArg (fun z_ => some (Value.slice (some ad8) z_ (cedits))) (show (edits.length : Nat) = edits.length by first | rfl | simp)), (congrArg (fun z_ => some (Value.int .i64 z_)) (show ((costN s edits k) + (((runesL (((edits).getD k z33).f2)).length : Int)) : Int) = costN s edits (k + 1) by (have e_ : costN s edits (k + 1) = costN s edits k + cost1 s (ge edits k) := rfl; rw [e_]; unfold cost1; dsimp only [ge]; split <;> omega))), (congrArg (fun z_ => some (Value.int .i64 z_)) (show (((k : Int)) + 1 : Int) = ((k + 1) : Int) by omega)), trivial⟩ ?_
        show ((k + 1) ≤ edits.length) ∧ _
        exact ⟨by omega, h⟩
      ·
       refine wl_skip rfl rfl ?_
       refine wl_skip rfl rfl ?_
       refine wl_skip rfl rfl ?_
       refine wl_skip rfl rfl ?_
       refine wl_skip rfl rfl ?_
       refine wl_v rfl rfl (ov_pick_false _ rfl rfl) ?_
       refine wl_nil ?_
       refine qn_then ?_
       refine wc_cond_false rfl ?_
       refine wc_skip ?_
       refine qn_block_normal ?_
       refine qn_then ?_
       refine wc_region ?_
       refine wl_v rfl rfl (ov_move _ rfl) ?_
       refine wl_v rfl rfl (ov_bin _ rfl rfl (binR_add (r := ((k : Int)) + 1) (Sx.w64 (by omega)))) ?_
       refine wl_v rfl rfl (ov_assign _ rfl) ?_
       refine wl_nil ?_
       replace h := st_selT [false] h
       refine qn_next ((k + 1)) (by show edits.length - (k + 1) < edits.length - k; omega) ⟨rfl, (congrArg (fun z_ => some (Value.slice (some ad8) z_ (cedits))) (show (edits.length : Nat) = edits.length by first | rfl | simp)), (congrArg (fun z_ => some (Value.int .i64 z_)) (show ((costN s edits k) + (((runesL (((edits).getD k z33).f2)).length : Int)) : Int) = costN s edits (k + 1) by (have e_ : costN s edits (k + 1) = costN s edits k + cost1 s (ge edits k) := rfl; rw [e_]; unfold cost1; dsimp only [ge]; split <;> omega))), (congrArg (fun z_ => some (Value.int .i64 z_)) (show (((k : Int)) + 1 : Int) = ((k + 1) : Int) by omega)), trivial⟩ ?_
       show ((k + 1) ≤ edits.length) ∧ _
       exact ⟨by omega, h⟩
     ·
      refine wl_skip rfl rfl ?_
      refine wl_skip rfl rfl ?_
      refine wl_skip rfl rfl ?_
      refine wl_skip rfl rfl ?_
      refine wl_skip rfl rfl ?_
      refine wl_v rfl rfl (ov_pick_false _ rfl rfl) ?_
      refine wl_v rfl rfl (ov_move _ rfl) ?_
      refine wl_skip rfl rfl ?_
      refine wl_skip rfl rfl ?_
      refine wl_skip rfl rfl ?_
      refine wl_skip rfl rfl ?_
      refine wl_skip rfl rfl ?_
      refine wl_v rfl rfl (ov_pick_false _ rfl rfl) ?_
      refine wl_nil ?_
      refine qn_then ?_
      refine wc_cond_false rfl ?_
      refine wc_skip ?_
      refine qn_block_normal ?_
      refine qn_then ?_
      refine wc_region ?_
      refine wl_v rfl rfl (ov_move _ rfl) ?_
      refine wl_v rfl rfl (ov_bin _ rfl rfl (binR_add (r := ((k : Int)) + 1) (Sx.w64 (by omega)))) ?_
      refine wl_v rfl rfl (ov_assign _ rfl) ?_
      refine wl_nil ?_
      replace h := st_selT [false] h
      refine qn_next ((k + 1)) (by show edits.length - (k + 1) < edits.length - k; omega) ⟨rfl, (congrArg (fun z_ => some (Value.slice (some ad8) z_ (cedits))) (show (edits.length : Nat) = edits.length by first | rfl | simp)), (congrArg (fun z_ => some (Value.int .i64 z_)) (show ((costN s edits k) + (((runesL (((edits).getD k z33).f2)).length : Int)) : Int) = costN s edits (k + 1) by (have e_ : costN s edits (k + 1) = costN s edits k + cost1 s (ge edits k) := rfl; rw [e_]; unfold cost1; dsimp only [ge]; split <;> omega))), (congrArg (fun z_ => some (Value.int .i64 z_)) (show (((k : Int)) + 1 : Int) = ((k + 1) : Int) by omega)), trivial⟩ ?_
      show ((k + 1) ≤ edits.length) ∧ _
      exact ⟨by omega, h⟩
   ·
    refine wc_exit ?_
    refine qn_then_exit ?_
    refine qn_then_exit ?_
    refine qn_block_exit ?_
    refine qn_then ?_
    refine wc_seq ?_
    refine wc_region ?_
    refine wl_v rfl rfl (ov_move _ rfl) ?_
    refine wl_v rfl rfl (ov_move _ rfl) ?_
    refine wl_call _ rfl rfl rfl ent20 (A.Cost_calls (v0 := _) (w0 := _) (F0 := fun _ => False) (R := []) (s) edits (Aedits) (cedits) (Sx.ro_self _) (hledits) (Sx.ro_C hv h hCedits) (by have q_ := hRs.1; omega) (by have q_ := hFedits.1; omega) (fun e_ he_ => Nat.le_trans (hFedits.2 e_ he_) (by decide)) (st_start _)) ?_
    rintro e_ w_ ⟨rfl, h2_⟩
    refine ⟨_, rfl, ?_⟩
    replace h := st_below h (st_below0 h2_)
    refine wl_v rfl rfl (ov_move _ rfl) ?_
    refine wl_v rfl rfl (ov_bin _ rfl rfl (binR_eql)) ?_
    refine wl_v rfl rfl (ov_assign _ rfl) ?_
    refine wl_nil ?_
    refine qn_then ?_
    refine wc_ret ?_
    refine qn_ret [_] ⟨rfl, trivial⟩ ?_
    have b_ : (decide (((costV (s) edits) : Int) = (costN s edits k))) = true := by (apply decide_eq_true; obtain rfl : k = edits.length := (by omega); rfl)
    exact ⟨congrArg (fun z => Ending.returned (Value.bool z)) b_, h⟩
end Go.Proofs.Ytbakllppgekmoaa.L
