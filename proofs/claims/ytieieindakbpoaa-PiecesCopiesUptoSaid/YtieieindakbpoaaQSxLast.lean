/- Pruned by wip/prune.py. -/
import Derived.Test.YtieieindakbpoaaProg
import Derived.Test.YtieieindakbpoaaQSxGlue
import Derived.Test.YtieieindakbpoaaQSxRanged
import Derived.Test.YtieieindakbpoaaQSxFlow
import Derived.Test.YtieieindakbpoaaQSxKinds
import Derived.Test.YtieieindakbpoaaQPcBal
import Derived.Test.YtieieindakbpoaaQSxTree
import Derived.Test.YtieieindakbpoaaQSxJoin3
namespace Go.Proofs.Ytieieindakbpoaa.TL
open Go Go.RowKit Go.Proofs.YtieieindakbpoaaW.PrintWords Go.Proofs.Ytieieindakbpoaa.Kinds Go.Proofs.Ytieieindakbpoaa.Sx 
set_option linter.unusedVariables false
set_option linter.unusedSimpArgs false
theorem zo77 : Sx.zeroOf Try.prog 77 = some (.agg #[.bool false, .int .i64 (0), .int .i64 (0), .int .i64 (0)]) := by kernel_rfl
theorem fo89_1 : Sx.fieldOff Try.prog 89 1 = some 1 := by kernel_rfl
theorem sh66 : Sx.shapeOf Try.prog 66 = some (false, 1) := by kernel_rfl
theorem fo89_0 : Sx.fieldOff Try.prog 89 0 = some 0 := by kernel_rfl
theorem fo89_2 : Sx.fieldOff Try.prog 89 2 = some 2 := by kernel_rfl
theorem sh77 : Sx.shapeOf Try.prog 77 = some (true, 4) := by kernel_rfl
theorem ent47 : Sx.Ent Try.prog 47 := ⟨Try.f47, Try.func47, by kernel_rfl, by kernel_rfl⟩
theorem ent48 : Sx.Ent Try.prog 48 := ⟨Try.f48, Try.func48, by kernel_rfl, by kernel_rfl⟩
set_option maxHeartbeats 4000000 in
set_option maxRecDepth 100000 in
theorem last_step (N : Nat) (ih : ∀ {w0 w : World} {F0 : Nat → Prop} {R : List Sx.HP} (Φ : World → Prop) (T : Pc.AT) (hT : ∀ W, Φ W → Pc.At W T) (hb : Pc.AT.bal T) (hsm : Pc.Sm (Pc.AT.fl T)) (hpos : 0 < Pc.AT.ht T) (hN : Pc.AT.cnt T < N) (h : Sx.St w0 F0 ([Pc.lib (Φ)] ++ R) w), Calls Try.prog 47 #[.pointer (Pc.AT.ptr T)] w (fun e w1 => ∃ (T2 : Pc.AT) (q : S77) (Φ2 : World → Prop), e = .returned (.tuple #[.pointer (Pc.AT.ptr T2), .agg #[.bool ((q).f0), .int .i64 ((q).f1), .int .i64 ((q).f2), .int .i64 ((q).f3)]]) ∧ (∀ W, Φ2 W → Φ W) ∧ (∀ W, Φ2 W → Pc.At W T2) ∧ (Pc.AT.fl T = Pc.AT.fl T2 ++ [q] ∧ Pc.AT.bal T2) ∧ Sx.St w0 F0 ([Pc.lib Φ2] ++ R) w1)) {w0 w : World} {F0 : Nat → Prop} {R : List Sx.HP} (Φ : World → Prop) (T : Pc.AT) (hT : ∀ W, Φ W → Pc.At W T) (hb : Pc.AT.bal T) (hsm : Pc.Sm (Pc.AT.fl T)) (hpos : 0 < Pc.AT.ht T) (hN : Pc.AT.cnt T = N) (h : Sx.St w0 F0 ([Pc.lib (Φ)] ++ R) w) : Calls Try.prog 47 #[.pointer (Pc.AT.ptr T)] w (fun e w1 => ∃ (T2 : Pc.AT) (q : S77) (Φ2 : World → Prop), e = .returned (.tuple #[.pointer (Pc.AT.ptr T2), .agg #[.bool ((q).f0), .int .i64 ((q).f1), .int .i64 ((q).f2), .int .i64 ((q).f3)]]) ∧ (∀ W, Φ2 W → Φ W) ∧ (∀ W, Φ2 W → Pc.At W T2) ∧ (Pc.AT.fl T = Pc.AT.fl T2 ++ [q] ∧ Pc.AT.bal T2) ∧ Sx.St w0 F0 ([Pc.lib Φ2] ++ R) w1) := by
 obtain ⟨g1, tl2, tp3, tr4, rfl⟩ := Pc.AT.ht_pos (T := T) (hpos)
 obtain ⟨hb1_, hb2_, hb3_, hb4_⟩ := hb
 have hcn_ : Pc.AT.cnt (Pc.AT.nd g1 tl2 tp3 tr4) = Pc.AT.cnt tl2 + 1 + Pc.AT.cnt tr4 := rfl
 refine Sx.calls_fn (vs := [.pointer (some ⟨g1, 0, none⟩)]) Try.func47 rfl Try.ntmps47 rfl ?_
 refine wc_seq ?_
 refine wc_region ?_
 refine wl_v rfl rfl (ov_assign _ rfl) ?_
 refine wl_alloc _ h rfl rfl zo77 (fun b5 _ h => ?_)
 replace h : Sx.St _ _ (Sx.blk b5 [.bool false, .int .i64 (0), .int .i64 (0), .int .i64 (0)] 77 :: _) _ := h
 refine wl_nil ?_
 refine qn_then ?_
 refine wc_seq ?_
 refine wc_seq ?_
 refine wc_region ?_
 refine wl_v rfl rfl (ov_move _ rfl) ?_
 refine wl_v rfl rfl (ov_nilCheck _ rfl) ?_
 refine wl_v rfl rfl (ov_fieldAddr _ ⟨g1, 1, none⟩ _ rfl fo89_1 rfl) ?_
 refine wl_v rfl rfl (ov_load1 ⟨g1, 1, none⟩ _ rfl sh66 (((Pc.at_cell (hT _ (Pc.lib_now h (i := 1) rfl))) 1).trans rfl)) ?_
 refine wl_v rfl rfl (ov_bin _ rfl rfl (binR_eqnil Try.underlying66)) ?_
 refine wl_nil ?_
 refine qn_then ?_
 refine wc_cond (by rfl) (fun c6 => ?_) (fun c6 => ?_)
 ·
  obtain rfl := Pc.AT.ptr_none c6
  refine wc_seq ?_
  refine wc_draw (fun w => Sx.St w0 F0 ([Pc.lib (Φ)] ++ R) w) (by kernel_rfl) ?_
  replace h := st_drew h
  refine wa_tk 0 rfl rfl rfl (st_selT [false, true] h) (fun w_ hS => ov_move _ rfl) ?_
  refine wa_tk 1 rfl rfl rfl (st_selT [false, true] h) (fun w_ hS => ov_nilCheck _ rfl) ?_
  refine wa_tk 2 rfl rfl rfl (st_selT [false, true] h) (fun w_ hS => ov_fieldAddr _ ⟨g1, 0, none⟩ _ rfl fo89_0 rfl) ?_
  refine wa_tk 3 rfl rfl rfl (st_selT [false, true] h) (fun w_ hS => ov_load1 ⟨g1, 0, none⟩ _ rfl sh66 (((Pc.at_cell (hT _ (Pc.lib_now hS (i := 0) rfl))) 0).trans rfl)) ?_
  refine wa_tk 4 rfl rfl rfl (st_selT [false, true] h) (fun w_ hS => ov_move _ rfl) ?_
  refine wa_tk 5 rfl rfl rfl (st_selT [false, true] h) (fun w_ hS => ov_nilCheck _ rfl) ?_
  refine wa_tk 6 rfl rfl rfl (st_selT [false, true] h) (fun w_ hS => ov_fieldAddr _ ⟨g1, 2, none⟩ _ rfl fo89_2 rfl) ?_
  refine wa_tk 7 rfl rfl rfl (st_selT [false, true] h) (fun w_ hS => ov_loadN ⟨g1, 2, none⟩ [.bool ((tp3).f0), .int .i64 ((tp3).f1), .int .i64 ((tp3).f2), .int .i64 ((tp3).f3)] rfl sh77 (Sx.rob_cells ((Pc.at_cell (hT _ (Pc.lib_now hS (i := 0) rfl)))) 2 rfl)) ?_
  refine wa_tk 8 rfl rfl rfl (st_selT [false, true] h) (fun w_ hS => ov_assign _ rfl) ?_
  refine wa_one 9 rfl (by kernel_rfl) ?_
  refine wl_storebN 0 [.bool ((tp3).f0), .int .i64 ((tp3).f1), .int .i64 ((tp3).f2), .int .i64 ((tp3).f3)] [.bool ((tp3).f0), .int .i64 ((tp3).f1), .int .i64 ((tp3).f2), .int .i64 ((tp3).f3)] h rfl rfl rfl rfl (by simp [Value.oneCell']) sh77 rfl rfl (fun _ h => ?_)
  refine wl_nil ?_
  refine qn_wa (st_selT [false, true] h) ?_
  refine wa_done (by kernel_rfl) ?_
  refine qn_then ?_
  refine wc_ret ?_
  refine qn_then_ret ?_
  have hend_ := h
  replace h := st_front 1 h
  replace h := st_selT [true, false] h
  refine qn_ret [_, _] ⟨rfl, ⟨_, rfl, Sx.loadVarN (vs := [.bool ((tp3).f0), .int .i64 ((tp3).f1), .int .i64 ((tp3).f2), .int .i64 ((tp3).f3)]) sh77 (Sx.blk_cells (cells := [.bool ((tp3).f0), .int .i64 ((tp3).f1), .int .i64 ((tp3).f2), .int .i64 ((tp3).f3)]) hend_ (i := 0) rfl 0 _ rfl)⟩, trivial⟩ ?_
  exact ⟨tl2, tp3, _, rfl, fun W_ z_ => z_, (fun W_ z_ => (hT W_ z_).2.1), ⟨by simp [Pc.AT.fl], hb1_⟩, h⟩
 ·
  obtain ⟨g7, tl8, tp9, tr10, rfl⟩ := Pc.AT.ptr_some c6
  refine wc_skip ?_
  refine qn_then ?_
  refine wc_seq ?_
  refine wc_region ?_
  refine wl_v rfl rfl (ov_move _ rfl) ?_
  refine wl_v rfl rfl (ov_nilCheck _ rfl) ?_
  refine wl_v rfl rfl (ov_fieldAddr _ ⟨g1, 1, none⟩ _ rfl fo89_1 rfl) ?_
  refine wl_v rfl rfl (ov_load1 ⟨g1, 1, none⟩ _ rfl sh66 (((Pc.at_cell (hT _ (Pc.lib_now h (i := 1) rfl))) 1).trans rfl)) ?_
  have hht11 : Pc.AT.ht (Pc.AT.nd g1 tl2 tp3 (Pc.AT.nd g7 tl8 tp9 tr10)) = 1 + max (Pc.AT.ht tl2) (Pc.AT.ht (Pc.AT.nd g7 tl8 tp9 tr10)) := rfl
  have hh012 := Pc.AT.ht_nonneg tl2
  have hh013 := Pc.AT.ht_nonneg (Pc.AT.nd g7 tl8 tp9 tr10)
  have hht14 : Pc.AT.ht (Pc.AT.nd g7 tl8 tp9 tr10) = 1 + max (Pc.AT.ht tl8) (Pc.AT.ht tr10) := rfl
  have hh015 := Pc.AT.ht_nonneg tl8
  have hh016 := Pc.AT.ht_nonneg tr10
  replace h := st_front 1 h
  refine wl_call _ rfl rfl rfl ent47 (ih (R := [Sx.blk b5 [.bool false, .int .i64 (0), .int .i64 (0), .int .i64 (0)] 77] ++ R) (Φ) (Pc.AT.nd g7 tl8 tp9 tr10) (fun W_ z_ => (hT W_ z_).2.2) hb2_ (Pc.sm_of hsm (by simp only [Pc.AT.fl,  List.length_append, List.length_cons, List.length_nil]; omega) (fun q_ hq_ => by simp only [Pc.AT.fl,  List.mem_append, List.mem_cons, List.not_mem_nil, or_false, false_or] at hq_ ⊢; grind)) (by omega) (by omega) h) ?_
  rintro e_ w_ ⟨T17, q18, Φ19, rfl, hsub20, hT21, ⟨hlf22, hlb23⟩, h⟩
  refine ⟨_, rfl, ?_⟩
  refine wl_v rfl rfl (ov_move _ rfl) ?_
  refine wl_v rfl rfl (ov_extract [.pointer (Pc.AT.ptr T17), .agg #[.bool ((q18).f0), .int .i64 ((q18).f1), .int .i64 ((q18).f2), .int .i64 ((q18).f3)]] _ rfl rfl) ?_
  refine wl_v rfl rfl (ov_extract [.pointer (Pc.AT.ptr T17), .agg #[.bool ((q18).f0), .int .i64 ((q18).f1), .int .i64 ((q18).f2), .int .i64 ((q18).f3)]] _ rfl rfl) ?_
  refine wl_alloc _ h rfl rfl zo77 (fun b24 _ h => ?_)
  replace h : Sx.St _ _ (Sx.blk b24 [.bool false, .int .i64 (0), .int .i64 (0), .int .i64 (0)] 77 :: _) _ := h
  refine wl_v rfl rfl (ov_assign _ rfl) ?_
  refine wl_storebN 0 [.bool ((q18).f0), .int .i64 ((q18).f1), .int .i64 ((q18).f2), .int .i64 ((q18).f3)] [.bool ((q18).f0), .int .i64 ((q18).f1), .int .i64 ((q18).f2), .int .i64 ((q18).f3)] h rfl rfl rfl rfl (by simp [Value.oneCell']) sh77 rfl rfl (fun _ h => ?_)
  refine wl_nil ?_
  refine qn_then ?_
  refine wc_seq ?_
  refine wc_draw (fun w => Sx.St w0 F0 ([Sx.blk b24 [.bool ((q18).f0), .int .i64 ((q18).f1), .int .i64 ((q18).f2), .int .i64 ((q18).f3)] 77, Pc.lib (Φ19)] ++ R) w) (by kernel_rfl) ?_
  replace h := st_drew h
  refine wa_tk 0 rfl rfl rfl (st_selT [true, true, false] h) (fun w_ hS => ov_move _ rfl) ?_
  refine wa_tk 1 rfl rfl rfl (st_selT [true, true, false] h) (fun w_ hS => ov_nilCheck _ rfl) ?_
  refine wa_tk 2 rfl rfl rfl (st_selT [true, true, false] h) (fun w_ hS => ov_fieldAddr _ ⟨g1, 0, none⟩ _ rfl fo89_0 rfl) ?_
  refine wa_tk 3 rfl rfl rfl (st_selT [true, true, false] h) (fun w_ hS => ov_load1 ⟨g1, 0, none⟩ _ rfl sh66 (((Pc.at_cell ((fun W_ z_ => hT W_ (hsub20 W_ z_)) _ (Pc.lib_now hS (i := 1) rfl))) 0).trans rfl)) ?_
  refine wa_tk 4 rfl rfl rfl (st_selT [true, true, false] h) (fun w_ hS => ov_move _ rfl) ?_
  refine wa_tk 5 rfl rfl rfl (st_selT [true, true, false] h) (fun w_ hS => ov_nilCheck _ rfl) ?_
  refine wa_tk 6 rfl rfl rfl (st_selT [true, true, false] h) (fun w_ hS => ov_fieldAddr _ ⟨g1, 2, none⟩ _ rfl fo89_2 rfl) ?_
  refine wa_tk 7 rfl rfl rfl (st_selT [true, true, false] h) (fun w_ hS => ov_loadN ⟨g1, 2, none⟩ [.bool ((tp3).f0), .int .i64 ((tp3).f1), .int .i64 ((tp3).f2), .int .i64 ((tp3).f3)] rfl sh77 (Sx.rob_cells ((Pc.at_cell ((fun W_ z_ => hT W_ (hsub20 W_ z_)) _ (Pc.lib_now hS (i := 1) rfl)))) 2 rfl)) ?_
  refine wa_tk 8 rfl rfl rfl (st_selT [true, true, false] h) (fun w_ hS => ov_move _ rfl) ?_
  refine wa_tk 10 rfl rfl rfl (st_selT [true, true, false] h) (fun w_ hS => ov_loadbN 0 [.bool ((q18).f0), .int .i64 ((q18).f1), .int .i64 ((q18).f2), .int .i64 ((q18).f3)] hS rfl rfl sh77 rfl) ?_
  refine wa_one 9 rfl (by kernel_rfl) ?_
  replace h := st_front 1 h
  refine wl_call _ rfl rfl rfl ent48 (TJ.join_calls (R := [Sx.blk b24 [.bool ((q18).f0), .int .i64 ((q18).f1), .int .i64 ((q18).f2), .int .i64 ((q18).f3)] 77, Sx.blk b5 [.bool false, .int .i64 (0), .int .i64 (0), .int .i64 (0)] 77] ++ R) (Φ19) tl2 tp3 T17 (fun W_ z_ => (fun W_ z_ => (hT W_ z_).2.1) W_ (hsub20 W_ z_)) hT21 hb1_ hlb23 (Pc.sm_last hsm hlf22) h) ?_
  rintro e_ w_ ⟨T27, Φ28, rfl, hsub29, hT30, ⟨hjf25, hjb26⟩, h⟩
  refine ⟨_, rfl, ?_⟩
  refine wl_nil ?_
  refine qn_wa (Pc.lib_weakn 1 (fun W_ z_ => (hsub29 W_ z_)) (st_selT [true, true, false] (st_front 1 h)) rfl) ?_
  refine wa_tk 11 rfl rfl rfl (Pc.lib_weakn 1 (fun W_ z_ => (hsub29 W_ z_)) (st_selT [true, true, false] (st_front 1 h)) rfl) (fun w_ hS => ov_assign _ rfl) ?_
  refine wa_one 12 rfl (by kernel_rfl) ?_
  refine wl_storebN 2 [.bool ((q18).f0), .int .i64 ((q18).f1), .int .i64 ((q18).f2), .int .i64 ((q18).f3)] [.bool ((q18).f0), .int .i64 ((q18).f1), .int .i64 ((q18).f2), .int .i64 ((q18).f3)] h rfl rfl rfl rfl (by simp [Value.oneCell']) sh77 rfl rfl (fun _ h => ?_)
  refine wl_nil ?_
  refine qn_wa (Pc.lib_weakn 1 (fun W_ z_ => (hsub29 W_ z_)) (st_selT [true, true, false] (st_front 1 h)) rfl) ?_
  refine wa_done (by kernel_rfl) ?_
  refine qn_then ?_
  refine wc_ret ?_
  have hend_ := h
  replace h := st_selT [true, false, false] h
  refine qn_ret [_, _] ⟨rfl, ⟨_, rfl, Sx.loadVarN (vs := [.bool ((q18).f0), .int .i64 ((q18).f1), .int .i64 ((q18).f2), .int .i64 ((q18).f3)]) sh77 (Sx.blk_cells (cells := [.bool ((q18).f0), .int .i64 ((q18).f1), .int .i64 ((q18).f2), .int .i64 ((q18).f3)]) hend_ (i := 2) rfl 0 _ rfl)⟩, trivial⟩ ?_
  exact ⟨T27, q18, _, rfl, fun W_ z_ => (hsub20 W_ (hsub29 W_ z_)), hT30, ⟨by show _ ++ _ :: _ = _; rw [hjf25, hlf22]; simp, hjb26⟩, h⟩
theorem last_calls {w0 w : World} {F0 : Nat → Prop} {R : List Sx.HP} (Φ : World → Prop) (T : Pc.AT) (hT : ∀ W, Φ W → Pc.At W T) (hb : Pc.AT.bal T) (hsm : Pc.Sm (Pc.AT.fl T)) (hpos : 0 < Pc.AT.ht T) (h : Sx.St w0 F0 ([Pc.lib (Φ)] ++ R) w) : Calls Try.prog 47 #[.pointer (Pc.AT.ptr T)] w (fun e w1 => ∃ (T2 : Pc.AT) (q : S77) (Φ2 : World → Prop), e = .returned (.tuple #[.pointer (Pc.AT.ptr T2), .agg #[.bool ((q).f0), .int .i64 ((q).f1), .int .i64 ((q).f2), .int .i64 ((q).f3)]]) ∧ (∀ W, Φ2 W → Φ W) ∧ (∀ W, Φ2 W → Pc.At W T2) ∧ (Pc.AT.fl T = Pc.AT.fl T2 ++ [q] ∧ Pc.AT.bal T2) ∧ Sx.St w0 F0 ([Pc.lib Φ2] ++ R) w1) := by
  have key : ∀ (N : Nat) {w0 w : World} {F0 : Nat → Prop} {R : List Sx.HP} (Φ : World → Prop) (T : Pc.AT) (hT : ∀ W, Φ W → Pc.At W T) (hb : Pc.AT.bal T) (hsm : Pc.Sm (Pc.AT.fl T)) (hpos : 0 < Pc.AT.ht T) (hN : Pc.AT.cnt T < N) (h : Sx.St w0 F0 ([Pc.lib (Φ)] ++ R) w), Calls Try.prog 47 #[.pointer (Pc.AT.ptr T)] w (fun e w1 => ∃ (T2 : Pc.AT) (q : S77) (Φ2 : World → Prop), e = .returned (.tuple #[.pointer (Pc.AT.ptr T2), .agg #[.bool ((q).f0), .int .i64 ((q).f1), .int .i64 ((q).f2), .int .i64 ((q).f3)]]) ∧ (∀ W, Φ2 W → Φ W) ∧ (∀ W, Φ2 W → Pc.At W T2) ∧ (Pc.AT.fl T = Pc.AT.fl T2 ++ [q] ∧ Pc.AT.bal T2) ∧ Sx.St w0 F0 ([Pc.lib Φ2] ++ R) w1) := by
    intro N
    induction N with
    | zero => intro w0 w F0 R Φ T hT hb hsm hpos hN; omega
    | succ N ih =>
      intro w0 w F0 R Φ T hT hb hsm hpos hN h
      exact last_step (Pc.AT.cnt T) (fun Φ T hT hb hsm hpos hN2 h => ih Φ T hT hb hsm hpos (by omega) h) Φ T hT hb hsm hpos rfl h
  exact key (Pc.AT.cnt T + 1) Φ T hT hb hsm hpos (by omega) h
set_option maxHeartbeats 4000000 in
set_option maxRecDepth 100000 in
theorem concat_calls {w0 w : World} {F0 : Nat → Prop} {R : List Sx.HP} (Φ : World → Prop) (l : Pc.AT) (r : Pc.AT) (hl : ∀ W, Φ W → Pc.At W l) (hr : ∀ W, Φ W → Pc.At W r) (hbl : Pc.AT.bal l) (hbr : Pc.AT.bal r) (hsm : Pc.Sm (Pc.AT.fl l ++ Pc.AT.fl r)) (h : Sx.St w0 F0 ([Pc.lib (Φ)] ++ R) w) : Calls Try.prog 53 #[.pointer (Pc.AT.ptr l), .pointer (Pc.AT.ptr r)] w (fun e w1 => ∃ (T2 : Pc.AT) (Φ2 : World → Prop), e = .returned (.pointer (Pc.AT.ptr T2)) ∧ (∀ W, Φ2 W → Φ W) ∧ (∀ W, Φ2 W → Pc.At W T2) ∧ (Pc.AT.fl T2 = Pc.AT.fl l ++ Pc.AT.fl r ∧ Pc.AT.bal T2) ∧ Sx.St w0 F0 ([Pc.lib Φ2] ++ R) w1) := by
 refine Sx.calls_fn (vs := [.pointer (Pc.AT.ptr l), .pointer (Pc.AT.ptr r)]) Try.func53 rfl Try.ntmps53 rfl ?_
 refine wc_seq ?_
 refine wc_region ?_
 refine wl_v rfl rfl (ov_assign _ rfl) ?_
 refine wl_nil ?_
 refine qn_then ?_
 refine wc_seq ?_
 refine wc_seq ?_
 refine wc_region ?_
 refine wl_v rfl rfl (ov_move _ rfl) ?_
 refine wl_v rfl rfl (ov_bin _ rfl rfl (binR_eqnil Try.underlying66)) ?_
 refine wl_nil ?_
 refine qn_then ?_
 refine wc_cond (by rfl) (fun c1 => ?_) (fun c1 => ?_)
 ·
  obtain rfl := Pc.AT.ptr_none c1
  refine wc_seq ?_
  refine wc_region ?_
  refine wl_v rfl rfl (ov_move _ rfl) ?_
  refine wl_v rfl rfl (ov_assign _ rfl) ?_
  refine wl_nil ?_
  refine qn_then ?_
  refine wc_ret ?_
  refine qn_then_ret ?_
  refine qn_ret [_] ⟨rfl, trivial⟩ ?_
  exact ⟨r, _, rfl, fun W_ z_ => z_, hr, ⟨by simp [Pc.AT.fl], hbr⟩, h⟩
 ·
  obtain ⟨g2, tl3, tp4, tr5, rfl⟩ := Pc.AT.ptr_some c1
  refine wc_skip ?_
  refine qn_then ?_
  refine wc_seq ?_
  refine wc_region ?_
  refine wl_v rfl rfl (ov_move _ rfl) ?_
  have hht6 : Pc.AT.ht (Pc.AT.nd g2 tl3 tp4 tr5) = 1 + max (Pc.AT.ht tl3) (Pc.AT.ht tr5) := rfl
  have hh07 := Pc.AT.ht_nonneg tl3
  have hh08 := Pc.AT.ht_nonneg tr5
  refine wl_call _ rfl rfl rfl ent47 (TL.last_calls (R := [] ++ R) (Φ) (Pc.AT.nd g2 tl3 tp4 tr5) hl hbl (Pc.sm_of hsm (by simp only [Pc.AT.fl,  List.length_append, List.length_cons, List.length_nil]; omega) (fun q_ hq_ => by simp only [Pc.AT.fl,  List.mem_append, List.mem_cons, List.not_mem_nil, or_false, false_or] at hq_ ⊢; grind)) (by omega)  h) ?_
  rintro e_ w_ ⟨T9, q10, Φ11, rfl, hsub12, hT13, ⟨hlf14, hlb15⟩, h⟩
  refine ⟨_, rfl, ?_⟩
  refine wl_v rfl rfl (ov_move _ rfl) ?_
  refine wl_v rfl rfl (ov_extract [.pointer (Pc.AT.ptr T9), .agg #[.bool ((q10).f0), .int .i64 ((q10).f1), .int .i64 ((q10).f2), .int .i64 ((q10).f3)]] _ rfl rfl) ?_
  refine wl_v rfl rfl (ov_extract [.pointer (Pc.AT.ptr T9), .agg #[.bool ((q10).f0), .int .i64 ((q10).f1), .int .i64 ((q10).f2), .int .i64 ((q10).f3)]] _ rfl rfl) ?_
  refine wl_alloc _ h rfl rfl zo77 (fun b16 _ h => ?_)
  replace h : Sx.St _ _ (Sx.blk b16 [.bool false, .int .i64 (0), .int .i64 (0), .int .i64 (0)] 77 :: _) _ := h
  refine wl_v rfl rfl (ov_assign _ rfl) ?_
  refine wl_storebN 0 [.bool ((q10).f0), .int .i64 ((q10).f1), .int .i64 ((q10).f2), .int .i64 ((q10).f3)] [.bool ((q10).f0), .int .i64 ((q10).f1), .int .i64 ((q10).f2), .int .i64 ((q10).f3)] h rfl rfl rfl rfl (by simp [Value.oneCell']) sh77 rfl rfl (fun _ h => ?_)
  refine wl_nil ?_
  refine qn_then ?_
  refine wc_seq ?_
  refine wc_region ?_
  refine wl_v rfl rfl (ov_move _ rfl) ?_
  refine wl_v rfl rfl (ov_loadbN 0 [.bool ((q10).f0), .int .i64 ((q10).f1), .int .i64 ((q10).f2), .int .i64 ((q10).f3)] h rfl rfl sh77 rfl) ?_
  refine wl_v rfl rfl (ov_move _ rfl) ?_
  replace h := st_front 1 h
  refine wl_call _ rfl rfl rfl ent48 (TJ.join_calls (R := [Sx.blk b16 [.bool ((q10).f0), .int .i64 ((q10).f1), .int .i64 ((q10).f2), .int .i64 ((q10).f3)] 77] ++ R) (Φ11) T9 q10 r hT13 (fun W_ z_ => hr W_ (hsub12 W_ z_)) hlb15 hbr (Pc.sm_eq hsm (by rw [hlf14]; simp)) h) ?_
  rintro e_ w_ ⟨T19, Φ20, rfl, hsub21, hT22, ⟨hjf17, hjb18⟩, h⟩
  refine ⟨_, rfl, ?_⟩
  refine wl_v rfl rfl (ov_assign _ rfl) ?_
  refine wl_nil ?_
  refine qn_then ?_
  refine wc_ret ?_
  replace h := st_selT [true, false] h
  refine qn_ret [_] ⟨rfl, trivial⟩ ?_
  exact ⟨T19, _, rfl, fun W_ z_ => (hsub12 W_ (hsub21 W_ z_)), hT22, ⟨by rw [hjf17, hlf14]; simp, hjb18⟩, h⟩
end Go.Proofs.Ytieieindakbpoaa.TL
