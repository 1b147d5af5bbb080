/- Pruned by wip/prune.py. -/
import Derived.Test.YtieieindakbpoaaProg
import Derived.Test.YtieieindakbpoaaQSxGlue
import Derived.Test.YtieieindakbpoaaQSxRanged
import Derived.Test.YtieieindakbpoaaQSxFlow
import Derived.Test.YtieieindakbpoaaQSxKinds
import Derived.Test.YtieieindakbpoaaQPcTree
namespace Go.Proofs.Ytieieindakbpoaa.TR
open Go Go.RowKit Go.Proofs.YtieieindakbpoaaW.PrintWords Go.Proofs.Ytieieindakbpoaa.Kinds Go.Proofs.Ytieieindakbpoaa.Sx 
set_option linter.unusedVariables false
set_option linter.unusedSimpArgs false
theorem fo89_3 : Sx.fieldOff Try.prog 89 3 = some 6 := by kernel_rfl
theorem sh3 : Sx.shapeOf Try.prog 3 = some (false, 1) := by kernel_rfl
theorem fo89_4 : Sx.fieldOff Try.prog 89 4 = some 7 := by kernel_rfl
theorem fo89_5 : Sx.fieldOff Try.prog 89 5 = some 8 := by kernel_rfl
theorem fo89_6 : Sx.fieldOff Try.prog 89 6 = some 9 := by kernel_rfl
theorem sh77 : Sx.shapeOf Try.prog 77 = some (true, 4) := by kernel_rfl
theorem ent44 : Sx.Ent Try.prog 44 := ⟨Try.f44, Try.func44, by kernel_rfl, by kernel_rfl⟩
theorem ent39 : Sx.Ent Try.prog 39 := ⟨Try.f39, Try.func39, by kernel_rfl, by kernel_rfl⟩
theorem fo77_2 : Sx.fieldOff Try.prog 77 2 = some 2 := by kernel_rfl
theorem ent43 : Sx.Ent Try.prog 43 := ⟨Try.f43, Try.func43, by kernel_rfl, by kernel_rfl⟩
theorem fo77_3 : Sx.fieldOff Try.prog 77 3 = some 3 := by kernel_rfl
theorem ent42 : Sx.Ent Try.prog 42 := ⟨Try.f42, Try.func42, by kernel_rfl, by kernel_rfl⟩
theorem fo89_1 : Sx.fieldOff Try.prog 89 1 = some 1 := by kernel_rfl
theorem sh66 : Sx.shapeOf Try.prog 66 = some (false, 1) := by kernel_rfl
theorem fo89_0 : Sx.fieldOff Try.prog 89 0 = some 0 := by kernel_rfl
theorem fo89_2 : Sx.fieldOff Try.prog 89 2 = some 2 := by kernel_rfl
theorem ent60 : Sx.Ent Try.prog 60 := ⟨Try.f60, Try.func60, by kernel_rfl, by kernel_rfl⟩
set_option maxHeartbeats 4000000 in
set_option maxRecDepth 100000 in
theorem high_calls {w0 w : World} {F0 : Nat → Prop} {R : List Sx.HP} (Φ : World → Prop) (T : Pc.AT) (hT : ∀ W, Φ W → Pc.At W T) (h : Sx.St w0 F0 ([Pc.lib (Φ)] ++ R) w) : Calls Try.prog 44 #[.pointer (Pc.AT.ptr T)] w (fun e w1 => e = .returned (.int .i64 (Pc.AT.ht T)) ∧ Sx.St w0 F0 ([Pc.lib (Φ)] ++ R) w1) := by
 refine Sx.calls_fn (vs := [.pointer (Pc.AT.ptr T)]) Try.func44 rfl Try.ntmps44 rfl ?_
 refine wc_seq ?_
 refine wc_region ?_
 refine wl_v rfl rfl (ov_assign _ rfl) ?_
 refine wl_nil ?_
 refine qn_then ?_
 refine wc_seq ?_
 refine wc_seq ?_
 refine wc_region ?_
 refine wl_v rfl rfl (ov_move _ rfl) ?_
 refine wl_v rfl rfl (ov_bin _ rfl rfl (binR_eqnil Try.underlying66)) ?_
 refine wl_nil ?_
 refine qn_then ?_
 refine wc_cond (by rfl) (fun c1 => ?_) (fun c1 => ?_)
 ·
  obtain rfl := Pc.AT.ptr_none c1
  refine wc_seq ?_
  refine wc_region ?_
  refine wl_v rfl rfl (ov_assign _ rfl) ?_
  refine wl_nil ?_
  refine qn_then ?_
  refine wc_ret ?_
  refine qn_then_ret ?_
  refine qn_ret [_] ⟨rfl, trivial⟩ ?_
  have e_ : Pc.AT.ht Pc.AT.nil = 0 := by
    simp only [Pc.AT.fl, Pc.AT.ht, Pc.szF_app, Pc.szF_cons, Pc.szF_nil, Pc.lnF_nil, Pc.lnF_app, Pc.lnF_cons, List.length_append, List.length_cons, List.length_nil] <;> omega
  rw [e_]
  exact ⟨rfl, h⟩
 ·
  obtain ⟨g2, tl3, tp4, tr5, rfl⟩ := Pc.AT.ptr_some c1
  refine wc_skip ?_
  refine qn_then ?_
  refine wc_seq ?_
  refine wc_region ?_
  refine wl_v rfl rfl (ov_move _ rfl) ?_
  refine wl_v rfl rfl (ov_nilCheck _ rfl) ?_
  refine wl_v rfl rfl (ov_fieldAddr _ ⟨g2, 6, none⟩ _ rfl fo89_3 rfl) ?_
  refine wl_v rfl rfl (ov_load1 ⟨g2, 6, none⟩ _ rfl sh3 (((Pc.at_cell (hT _ (Pc.lib_now h (i := 0) rfl))) 6).trans rfl)) ?_
  refine wl_v rfl rfl (ov_assign _ rfl) ?_
  refine wl_nil ?_
  refine qn_then ?_
  refine wc_ret ?_
  refine qn_ret [_] ⟨rfl, trivial⟩ ?_
  have e_ : Pc.AT.ht (Pc.AT.nd g2 tl3 tp4 tr5) = 1 + max (Pc.AT.ht tl3) (Pc.AT.ht tr5) := by
    simp only [Pc.AT.fl, Pc.AT.ht, Pc.szF_app, Pc.szF_cons, Pc.szF_nil, Pc.lnF_nil, Pc.lnF_app, Pc.lnF_cons, List.length_append, List.length_cons, List.length_nil] <;> omega
  rw [e_]
  exact ⟨rfl, h⟩
set_option maxHeartbeats 4000000 in
set_option maxRecDepth 100000 in
theorem bytes_calls {w0 w : World} {F0 : Nat → Prop} {R : List Sx.HP} (Φ : World → Prop) (T : Pc.AT) (hT : ∀ W, Φ W → Pc.At W T) (h : Sx.St w0 F0 ([Pc.lib (Φ)] ++ R) w) : Calls Try.prog 39 #[.pointer (Pc.AT.ptr T)] w (fun e w1 => e = .returned (.int .i64 (Pc.szF (Pc.AT.fl T))) ∧ Sx.St w0 F0 ([Pc.lib (Φ)] ++ R) w1) := by
 refine Sx.calls_fn (vs := [.pointer (Pc.AT.ptr T)]) Try.func39 rfl Try.ntmps39 rfl ?_
 refine wc_seq ?_
 refine wc_region ?_
 refine wl_v rfl rfl (ov_assign _ rfl) ?_
 refine wl_nil ?_
 refine qn_then ?_
 refine wc_seq ?_
 refine wc_seq ?_
 refine wc_region ?_
 refine wl_v rfl rfl (ov_move _ rfl) ?_
 refine wl_v rfl rfl (ov_bin _ rfl rfl (binR_eqnil Try.underlying66)) ?_
 refine wl_nil ?_
 refine qn_then ?_
 refine wc_cond (by rfl) (fun c1 => ?_) (fun c1 => ?_)
 ·
  obtain rfl := Pc.AT.ptr_none c1
  refine wc_seq ?_
  refine wc_region ?_
  refine wl_v rfl rfl (ov_assign _ rfl) ?_
  refine wl_nil ?_
  refine qn_then ?_
  refine wc_ret ?_
  refine qn_then_ret ?_
  refine qn_ret [_] ⟨rfl, trivial⟩ ?_
  have e_ : Pc.szF (Pc.AT.fl Pc.AT.nil) = 0 := by
    simp only [Pc.AT.fl, Pc.AT.ht, Pc.szF_app, Pc.szF_cons, Pc.szF_nil, Pc.lnF_nil, Pc.lnF_app, Pc.lnF_cons, List.length_append, List.length_cons, List.length_nil] <;> omega
  rw [e_]
  exact ⟨rfl, h⟩
 ·
  obtain ⟨g2, tl3, tp4, tr5, rfl⟩ := Pc.AT.ptr_some c1
  refine wc_skip ?_
  refine qn_then ?_
  refine wc_seq ?_
  refine wc_region ?_
  refine wl_v rfl rfl (ov_move _ rfl) ?_
  refine wl_v rfl rfl (ov_nilCheck _ rfl) ?_
  refine wl_v rfl rfl (ov_fieldAddr _ ⟨g2, 7, none⟩ _ rfl fo89_4 rfl) ?_
  refine wl_v rfl rfl (ov_load1 ⟨g2, 7, none⟩ _ rfl sh3 (((Pc.at_cell (hT _ (Pc.lib_now h (i := 0) rfl))) 7).trans rfl)) ?_
  refine wl_v rfl rfl (ov_assign _ rfl) ?_
  refine wl_nil ?_
  refine qn_then ?_
  refine wc_ret ?_
  refine qn_ret [_] ⟨rfl, trivial⟩ ?_
  have e_ : Pc.szF (Pc.AT.fl (Pc.AT.nd g2 tl3 tp4 tr5)) = Pc.szF (Pc.AT.fl tl3) + (tp4).f2 + Pc.szF (Pc.AT.fl tr5) := by
    simp only [Pc.AT.fl, Pc.AT.ht, Pc.szF_app, Pc.szF_cons, Pc.szF_nil, Pc.lnF_nil, Pc.lnF_app, Pc.lnF_cons, List.length_append, List.length_cons, List.length_nil] <;> omega
  rw [e_]
  exact ⟨rfl, h⟩
set_option maxHeartbeats 4000000 in
set_option maxRecDepth 100000 in
theorem ends_calls {w0 w : World} {F0 : Nat → Prop} {R : List Sx.HP} (Φ : World → Prop) (T : Pc.AT) (hT : ∀ W, Φ W → Pc.At W T) (h : Sx.St w0 F0 ([Pc.lib (Φ)] ++ R) w) : Calls Try.prog 43 #[.pointer (Pc.AT.ptr T)] w (fun e w1 => e = .returned (.int .i64 (Pc.lnF (Pc.AT.fl T))) ∧ Sx.St w0 F0 ([Pc.lib (Φ)] ++ R) w1) := by
 refine Sx.calls_fn (vs := [.pointer (Pc.AT.ptr T)]) Try.func43 rfl Try.ntmps43 rfl ?_
 refine wc_seq ?_
 refine wc_region ?_
 refine wl_v rfl rfl (ov_assign _ rfl) ?_
 refine wl_nil ?_
 refine qn_then ?_
 refine wc_seq ?_
 refine wc_seq ?_
 refine wc_region ?_
 refine wl_v rfl rfl (ov_move _ rfl) ?_
 refine wl_v rfl rfl (ov_bin _ rfl rfl (binR_eqnil Try.underlying66)) ?_
 refine wl_nil ?_
 refine qn_then ?_
 refine wc_cond (by rfl) (fun c1 => ?_) (fun c1 => ?_)
 ·
  obtain rfl := Pc.AT.ptr_none c1
  refine wc_seq ?_
  refine wc_region ?_
  refine wl_v rfl rfl (ov_assign _ rfl) ?_
  refine wl_nil ?_
  refine qn_then ?_
  refine wc_ret ?_
  refine qn_then_ret ?_
  refine qn_ret [_] ⟨rfl, trivial⟩ ?_
  have e_ : Pc.lnF (Pc.AT.fl Pc.AT.nil) = 0 := by
    simp only [Pc.AT.fl, Pc.AT.ht, Pc.szF_app, Pc.szF_cons, Pc.szF_nil, Pc.lnF_nil, Pc.lnF_app, Pc.lnF_cons, List.length_append, List.length_cons, List.length_nil] <;> omega
  rw [e_]
  exact ⟨rfl, h⟩
 ·
  obtain ⟨g2, tl3, tp4, tr5, rfl⟩ := Pc.AT.ptr_some c1
  refine wc_skip ?_
  refine qn_then ?_
  refine wc_seq ?_
  refine wc_region ?_
  refine wl_v rfl rfl (ov_move _ rfl) ?_
  refine wl_v rfl rfl (ov_nilCheck _ rfl) ?_
  refine wl_v rfl rfl (ov_fieldAddr _ ⟨g2, 8, none⟩ _ rfl fo89_5 rfl) ?_
  refine wl_v rfl rfl (ov_load1 ⟨g2, 8, none⟩ _ rfl sh3 (((Pc.at_cell (hT _ (Pc.lib_now h (i := 0) rfl))) 8).trans rfl)) ?_
  refine wl_v rfl rfl (ov_assign _ rfl) ?_
  refine wl_nil ?_
  refine qn_then ?_
  refine wc_ret ?_
  refine qn_ret [_] ⟨rfl, trivial⟩ ?_
  have e_ : Pc.lnF (Pc.AT.fl (Pc.AT.nd g2 tl3 tp4 tr5)) = Pc.lnF (Pc.AT.fl tl3) + (tp4).f3 + Pc.lnF (Pc.AT.fl tr5) := by
    simp only [Pc.AT.fl, Pc.AT.ht, Pc.szF_app, Pc.szF_cons, Pc.szF_nil, Pc.lnF_nil, Pc.lnF_app, Pc.lnF_cons, List.length_append, List.length_cons, List.length_nil] <;> omega
  rw [e_]
  exact ⟨rfl, h⟩
set_option maxHeartbeats 4000000 in
set_option maxRecDepth 100000 in
theorem pieces_calls {w0 w : World} {F0 : Nat → Prop} {R : List Sx.HP} (Φ : World → Prop) (T : Pc.AT) (hT : ∀ W, Φ W → Pc.At W T) (h : Sx.St w0 F0 ([Pc.lib (Φ)] ++ R) w) : Calls Try.prog 42 #[.pointer (Pc.AT.ptr T)] w (fun e w1 => e = .returned (.int .i64 ((((Pc.AT.fl T).length : Nat) : Int))) ∧ Sx.St w0 F0 ([Pc.lib (Φ)] ++ R) w1) := by
 refine Sx.calls_fn (vs := [.pointer (Pc.AT.ptr T)]) Try.func42 rfl Try.ntmps42 rfl ?_
 refine wc_seq ?_
 refine wc_region ?_
 refine wl_v rfl rfl (ov_assign _ rfl) ?_
 refine wl_nil ?_
 refine qn_then ?_
 refine wc_seq ?_
 refine wc_seq ?_
 refine wc_region ?_
 refine wl_v rfl rfl (ov_move _ rfl) ?_
 refine wl_v rfl rfl (ov_bin _ rfl rfl (binR_eqnil Try.underlying66)) ?_
 refine wl_nil ?_
 refine qn_then ?_
 refine wc_cond (by rfl) (fun c1 => ?_) (fun c1 => ?_)
 ·
  obtain rfl := Pc.AT.ptr_none c1
  refine wc_seq ?_
  refine wc_region ?_
  refine wl_v rfl rfl (ov_assign _ rfl) ?_
  refine wl_nil ?_
  refine qn_then ?_
  refine wc_ret ?_
  refine qn_then_ret ?_
  refine qn_ret [_] ⟨rfl, trivial⟩ ?_
  have e_ : (((Pc.AT.fl Pc.AT.nil).length : Nat) : Int) = 0 := by
    simp only [Pc.AT.fl, Pc.AT.ht, Pc.szF_app, Pc.szF_cons, Pc.szF_nil, Pc.lnF_nil, Pc.lnF_app, Pc.lnF_cons, List.length_append, List.length_cons, List.length_nil] <;> omega
  rw [e_]
  exact ⟨rfl, h⟩
 ·
  obtain ⟨g2, tl3, tp4, tr5, rfl⟩ := Pc.AT.ptr_some c1
  refine wc_skip ?_
  refine qn_then ?_
  refine wc_seq ?_
  refine wc_region ?_
  refine wl_v rfl rfl (ov_move _ rfl) ?_
  refine wl_v rfl rfl (ov_nilCheck _ rfl) ?_
  refine wl_v rfl rfl (ov_fieldAddr _ ⟨g2, 9, none⟩ _ rfl fo89_6 rfl) ?_
  refine wl_v rfl rfl (ov_load1 ⟨g2, 9, none⟩ _ rfl sh3 (((Pc.at_cell (hT _ (Pc.lib_now h (i := 0) rfl))) 9).trans rfl)) ?_
  refine wl_v rfl rfl (ov_assign _ rfl) ?_
  refine wl_nil ?_
  refine qn_then ?_
  refine wc_ret ?_
  refine qn_ret [_] ⟨rfl, trivial⟩ ?_
  have e_ : (((Pc.AT.fl (Pc.AT.nd g2 tl3 tp4 tr5)).length : Nat) : Int) = (((Pc.AT.fl tl3).length : Nat) : Int) + 1 + (((Pc.AT.fl tr5).length : Nat) : Int) := by
    simp only [Pc.AT.fl, Pc.AT.ht, Pc.szF_app, Pc.szF_cons, Pc.szF_nil, Pc.lnF_nil, Pc.lnF_app, Pc.lnF_cons, List.length_append, List.length_cons, List.length_nil] <;> omega
  rw [e_]
  exact ⟨rfl, h⟩
set_option maxHeartbeats 4000000 in
set_option maxRecDepth 100000 in
theorem made_calls {w0 w : World} {F0 : Nat → Prop} {R : List Sx.HP} (Φ : World → Prop) (l : Pc.AT) (p : S77) (r : Pc.AT) (hl : ∀ W, Φ W → Pc.At W l) (hr : ∀ W, Φ W → Pc.At W r) (hsm : Pc.Sm (Pc.AT.fl l ++ p :: Pc.AT.fl r)) (h : Sx.St w0 F0 ([Pc.lib (Φ)] ++ R) w) : Calls Try.prog 60 #[.pointer (Pc.AT.ptr l), .agg #[.bool ((p).f0), .int .i64 ((p).f1), .int .i64 ((p).f2), .int .i64 ((p).f3)], .pointer (Pc.AT.ptr r)] w (fun e w1 => ∃ (g : Nat) (Φ2 : World → Prop), e = .returned (.pointer (some ⟨g, 0, none⟩)) ∧ (∀ W, Φ2 W → Φ W) ∧ (∀ W, Φ2 W → Pc.At W (.nd g l p r)) ∧ Sx.St w0 F0 ([Pc.lib Φ2] ++ R) w1) := by
 have hm_ := Pc.sm_mid hsm
 have hl1_ := Pc.sm_all hm_.1
 have hr1_ := Pc.sm_all hm_.2.1
 have hh1_ := Pc.AT.ht_le l
 have hh2_ := Pc.AT.ht_le r
 have hh3_ := Pc.AT.ht_nonneg l
 have hh4_ := Pc.AT.ht_nonneg r
 refine Sx.calls_fn (vs := [.pointer (Pc.AT.ptr l), .agg #[.bool ((p).f0), .int .i64 ((p).f1), .int .i64 ((p).f2), .int .i64 ((p).f3)], .pointer (Pc.AT.ptr r)]) Try.func60 rfl Try.ntmps60 rfl ?_
 refine wc_seq ?_
 refine wc_region ?_
 refine wl_box _ h rfl rfl rfl (fun b1 _ h => ?_)
 replace h : Sx.St _ _ (Sx.blk b1 [.bool ((p).f0), .int .i64 ((p).f1), .int .i64 ((p).f2), .int .i64 ((p).f3)] 77 :: _) _ := h
 refine wl_v rfl rfl (ov_assign _ rfl) ?_
 refine wl_nil ?_
 refine qn_then ?_
 refine wc_seq ?_
 refine wc_draw (fun w => Sx.St w0 F0 ([Sx.blk b1 [.bool ((p).f0), .int .i64 ((p).f1), .int .i64 ((p).f2), .int .i64 ((p).f3)] 77, Pc.lib (Φ)] ++ R) w) (by kernel_rfl) ?_
 replace h := st_drew h
 refine wa_tk 0 rfl rfl rfl (st_selT [true, true] h) (fun w_ hS => ov_move _ rfl) ?_
 refine wa_tk 1 rfl rfl rfl (st_selT [true, true] h) (fun w_ hS => ov_move _ rfl) ?_
 refine wa_tk 2 rfl rfl rfl (st_selT [true, true] h) (fun w_ hS => ov_loadbN 0 [.bool ((p).f0), .int .i64 ((p).f1), .int .i64 ((p).f2), .int .i64 ((p).f3)] hS rfl rfl sh77 rfl) ?_
 refine wa_tk 3 rfl rfl rfl (st_selT [true, true] h) (fun w_ hS => ov_move _ rfl) ?_
 refine wa_tk 5 rfl rfl rfl (st_selT [true, true] h) (fun w_ hS => ov_move _ rfl) ?_
 refine wa_tk 9 rfl rfl rfl (st_selT [true, true] h) (fun w_ hS => ov_move _ rfl) ?_
 refine wa_tk 11 rfl rfl rfl (st_selT [true, true] h) (fun w_ hS => ov_fieldAddr _ ⟨b1, 2, none⟩ _ rfl fo77_2 rfl) ?_
 refine wa_tk 12 rfl rfl rfl (st_selT [true, true] h) (fun w_ hS => ov_loadb 0 _ hS rfl rfl sh3 rfl) ?_
 refine wa_tk 14 rfl rfl rfl (st_selT [true, true] h) (fun w_ hS => ov_move _ rfl) ?_
 refine wa_tk 17 rfl rfl rfl (st_selT [true, true] h) (fun w_ hS => ov_move _ rfl) ?_
 refine wa_tk 19 rfl rfl rfl (st_selT [true, true] h) (fun w_ hS => ov_fieldAddr _ ⟨b1, 3, none⟩ _ rfl fo77_3 rfl) ?_
 refine wa_tk 20 rfl rfl rfl (st_selT [true, true] h) (fun w_ hS => ov_loadb 0 _ hS rfl rfl sh3 rfl) ?_
 refine wa_tk 22 rfl rfl rfl (st_selT [true, true] h) (fun w_ hS => ov_move _ rfl) ?_
 refine wa_tk 25 rfl rfl rfl (st_selT [true, true] h) (fun w_ hS => ov_move _ rfl) ?_
 refine wa_tk 28 rfl rfl rfl (st_selT [true, true] h) (fun w_ hS => ov_move _ rfl) ?_
 refine wa_one 4 rfl (by kernel_rfl) ?_
 replace h := st_front 1 h
 refine wl_call _ rfl rfl rfl ent44 (TR.high_calls (R := [Sx.blk b1 [.bool ((p).f0), .int .i64 ((p).f1), .int .i64 ((p).f2), .int .i64 ((p).f3)] 77] ++ R) (Φ) l hl h) ?_
 rintro e_ w_ ⟨rfl, h⟩
 refine ⟨_, rfl, ?_⟩
 refine wl_nil ?_
 refine qn_wa (st_selT [true, true] (st_front 1 h)) ?_
 refine wa_one 6 rfl (by kernel_rfl) ?_
 refine wl_call _ rfl rfl rfl ent44 (TR.high_calls (R := [Sx.blk b1 [.bool ((p).f0), .int .i64 ((p).f1), .int .i64 ((p).f2), .int .i64 ((p).f3)] 77] ++ R) (Φ) r hr h) ?_
 rintro e_ w_ ⟨rfl, h⟩
 refine ⟨_, rfl, ?_⟩
 refine wl_nil ?_
 refine qn_wa (st_selT [true, true] (st_front 1 h)) ?_
 refine wa_tk 7 rfl rfl rfl (st_selT [true, true] (st_front 1 h)) (fun w_ hS => ov_max _ _ _ (max (Pc.AT.ht l) (Pc.AT.ht r)) rfl rfl rfl) ?_
 refine wa_tk 8 rfl rfl rfl (st_selT [true, true] (st_front 1 h)) (fun w_ hS => ov_bin _ rfl rfl (binR_add (r := 1 + (max (Pc.AT.ht l) (Pc.AT.ht r))) (Sx.w64 (by omega)))) ?_
 refine wa_one 10 rfl (by kernel_rfl) ?_
 refine wl_call _ rfl rfl rfl ent39 (TR.bytes_calls (R := [Sx.blk b1 [.bool ((p).f0), .int .i64 ((p).f1), .int .i64 ((p).f2), .int .i64 ((p).f3)] 77] ++ R) (Φ) l hl h) ?_
 rintro e_ w_ ⟨rfl, h⟩
 refine ⟨_, rfl, ?_⟩
 refine wl_nil ?_
 refine qn_wa (st_selT [true, true] (st_front 1 h)) ?_
 refine wa_tk 13 rfl rfl rfl (st_selT [true, true] (st_front 1 h)) (fun w_ hS => ov_bin _ rfl rfl (binR_add (r := (Pc.szF (Pc.AT.fl l)) + ((p).f2)) (Sx.w64 (by omega)))) ?_
 refine wa_one 15 rfl (by kernel_rfl) ?_
 refine wl_call _ rfl rfl rfl ent39 (TR.bytes_calls (R := [Sx.blk b1 [.bool ((p).f0), .int .i64 ((p).f1), .int .i64 ((p).f2), .int .i64 ((p).f3)] 77] ++ R) (Φ) r hr h) ?_
 rintro e_ w_ ⟨rfl, h⟩
 refine ⟨_, rfl, ?_⟩
 refine wl_nil ?_
 refine qn_wa (st_selT [true, true] (st_front 1 h)) ?_
 refine wa_tk 16 rfl rfl rfl (st_selT [true, true] (st_front 1 h)) (fun w_ hS => ov_bin _ rfl rfl (binR_add (r := ((Pc.szF (Pc.AT.fl l)) + ((p).f2)) + (Pc.szF (Pc.AT.fl r))) (Sx.w64 (by omega)))) ?_
 refine wa_one 18 rfl (by kernel_rfl) ?_
 refine wl_call _ rfl rfl rfl ent43 (TR.ends_calls (R := [Sx.blk b1 [.bool ((p).f0), .int .i64 ((p).f1), .int .i64 ((p).f2), .int .i64 ((p).f3)] 77] ++ R) (Φ) l hl h) ?_
 rintro e_ w_ ⟨rfl, h⟩
 refine ⟨_, rfl, ?_⟩
 refine wl_nil ?_
 refine qn_wa (st_selT [true, true] (st_front 1 h)) ?_
 refine wa_tk 21 rfl rfl rfl (st_selT [true, true] (st_front 1 h)) (fun w_ hS => ov_bin _ rfl rfl (binR_add (r := (Pc.lnF (Pc.AT.fl l)) + ((p).f3)) (Sx.w64 (by omega)))) ?_
 refine wa_one 23 rfl (by kernel_rfl) ?_
 refine wl_call _ rfl rfl rfl ent43 (TR.ends_calls (R := [Sx.blk b1 [.bool ((p).f0), .int .i64 ((p).f1), .int .i64 ((p).f2), .int .i64 ((p).f3)] 77] ++ R) (Φ) r hr h) ?_
 rintro e_ w_ ⟨rfl, h⟩
 refine ⟨_, rfl, ?_⟩
 refine wl_nil ?_
 refine qn_wa (st_selT [true, true] (st_front 1 h)) ?_
 refine wa_tk 24 rfl rfl rfl (st_selT [true, true] (st_front 1 h)) (fun w_ hS => ov_bin _ rfl rfl (binR_add (r := ((Pc.lnF (Pc.AT.fl l)) + ((p).f3)) + (Pc.lnF (Pc.AT.fl r))) (Sx.w64 (by omega)))) ?_
 refine wa_one 26 rfl (by kernel_rfl) ?_
 refine wl_call _ rfl rfl rfl ent42 (TR.pieces_calls (R := [Sx.blk b1 [.bool ((p).f0), .int .i64 ((p).f1), .int .i64 ((p).f2), .int .i64 ((p).f3)] 77] ++ R) (Φ) l hl h) ?_
 rintro e_ w_ ⟨rfl, h⟩
 refine ⟨_, rfl, ?_⟩
 refine wl_nil ?_
 refine qn_wa (st_selT [true, true] (st_front 1 h)) ?_
 refine wa_tk 27 rfl rfl rfl (st_selT [true, true] (st_front 1 h)) (fun w_ hS => ov_bin _ rfl rfl (binR_add (r := ((((Pc.AT.fl l).length : Nat) : Int)) + 1) (Sx.w64 (by omega)))) ?_
 refine wa_one 29 rfl (by kernel_rfl) ?_
 refine wl_call _ rfl rfl rfl ent42 (TR.pieces_calls (R := [Sx.blk b1 [.bool ((p).f0), .int .i64 ((p).f1), .int .i64 ((p).f2), .int .i64 ((p).f3)] 77] ++ R) (Φ) r hr h) ?_
 rintro e_ w_ ⟨rfl, h⟩
 refine ⟨_, rfl, ?_⟩
 refine wl_nil ?_
 refine qn_wa (st_selT [true, true] (st_front 1 h)) ?_
 refine wa_tk 30 rfl rfl rfl (st_selT [true, true] (st_front 1 h)) (fun w_ hS => ov_bin _ rfl rfl (binR_add (r := (((((Pc.AT.fl l).length : Nat) : Int)) + 1) + ((((Pc.AT.fl r).length : Nat) : Int))) (Sx.w64 (by omega)))) ?_
 refine wa_tk 31 rfl rfl rfl (st_selT [true, true] (st_front 1 h)) (fun w_ hS => ov_build [(0, .pointer (Pc.AT.ptr l)), (1, .pointer (Pc.AT.ptr r)), (2, .agg #[.bool ((p).f0), .int .i64 ((p).f1), .int .i64 ((p).f2), .int .i64 ((p).f3)]), (3, .int .i64 (1 + (max (Pc.AT.ht l) (Pc.AT.ht r)))), (4, .int .i64 (((Pc.szF (Pc.AT.fl l)) + ((p).f2)) + (Pc.szF (Pc.AT.fl r)))), (5, .int .i64 (((Pc.lnF (Pc.AT.fl l)) + ((p).f3)) + (Pc.lnF (Pc.AT.fl r)))), (6, .int .i64 ((((((Pc.AT.fl l).length : Nat) : Int)) + 1) + ((((Pc.AT.fl r).length : Nat) : Int))))] [.pointer (Pc.AT.ptr l), .pointer (Pc.AT.ptr r), .bool ((p).f0), .int .i64 ((p).f1), .int .i64 ((p).f2), .int .i64 ((p).f3), .int .i64 (1 + (max (Pc.AT.ht l) (Pc.AT.ht r))), .int .i64 (((Pc.szF (Pc.AT.fl l)) + ((p).f2)) + (Pc.szF (Pc.AT.fl r))), .int .i64 (((Pc.lnF (Pc.AT.fl l)) + ((p).f3)) + (Pc.lnF (Pc.AT.fl r))), .int .i64 ((((((Pc.AT.fl l).length : Nat) : Int)) + 1) + ((((Pc.AT.fl r).length : Nat) : Int)))] rfl rfl (by kernel_rfl)) ?_
 refine wa_one 32 rfl (by kernel_rfl) ?_
 refine wl_box _ h rfl rfl rfl (fun b2 _ h => ?_)
 replace h : Sx.St _ _ (Sx.blk b2 [.pointer (Pc.AT.ptr l), .pointer (Pc.AT.ptr r), .bool ((p).f0), .int .i64 ((p).f1), .int .i64 ((p).f2), .int .i64 ((p).f3), .int .i64 (1 + (max (Pc.AT.ht l) (Pc.AT.ht r))), .int .i64 (((Pc.szF (Pc.AT.fl l)) + ((p).f2)) + (Pc.szF (Pc.AT.fl r))), .int .i64 (((Pc.lnF (Pc.AT.fl l)) + ((p).f3)) + (Pc.lnF (Pc.AT.fl r))), .int .i64 ((((((Pc.AT.fl l).length : Nat) : Int)) + 1) + ((((Pc.AT.fl r).length : Nat) : Int)))] 89 :: _) _ := h
 refine wl_nil ?_
 refine qn_wa (st_selT [true, true, false] (st_front 2 (st_front 1 h))) ?_
 refine wa_tk 33 rfl rfl rfl (st_selT [true, true, false] (st_front 2 (st_front 1 h))) (fun w_ hS => ov_assign _ rfl) ?_
 refine wa_done (by kernel_rfl) ?_
 refine qn_then ?_
 refine wc_ret ?_
 replace h := st_front 1 h
 replace h := st_front 1 h
 replace h := st_selT [true, true, false] h
 have hs1_ := h
 replace h := Pc.lib_add h
 refine qn_ret [_] ⟨rfl, trivial⟩ ?_
 refine ⟨b2, _, rfl, fun W_ z_ => z_.1, fun W_ z_ => ⟨?_, hl W_ z_.1, hr W_ z_.1⟩, h⟩
 rw [z_.2]
 simp only [Pc.ndc]
 try rfl
set_option maxHeartbeats 4000000 in
set_option maxRecDepth 100000 in
theorem leftward_calls {w0 w : World} {F0 : Nat → Prop} {R : List Sx.HP} (Φ : World → Prop) (g1 g2 : Nat) (a : Pc.AT) (b : Pc.AT) (c : Pc.AT) (x y : S77) (hT : ∀ W, Φ W → Pc.At W (Pc.AT.nd g1 a x (Pc.AT.nd g2 b y c))) (hsm : Pc.Sm (Pc.AT.fl (Pc.AT.nd g1 a x (Pc.AT.nd g2 b y c)))) (h : Sx.St w0 F0 ([Pc.lib (Φ)] ++ R) w) : Calls Try.prog 70 #[.pointer (some ⟨g1, 0, none⟩)] w (fun e w1 => ∃ (g3 g4 : Nat) (Φ2 : World → Prop), e = .returned (.pointer (some ⟨g4, 0, none⟩)) ∧ (∀ W, Φ2 W → Φ W) ∧ (∀ W, Φ2 W → Pc.At W (.nd g4 (Pc.AT.nd g3 a x b) y c)) ∧ Sx.St w0 F0 ([Pc.lib Φ2] ++ R) w1) := by
 refine Sx.calls_fn (vs := [.pointer (some ⟨g1, 0, none⟩)]) Try.func70 rfl Try.ntmps70 rfl ?_
 refine wc_seq ?_
 refine wc_region ?_
 refine wl_v rfl rfl (ov_assign _ rfl) ?_
 refine wl_nil ?_
 refine qn_then ?_
 refine wc_seq ?_
 refine wc_region ?_
 refine wl_v rfl rfl (ov_move _ rfl) ?_
 refine wl_v rfl rfl (ov_nilCheck _ rfl) ?_
 refine wl_v rfl rfl (ov_fieldAddr _ ⟨g1, 1, none⟩ _ rfl fo89_1 rfl) ?_
 refine wl_v rfl rfl (ov_load1 ⟨g1, 1, none⟩ _ rfl sh66 (((Pc.at_cell (hT _ (Pc.lib_now h (i := 0) rfl))) 1).trans rfl)) ?_
 refine wl_v rfl rfl (ov_assign _ rfl) ?_
 refine wl_nil ?_
 refine qn_then ?_
 refine wc_seq ?_
 refine wc_draw (fun w => Sx.St w0 F0 ([Pc.lib (Φ)] ++ R) w) (by kernel_rfl) ?_
 replace h := st_drew h
 refine wa_tk 0 rfl rfl rfl (st_selT [true] h) (fun w_ hS => ov_move _ rfl) ?_
 refine wa_tk 1 rfl rfl rfl (st_selT [true] h) (fun w_ hS => ov_nilCheck _ rfl) ?_
 refine wa_tk 2 rfl rfl rfl (st_selT [true] h) (fun w_ hS => ov_fieldAddr _ ⟨g1, 0, none⟩ _ rfl fo89_0 rfl) ?_
 refine wa_tk 3 rfl rfl rfl (st_selT [true] h) (fun w_ hS => ov_load1 ⟨g1, 0, none⟩ _ rfl sh66 (((Pc.at_cell (hT _ (Pc.lib_now hS (i := 0) rfl))) 0).trans rfl)) ?_
 refine wa_tk 4 rfl rfl rfl (st_selT [true] h) (fun w_ hS => ov_move _ rfl) ?_
 refine wa_tk 5 rfl rfl rfl (st_selT [true] h) (fun w_ hS => ov_nilCheck _ rfl) ?_
 refine wa_tk 6 rfl rfl rfl (st_selT [true] h) (fun w_ hS => ov_fieldAddr _ ⟨g1, 2, none⟩ _ rfl fo89_2 rfl) ?_
 refine wa_tk 7 rfl rfl rfl (st_selT [true] h) (fun w_ hS => ov_loadN ⟨g1, 2, none⟩ [.bool ((x).f0), .int .i64 ((x).f1), .int .i64 ((x).f2), .int .i64 ((x).f3)] rfl sh77 (Sx.rob_cells ((Pc.at_cell (hT _ (Pc.lib_now hS (i := 0) rfl)))) 2 rfl)) ?_
 refine wa_tk 8 rfl rfl rfl (st_selT [true] h) (fun w_ hS => ov_move _ rfl) ?_
 refine wa_tk 9 rfl rfl rfl (st_selT [true] h) (fun w_ hS => ov_nilCheck _ rfl) ?_
 refine wa_tk 10 rfl rfl rfl (st_selT [true] h) (fun w_ hS => ov_fieldAddr _ ⟨g2, 0, none⟩ _ rfl fo89_0 rfl) ?_
 refine wa_tk 11 rfl rfl rfl (st_selT [true] h) (fun w_ hS => ov_load1 ⟨g2, 0, none⟩ _ rfl sh66 (((Pc.at_cell ((fun W_ z_ => (hT W_ z_).2.2) _ (Pc.lib_now hS (i := 0) rfl))) 0).trans rfl)) ?_
 refine wa_tk 13 rfl rfl rfl (st_selT [true] h) (fun w_ hS => ov_move _ rfl) ?_
 refine wa_tk 14 rfl rfl rfl (st_selT [true] h) (fun w_ hS => ov_nilCheck _ rfl) ?_
 refine wa_tk 15 rfl rfl rfl (st_selT [true] h) (fun w_ hS => ov_fieldAddr _ ⟨g2, 2, none⟩ _ rfl fo89_2 rfl) ?_
 refine wa_tk 16 rfl rfl rfl (st_selT [true] h) (fun w_ hS => ov_loadN ⟨g2, 2, none⟩ [.bool ((y).f0), .int .i64 ((y).f1), .int .i64 ((y).f2), .int .i64 ((y).f3)] rfl sh77 (Sx.rob_cells ((Pc.at_cell ((fun W_ z_ => (hT W_ z_).2.2) _ (Pc.lib_now hS (i := 0) rfl)))) 2 rfl)) ?_
 refine wa_tk 17 rfl rfl rfl (st_selT [true] h) (fun w_ hS => ov_move _ rfl) ?_
 refine wa_tk 18 rfl rfl rfl (st_selT [true] h) (fun w_ hS => ov_nilCheck _ rfl) ?_
 refine wa_tk 19 rfl rfl rfl (st_selT [true] h) (fun w_ hS => ov_fieldAddr _ ⟨g2, 1, none⟩ _ rfl fo89_1 rfl) ?_
 refine wa_tk 20 rfl rfl rfl (st_selT [true] h) (fun w_ hS => ov_load1 ⟨g2, 1, none⟩ _ rfl sh66 (((Pc.at_cell ((fun W_ z_ => (hT W_ z_).2.2) _ (Pc.lib_now hS (i := 0) rfl))) 1).trans rfl)) ?_
 refine wa_one 12 rfl (by kernel_rfl) ?_
 refine wl_call _ rfl rfl rfl ent60 (TR.made_calls (R := [] ++ R) (Φ) a x b (fun W_ z_ => (hT W_ z_).2.1) (fun W_ z_ => (hT W_ z_).2.2.2.1) (by first | assumption | (refine Pc.sm_eq hsm ?_; simp only [Pc.AT.fl] at hf_ ⊢; rw [hf_]; simp; done) | exact Pc.sm_of hsm (by simp only [Pc.AT.fl, List.length_append, List.length_cons, List.length_nil]; omega) (fun q_ hq_ => by simp only [Pc.AT.fl, List.mem_append, List.mem_cons, List.not_mem_nil, or_false, false_or] at hq_ ⊢; grind)) h) ?_
 rintro e_ w_ ⟨gm1, Φ2, rfl, hsub3, hT4, h⟩
 refine ⟨_, rfl, ?_⟩
 refine wl_nil ?_
 refine qn_wa (Pc.lib_weakn 0 (fun W_ z_ => (hsub3 W_ z_)) (st_selT [true] h) rfl) ?_
 refine wa_one 21 rfl (by kernel_rfl) ?_
 refine wl_call _ rfl rfl rfl ent60 (TR.made_calls (R := [] ++ R) (Φ2) (Pc.AT.nd gm1 a x b) y c hT4 (fun W_ z_ => (fun W_ z_ => (hT W_ z_).2.2.2.2) W_ (hsub3 W_ z_)) (by first | assumption | (refine Pc.sm_eq hsm ?_; simp only [Pc.AT.fl] at hf_ ⊢; rw [hf_]; simp; done) | exact Pc.sm_of hsm (by simp only [Pc.AT.fl, List.length_append, List.length_cons, List.length_nil]; omega) (fun q_ hq_ => by simp only [Pc.AT.fl, List.mem_append, List.mem_cons, List.not_mem_nil, or_false, false_or] at hq_ ⊢; grind)) h) ?_
 rintro e_ w_ ⟨gm5, Φ6, rfl, hsub7, hT8, h⟩
 refine ⟨_, rfl, ?_⟩
 refine wl_nil ?_
 refine qn_wa (Pc.lib_weakn 0 (fun W_ z_ => (hsub3 W_ (hsub7 W_ z_))) (st_selT [true] h) rfl) ?_
 refine wa_tk 22 rfl rfl rfl (Pc.lib_weakn 0 (fun W_ z_ => (hsub3 W_ (hsub7 W_ z_))) (st_selT [true] h) rfl) (fun w_ hS => ov_assign _ rfl) ?_
 refine wa_done (by kernel_rfl) ?_
 refine qn_then ?_
 refine wc_ret ?_
 refine qn_ret [_] ⟨rfl, trivial⟩ ?_
 exact ⟨gm1, gm5, _, rfl, fun W_ z_ => (hsub3 W_ (hsub7 W_ z_)), hT8, h⟩
set_option maxHeartbeats 4000000 in
set_option maxRecDepth 100000 in
theorem rightward_calls {w0 w : World} {F0 : Nat → Prop} {R : List Sx.HP} (Φ : World → Prop) (g1 g2 : Nat) (a : Pc.AT) (b : Pc.AT) (c : Pc.AT) (x y : S77) (hT : ∀ W, Φ W → Pc.At W (Pc.AT.nd g1 (Pc.AT.nd g2 a x b) y c)) (hsm : Pc.Sm (Pc.AT.fl (Pc.AT.nd g1 (Pc.AT.nd g2 a x b) y c))) (h : Sx.St w0 F0 ([Pc.lib (Φ)] ++ R) w) : Calls Try.prog 71 #[.pointer (some ⟨g1, 0, none⟩)] w (fun e w1 => ∃ (g3 g4 : Nat) (Φ2 : World → Prop), e = .returned (.pointer (some ⟨g4, 0, none⟩)) ∧ (∀ W, Φ2 W → Φ W) ∧ (∀ W, Φ2 W → Pc.At W (.nd g4 a x (Pc.AT.nd g3 b y c))) ∧ Sx.St w0 F0 ([Pc.lib Φ2] ++ R) w1) := by
 refine Sx.calls_fn (vs := [.pointer (some ⟨g1, 0, none⟩)]) Try.func71 rfl Try.ntmps71 rfl ?_
 refine wc_seq ?_
 refine wc_region ?_
 refine wl_v rfl rfl (ov_assign _ rfl) ?_
 refine wl_nil ?_
 refine qn_then ?_
 refine wc_seq ?_
 refine wc_region ?_
 refine wl_v rfl rfl (ov_move _ rfl) ?_
 refine wl_v rfl rfl (ov_nilCheck _ rfl) ?_
 refine wl_v rfl rfl (ov_fieldAddr _ ⟨g1, 0, none⟩ _ rfl fo89_0 rfl) ?_
 refine wl_v rfl rfl (ov_load1 ⟨g1, 0, none⟩ _ rfl sh66 (((Pc.at_cell (hT _ (Pc.lib_now h (i := 0) rfl))) 0).trans rfl)) ?_
 refine wl_v rfl rfl (ov_assign _ rfl) ?_
 refine wl_nil ?_
 refine qn_then ?_
 refine wc_seq ?_
 refine wc_draw (fun w => Sx.St w0 F0 ([Pc.lib (Φ)] ++ R) w) (by kernel_rfl) ?_
 replace h := st_drew h
 refine wa_tk 0 rfl rfl rfl (st_selT [true] h) (fun w_ hS => ov_move _ rfl) ?_
 refine wa_tk 1 rfl rfl rfl (st_selT [true] h) (fun w_ hS => ov_nilCheck _ rfl) ?_
 refine wa_tk 2 rfl rfl rfl (st_selT [true] h) (fun w_ hS => ov_fieldAddr _ ⟨g2, 0, none⟩ _ rfl fo89_0 rfl) ?_
 refine wa_tk 3 rfl rfl rfl (st_selT [true] h) (fun w_ hS => ov_load1 ⟨g2, 0, none⟩ _ rfl sh66 (((Pc.at_cell ((fun W_ z_ => (hT W_ z_).2.1) _ (Pc.lib_now hS (i := 0) rfl))) 0).trans rfl)) ?_
 refine wa_tk 4 rfl rfl rfl (st_selT [true] h) (fun w_ hS => ov_move _ rfl) ?_
 refine wa_tk 5 rfl rfl rfl (st_selT [true] h) (fun w_ hS => ov_nilCheck _ rfl) ?_
 refine wa_tk 6 rfl rfl rfl (st_selT [true] h) (fun w_ hS => ov_fieldAddr _ ⟨g2, 2, none⟩ _ rfl fo89_2 rfl) ?_
 refine wa_tk 7 rfl rfl rfl (st_selT [true] h) (fun w_ hS => ov_loadN ⟨g2, 2, none⟩ [.bool ((x).f0), .int .i64 ((x).f1), .int .i64 ((x).f2), .int .i64 ((x).f3)] rfl sh77 (Sx.rob_cells ((Pc.at_cell ((fun W_ z_ => (hT W_ z_).2.1) _ (Pc.lib_now hS (i := 0) rfl)))) 2 rfl)) ?_
 refine wa_tk 8 rfl rfl rfl (st_selT [true] h) (fun w_ hS => ov_move _ rfl) ?_
 refine wa_tk 9 rfl rfl rfl (st_selT [true] h) (fun w_ hS => ov_nilCheck _ rfl) ?_
 refine wa_tk 10 rfl rfl rfl (st_selT [true] h) (fun w_ hS => ov_fieldAddr _ ⟨g2, 1, none⟩ _ rfl fo89_1 rfl) ?_
 refine wa_tk 11 rfl rfl rfl (st_selT [true] h) (fun w_ hS => ov_load1 ⟨g2, 1, none⟩ _ rfl sh66 (((Pc.at_cell ((fun W_ z_ => (hT W_ z_).2.1) _ (Pc.lib_now hS (i := 0) rfl))) 1).trans rfl)) ?_
 refine wa_tk 12 rfl rfl rfl (st_selT [true] h) (fun w_ hS => ov_move _ rfl) ?_
 refine wa_tk 13 rfl rfl rfl (st_selT [true] h) (fun w_ hS => ov_nilCheck _ rfl) ?_
 refine wa_tk 14 rfl rfl rfl (st_selT [true] h) (fun w_ hS => ov_fieldAddr _ ⟨g1, 2, none⟩ _ rfl fo89_2 rfl) ?_
 refine wa_tk 15 rfl rfl rfl (st_selT [true] h) (fun w_ hS => ov_loadN ⟨g1, 2, none⟩ [.bool ((y).f0), .int .i64 ((y).f1), .int .i64 ((y).f2), .int .i64 ((y).f3)] rfl sh77 (Sx.rob_cells ((Pc.at_cell (hT _ (Pc.lib_now hS (i := 0) rfl)))) 2 rfl)) ?_
 refine wa_tk 16 rfl rfl rfl (st_selT [true] h) (fun w_ hS => ov_move _ rfl) ?_
 refine wa_tk 17 rfl rfl rfl (st_selT [true] h) (fun w_ hS => ov_nilCheck _ rfl) ?_
 refine wa_tk 18 rfl rfl rfl (st_selT [true] h) (fun w_ hS => ov_fieldAddr _ ⟨g1, 1, none⟩ _ rfl fo89_1 rfl) ?_
 refine wa_tk 19 rfl rfl rfl (st_selT [true] h) (fun w_ hS => ov_load1 ⟨g1, 1, none⟩ _ rfl sh66 (((Pc.at_cell (hT _ (Pc.lib_now hS (i := 0) rfl))) 1).trans rfl)) ?_
 refine wa_one 20 rfl (by kernel_rfl) ?_
 refine wl_call _ rfl rfl rfl ent60 (TR.made_calls (R := [] ++ R) (Φ) b y c (fun W_ z_ => (hT W_ z_).2.1.2.2) (fun W_ z_ => (hT W_ z_).2.2) (by first | assumption | (refine Pc.sm_eq hsm ?_; simp only [Pc.AT.fl] at hf_ ⊢; rw [hf_]; simp; done) | exact Pc.sm_of hsm (by simp only [Pc.AT.fl, List.length_append, List.length_cons, List.length_nil]; omega) (fun q_ hq_ => by simp only [Pc.AT.fl, List.mem_append, List.mem_cons, List.not_mem_nil, or_false, false_or] at hq_ ⊢; grind)) h) ?_
 rintro e_ w_ ⟨gm1, Φ2, rfl, hsub3, hT4, h⟩
 refine ⟨_, rfl, ?_⟩
 refine wl_nil ?_
 refine qn_wa (Pc.lib_weakn 0 (fun W_ z_ => (hsub3 W_ z_)) (st_selT [true] h) rfl) ?_
 refine wa_one 21 rfl (by kernel_rfl) ?_
 refine wl_call _ rfl rfl rfl ent60 (TR.made_calls (R := [] ++ R) (Φ2) a x (Pc.AT.nd gm1 b y c) (fun W_ z_ => (fun W_ z_ => (hT W_ z_).2.1.2.1) W_ (hsub3 W_ z_)) hT4 (by first | assumption | (refine Pc.sm_eq hsm ?_; simp only [Pc.AT.fl] at hf_ ⊢; rw [hf_]; simp; done) | exact Pc.sm_of hsm (by simp only [Pc.AT.fl, List.length_append, List.length_cons, List.length_nil]; omega) (fun q_ hq_ => by simp only [Pc.AT.fl, List.mem_append, List.mem_cons, List.not_mem_nil, or_false, false_or] at hq_ ⊢; grind)) h) ?_
 rintro e_ w_ ⟨gm5, Φ6, rfl, hsub7, hT8, h⟩
 refine ⟨_, rfl, ?_⟩
 refine wl_nil ?_
 refine qn_wa (Pc.lib_weakn 0 (fun W_ z_ => (hsub3 W_ (hsub7 W_ z_))) (st_selT [true] h) rfl) ?_
 refine wa_tk 22 rfl rfl rfl (Pc.lib_weakn 0 (fun W_ z_ => (hsub3 W_ (hsub7 W_ z_))) (st_selT [true] h) rfl) (fun w_ hS => ov_assign _ rfl) ?_
 refine wa_done (by kernel_rfl) ?_
 refine qn_then ?_
 refine wc_ret ?_
 refine qn_ret [_] ⟨rfl, trivial⟩ ?_
 exact ⟨gm1, gm5, _, rfl, fun W_ z_ => (hsub3 W_ (hsub7 W_ z_)), hT8, h⟩
end Go.Proofs.Ytieieindakbpoaa.TR
