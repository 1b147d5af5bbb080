/- Pruned by wip/prune.py. -/
import Derived.Test.YtieieindakbpoaaProg
import Derived.Test.YtieieindakbpoaaQSxGlue
import Derived.Test.YtieieindakbpoaaQSxRanged
import Derived.Test.YtieieindakbpoaaQSxFlow
import Derived.Test.YtieieindakbpoaaQSxKinds
import Derived.Test.YtieieindakbpoaaQPcBal
import Derived.Test.YtieieindakbpoaaQSxTree
namespace Go.Proofs.Ytieieindakbpoaa.TJ
open Go Go.RowKit Go.Proofs.YtieieindakbpoaaW.PrintWords Go.Proofs.Ytieieindakbpoaa.Kinds Go.Proofs.Ytieieindakbpoaa.Sx 
set_option linter.unusedVariables false
set_option linter.unusedSimpArgs false
theorem fo89_1 : Sx.fieldOff Try.prog 89 1 = some 1 := by kernel_rfl
theorem sh66 : Sx.shapeOf Try.prog 66 = some (false, 1) := by kernel_rfl
theorem ent44 : Sx.Ent Try.prog 44 := ⟨Try.f44, Try.func44, by kernel_rfl, by kernel_rfl⟩
theorem sh77 : Sx.shapeOf Try.prog 77 = some (true, 4) := by kernel_rfl
theorem ent60 : Sx.Ent Try.prog 60 := ⟨Try.f60, Try.func60, by kernel_rfl, by kernel_rfl⟩
theorem fo89_0 : Sx.fieldOff Try.prog 89 0 = some 0 := by kernel_rfl
theorem fo89_2 : Sx.fieldOff Try.prog 89 2 = some 2 := by kernel_rfl
theorem ent71 : Sx.Ent Try.prog 71 := ⟨Try.f71, Try.func71, by kernel_rfl, by kernel_rfl⟩
theorem ent70 : Sx.Ent Try.prog 70 := ⟨Try.f70, Try.func70, by kernel_rfl, by kernel_rfl⟩
theorem ent64 : Sx.Ent Try.prog 64 := ⟨Try.f64, Try.func64, by kernel_rfl, by kernel_rfl⟩
theorem ent65 : Sx.Ent Try.prog 65 := ⟨Try.f65, Try.func65, by kernel_rfl, by kernel_rfl⟩
set_option maxHeartbeats 4000000 in
set_option maxRecDepth 100000 in
theorem joinRight_step (N : Nat) (ih : ∀ {w0 w : World} {F0 : Nat → Prop} {R : List Sx.HP} (Φ : World → Prop) (l : Pc.AT) (p : S77) (r : Pc.AT) (hl : ∀ W, Φ W → Pc.At W l) (hr : ∀ W, Φ W → Pc.At W r) (hbl : Pc.AT.bal l) (hbr : Pc.AT.bal r) (hsm : Pc.Sm (Pc.AT.fl l ++ p :: Pc.AT.fl r)) (hgt : Pc.AT.ht r + 1 < Pc.AT.ht l) (hN : Pc.AT.cnt l < N) (h : Sx.St w0 F0 ([Pc.lib (Φ)] ++ R) w), Calls Try.prog 64 #[.pointer (Pc.AT.ptr l), .agg #[.bool ((p).f0), .int .i64 ((p).f1), .int .i64 ((p).f2), .int .i64 ((p).f3)], .pointer (Pc.AT.ptr r)] w (fun e w1 => ∃ (T2 : Pc.AT) (Φ2 : World → Prop), e = .returned (.pointer (Pc.AT.ptr T2)) ∧ (∀ W, Φ2 W → Φ W) ∧ (∀ W, Φ2 W → Pc.At W T2) ∧ (Pc.AT.fl T2 = Pc.AT.fl l ++ p :: Pc.AT.fl r ∧ Pc.AT.bal T2 ∧ Pc.JR (Pc.AT.ht l) T2) ∧ Sx.St w0 F0 ([Pc.lib Φ2] ++ R) w1)) {w0 w : World} {F0 : Nat → Prop} {R : List Sx.HP} (Φ : World → Prop) (l : Pc.AT) (p : S77) (r : Pc.AT) (hl : ∀ W, Φ W → Pc.At W l) (hr : ∀ W, Φ W → Pc.At W r) (hbl : Pc.AT.bal l) (hbr : Pc.AT.bal r) (hsm : Pc.Sm (Pc.AT.fl l ++ p :: Pc.AT.fl r)) (hgt : Pc.AT.ht r + 1 < Pc.AT.ht l) (hN : Pc.AT.cnt l = N) (h : Sx.St w0 F0 ([Pc.lib (Φ)] ++ R) w) : Calls Try.prog 64 #[.pointer (Pc.AT.ptr l), .agg #[.bool ((p).f0), .int .i64 ((p).f1), .int .i64 ((p).f2), .int .i64 ((p).f3)], .pointer (Pc.AT.ptr r)] w (fun e w1 => ∃ (T2 : Pc.AT) (Φ2 : World → Prop), e = .returned (.pointer (Pc.AT.ptr T2)) ∧ (∀ W, Φ2 W → Φ W) ∧ (∀ W, Φ2 W → Pc.At W T2) ∧ (Pc.AT.fl T2 = Pc.AT.fl l ++ p :: Pc.AT.fl r ∧ Pc.AT.bal T2 ∧ Pc.JR (Pc.AT.ht l) T2) ∧ Sx.St w0 F0 ([Pc.lib Φ2] ++ R) w1) := by
 have hz_ := Pc.AT.ht_nonneg r
 have hq1_ := Pc.AT.ht_le l
 have hq2_ := Pc.AT.ht_le r
 have hm_ := Pc.sm_mid hsm
 obtain ⟨g1, tl2, tp3, tr4, rfl⟩ := Pc.AT.ht_pos (T := l) (by omega)
 have hht5 : Pc.AT.ht (Pc.AT.nd g1 tl2 tp3 tr4) = 1 + max (Pc.AT.ht tl2) (Pc.AT.ht tr4) := rfl
 have hh06 := Pc.AT.ht_nonneg tl2
 have hh07 := Pc.AT.ht_nonneg tr4
 have hcn_ : Pc.AT.cnt (Pc.AT.nd g1 tl2 tp3 tr4) = Pc.AT.cnt tl2 + 1 + Pc.AT.cnt tr4 := rfl
 have hbc_ := hbl.2.1
 refine Sx.calls_fn (vs := [.pointer (some ⟨g1, 0, none⟩), .agg #[.bool ((p).f0), .int .i64 ((p).f1), .int .i64 ((p).f2), .int .i64 ((p).f3)], .pointer (Pc.AT.ptr r)]) Try.func64 rfl Try.ntmps64 rfl ?_
 refine wc_seq ?_
 refine wc_region ?_
 refine wl_box _ h rfl rfl rfl (fun b8 _ h => ?_)
 replace h : Sx.St _ _ (Sx.blk b8 [.bool ((p).f0), .int .i64 ((p).f1), .int .i64 ((p).f2), .int .i64 ((p).f3)] 77 :: _) _ := h
 refine wl_v rfl rfl (ov_assign _ rfl) ?_
 refine wl_nil ?_
 refine qn_then ?_
 refine wc_seq ?_
 refine wc_region ?_
 refine wl_v rfl rfl (ov_move _ rfl) ?_
 refine wl_v rfl rfl (ov_nilCheck _ rfl) ?_
 refine wl_v rfl rfl (ov_fieldAddr _ ⟨g1, 1, none⟩ _ rfl fo89_1 rfl) ?_
 refine wl_v rfl rfl (ov_load1 ⟨g1, 1, none⟩ _ rfl sh66 (((Pc.at_cell (hl _ (Pc.lib_now h (i := 1) rfl))) 1).trans rfl)) ?_
 refine wl_v rfl rfl (ov_assign _ rfl) ?_
 refine wl_nil ?_
 refine qn_then ?_
 refine wc_seq ?_
 refine wc_seq ?_
 refine wc_region ?_
 refine wl_v rfl rfl (ov_move _ rfl) ?_
 replace h := st_front 1 h
 refine wl_call _ rfl rfl rfl ent44 (TR.high_calls (R := [Sx.blk b8 [.bool ((p).f0), .int .i64 ((p).f1), .int .i64 ((p).f2), .int .i64 ((p).f3)] 77] ++ R) (Φ) tr4 (fun W_ z_ => (hl W_ z_).2.2) h) ?_
 rintro e_ w_ ⟨rfl, h⟩
 refine ⟨_, rfl, ?_⟩
 refine wl_v rfl rfl (ov_move _ rfl) ?_
 refine wl_call _ rfl rfl rfl ent44 (TR.high_calls (R := [Sx.blk b8 [.bool ((p).f0), .int .i64 ((p).f1), .int .i64 ((p).f2), .int .i64 ((p).f3)] 77] ++ R) (Φ) r hr h) ?_
 rintro e_ w_ ⟨rfl, h⟩
 refine ⟨_, rfl, ?_⟩
 refine wl_v rfl rfl (ov_bin _ rfl rfl (binR_add (r := (Pc.AT.ht r) + 1) (Sx.w64 (by omega)))) ?_
 refine wl_v rfl rfl (ov_bin _ rfl rfl (binR_leq)) ?_
 refine wl_nil ?_
 refine qn_then ?_
 refine wc_cond (by rfl) (fun c9 => ?_) (fun c9 => ?_)
 ·
  refine wc_seq ?_
  refine wc_region ?_
  refine wl_v rfl rfl (ov_move _ rfl) ?_
  refine wl_v rfl rfl (ov_loadbN 1 [.bool ((p).f0), .int .i64 ((p).f1), .int .i64 ((p).f2), .int .i64 ((p).f3)] h rfl rfl sh77 rfl) ?_
  refine wl_v rfl rfl (ov_move _ rfl) ?_
  refine wl_call _ rfl rfl rfl ent60 (TR.made_calls (R := [Sx.blk b8 [.bool ((p).f0), .int .i64 ((p).f1), .int .i64 ((p).f2), .int .i64 ((p).f3)] 77] ++ R) (Φ) tr4 p r (fun W_ z_ => (hl W_ z_).2.2) hr (by first | assumption | (refine Pc.sm_eq hsm ?_; simp only [Pc.AT.fl] at hf_ ⊢; rw [hf_]; simp; done) | exact Pc.sm_of hsm (by simp only [Pc.AT.fl, List.length_append, List.length_cons, List.length_nil]; omega) (fun q_ hq_ => by simp only [Pc.AT.fl, List.mem_append, List.mem_cons, List.not_mem_nil, or_false, false_or] at hq_ ⊢; grind)) h) ?_
  rintro e_ w_ ⟨gm10, Φ11, rfl, hsub12, hT13, h⟩
  refine ⟨_, rfl, ?_⟩
  refine wl_v rfl rfl (ov_assign _ rfl) ?_
  refine wl_nil ?_
  refine qn_then ?_
  refine wc_seq ?_
  refine wc_seq ?_
  refine wc_draw (fun w => Sx.St w0 F0 ([Pc.lib (Φ11), Sx.blk b8 [.bool ((p).f0), .int .i64 ((p).f1), .int .i64 ((p).f2), .int .i64 ((p).f3)] 77] ++ R) w) (by kernel_rfl) ?_
  replace h := st_drew h
  refine wa_tk 0 rfl rfl rfl (st_selT [true, true] h) (fun w_ hS => ov_move _ rfl) ?_
  refine wa_tk 2 rfl rfl rfl (st_selT [true, true] h) (fun w_ hS => ov_move _ rfl) ?_
  refine wa_tk 3 rfl rfl rfl (st_selT [true, true] h) (fun w_ hS => ov_nilCheck _ rfl) ?_
  refine wa_tk 4 rfl rfl rfl (st_selT [true, true] h) (fun w_ hS => ov_fieldAddr _ ⟨g1, 0, none⟩ _ rfl fo89_0 rfl) ?_
  refine wa_tk 5 rfl rfl rfl (st_selT [true, true] h) (fun w_ hS => ov_load1 ⟨g1, 0, none⟩ _ rfl sh66 (((Pc.at_cell ((fun W_ z_ => hl W_ (hsub12 W_ z_)) _ (Pc.lib_now hS (i := 0) rfl))) 0).trans rfl)) ?_
  refine wa_one 1 rfl (by kernel_rfl) ?_
  refine wl_call _ rfl rfl rfl ent44 (TR.high_calls (R := [Sx.blk b8 [.bool ((p).f0), .int .i64 ((p).f1), .int .i64 ((p).f2), .int .i64 ((p).f3)] 77] ++ R) (Φ11) (Pc.AT.nd gm10 tr4 p r) hT13 h) ?_
  rintro e_ w_ ⟨rfl, h⟩
  refine ⟨_, rfl, ?_⟩
  refine wl_nil ?_
  refine qn_wa (st_selT [true, true] h) ?_
  refine wa_one 6 rfl (by kernel_rfl) ?_
  refine wl_call _ rfl rfl rfl ent44 (TR.high_calls (R := [Sx.blk b8 [.bool ((p).f0), .int .i64 ((p).f1), .int .i64 ((p).f2), .int .i64 ((p).f3)] 77] ++ R) (Φ11) tl2 (fun W_ z_ => (fun W_ z_ => (hl W_ z_).2.1) W_ (hsub12 W_ z_)) h) ?_
  rintro e_ w_ ⟨rfl, h⟩
  refine ⟨_, rfl, ?_⟩
  refine wl_nil ?_
  refine qn_wa (st_selT [true, true] h) ?_
  refine wa_tk 7 rfl rfl rfl (st_selT [true, true] h) (fun w_ hS => ov_bin _ rfl rfl (binR_add (r := (Pc.AT.ht tl2) + 1) (Sx.w64 (by omega)))) ?_
  refine wa_tk 8 rfl rfl rfl (st_selT [true, true] h) (fun w_ hS => ov_bin _ rfl rfl (binR_leq)) ?_
  refine wa_done (by kernel_rfl) ?_
  refine qn_then ?_
  refine wc_cond (by rfl) (fun c14 => ?_) (fun c14 => ?_)
  ·
   refine wc_seq ?_
   refine wc_draw (fun w => Sx.St w0 F0 ([Pc.lib (Φ11), Sx.blk b8 [.bool ((p).f0), .int .i64 ((p).f1), .int .i64 ((p).f2), .int .i64 ((p).f3)] 77] ++ R) w) (by kernel_rfl) ?_
   replace h := st_drew h
   refine wa_tk 0 rfl rfl rfl (st_selT [true, true] h) (fun w_ hS => ov_move _ rfl) ?_
   refine wa_tk 1 rfl rfl rfl (st_selT [true, true] h) (fun w_ hS => ov_nilCheck _ rfl) ?_
   refine wa_tk 2 rfl rfl rfl (st_selT [true, true] h) (fun w_ hS => ov_fieldAddr _ ⟨g1, 0, none⟩ _ rfl fo89_0 rfl) ?_
   refine wa_tk 3 rfl rfl rfl (st_selT [true, true] h) (fun w_ hS => ov_load1 ⟨g1, 0, none⟩ _ rfl sh66 (((Pc.at_cell ((fun W_ z_ => hl W_ (hsub12 W_ z_)) _ (Pc.lib_now hS (i := 0) rfl))) 0).trans rfl)) ?_
   refine wa_tk 4 rfl rfl rfl (st_selT [true, true] h) (fun w_ hS => ov_move _ rfl) ?_
   refine wa_tk 5 rfl rfl rfl (st_selT [true, true] h) (fun w_ hS => ov_nilCheck _ rfl) ?_
   refine wa_tk 6 rfl rfl rfl (st_selT [true, true] h) (fun w_ hS => ov_fieldAddr _ ⟨g1, 2, none⟩ _ rfl fo89_2 rfl) ?_
   refine wa_tk 7 rfl rfl rfl (st_selT [true, true] h) (fun w_ hS => ov_loadN ⟨g1, 2, none⟩ [.bool ((tp3).f0), .int .i64 ((tp3).f1), .int .i64 ((tp3).f2), .int .i64 ((tp3).f3)] rfl sh77 (Sx.rob_cells ((Pc.at_cell ((fun W_ z_ => hl W_ (hsub12 W_ z_)) _ (Pc.lib_now hS (i := 0) rfl)))) 2 rfl)) ?_
   refine wa_tk 8 rfl rfl rfl (st_selT [true, true] h) (fun w_ hS => ov_move _ rfl) ?_
   refine wa_one 9 rfl (by kernel_rfl) ?_
   refine wl_call _ rfl rfl rfl ent60 (TR.made_calls (R := [Sx.blk b8 [.bool ((p).f0), .int .i64 ((p).f1), .int .i64 ((p).f2), .int .i64 ((p).f3)] 77] ++ R) (Φ11) tl2 tp3 (Pc.AT.nd gm10 tr4 p r) (fun W_ z_ => (fun W_ z_ => (hl W_ z_).2.1) W_ (hsub12 W_ z_)) hT13 (by first | assumption | (refine Pc.sm_eq hsm ?_; simp only [Pc.AT.fl] at hf_ ⊢; rw [hf_]; simp; done) | exact Pc.sm_of hsm (by simp only [Pc.AT.fl, List.length_append, List.length_cons, List.length_nil]; omega) (fun q_ hq_ => by simp only [Pc.AT.fl, List.mem_append, List.mem_cons, List.not_mem_nil, or_false, false_or] at hq_ ⊢; grind)) h) ?_
   rintro e_ w_ ⟨gm15, Φ16, rfl, hsub17, hT18, h⟩
   refine ⟨_, rfl, ?_⟩
   refine wl_nil ?_
   refine qn_wa (Pc.lib_weakn 0 (fun W_ z_ => (hsub17 W_ z_)) (st_selT [true, true] h) rfl) ?_
   refine wa_tk 10 rfl rfl rfl (Pc.lib_weakn 0 (fun W_ z_ => (hsub17 W_ z_)) (st_selT [true, true] h) rfl) (fun w_ hS => ov_assign _ rfl) ?_
   refine wa_done (by kernel_rfl) ?_
   refine qn_then ?_
   refine wc_ret ?_
   refine qn_then_ret ?_
   refine qn_then_ret ?_
   replace h := st_selT [true, false] h
   refine qn_ret [_] ⟨rfl, trivial⟩ ?_
   exact ⟨(Pc.AT.nd gm15 tl2 tp3 (Pc.AT.nd gm10 tr4 p r)), _, rfl, fun W_ z_ => (hsub12 W_ (hsub17 W_ z_)), hT18, (by first | exact Pc.jr_a hbl hbr hgt (by assumption) (by assumption) | exact Pc.jr_b hbl hbr hgt (by assumption) (by assumption) | exact Pc.jr_c hbl hf_ hbt_ hjt_ (by assumption) | exact Pc.jr_d hbl hf_ hbt_ hjt_ (by assumption)), h⟩
  ·
   refine wc_skip ?_
   refine qn_then ?_
   refine wc_seq ?_
   refine wc_draw (fun w => Sx.St w0 F0 ([Pc.lib (Φ11), Sx.blk b8 [.bool ((p).f0), .int .i64 ((p).f1), .int .i64 ((p).f2), .int .i64 ((p).f3)] 77] ++ R) w) (by kernel_rfl) ?_
   replace h := st_drew h
   refine wa_tk 0 rfl rfl rfl (st_selT [true, true] h) (fun w_ hS => ov_move _ rfl) ?_
   refine wa_tk 1 rfl rfl rfl (st_selT [true, true] h) (fun w_ hS => ov_nilCheck _ rfl) ?_
   refine wa_tk 2 rfl rfl rfl (st_selT [true, true] h) (fun w_ hS => ov_fieldAddr _ ⟨g1, 0, none⟩ _ rfl fo89_0 rfl) ?_
   refine wa_tk 3 rfl rfl rfl (st_selT [true, true] h) (fun w_ hS => ov_load1 ⟨g1, 0, none⟩ _ rfl sh66 (((Pc.at_cell ((fun W_ z_ => hl W_ (hsub12 W_ z_)) _ (Pc.lib_now hS (i := 0) rfl))) 0).trans rfl)) ?_
   refine wa_tk 4 rfl rfl rfl (st_selT [true, true] h) (fun w_ hS => ov_move _ rfl) ?_
   refine wa_tk 5 rfl rfl rfl (st_selT [true, true] h) (fun w_ hS => ov_nilCheck _ rfl) ?_
   refine wa_tk 6 rfl rfl rfl (st_selT [true, true] h) (fun w_ hS => ov_fieldAddr _ ⟨g1, 2, none⟩ _ rfl fo89_2 rfl) ?_
   refine wa_tk 7 rfl rfl rfl (st_selT [true, true] h) (fun w_ hS => ov_loadN ⟨g1, 2, none⟩ [.bool ((tp3).f0), .int .i64 ((tp3).f1), .int .i64 ((tp3).f2), .int .i64 ((tp3).f3)] rfl sh77 (Sx.rob_cells ((Pc.at_cell ((fun W_ z_ => hl W_ (hsub12 W_ z_)) _ (Pc.lib_now hS (i := 0) rfl)))) 2 rfl)) ?_
   refine wa_tk 8 rfl rfl rfl (st_selT [true, true] h) (fun w_ hS => ov_move _ rfl) ?_
   refine wa_one 9 rfl (by kernel_rfl) ?_
   have hht19 : Pc.AT.ht (Pc.AT.nd g1 tl2 tp3 tr4) = 1 + max (Pc.AT.ht tl2) (Pc.AT.ht tr4) := rfl
   have hh020 := Pc.AT.ht_nonneg tl2
   have hh021 := Pc.AT.ht_nonneg tr4
   have hht22 : Pc.AT.ht (Pc.AT.nd gm10 tr4 p r) = 1 + max (Pc.AT.ht tr4) (Pc.AT.ht r) := rfl
   have hh023 := Pc.AT.ht_nonneg tr4
   have hh024 := Pc.AT.ht_nonneg r
   obtain ⟨g25, tl26, tp27, tr28, rfl⟩ := Pc.AT.ht_pos (T := tr4) (by omega)
   refine wl_call _ rfl rfl rfl ent71 (TR.rightward_calls (R := [Sx.blk b8 [.bool ((p).f0), .int .i64 ((p).f1), .int .i64 ((p).f2), .int .i64 ((p).f3)] 77] ++ R) (Φ11) gm10 g25 tl26 tr28 r tp27 p hT13 (by first | assumption | (refine Pc.sm_eq hsm ?_; simp only [Pc.AT.fl] at hf_ ⊢; rw [hf_]; simp; done) | exact Pc.sm_of hsm (by simp only [Pc.AT.fl, List.length_append, List.length_cons, List.length_nil]; omega) (fun q_ hq_ => by simp only [Pc.AT.fl, List.mem_append, List.mem_cons, List.not_mem_nil, or_false, false_or] at hq_ ⊢; grind)) h) ?_
   rintro e_ w_ ⟨gr29, gr30, Φ31, rfl, hsub32, hT33, h⟩
   refine ⟨_, rfl, ?_⟩
   refine wl_nil ?_
   refine qn_wa (Pc.lib_weakn 0 (fun W_ z_ => (hsub32 W_ z_)) (st_selT [true, true] h) rfl) ?_
   refine wa_one 10 rfl (by kernel_rfl) ?_
   refine wl_call _ rfl rfl rfl ent60 (TR.made_calls (R := [Sx.blk b8 [.bool ((p).f0), .int .i64 ((p).f1), .int .i64 ((p).f2), .int .i64 ((p).f3)] 77] ++ R) (Φ31) tl2 tp3 (Pc.AT.nd gr30 tl26 tp27 (Pc.AT.nd gr29 tr28 p r)) (fun W_ z_ => (fun W_ z_ => (hl W_ z_).2.1) W_ (hsub12 W_ (hsub32 W_ z_))) hT33 (by first | assumption | (refine Pc.sm_eq hsm ?_; simp only [Pc.AT.fl] at hf_ ⊢; rw [hf_]; simp; done) | exact Pc.sm_of hsm (by simp only [Pc.AT.fl, List.length_append, List.length_cons, List.length_nil]; omega) (fun q_ hq_ => by simp only [Pc.AT.fl, List.mem_append, List.mem_cons, List.not_mem_nil, or_false, false_or] at hq_ ⊢; grind)) h) ?_
   rintro e_ w_ ⟨gm34, Φ35, rfl, hsub36, hT37, h⟩
   refine ⟨_, rfl, ?_⟩
   refine wl_nil ?_
   refine qn_wa (Pc.lib_weakn 0 (fun W_ z_ => (hsub32 W_ (hsub36 W_ z_))) (st_selT [true, true] h) rfl) ?_
   refine wa_one 11 rfl (by kernel_rfl) ?_
   refine wl_call _ rfl rfl rfl ent70 (TR.leftward_calls (R := [Sx.blk b8 [.bool ((p).f0), .int .i64 ((p).f1), .int .i64 ((p).f2), .int .i64 ((p).f3)] 77] ++ R) (Φ35) gm34 gr30 tl2 tl26 (Pc.AT.nd gr29 tr28 p r) tp3 tp27 hT37 (by first | assumption | (refine Pc.sm_eq hsm ?_; simp only [Pc.AT.fl] at hf_ ⊢; rw [hf_]; simp; done) | exact Pc.sm_of hsm (by simp only [Pc.AT.fl, List.length_append, List.length_cons, List.length_nil]; omega) (fun q_ hq_ => by simp only [Pc.AT.fl, List.mem_append, List.mem_cons, List.not_mem_nil, or_false, false_or] at hq_ ⊢; grind)) h) ?_
   rintro e_ w_ ⟨gr38, gr39, Φ40, rfl, hsub41, hT42, h⟩
   refine ⟨_, rfl, ?_⟩
   refine wl_nil ?_
   refine qn_wa (Pc.lib_weakn 0 (fun W_ z_ => (hsub32 W_ (hsub36 W_ (hsub41 W_ z_)))) (st_selT [true, true] h) rfl) ?_
   refine wa_tk 12 rfl rfl rfl (Pc.lib_weakn 0 (fun W_ z_ => (hsub32 W_ (hsub36 W_ (hsub41 W_ z_)))) (st_selT [true, true] h) rfl) (fun w_ hS => ov_assign _ rfl) ?_
   refine wa_done (by kernel_rfl) ?_
   refine qn_then ?_
   refine wc_ret ?_
   refine qn_then_ret ?_
   replace h := st_selT [true, false] h
   refine qn_ret [_] ⟨rfl, trivial⟩ ?_
   exact ⟨(Pc.AT.nd gr39 (Pc.AT.nd gr38 tl2 tp3 tl26) tp27 (Pc.AT.nd gr29 tr28 p r)), _, rfl, fun W_ z_ => (hsub12 W_ (hsub32 W_ (hsub36 W_ (hsub41 W_ z_)))), hT42, (by first | exact Pc.jr_a hbl hbr hgt (by assumption) (by assumption) | exact Pc.jr_b hbl hbr hgt (by assumption) (by assumption) | exact Pc.jr_c hbl hf_ hbt_ hjt_ (by assumption) | exact Pc.jr_d hbl hf_ hbt_ hjt_ (by assumption)), h⟩
 ·
  refine wc_skip ?_
  refine qn_then ?_
  refine wc_seq ?_
  refine wc_region ?_
  refine wl_v rfl rfl (ov_move _ rfl) ?_
  refine wl_v rfl rfl (ov_loadbN 1 [.bool ((p).f0), .int .i64 ((p).f1), .int .i64 ((p).f2), .int .i64 ((p).f3)] h rfl rfl sh77 rfl) ?_
  refine wl_v rfl rfl (ov_move _ rfl) ?_
  refine wl_call _ rfl rfl rfl ent64 (ih (R := [Sx.blk b8 [.bool ((p).f0), .int .i64 ((p).f1), .int .i64 ((p).f2), .int .i64 ((p).f3)] 77] ++ R) (Φ) tr4 p r (fun W_ z_ => (hl W_ z_).2.2) hr hbc_ hbr (by first | assumption | (refine Pc.sm_eq hsm ?_; simp only [Pc.AT.fl] at hf_ ⊢; rw [hf_]; simp; done) | exact Pc.sm_of hsm (by simp only [Pc.AT.fl, List.length_append, List.length_cons, List.length_nil]; omega) (fun q_ hq_ => by simp only [Pc.AT.fl, List.mem_append, List.mem_cons, List.not_mem_nil, or_false, false_or] at hq_ ⊢; grind)) (by omega) (by omega) h) ?_
  rintro e_ w_ ⟨T43, Φ44, rfl, hsub45, hT46, ⟨hf_, hbt_, hjt_⟩, h⟩
  refine ⟨_, rfl, ?_⟩
  refine wl_v rfl rfl (ov_assign _ rfl) ?_
  refine wl_nil ?_
  refine qn_then ?_
  refine wc_seq ?_
  refine wc_draw (fun w => Sx.St w0 F0 ([Pc.lib (Φ44), Sx.blk b8 [.bool ((p).f0), .int .i64 ((p).f1), .int .i64 ((p).f2), .int .i64 ((p).f3)] 77] ++ R) w) (by kernel_rfl) ?_
  replace h := st_drew h
  refine wa_tk 0 rfl rfl rfl (st_selT [true, true] h) (fun w_ hS => ov_move _ rfl) ?_
  refine wa_tk 1 rfl rfl rfl (st_selT [true, true] h) (fun w_ hS => ov_nilCheck _ rfl) ?_
  refine wa_tk 2 rfl rfl rfl (st_selT [true, true] h) (fun w_ hS => ov_fieldAddr _ ⟨g1, 0, none⟩ _ rfl fo89_0 rfl) ?_
  refine wa_tk 3 rfl rfl rfl (st_selT [true, true] h) (fun w_ hS => ov_load1 ⟨g1, 0, none⟩ _ rfl sh66 (((Pc.at_cell ((fun W_ z_ => hl W_ (hsub45 W_ z_)) _ (Pc.lib_now hS (i := 0) rfl))) 0).trans rfl)) ?_
  refine wa_tk 4 rfl rfl rfl (st_selT [true, true] h) (fun w_ hS => ov_move _ rfl) ?_
  refine wa_tk 5 rfl rfl rfl (st_selT [true, true] h) (fun w_ hS => ov_nilCheck _ rfl) ?_
  refine wa_tk 6 rfl rfl rfl (st_selT [true, true] h) (fun w_ hS => ov_fieldAddr _ ⟨g1, 2, none⟩ _ rfl fo89_2 rfl) ?_
  refine wa_tk 7 rfl rfl rfl (st_selT [true, true] h) (fun w_ hS => ov_loadN ⟨g1, 2, none⟩ [.bool ((tp3).f0), .int .i64 ((tp3).f1), .int .i64 ((tp3).f2), .int .i64 ((tp3).f3)] rfl sh77 (Sx.rob_cells ((Pc.at_cell ((fun W_ z_ => hl W_ (hsub45 W_ z_)) _ (Pc.lib_now hS (i := 0) rfl)))) 2 rfl)) ?_
  refine wa_tk 8 rfl rfl rfl (st_selT [true, true] h) (fun w_ hS => ov_move _ rfl) ?_
  refine wa_one 9 rfl (by kernel_rfl) ?_
  refine wl_call _ rfl rfl rfl ent60 (TR.made_calls (R := [Sx.blk b8 [.bool ((p).f0), .int .i64 ((p).f1), .int .i64 ((p).f2), .int .i64 ((p).f3)] 77] ++ R) (Φ44) tl2 tp3 T43 (fun W_ z_ => (fun W_ z_ => (hl W_ z_).2.1) W_ (hsub45 W_ z_)) hT46 (by first | assumption | (refine Pc.sm_eq hsm ?_; simp only [Pc.AT.fl] at hf_ ⊢; rw [hf_]; simp; done) | exact Pc.sm_of hsm (by simp only [Pc.AT.fl, List.length_append, List.length_cons, List.length_nil]; omega) (fun q_ hq_ => by simp only [Pc.AT.fl, List.mem_append, List.mem_cons, List.not_mem_nil, or_false, false_or] at hq_ ⊢; grind)) h) ?_
  rintro e_ w_ ⟨gm47, Φ48, rfl, hsub49, hT50, h⟩
  refine ⟨_, rfl, ?_⟩
  refine wl_nil ?_
  refine qn_wa (Pc.lib_weakn 0 (fun W_ z_ => (hsub49 W_ z_)) (st_selT [true, true] h) rfl) ?_
  refine wa_tk 10 rfl rfl rfl (Pc.lib_weakn 0 (fun W_ z_ => (hsub49 W_ z_)) (st_selT [true, true] h) rfl) (fun w_ hS => ov_assign _ rfl) ?_
  refine wa_done (by kernel_rfl) ?_
  refine qn_then ?_
  refine wc_seq ?_
  refine wc_seq ?_
  refine wc_draw (fun w => Sx.St w0 F0 ([Pc.lib (Φ48), Sx.blk b8 [.bool ((p).f0), .int .i64 ((p).f1), .int .i64 ((p).f2), .int .i64 ((p).f3)] 77] ++ R) w) (by kernel_rfl) ?_
  replace h := st_drew h
  refine wa_tk 0 rfl rfl rfl (st_selT [true, true] h) (fun w_ hS => ov_move _ rfl) ?_
  refine wa_tk 2 rfl rfl rfl (st_selT [true, true] h) (fun w_ hS => ov_move _ rfl) ?_
  refine wa_tk 3 rfl rfl rfl (st_selT [true, true] h) (fun w_ hS => ov_nilCheck _ rfl) ?_
  refine wa_tk 4 rfl rfl rfl (st_selT [true, true] h) (fun w_ hS => ov_fieldAddr _ ⟨g1, 0, none⟩ _ rfl fo89_0 rfl) ?_
  refine wa_tk 5 rfl rfl rfl (st_selT [true, true] h) (fun w_ hS => ov_load1 ⟨g1, 0, none⟩ _ rfl sh66 (((Pc.at_cell ((fun W_ z_ => hl W_ (hsub45 W_ (hsub49 W_ z_))) _ (Pc.lib_now hS (i := 0) rfl))) 0).trans rfl)) ?_
  refine wa_one 1 rfl (by kernel_rfl) ?_
  refine wl_call _ rfl rfl rfl ent44 (TR.high_calls (R := [Sx.blk b8 [.bool ((p).f0), .int .i64 ((p).f1), .int .i64 ((p).f2), .int .i64 ((p).f3)] 77] ++ R) (Φ48) T43 (fun W_ z_ => hT46 W_ (hsub49 W_ z_)) h) ?_
  rintro e_ w_ ⟨rfl, h⟩
  refine ⟨_, rfl, ?_⟩
  refine wl_nil ?_
  refine qn_wa (st_selT [true, true] h) ?_
  refine wa_one 6 rfl (by kernel_rfl) ?_
  refine wl_call _ rfl rfl rfl ent44 (TR.high_calls (R := [Sx.blk b8 [.bool ((p).f0), .int .i64 ((p).f1), .int .i64 ((p).f2), .int .i64 ((p).f3)] 77] ++ R) (Φ48) tl2 (fun W_ z_ => (fun W_ z_ => (hl W_ z_).2.1) W_ (hsub45 W_ (hsub49 W_ z_))) h) ?_
  rintro e_ w_ ⟨rfl, h⟩
  refine ⟨_, rfl, ?_⟩
  refine wl_nil ?_
  refine qn_wa (st_selT [true, true] h) ?_
  refine wa_tk 7 rfl rfl rfl (st_selT [true, true] h) (fun w_ hS => ov_bin _ rfl rfl (binR_add (r := (Pc.AT.ht tl2) + 1) (Sx.w64 (by omega)))) ?_
  refine wa_tk 8 rfl rfl rfl (st_selT [true, true] h) (fun w_ hS => ov_bin _ rfl rfl (binR_leq)) ?_
  refine wa_done (by kernel_rfl) ?_
  refine qn_then ?_
  refine wc_cond (by rfl) (fun c51 => ?_) (fun c51 => ?_)
  ·
   refine wc_seq ?_
   refine wc_region ?_
   refine wl_v rfl rfl (ov_move _ rfl) ?_
   refine wl_v rfl rfl (ov_assign _ rfl) ?_
   refine wl_nil ?_
   refine qn_then ?_
   refine wc_ret ?_
   refine qn_then_ret ?_
   replace h := st_selT [true, false] h
   refine qn_ret [_] ⟨rfl, trivial⟩ ?_
   exact ⟨(Pc.AT.nd gm47 tl2 tp3 T43), _, rfl, fun W_ z_ => (hsub45 W_ (hsub49 W_ z_)), hT50, (by first | exact Pc.jr_a hbl hbr hgt (by assumption) (by assumption) | exact Pc.jr_b hbl hbr hgt (by assumption) (by assumption) | exact Pc.jr_c hbl hf_ hbt_ hjt_ (by assumption) | exact Pc.jr_d hbl hf_ hbt_ hjt_ (by assumption)), h⟩
  ·
   refine wc_skip ?_
   refine qn_then ?_
   refine wc_seq ?_
   refine wc_region ?_
   refine wl_v rfl rfl (ov_move _ rfl) ?_
   have hht52 : Pc.AT.ht (Pc.AT.nd g1 tl2 tp3 tr4) = 1 + max (Pc.AT.ht tl2) (Pc.AT.ht tr4) := rfl
   have hh053 := Pc.AT.ht_nonneg tl2
   have hh054 := Pc.AT.ht_nonneg tr4
   have hht55 : Pc.AT.ht (Pc.AT.nd gm47 tl2 tp3 T43) = 1 + max (Pc.AT.ht tl2) (Pc.AT.ht T43) := rfl
   have hh056 := Pc.AT.ht_nonneg tl2
   have hh057 := Pc.AT.ht_nonneg T43
   obtain ⟨g58, tl59, tp60, tr61, rfl⟩ := Pc.AT.ht_pos (T := T43) (by omega)
   refine wl_call _ rfl rfl rfl ent70 (TR.leftward_calls (R := [Sx.blk b8 [.bool ((p).f0), .int .i64 ((p).f1), .int .i64 ((p).f2), .int .i64 ((p).f3)] 77] ++ R) (Φ48) gm47 g58 tl2 tl59 tr61 tp3 tp60 hT50 (by first | assumption | (refine Pc.sm_eq hsm ?_; simp only [Pc.AT.fl] at hf_ ⊢; rw [hf_]; simp; done) | exact Pc.sm_of hsm (by simp only [Pc.AT.fl, List.length_append, List.length_cons, List.length_nil]; omega) (fun q_ hq_ => by simp only [Pc.AT.fl, List.mem_append, List.mem_cons, List.not_mem_nil, or_false, false_or] at hq_ ⊢; grind)) h) ?_
   rintro e_ w_ ⟨gr62, gr63, Φ64, rfl, hsub65, hT66, h⟩
   refine ⟨_, rfl, ?_⟩
   refine wl_v rfl rfl (ov_assign _ rfl) ?_
   refine wl_nil ?_
   refine qn_then ?_
   refine wc_ret ?_
   replace h := st_selT [true, false] h
   refine qn_ret [_] ⟨rfl, trivial⟩ ?_
   exact ⟨(Pc.AT.nd gr63 (Pc.AT.nd gr62 tl2 tp3 tl59) tp60 tr61), _, rfl, fun W_ z_ => (hsub45 W_ (hsub49 W_ (hsub65 W_ z_))), hT66, (by first | exact Pc.jr_a hbl hbr hgt (by assumption) (by assumption) | exact Pc.jr_b hbl hbr hgt (by assumption) (by assumption) | exact Pc.jr_c hbl hf_ hbt_ hjt_ (by assumption) | exact Pc.jr_d hbl hf_ hbt_ hjt_ (by assumption)), h⟩
theorem joinRight_calls {w0 w : World} {F0 : Nat → Prop} {R : List Sx.HP} (Φ : World → Prop) (l : Pc.AT) (p : S77) (r : Pc.AT) (hl : ∀ W, Φ W → Pc.At W l) (hr : ∀ W, Φ W → Pc.At W r) (hbl : Pc.AT.bal l) (hbr : Pc.AT.bal r) (hsm : Pc.Sm (Pc.AT.fl l ++ p :: Pc.AT.fl r)) (hgt : Pc.AT.ht r + 1 < Pc.AT.ht l) (h : Sx.St w0 F0 ([Pc.lib (Φ)] ++ R) w) : Calls Try.prog 64 #[.pointer (Pc.AT.ptr l), .agg #[.bool ((p).f0), .int .i64 ((p).f1), .int .i64 ((p).f2), .int .i64 ((p).f3)], .pointer (Pc.AT.ptr r)] w (fun e w1 => ∃ (T2 : Pc.AT) (Φ2 : World → Prop), e = .returned (.pointer (Pc.AT.ptr T2)) ∧ (∀ W, Φ2 W → Φ W) ∧ (∀ W, Φ2 W → Pc.At W T2) ∧ (Pc.AT.fl T2 = Pc.AT.fl l ++ p :: Pc.AT.fl r ∧ Pc.AT.bal T2 ∧ Pc.JR (Pc.AT.ht l) T2) ∧ Sx.St w0 F0 ([Pc.lib Φ2] ++ R) w1) := by
  have key : ∀ (N : Nat) {w0 w : World} {F0 : Nat → Prop} {R : List Sx.HP} (Φ : World → Prop) (l : Pc.AT) (p : S77) (r : Pc.AT) (hl : ∀ W, Φ W → Pc.At W l) (hr : ∀ W, Φ W → Pc.At W r) (hbl : Pc.AT.bal l) (hbr : Pc.AT.bal r) (hsm : Pc.Sm (Pc.AT.fl l ++ p :: Pc.AT.fl r)) (hgt : Pc.AT.ht r + 1 < Pc.AT.ht l) (hN : Pc.AT.cnt l < N) (h : Sx.St w0 F0 ([Pc.lib (Φ)] ++ R) w), Calls Try.prog 64 #[.pointer (Pc.AT.ptr l), .agg #[.bool ((p).f0), .int .i64 ((p).f1), .int .i64 ((p).f2), .int .i64 ((p).f3)], .pointer (Pc.AT.ptr r)] w (fun e w1 => ∃ (T2 : Pc.AT) (Φ2 : World → Prop), e = .returned (.pointer (Pc.AT.ptr T2)) ∧ (∀ W, Φ2 W → Φ W) ∧ (∀ W, Φ2 W → Pc.At W T2) ∧ (Pc.AT.fl T2 = Pc.AT.fl l ++ p :: Pc.AT.fl r ∧ Pc.AT.bal T2 ∧ Pc.JR (Pc.AT.ht l) T2) ∧ Sx.St w0 F0 ([Pc.lib Φ2] ++ R) w1) := by
    intro N
    induction N with
    | zero => intro w0 w F0 R Φ l p r hl hr hbl hbr hsm hgt hN; omega
    | succ N ih =>
      intro w0 w F0 R Φ l p r hl hr hbl hbr hsm hgt hN h
      exact joinRight_step (Pc.AT.cnt l) (fun Φ l p r hl hr hbl hbr hsm hgt hN2 h => ih Φ l p r hl hr hbl hbr hsm hgt (by omega) h) Φ l p r hl hr hbl hbr hsm hgt rfl h
  exact key (Pc.AT.cnt l + 1) Φ l p r hl hr hbl hbr hsm hgt (by omega) h
set_option maxHeartbeats 4000000 in
set_option maxRecDepth 100000 in
theorem joinLeft_step (N : Nat) (ih : ∀ {w0 w : World} {F0 : Nat → Prop} {R : List Sx.HP} (Φ : World → Prop) (l : Pc.AT) (p : S77) (r : Pc.AT) (hl : ∀ W, Φ W → Pc.At W l) (hr : ∀ W, Φ W → Pc.At W r) (hbl : Pc.AT.bal l) (hbr : Pc.AT.bal r) (hsm : Pc.Sm (Pc.AT.fl l ++ p :: Pc.AT.fl r)) (hgt : Pc.AT.ht l + 1 < Pc.AT.ht r) (hN : Pc.AT.cnt r < N) (h : Sx.St w0 F0 ([Pc.lib (Φ)] ++ R) w), Calls Try.prog 65 #[.pointer (Pc.AT.ptr l), .agg #[.bool ((p).f0), .int .i64 ((p).f1), .int .i64 ((p).f2), .int .i64 ((p).f3)], .pointer (Pc.AT.ptr r)] w (fun e w1 => ∃ (T2 : Pc.AT) (Φ2 : World → Prop), e = .returned (.pointer (Pc.AT.ptr T2)) ∧ (∀ W, Φ2 W → Φ W) ∧ (∀ W, Φ2 W → Pc.At W T2) ∧ (Pc.AT.fl T2 = Pc.AT.fl l ++ p :: Pc.AT.fl r ∧ Pc.AT.bal T2 ∧ Pc.JL (Pc.AT.ht r) T2) ∧ Sx.St w0 F0 ([Pc.lib Φ2] ++ R) w1)) {w0 w : World} {F0 : Nat → Prop} {R : List Sx.HP} (Φ : World → Prop) (l : Pc.AT) (p : S77) (r : Pc.AT) (hl : ∀ W, Φ W → Pc.At W l) (hr : ∀ W, Φ W → Pc.At W r) (hbl : Pc.AT.bal l) (hbr : Pc.AT.bal r) (hsm : Pc.Sm (Pc.AT.fl l ++ p :: Pc.AT.fl r)) (hgt : Pc.AT.ht l + 1 < Pc.AT.ht r) (hN : Pc.AT.cnt r = N) (h : Sx.St w0 F0 ([Pc.lib (Φ)] ++ R) w) : Calls Try.prog 65 #[.pointer (Pc.AT.ptr l), .agg #[.bool ((p).f0), .int .i64 ((p).f1), .int .i64 ((p).f2), .int .i64 ((p).f3)], .pointer (Pc.AT.ptr r)] w (fun e w1 => ∃ (T2 : Pc.AT) (Φ2 : World → Prop), e = .returned (.pointer (Pc.AT.ptr T2)) ∧ (∀ W, Φ2 W → Φ W) ∧ (∀ W, Φ2 W → Pc.At W T2) ∧ (Pc.AT.fl T2 = Pc.AT.fl l ++ p :: Pc.AT.fl r ∧ Pc.AT.bal T2 ∧ Pc.JL (Pc.AT.ht r) T2) ∧ Sx.St w0 F0 ([Pc.lib Φ2] ++ R) w1) := by
 have hz_ := Pc.AT.ht_nonneg l
 have hq1_ := Pc.AT.ht_le l
 have hq2_ := Pc.AT.ht_le r
 have hm_ := Pc.sm_mid hsm
 obtain ⟨g1, tl2, tp3, tr4, rfl⟩ := Pc.AT.ht_pos (T := r) (by omega)
 have hht5 : Pc.AT.ht (Pc.AT.nd g1 tl2 tp3 tr4) = 1 + max (Pc.AT.ht tl2) (Pc.AT.ht tr4) := rfl
 have hh06 := Pc.AT.ht_nonneg tl2
 have hh07 := Pc.AT.ht_nonneg tr4
 have hcn_ : Pc.AT.cnt (Pc.AT.nd g1 tl2 tp3 tr4) = Pc.AT.cnt tl2 + 1 + Pc.AT.cnt tr4 := rfl
 have hbc_ := hbr.1
 refine Sx.calls_fn (vs := [.pointer (Pc.AT.ptr l), .agg #[.bool ((p).f0), .int .i64 ((p).f1), .int .i64 ((p).f2), .int .i64 ((p).f3)], .pointer (some ⟨g1, 0, none⟩)]) Try.func65 rfl Try.ntmps65 rfl ?_
 refine wc_seq ?_
 refine wc_region ?_
 refine wl_box _ h rfl rfl rfl (fun b8 _ h => ?_)
 replace h : Sx.St _ _ (Sx.blk b8 [.bool ((p).f0), .int .i64 ((p).f1), .int .i64 ((p).f2), .int .i64 ((p).f3)] 77 :: _) _ := h
 refine wl_v rfl rfl (ov_assign _ rfl) ?_
 refine wl_nil ?_
 refine qn_then ?_
 refine wc_seq ?_
 refine wc_region ?_
 refine wl_v rfl rfl (ov_move _ rfl) ?_
 refine wl_v rfl rfl (ov_nilCheck _ rfl) ?_
 refine wl_v rfl rfl (ov_fieldAddr _ ⟨g1, 0, none⟩ _ rfl fo89_0 rfl) ?_
 refine wl_v rfl rfl (ov_load1 ⟨g1, 0, none⟩ _ rfl sh66 (((Pc.at_cell (hr _ (Pc.lib_now h (i := 1) rfl))) 0).trans rfl)) ?_
 refine wl_v rfl rfl (ov_assign _ rfl) ?_
 refine wl_nil ?_
 refine qn_then ?_
 refine wc_seq ?_
 refine wc_seq ?_
 refine wc_region ?_
 refine wl_v rfl rfl (ov_move _ rfl) ?_
 replace h := st_front 1 h
 refine wl_call _ rfl rfl rfl ent44 (TR.high_calls (R := [Sx.blk b8 [.bool ((p).f0), .int .i64 ((p).f1), .int .i64 ((p).f2), .int .i64 ((p).f3)] 77] ++ R) (Φ) tl2 (fun W_ z_ => (hr W_ z_).2.1) h) ?_
 rintro e_ w_ ⟨rfl, h⟩
 refine ⟨_, rfl, ?_⟩
 refine wl_v rfl rfl (ov_move _ rfl) ?_
 refine wl_call _ rfl rfl rfl ent44 (TR.high_calls (R := [Sx.blk b8 [.bool ((p).f0), .int .i64 ((p).f1), .int .i64 ((p).f2), .int .i64 ((p).f3)] 77] ++ R) (Φ) l hl h) ?_
 rintro e_ w_ ⟨rfl, h⟩
 refine ⟨_, rfl, ?_⟩
 refine wl_v rfl rfl (ov_bin _ rfl rfl (binR_add (r := (Pc.AT.ht l) + 1) (Sx.w64 (by omega)))) ?_
 refine wl_v rfl rfl (ov_bin _ rfl rfl (binR_leq)) ?_
 refine wl_nil ?_
 refine qn_then ?_
 refine wc_cond (by rfl) (fun c9 => ?_) (fun c9 => ?_)
 ·
  refine wc_seq ?_
  refine wc_region ?_
  refine wl_v rfl rfl (ov_move _ rfl) ?_
  refine wl_v rfl rfl (ov_loadbN 1 [.bool ((p).f0), .int .i64 ((p).f1), .int .i64 ((p).f2), .int .i64 ((p).f3)] h rfl rfl sh77 rfl) ?_
  refine wl_v rfl rfl (ov_move _ rfl) ?_
  refine wl_call _ rfl rfl rfl ent60 (TR.made_calls (R := [Sx.blk b8 [.bool ((p).f0), .int .i64 ((p).f1), .int .i64 ((p).f2), .int .i64 ((p).f3)] 77] ++ R) (Φ) l p tl2 hl (fun W_ z_ => (hr W_ z_).2.1) (by first | assumption | (refine Pc.sm_eq hsm ?_; simp only [Pc.AT.fl] at hf_ ⊢; rw [hf_]; simp; done) | exact Pc.sm_of hsm (by simp only [Pc.AT.fl, List.length_append, List.length_cons, List.length_nil]; omega) (fun q_ hq_ => by simp only [Pc.AT.fl, List.mem_append, List.mem_cons, List.not_mem_nil, or_false, false_or] at hq_ ⊢; grind)) h) ?_
  rintro e_ w_ ⟨gm10, Φ11, rfl, hsub12, hT13, h⟩
  refine ⟨_, rfl, ?_⟩
  refine wl_v rfl rfl (ov_assign _ rfl) ?_
  refine wl_nil ?_
  refine qn_then ?_
  refine wc_seq ?_
  refine wc_seq ?_
  refine wc_draw (fun w => Sx.St w0 F0 ([Pc.lib (Φ11), Sx.blk b8 [.bool ((p).f0), .int .i64 ((p).f1), .int .i64 ((p).f2), .int .i64 ((p).f3)] 77] ++ R) w) (by kernel_rfl) ?_
  replace h := st_drew h
  refine wa_tk 0 rfl rfl rfl (st_selT [true, true] h) (fun w_ hS => ov_move _ rfl) ?_
  refine wa_tk 2 rfl rfl rfl (st_selT [true, true] h) (fun w_ hS => ov_move _ rfl) ?_
  refine wa_tk 3 rfl rfl rfl (st_selT [true, true] h) (fun w_ hS => ov_nilCheck _ rfl) ?_
  refine wa_tk 4 rfl rfl rfl (st_selT [true, true] h) (fun w_ hS => ov_fieldAddr _ ⟨g1, 1, none⟩ _ rfl fo89_1 rfl) ?_
  refine wa_tk 5 rfl rfl rfl (st_selT [true, true] h) (fun w_ hS => ov_load1 ⟨g1, 1, none⟩ _ rfl sh66 (((Pc.at_cell ((fun W_ z_ => hr W_ (hsub12 W_ z_)) _ (Pc.lib_now hS (i := 0) rfl))) 1).trans rfl)) ?_
  refine wa_one 1 rfl (by kernel_rfl) ?_
  refine wl_call _ rfl rfl rfl ent44 (TR.high_calls (R := [Sx.blk b8 [.bool ((p).f0), .int .i64 ((p).f1), .int .i64 ((p).f2), .int .i64 ((p).f3)] 77] ++ R) (Φ11) (Pc.AT.nd gm10 l p tl2) hT13 h) ?_
  rintro e_ w_ ⟨rfl, h⟩
  refine ⟨_, rfl, ?_⟩
  refine wl_nil ?_
  refine qn_wa (st_selT [true, true] h) ?_
  refine wa_one 6 rfl (by kernel_rfl) ?_
  refine wl_call _ rfl rfl rfl ent44 (TR.high_calls (R := [Sx.blk b8 [.bool ((p).f0), .int .i64 ((p).f1), .int .i64 ((p).f2), .int .i64 ((p).f3)] 77] ++ R) (Φ11) tr4 (fun W_ z_ => (fun W_ z_ => (hr W_ z_).2.2) W_ (hsub12 W_ z_)) h) ?_
  rintro e_ w_ ⟨rfl, h⟩
  refine ⟨_, rfl, ?_⟩
  refine wl_nil ?_
  refine qn_wa (st_selT [true, true] h) ?_
  refine wa_tk 7 rfl rfl rfl (st_selT [true, true] h) (fun w_ hS => ov_bin _ rfl rfl (binR_add (r := (Pc.AT.ht tr4) + 1) (Sx.w64 (by omega)))) ?_
  refine wa_tk 8 rfl rfl rfl (st_selT [true, true] h) (fun w_ hS => ov_bin _ rfl rfl (binR_leq)) ?_
  refine wa_done (by kernel_rfl) ?_
  refine qn_then ?_
  refine wc_cond (by rfl) (fun c14 => ?_) (fun c14 => ?_)
  ·
   refine wc_seq ?_
   refine wc_draw (fun w => Sx.St w0 F0 ([Pc.lib (Φ11), Sx.blk b8 [.bool ((p).f0), .int .i64 ((p).f1), .int .i64 ((p).f2), .int .i64 ((p).f3)] 77] ++ R) w) (by kernel_rfl) ?_
   replace h := st_drew h
   refine wa_tk 0 rfl rfl rfl (st_selT [true, true] h) (fun w_ hS => ov_move _ rfl) ?_
   refine wa_tk 1 rfl rfl rfl (st_selT [true, true] h) (fun w_ hS => ov_move _ rfl) ?_
   refine wa_tk 2 rfl rfl rfl (st_selT [true, true] h) (fun w_ hS => ov_nilCheck _ rfl) ?_
   refine wa_tk 3 rfl rfl rfl (st_selT [true, true] h) (fun w_ hS => ov_fieldAddr _ ⟨g1, 2, none⟩ _ rfl fo89_2 rfl) ?_
   refine wa_tk 4 rfl rfl rfl (st_selT [true, true] h) (fun w_ hS => ov_loadN ⟨g1, 2, none⟩ [.bool ((tp3).f0), .int .i64 ((tp3).f1), .int .i64 ((tp3).f2), .int .i64 ((tp3).f3)] rfl sh77 (Sx.rob_cells ((Pc.at_cell ((fun W_ z_ => hr W_ (hsub12 W_ z_)) _ (Pc.lib_now hS (i := 0) rfl)))) 2 rfl)) ?_
   refine wa_tk 5 rfl rfl rfl (st_selT [true, true] h) (fun w_ hS => ov_move _ rfl) ?_
   refine wa_tk 6 rfl rfl rfl (st_selT [true, true] h) (fun w_ hS => ov_nilCheck _ rfl) ?_
   refine wa_tk 7 rfl rfl rfl (st_selT [true, true] h) (fun w_ hS => ov_fieldAddr _ ⟨g1, 1, none⟩ _ rfl fo89_1 rfl) ?_
   refine wa_tk 8 rfl rfl rfl (st_selT [true, true] h) (fun w_ hS => ov_load1 ⟨g1, 1, none⟩ _ rfl sh66 (((Pc.at_cell ((fun W_ z_ => hr W_ (hsub12 W_ z_)) _ (Pc.lib_now hS (i := 0) rfl))) 1).trans rfl)) ?_
   refine wa_one 9 rfl (by kernel_rfl) ?_
   refine wl_call _ rfl rfl rfl ent60 (TR.made_calls (R := [Sx.blk b8 [.bool ((p).f0), .int .i64 ((p).f1), .int .i64 ((p).f2), .int .i64 ((p).f3)] 77] ++ R) (Φ11) (Pc.AT.nd gm10 l p tl2) tp3 tr4 hT13 (fun W_ z_ => (fun W_ z_ => (hr W_ z_).2.2) W_ (hsub12 W_ z_)) (by first | assumption | (refine Pc.sm_eq hsm ?_; simp only [Pc.AT.fl] at hf_ ⊢; rw [hf_]; simp; done) | exact Pc.sm_of hsm (by simp only [Pc.AT.fl, List.length_append, List.length_cons, List.length_nil]; omega) (fun q_ hq_ => by simp only [Pc.AT.fl, List.mem_append, List.mem_cons, List.not_mem_nil, or_false, false_or] at hq_ ⊢; grind)) h) ?_
   rintro e_ w_ ⟨gm15, Φ16, rfl, hsub17, hT18, h⟩
   refine ⟨_, rfl, ?_⟩
   refine wl_nil ?_
   refine qn_wa (Pc.lib_weakn 0 (fun W_ z_ => (hsub17 W_ z_)) (st_selT [true, true] h) rfl) ?_
   refine wa_tk 10 rfl rfl rfl (Pc.lib_weakn 0 (fun W_ z_ => (hsub17 W_ z_)) (st_selT [true, true] h) rfl) (fun w_ hS => ov_assign _ rfl) ?_
   refine wa_done (by kernel_rfl) ?_
   refine qn_then ?_
   refine wc_ret ?_
   refine qn_then_ret ?_
   refine qn_then_ret ?_
   replace h := st_selT [true, false] h
   refine qn_ret [_] ⟨rfl, trivial⟩ ?_
   exact ⟨(Pc.AT.nd gm15 (Pc.AT.nd gm10 l p tl2) tp3 tr4), _, rfl, fun W_ z_ => (hsub12 W_ (hsub17 W_ z_)), hT18, (by first | exact Pc.jl_a hbl hbr hgt (by assumption) (by assumption) | exact Pc.jl_b hbl hbr hgt (by assumption) (by assumption) | exact Pc.jl_c hbr hf_ hbt_ hjt_ (by assumption) | exact Pc.jl_d hbr hf_ hbt_ hjt_ (by assumption)), h⟩
  ·
   refine wc_skip ?_
   refine qn_then ?_
   refine wc_seq ?_
   refine wc_draw (fun w => Sx.St w0 F0 ([Pc.lib (Φ11), Sx.blk b8 [.bool ((p).f0), .int .i64 ((p).f1), .int .i64 ((p).f2), .int .i64 ((p).f3)] 77] ++ R) w) (by kernel_rfl) ?_
   replace h := st_drew h
   refine wa_tk 0 rfl rfl rfl (st_selT [true, true] h) (fun w_ hS => ov_move _ rfl) ?_
   refine wa_tk 2 rfl rfl rfl (st_selT [true, true] h) (fun w_ hS => ov_move _ rfl) ?_
   refine wa_tk 3 rfl rfl rfl (st_selT [true, true] h) (fun w_ hS => ov_nilCheck _ rfl) ?_
   refine wa_tk 4 rfl rfl rfl (st_selT [true, true] h) (fun w_ hS => ov_fieldAddr _ ⟨g1, 2, none⟩ _ rfl fo89_2 rfl) ?_
   refine wa_tk 5 rfl rfl rfl (st_selT [true, true] h) (fun w_ hS => ov_loadN ⟨g1, 2, none⟩ [.bool ((tp3).f0), .int .i64 ((tp3).f1), .int .i64 ((tp3).f2), .int .i64 ((tp3).f3)] rfl sh77 (Sx.rob_cells ((Pc.at_cell ((fun W_ z_ => hr W_ (hsub12 W_ z_)) _ (Pc.lib_now hS (i := 0) rfl)))) 2 rfl)) ?_
   refine wa_tk 6 rfl rfl rfl (st_selT [true, true] h) (fun w_ hS => ov_move _ rfl) ?_
   refine wa_tk 7 rfl rfl rfl (st_selT [true, true] h) (fun w_ hS => ov_nilCheck _ rfl) ?_
   refine wa_tk 8 rfl rfl rfl (st_selT [true, true] h) (fun w_ hS => ov_fieldAddr _ ⟨g1, 1, none⟩ _ rfl fo89_1 rfl) ?_
   refine wa_tk 9 rfl rfl rfl (st_selT [true, true] h) (fun w_ hS => ov_load1 ⟨g1, 1, none⟩ _ rfl sh66 (((Pc.at_cell ((fun W_ z_ => hr W_ (hsub12 W_ z_)) _ (Pc.lib_now hS (i := 0) rfl))) 1).trans rfl)) ?_
   refine wa_one 1 rfl (by kernel_rfl) ?_
   have hht19 : Pc.AT.ht (Pc.AT.nd g1 tl2 tp3 tr4) = 1 + max (Pc.AT.ht tl2) (Pc.AT.ht tr4) := rfl
   have hh020 := Pc.AT.ht_nonneg tl2
   have hh021 := Pc.AT.ht_nonneg tr4
   have hht22 : Pc.AT.ht (Pc.AT.nd gm10 l p tl2) = 1 + max (Pc.AT.ht l) (Pc.AT.ht tl2) := rfl
   have hh023 := Pc.AT.ht_nonneg l
   have hh024 := Pc.AT.ht_nonneg tl2
   obtain ⟨g25, tl26, tp27, tr28, rfl⟩ := Pc.AT.ht_pos (T := tl2) (by omega)
   refine wl_call _ rfl rfl rfl ent70 (TR.leftward_calls (R := [Sx.blk b8 [.bool ((p).f0), .int .i64 ((p).f1), .int .i64 ((p).f2), .int .i64 ((p).f3)] 77] ++ R) (Φ11) gm10 g25 l tl26 tr28 p tp27 hT13 (by first | assumption | (refine Pc.sm_eq hsm ?_; simp only [Pc.AT.fl] at hf_ ⊢; rw [hf_]; simp; done) | exact Pc.sm_of hsm (by simp only [Pc.AT.fl, List.length_append, List.length_cons, List.length_nil]; omega) (fun q_ hq_ => by simp only [Pc.AT.fl, List.mem_append, List.mem_cons, List.not_mem_nil, or_false, false_or] at hq_ ⊢; grind)) h) ?_
   rintro e_ w_ ⟨gr29, gr30, Φ31, rfl, hsub32, hT33, h⟩
   refine ⟨_, rfl, ?_⟩
   refine wl_nil ?_
   refine qn_wa (Pc.lib_weakn 0 (fun W_ z_ => (hsub32 W_ z_)) (st_selT [true, true] h) rfl) ?_
   refine wa_one 10 rfl (by kernel_rfl) ?_
   refine wl_call _ rfl rfl rfl ent60 (TR.made_calls (R := [Sx.blk b8 [.bool ((p).f0), .int .i64 ((p).f1), .int .i64 ((p).f2), .int .i64 ((p).f3)] 77] ++ R) (Φ31) (Pc.AT.nd gr30 (Pc.AT.nd gr29 l p tl26) tp27 tr28) tp3 tr4 hT33 (fun W_ z_ => (fun W_ z_ => (hr W_ z_).2.2) W_ (hsub12 W_ (hsub32 W_ z_))) (by first | assumption | (refine Pc.sm_eq hsm ?_; simp only [Pc.AT.fl] at hf_ ⊢; rw [hf_]; simp; done) | exact Pc.sm_of hsm (by simp only [Pc.AT.fl, List.length_append, List.length_cons, List.length_nil]; omega) (fun q_ hq_ => by simp only [Pc.AT.fl, List.mem_append, List.mem_cons, List.not_mem_nil, or_false, false_or] at hq_ ⊢; grind)) h) ?_
   rintro e_ w_ ⟨gm34, Φ35, rfl, hsub36, hT37, h⟩
   refine ⟨_, rfl, ?_⟩
   refine wl_nil ?_
   refine qn_wa (Pc.lib_weakn 0 (fun W_ z_ => (hsub32 W_ (hsub36 W_ z_))) (st_selT [true, true] h) rfl) ?_
   refine wa_one 11 rfl (by kernel_rfl) ?_
   refine wl_call _ rfl rfl rfl ent71 (TR.rightward_calls (R := [Sx.blk b8 [.bool ((p).f0), .int .i64 ((p).f1), .int .i64 ((p).f2), .int .i64 ((p).f3)] 77] ++ R) (Φ35) gm34 gr30 (Pc.AT.nd gr29 l p tl26) tr28 tr4 tp27 tp3 hT37 (by first | assumption | (refine Pc.sm_eq hsm ?_; simp only [Pc.AT.fl] at hf_ ⊢; rw [hf_]; simp; done) | exact Pc.sm_of hsm (by simp only [Pc.AT.fl, List.length_append, List.length_cons, List.length_nil]; omega) (fun q_ hq_ => by simp only [Pc.AT.fl, List.mem_append, List.mem_cons, List.not_mem_nil, or_false, false_or] at hq_ ⊢; grind)) h) ?_
   rintro e_ w_ ⟨gr38, gr39, Φ40, rfl, hsub41, hT42, h⟩
   refine ⟨_, rfl, ?_⟩
   refine wl_nil ?_
   refine qn_wa (Pc.lib_weakn 0 (fun W_ z_ => (hsub32 W_ (hsub36 W_ (hsub41 W_ z_)))) (st_selT [true, true] h) rfl) ?_
   refine wa_tk 12 rfl rfl rfl (Pc.lib_weakn 0 (fun W_ z_ => (hsub32 W_ (hsub36 W_ (hsub41 W_ z_)))) (st_selT [true, true] h) rfl) (fun w_ hS => ov_assign _ rfl) ?_
   refine wa_done (by kernel_rfl) ?_
   refine qn_then ?_
   refine wc_ret ?_
   refine qn_then_ret ?_
   replace h := st_selT [true, false] h
   refine qn_ret [_] ⟨rfl, trivial⟩ ?_
   exact ⟨(Pc.AT.nd gr39 (Pc.AT.nd gr29 l p tl26) tp27 (Pc.AT.nd gr38 tr28 tp3 tr4)), _, rfl, fun W_ z_ => (hsub12 W_ (hsub32 W_ (hsub36 W_ (hsub41 W_ z_)))), hT42, (by first | exact Pc.jl_a hbl hbr hgt (by assumption) (by assumption) | exact Pc.jl_b hbl hbr hgt (by assumption) (by assumption) | exact Pc.jl_c hbr hf_ hbt_ hjt_ (by assumption) | exact Pc.jl_d hbr hf_ hbt_ hjt_ (by assumption)), h⟩
 ·
  refine wc_skip ?_
  refine qn_then ?_
  refine wc_seq ?_
  refine wc_region ?_
  refine wl_v rfl rfl (ov_move _ rfl) ?_
  refine wl_v rfl rfl (ov_loadbN 1 [.bool ((p).f0), .int .i64 ((p).f1), .int .i64 ((p).f2), .int .i64 ((p).f3)] h rfl rfl sh77 rfl) ?_
  refine wl_v rfl rfl (ov_move _ rfl) ?_
  refine wl_call _ rfl rfl rfl ent65 (ih (R := [Sx.blk b8 [.bool ((p).f0), .int .i64 ((p).f1), .int .i64 ((p).f2), .int .i64 ((p).f3)] 77] ++ R) (Φ) l p tl2 hl (fun W_ z_ => (hr W_ z_).2.1) hbl hbc_ (by first | assumption | (refine Pc.sm_eq hsm ?_; simp only [Pc.AT.fl] at hf_ ⊢; rw [hf_]; simp; done) | exact Pc.sm_of hsm (by simp only [Pc.AT.fl, List.length_append, List.length_cons, List.length_nil]; omega) (fun q_ hq_ => by simp only [Pc.AT.fl, List.mem_append, List.mem_cons, List.not_mem_nil, or_false, false_or] at hq_ ⊢; grind)) (by omega) (by omega) h) ?_
  rintro e_ w_ ⟨T43, Φ44, rfl, hsub45, hT46, ⟨hf_, hbt_, hjt_⟩, h⟩
  refine ⟨_, rfl, ?_⟩
  refine wl_v rfl rfl (ov_assign _ rfl) ?_
  refine wl_nil ?_
  refine qn_then ?_
  refine wc_seq ?_
  refine wc_draw (fun w => Sx.St w0 F0 ([Pc.lib (Φ44), Sx.blk b8 [.bool ((p).f0), .int .i64 ((p).f1), .int .i64 ((p).f2), .int .i64 ((p).f3)] 77] ++ R) w) (by kernel_rfl) ?_
  replace h := st_drew h
  refine wa_tk 0 rfl rfl rfl (st_selT [true, true] h) (fun w_ hS => ov_move _ rfl) ?_
  refine wa_tk 1 rfl rfl rfl (st_selT [true, true] h) (fun w_ hS => ov_move _ rfl) ?_
  refine wa_tk 2 rfl rfl rfl (st_selT [true, true] h) (fun w_ hS => ov_nilCheck _ rfl) ?_
  refine wa_tk 3 rfl rfl rfl (st_selT [true, true] h) (fun w_ hS => ov_fieldAddr _ ⟨g1, 2, none⟩ _ rfl fo89_2 rfl) ?_
  refine wa_tk 4 rfl rfl rfl (st_selT [true, true] h) (fun w_ hS => ov_loadN ⟨g1, 2, none⟩ [.bool ((tp3).f0), .int .i64 ((tp3).f1), .int .i64 ((tp3).f2), .int .i64 ((tp3).f3)] rfl sh77 (Sx.rob_cells ((Pc.at_cell ((fun W_ z_ => hr W_ (hsub45 W_ z_)) _ (Pc.lib_now hS (i := 0) rfl)))) 2 rfl)) ?_
  refine wa_tk 5 rfl rfl rfl (st_selT [true, true] h) (fun w_ hS => ov_move _ rfl) ?_
  refine wa_tk 6 rfl rfl rfl (st_selT [true, true] h) (fun w_ hS => ov_nilCheck _ rfl) ?_
  refine wa_tk 7 rfl rfl rfl (st_selT [true, true] h) (fun w_ hS => ov_fieldAddr _ ⟨g1, 1, none⟩ _ rfl fo89_1 rfl) ?_
  refine wa_tk 8 rfl rfl rfl (st_selT [true, true] h) (fun w_ hS => ov_load1 ⟨g1, 1, none⟩ _ rfl sh66 (((Pc.at_cell ((fun W_ z_ => hr W_ (hsub45 W_ z_)) _ (Pc.lib_now hS (i := 0) rfl))) 1).trans rfl)) ?_
  refine wa_one 9 rfl (by kernel_rfl) ?_
  refine wl_call _ rfl rfl rfl ent60 (TR.made_calls (R := [Sx.blk b8 [.bool ((p).f0), .int .i64 ((p).f1), .int .i64 ((p).f2), .int .i64 ((p).f3)] 77] ++ R) (Φ44) T43 tp3 tr4 hT46 (fun W_ z_ => (fun W_ z_ => (hr W_ z_).2.2) W_ (hsub45 W_ z_)) (by first | assumption | (refine Pc.sm_eq hsm ?_; simp only [Pc.AT.fl] at hf_ ⊢; rw [hf_]; simp; done) | exact Pc.sm_of hsm (by simp only [Pc.AT.fl, List.length_append, List.length_cons, List.length_nil]; omega) (fun q_ hq_ => by simp only [Pc.AT.fl, List.mem_append, List.mem_cons, List.not_mem_nil, or_false, false_or] at hq_ ⊢; grind)) h) ?_
  rintro e_ w_ ⟨gm47, Φ48, rfl, hsub49, hT50, h⟩
  refine ⟨_, rfl, ?_⟩
  refine wl_nil ?_
  refine qn_wa (Pc.lib_weakn 0 (fun W_ z_ => (hsub49 W_ z_)) (st_selT [true, true] h) rfl) ?_
  refine wa_tk 10 rfl rfl rfl (Pc.lib_weakn 0 (fun W_ z_ => (hsub49 W_ z_)) (st_selT [true, true] h) rfl) (fun w_ hS => ov_assign _ rfl) ?_
  refine wa_done (by kernel_rfl) ?_
  refine qn_then ?_
  refine wc_seq ?_
  refine wc_seq ?_
  refine wc_draw (fun w => Sx.St w0 F0 ([Pc.lib (Φ48), Sx.blk b8 [.bool ((p).f0), .int .i64 ((p).f1), .int .i64 ((p).f2), .int .i64 ((p).f3)] 77] ++ R) w) (by kernel_rfl) ?_
  replace h := st_drew h
  refine wa_tk 0 rfl rfl rfl (st_selT [true, true] h) (fun w_ hS => ov_move _ rfl) ?_
  refine wa_tk 2 rfl rfl rfl (st_selT [true, true] h) (fun w_ hS => ov_move _ rfl) ?_
  refine wa_tk 3 rfl rfl rfl (st_selT [true, true] h) (fun w_ hS => ov_nilCheck _ rfl) ?_
  refine wa_tk 4 rfl rfl rfl (st_selT [true, true] h) (fun w_ hS => ov_fieldAddr _ ⟨g1, 1, none⟩ _ rfl fo89_1 rfl) ?_
  refine wa_tk 5 rfl rfl rfl (st_selT [true, true] h) (fun w_ hS => ov_load1 ⟨g1, 1, none⟩ _ rfl sh66 (((Pc.at_cell ((fun W_ z_ => hr W_ (hsub45 W_ (hsub49 W_ z_))) _ (Pc.lib_now hS (i := 0) rfl))) 1).trans rfl)) ?_
  refine wa_one 1 rfl (by kernel_rfl) ?_
  refine wl_call _ rfl rfl rfl ent44 (TR.high_calls (R := [Sx.blk b8 [.bool ((p).f0), .int .i64 ((p).f1), .int .i64 ((p).f2), .int .i64 ((p).f3)] 77] ++ R) (Φ48) T43 (fun W_ z_ => hT46 W_ (hsub49 W_ z_)) h) ?_
  rintro e_ w_ ⟨rfl, h⟩
  refine ⟨_, rfl, ?_⟩
  refine wl_nil ?_
  refine qn_wa (st_selT [true, true] h) ?_
  refine wa_one 6 rfl (by kernel_rfl) ?_
  refine wl_call _ rfl rfl rfl ent44 (TR.high_calls (R := [Sx.blk b8 [.bool ((p).f0), .int .i64 ((p).f1), .int .i64 ((p).f2), .int .i64 ((p).f3)] 77] ++ R) (Φ48) tr4 (fun W_ z_ => (fun W_ z_ => (hr W_ z_).2.2) W_ (hsub45 W_ (hsub49 W_ z_))) h) ?_
  rintro e_ w_ ⟨rfl, h⟩
  refine ⟨_, rfl, ?_⟩
  refine wl_nil ?_
  refine qn_wa (st_selT [true, true] h) ?_
  refine wa_tk 7 rfl rfl rfl (st_selT [true, true] h) (fun w_ hS => ov_bin _ rfl rfl (binR_add (r := (Pc.AT.ht tr4) + 1) (Sx.w64 (by omega)))) ?_
  refine wa_tk 8 rfl rfl rfl (st_selT [true, true] h) (fun w_ hS => ov_bin _ rfl rfl (binR_leq)) ?_
  refine wa_done (by kernel_rfl) ?_
  refine qn_then ?_
  refine wc_cond (by rfl) (fun c51 => ?_) (fun c51 => ?_)
  ·
   refine wc_seq ?_
   refine wc_region ?_
   refine wl_v rfl rfl (ov_move _ rfl) ?_
   refine wl_v rfl rfl (ov_assign _ rfl) ?_
   refine wl_nil ?_
   refine qn_then ?_
   refine wc_ret ?_
   refine qn_then_ret ?_
   replace h := st_selT [true, false] h
   refine qn_ret [_] ⟨rfl, trivial⟩ ?_
   exact ⟨(Pc.AT.nd gm47 T43 tp3 tr4), _, rfl, fun W_ z_ => (hsub45 W_ (hsub49 W_ z_)), hT50, (by first | exact Pc.jl_a hbl hbr hgt (by assumption) (by assumption) | exact Pc.jl_b hbl hbr hgt (by assumption) (by assumption) | exact Pc.jl_c hbr hf_ hbt_ hjt_ (by assumption) | exact Pc.jl_d hbr hf_ hbt_ hjt_ (by assumption)), h⟩
  ·
   refine wc_skip ?_
   refine qn_then ?_
   refine wc_seq ?_
   refine wc_region ?_
   refine wl_v rfl rfl (ov_move _ rfl) ?_
   have hht52 : Pc.AT.ht (Pc.AT.nd g1 tl2 tp3 tr4) = 1 + max (Pc.AT.ht tl2) (Pc.AT.ht tr4) := rfl
   have hh053 := Pc.AT.ht_nonneg tl2
   have hh054 := Pc.AT.ht_nonneg tr4
   have hht55 : Pc.AT.ht (Pc.AT.nd gm47 T43 tp3 tr4) = 1 + max (Pc.AT.ht T43) (Pc.AT.ht tr4) := rfl
   have hh056 := Pc.AT.ht_nonneg T43
   have hh057 := Pc.AT.ht_nonneg tr4
   obtain ⟨g58, tl59, tp60, tr61, rfl⟩ := Pc.AT.ht_pos (T := T43) (by omega)
   refine wl_call _ rfl rfl rfl ent71 (TR.rightward_calls (R := [Sx.blk b8 [.bool ((p).f0), .int .i64 ((p).f1), .int .i64 ((p).f2), .int .i64 ((p).f3)] 77] ++ R) (Φ48) gm47 g58 tl59 tr61 tr4 tp60 tp3 hT50 (by first | assumption | (refine Pc.sm_eq hsm ?_; simp only [Pc.AT.fl] at hf_ ⊢; rw [hf_]; simp; done) | exact Pc.sm_of hsm (by simp only [Pc.AT.fl, List.length_append, List.length_cons, List.length_nil]; omega) (fun q_ hq_ => by simp only [Pc.AT.fl, List.mem_append, List.mem_cons, List.not_mem_nil, or_false, false_or] at hq_ ⊢; grind)) h) ?_
   rintro e_ w_ ⟨gr62, gr63, Φ64, rfl, hsub65, hT66, h⟩
   refine ⟨_, rfl, ?_⟩
   refine wl_v rfl rfl (ov_assign _ rfl) ?_
   refine wl_nil ?_
   refine qn_then ?_
   refine wc_ret ?_
   replace h := st_selT [true, false] h
   refine qn_ret [_] ⟨rfl, trivial⟩ ?_
   exact ⟨(Pc.AT.nd gr63 tl59 tp60 (Pc.AT.nd gr62 tr61 tp3 tr4)), _, rfl, fun W_ z_ => (hsub45 W_ (hsub49 W_ (hsub65 W_ z_))), hT66, (by first | exact Pc.jl_a hbl hbr hgt (by assumption) (by assumption) | exact Pc.jl_b hbl hbr hgt (by assumption) (by assumption) | exact Pc.jl_c hbr hf_ hbt_ hjt_ (by assumption) | exact Pc.jl_d hbr hf_ hbt_ hjt_ (by assumption)), h⟩
theorem joinLeft_calls {w0 w : World} {F0 : Nat → Prop} {R : List Sx.HP} (Φ : World → Prop) (l : Pc.AT) (p : S77) (r : Pc.AT) (hl : ∀ W, Φ W → Pc.At W l) (hr : ∀ W, Φ W → Pc.At W r) (hbl : Pc.AT.bal l) (hbr : Pc.AT.bal r) (hsm : Pc.Sm (Pc.AT.fl l ++ p :: Pc.AT.fl r)) (hgt : Pc.AT.ht l + 1 < Pc.AT.ht r) (h : Sx.St w0 F0 ([Pc.lib (Φ)] ++ R) w) : Calls Try.prog 65 #[.pointer (Pc.AT.ptr l), .agg #[.bool ((p).f0), .int .i64 ((p).f1), .int .i64 ((p).f2), .int .i64 ((p).f3)], .pointer (Pc.AT.ptr r)] w (fun e w1 => ∃ (T2 : Pc.AT) (Φ2 : World → Prop), e = .returned (.pointer (Pc.AT.ptr T2)) ∧ (∀ W, Φ2 W → Φ W) ∧ (∀ W, Φ2 W → Pc.At W T2) ∧ (Pc.AT.fl T2 = Pc.AT.fl l ++ p :: Pc.AT.fl r ∧ Pc.AT.bal T2 ∧ Pc.JL (Pc.AT.ht r) T2) ∧ Sx.St w0 F0 ([Pc.lib Φ2] ++ R) w1) := by
  have key : ∀ (N : Nat) {w0 w : World} {F0 : Nat → Prop} {R : List Sx.HP} (Φ : World → Prop) (l : Pc.AT) (p : S77) (r : Pc.AT) (hl : ∀ W, Φ W → Pc.At W l) (hr : ∀ W, Φ W → Pc.At W r) (hbl : Pc.AT.bal l) (hbr : Pc.AT.bal r) (hsm : Pc.Sm (Pc.AT.fl l ++ p :: Pc.AT.fl r)) (hgt : Pc.AT.ht l + 1 < Pc.AT.ht r) (hN : Pc.AT.cnt r < N) (h : Sx.St w0 F0 ([Pc.lib (Φ)] ++ R) w), Calls Try.prog 65 #[.pointer (Pc.AT.ptr l), .agg #[.bool ((p).f0), .int .i64 ((p).f1), .int .i64 ((p).f2), .int .i64 ((p).f3)], .pointer (Pc.AT.ptr r)] w (fun e w1 => ∃ (T2 : Pc.AT) (Φ2 : World → Prop), e = .returned (.pointer (Pc.AT.ptr T2)) ∧ (∀ W, Φ2 W → Φ W) ∧ (∀ W, Φ2 W → Pc.At W T2) ∧ (Pc.AT.fl T2 = Pc.AT.fl l ++ p :: Pc.AT.fl r ∧ Pc.AT.bal T2 ∧ Pc.JL (Pc.AT.ht r) T2) ∧ Sx.St w0 F0 ([Pc.lib Φ2] ++ R) w1) := by
    intro N
    induction N with
    | zero => intro w0 w F0 R Φ l p r hl hr hbl hbr hsm hgt hN; omega
    | succ N ih =>
      intro w0 w F0 R Φ l p r hl hr hbl hbr hsm hgt hN h
      exact joinLeft_step (Pc.AT.cnt r) (fun Φ l p r hl hr hbl hbr hsm hgt hN2 h => ih Φ l p r hl hr hbl hbr hsm hgt (by omega) h) Φ l p r hl hr hbl hbr hsm hgt rfl h
  exact key (Pc.AT.cnt r + 1) Φ l p r hl hr hbl hbr hsm hgt (by omega) h
set_option maxHeartbeats 4000000 in
set_option maxRecDepth 100000 in
theorem join_calls {w0 w : World} {F0 : Nat → Prop} {R : List Sx.HP} (Φ : World → Prop) (l : Pc.AT) (p : S77) (r : Pc.AT) (hl : ∀ W, Φ W → Pc.At W l) (hr : ∀ W, Φ W → Pc.At W r) (hbl : Pc.AT.bal l) (hbr : Pc.AT.bal r) (hsm : Pc.Sm (Pc.AT.fl l ++ p :: Pc.AT.fl r)) (h : Sx.St w0 F0 ([Pc.lib (Φ)] ++ R) w) : Calls Try.prog 48 #[.pointer (Pc.AT.ptr l), .agg #[.bool ((p).f0), .int .i64 ((p).f1), .int .i64 ((p).f2), .int .i64 ((p).f3)], .pointer (Pc.AT.ptr r)] w (fun e w1 => ∃ (T2 : Pc.AT) (Φ2 : World → Prop), e = .returned (.pointer (Pc.AT.ptr T2)) ∧ (∀ W, Φ2 W → Φ W) ∧ (∀ W, Φ2 W → Pc.At W T2) ∧ (Pc.AT.fl T2 = Pc.AT.fl l ++ p :: Pc.AT.fl r ∧ Pc.AT.bal T2) ∧ Sx.St w0 F0 ([Pc.lib Φ2] ++ R) w1) := by
 have hh1_ := Pc.AT.ht_le l
 have hh2_ := Pc.AT.ht_le r
 have hh3_ := Pc.AT.ht_nonneg l
 have hh4_ := Pc.AT.ht_nonneg r
 have hm_ := Pc.sm_mid hsm
 refine Sx.calls_fn (vs := [.pointer (Pc.AT.ptr l), .agg #[.bool ((p).f0), .int .i64 ((p).f1), .int .i64 ((p).f2), .int .i64 ((p).f3)], .pointer (Pc.AT.ptr r)]) Try.func48 rfl Try.ntmps48 rfl ?_
 refine wc_seq ?_
 refine wc_region ?_
 refine wl_box _ h rfl rfl rfl (fun b1 _ h => ?_)
 replace h : Sx.St _ _ (Sx.blk b1 [.bool ((p).f0), .int .i64 ((p).f1), .int .i64 ((p).f2), .int .i64 ((p).f3)] 77 :: _) _ := h
 refine wl_v rfl rfl (ov_assign _ rfl) ?_
 refine wl_nil ?_
 refine qn_then ?_
 refine wc_seq ?_
 refine wc_block ?_
 refine wc_seq ?_
 refine wc_region ?_
 refine wl_v rfl rfl (ov_move _ rfl) ?_
 replace h := st_front 1 h
 refine wl_call _ rfl rfl rfl ent44 (TR.high_calls (R := [Sx.blk b1 [.bool ((p).f0), .int .i64 ((p).f1), .int .i64 ((p).f2), .int .i64 ((p).f3)] 77] ++ R) (Φ) l hl h) ?_
 rintro e_ w_ ⟨rfl, h⟩
 refine ⟨_, rfl, ?_⟩
 refine wl_v rfl rfl (ov_move _ rfl) ?_
 refine wl_call _ rfl rfl rfl ent44 (TR.high_calls (R := [Sx.blk b1 [.bool ((p).f0), .int .i64 ((p).f1), .int .i64 ((p).f2), .int .i64 ((p).f3)] 77] ++ R) (Φ) r hr h) ?_
 rintro e_ w_ ⟨rfl, h⟩
 refine ⟨_, rfl, ?_⟩
 refine wl_v rfl rfl (ov_bin _ rfl rfl (binR_add (r := (Pc.AT.ht r) + 1) (Sx.w64 (by omega)))) ?_
 refine wl_v rfl rfl (ov_bin _ rfl rfl (binR_gtr)) ?_
 refine wl_v rfl rfl (ov_assign _ rfl) ?_
 refine wl_nil ?_
 refine qn_then ?_
 refine wc_cond (by rfl) (fun c2 => ?_) (fun c2 => ?_)
 ·
  refine wc_seq ?_
  refine wc_region ?_
  refine wl_v rfl rfl (ov_move _ rfl) ?_
  refine wl_v rfl rfl (ov_loadbN 1 [.bool ((p).f0), .int .i64 ((p).f1), .int .i64 ((p).f2), .int .i64 ((p).f3)] h rfl rfl sh77 rfl) ?_
  refine wl_v rfl rfl (ov_move _ rfl) ?_
  refine wl_call _ rfl rfl rfl ent64 (TJ.joinRight_calls (R := [Sx.blk b1 [.bool ((p).f0), .int .i64 ((p).f1), .int .i64 ((p).f2), .int .i64 ((p).f3)] 77] ++ R) (Φ) l p r hl hr hbl hbr (by first | assumption | (refine Pc.sm_eq hsm ?_; simp only [Pc.AT.fl] at hf_ ⊢; rw [hf_]; simp; done) | exact Pc.sm_of hsm (by simp only [Pc.AT.fl, List.length_append, List.length_cons, List.length_nil]; omega) (fun q_ hq_ => by simp only [Pc.AT.fl, List.mem_append, List.mem_cons, List.not_mem_nil, or_false, false_or] at hq_ ⊢; grind)) (by omega) h) ?_
  rintro e_ w_ ⟨T3, Φ4, rfl, hsub5, hT6, ⟨hf_, hbt_, hjt_⟩, h⟩
  refine ⟨_, rfl, ?_⟩
  refine wl_v rfl rfl (ov_assign _ rfl) ?_
  refine wl_nil ?_
  refine qn_then ?_
  refine wc_ret ?_
  refine qn_block_ret ?_
  refine qn_then_ret ?_
  replace h := st_selT [true, false] h
  refine qn_ret [_] ⟨rfl, trivial⟩ ?_
  exact ⟨T3, _, rfl, fun W_ z_ => (hsub5 W_ z_), hT6, (by first | exact ⟨hf_, hbt_⟩ | exact ⟨by simp [Pc.AT.fl], hbl, hbr, by omega, by omega⟩), h⟩
 ·
  refine wc_seq ?_
  refine wc_region ?_
  refine wl_v rfl rfl (ov_move _ rfl) ?_
  refine wl_call _ rfl rfl rfl ent44 (TR.high_calls (R := [Sx.blk b1 [.bool ((p).f0), .int .i64 ((p).f1), .int .i64 ((p).f2), .int .i64 ((p).f3)] 77] ++ R) (Φ) r hr h) ?_
  rintro e_ w_ ⟨rfl, h⟩
  refine ⟨_, rfl, ?_⟩
  refine wl_v rfl rfl (ov_move _ rfl) ?_
  refine wl_call _ rfl rfl rfl ent44 (TR.high_calls (R := [Sx.blk b1 [.bool ((p).f0), .int .i64 ((p).f1), .int .i64 ((p).f2), .int .i64 ((p).f3)] 77] ++ R) (Φ) l hl h) ?_
  rintro e_ w_ ⟨rfl, h⟩
  refine ⟨_, rfl, ?_⟩
  refine wl_v rfl rfl (ov_bin _ rfl rfl (binR_add (r := (Pc.AT.ht l) + 1) (Sx.w64 (by omega)))) ?_
  refine wl_v rfl rfl (ov_bin _ rfl rfl (binR_gtr)) ?_
  refine wl_v rfl rfl (ov_assign _ rfl) ?_
  refine wl_nil ?_
  refine qn_then ?_
  refine wc_cond (by rfl) (fun c7 => ?_) (fun c7 => ?_)
  ·
   refine wc_seq ?_
   refine wc_region ?_
   refine wl_v rfl rfl (ov_move _ rfl) ?_
   refine wl_v rfl rfl (ov_loadbN 1 [.bool ((p).f0), .int .i64 ((p).f1), .int .i64 ((p).f2), .int .i64 ((p).f3)] h rfl rfl sh77 rfl) ?_
   refine wl_v rfl rfl (ov_move _ rfl) ?_
   refine wl_call _ rfl rfl rfl ent65 (TJ.joinLeft_calls (R := [Sx.blk b1 [.bool ((p).f0), .int .i64 ((p).f1), .int .i64 ((p).f2), .int .i64 ((p).f3)] 77] ++ R) (Φ) l p r hl hr hbl hbr (by first | assumption | (refine Pc.sm_eq hsm ?_; simp only [Pc.AT.fl] at hf_ ⊢; rw [hf_]; simp; done) | exact Pc.sm_of hsm (by simp only [Pc.AT.fl, List.length_append, List.length_cons, List.length_nil]; omega) (fun q_ hq_ => by simp only [Pc.AT.fl, List.mem_append, List.mem_cons, List.not_mem_nil, or_false, false_or] at hq_ ⊢; grind)) (by omega) h) ?_
   rintro e_ w_ ⟨T8, Φ9, rfl, hsub10, hT11, ⟨hf_, hbt_, hjt_⟩, h⟩
   refine ⟨_, rfl, ?_⟩
   refine wl_v rfl rfl (ov_assign _ rfl) ?_
   refine wl_nil ?_
   refine qn_then ?_
   refine wc_ret ?_
   refine qn_block_ret ?_
   refine qn_then_ret ?_
   replace h := st_selT [true, false] h
   refine qn_ret [_] ⟨rfl, trivial⟩ ?_
   exact ⟨T8, _, rfl, fun W_ z_ => (hsub10 W_ z_), hT11, (by first | exact ⟨hf_, hbt_⟩ | exact ⟨by simp [Pc.AT.fl], hbl, hbr, by omega, by omega⟩), h⟩
  ·
   refine wc_skip ?_
   refine qn_block_normal ?_
   refine qn_then ?_
   refine wc_seq ?_
   refine wc_region ?_
   refine wl_v rfl rfl (ov_move _ rfl) ?_
   refine wl_v rfl rfl (ov_loadbN 1 [.bool ((p).f0), .int .i64 ((p).f1), .int .i64 ((p).f2), .int .i64 ((p).f3)] h rfl rfl sh77 rfl) ?_
   refine wl_v rfl rfl (ov_move _ rfl) ?_
   refine wl_call _ rfl rfl rfl ent60 (TR.made_calls (R := [Sx.blk b1 [.bool ((p).f0), .int .i64 ((p).f1), .int .i64 ((p).f2), .int .i64 ((p).f3)] 77] ++ R) (Φ) l p r hl hr (by first | assumption | (refine Pc.sm_eq hsm ?_; simp only [Pc.AT.fl] at hf_ ⊢; rw [hf_]; simp; done) | exact Pc.sm_of hsm (by simp only [Pc.AT.fl, List.length_append, List.length_cons, List.length_nil]; omega) (fun q_ hq_ => by simp only [Pc.AT.fl, List.mem_append, List.mem_cons, List.not_mem_nil, or_false, false_or] at hq_ ⊢; grind)) h) ?_
   rintro e_ w_ ⟨gm12, Φ13, rfl, hsub14, hT15, h⟩
   refine ⟨_, rfl, ?_⟩
   refine wl_v rfl rfl (ov_assign _ rfl) ?_
   refine wl_nil ?_
   refine qn_then ?_
   refine wc_ret ?_
   replace h := st_selT [true, false] h
   refine qn_ret [_] ⟨rfl, trivial⟩ ?_
   exact ⟨(Pc.AT.nd gm12 l p r), _, rfl, fun W_ z_ => (hsub14 W_ z_), hT15, (by first | exact ⟨hf_, hbt_⟩ | exact ⟨by simp [Pc.AT.fl], hbl, hbr, by omega, by omega⟩), h⟩
end Go.Proofs.Ytieieindakbpoaa.TJ
