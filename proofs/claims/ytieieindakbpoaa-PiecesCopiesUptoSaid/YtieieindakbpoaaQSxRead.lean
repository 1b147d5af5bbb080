/- Pruned by wip/prune.py. -/
import Derived.Test.YtieieindakbpoaaProg
import Derived.Test.YtieieindakbpoaaQSxGlue
import Derived.Test.YtieieindakbpoaaQSxRanged
import Derived.Test.YtieieindakbpoaaQSxRange1
import Derived.Test.YtieieindakbpoaaQSxFlow
import Derived.Test.YtieieindakbpoaaQSxBytes
import Derived.Test.YtieieindakbpoaaQSxKinds
import Derived.Test.YtieieindakbpoaaQPcText
import Derived.Test.YtieieindakbpoaaQPcWalk
import Derived.Test.YtieieindakbpoaaQPcRead
import Derived.Test.YtieieindakbpoaaQSxTree
import Derived.Test.YtieieindakbpoaaQSxRunes
import Derived.Test.YtieieindakbpoaaQSxLast
import Derived.Test.YtieieindakbpoaaQSxWalk
import Derived.Test.YtieieindakbpoaaQSxChunks
namespace Go.Proofs.Ytieieindakbpoaa.RD
open Go Go.RowKit Go.Proofs.YtieieindakbpoaaW.PrintWords Go.Proofs.Ytieieindakbpoaa.Kinds Go.Proofs.Ytieieindakbpoaa.Given Go.Proofs.Ytieieindakbpoaa.Rn Go.Proofs.Ytieieindakbpoaa.Sx Go.Proofs.Ytieieindakbpoaa.Pc 
set_option linter.unusedVariables false
set_option linter.unusedSimpArgs false
theorem fo89_3 : Sx.fieldOff Try.prog 89 3 = some 6 := by kernel_rfl
theorem sh3 : Sx.shapeOf Try.prog 3 = some (false, 1) := by kernel_rfl
theorem fo89_4 : Sx.fieldOff Try.prog 89 4 = some 7 := by kernel_rfl
theorem fo89_5 : Sx.fieldOff Try.prog 89 5 = some 8 := by kernel_rfl
theorem fo89_6 : Sx.fieldOff Try.prog 89 6 = some 9 := by kernel_rfl
theorem fo68_2 : Sx.fieldOff Try.prog 68 2 = some 2 := by kernel_rfl
theorem sh66 : Sx.shapeOf Try.prog 66 = some (false, 1) := by kernel_rfl
theorem ent39 : Sx.Ent Try.prog 39 := ⟨Try.f39, Try.func39, by kernel_rfl, by kernel_rfl⟩
theorem ent43 : Sx.Ent Try.prog 43 := ⟨Try.f43, Try.func43, by kernel_rfl, by kernel_rfl⟩
theorem ent42 : Sx.Ent Try.prog 42 := ⟨Try.f42, Try.func42, by kernel_rfl, by kernel_rfl⟩
theorem ent44 : Sx.Ent Try.prog 44 := ⟨Try.f44, Try.func44, by kernel_rfl, by kernel_rfl⟩
theorem fo89_0 : Sx.fieldOff Try.prog 89 0 = some 0 := by kernel_rfl
theorem fo89_2 : Sx.fieldOff Try.prog 89 2 = some 2 := by kernel_rfl
theorem fo77_2 : Sx.fieldOff Try.prog 77 2 = some 2 := by kernel_rfl
theorem fo77_1 : Sx.fieldOff Try.prog 77 1 = some 1 := by kernel_rfl
theorem fo77_0 : Sx.fieldOff Try.prog 77 0 = some 0 := by kernel_rfl
theorem sh4 : Sx.shapeOf Try.prog 4 = some (false, 1) := by kernel_rfl
theorem fo68_1 : Sx.fieldOff Try.prog 68 1 = some 1 := by kernel_rfl
theorem sh41 : Sx.shapeOf Try.prog 41 = some (false, 1) := by kernel_rfl
theorem es41 : Sx.elemSz Try.prog 41 = some (5, 1) := by kernel_rfl
theorem sh5 : Sx.shapeOf Try.prog 5 = some (false, 1) := by kernel_rfl
theorem fo68_0 : Sx.fieldOff Try.prog 68 0 = some 0 := by kernel_rfl
theorem sh9 : Sx.shapeOf Try.prog 9 = some (false, 1) := by kernel_rfl
theorem fo89_1 : Sx.fieldOff Try.prog 89 1 = some 1 := by kernel_rfl
theorem ent16 : Sx.Ent Try.prog 16 := ⟨Try.f16, Try.func16, by kernel_rfl, by kernel_rfl⟩
theorem ent56 : Sx.Ent Try.prog 56 := ⟨Try.f56, Try.func56, by kernel_rfl, by kernel_rfl⟩
theorem ent55 : Sx.Ent Try.prog 55 := ⟨Try.f55, Try.func55, by kernel_rfl, by kernel_rfl⟩
theorem ent31 : Sx.Ent Try.prog 31 := ⟨Try.f31, Try.func31, by kernel_rfl, by kernel_rfl⟩
set_option maxHeartbeats 4000000 in
set_option maxRecDepth 100000 in
theorem nbytes_calls {w0 w : World} {F0 : Nat → Prop} {R : List Sx.HP}  (T : Pc.AT)  (hT : ∀ cs_ w_, Sx.St w0 F0 (cs_ ++ R) w_ → Pc.At w_ T) (h : Sx.St w0 F0 ([] ++ R) w) : Calls Try.prog 39 #[.pointer (Pc.AT.ptr T)] w (fun e w1 => e = .returned (.int .i64 (Pc.szF (Pc.AT.fl T))) ∧ Sx.St w0 F0 ([] ++ R) w1) := by
 refine Sx.calls_fn (vs := [.pointer (Pc.AT.ptr T)]) Try.func39 rfl Try.ntmps39 rfl ?_
 refine wc_seq ?_
 refine wc_region ?_
 refine wl_v rfl rfl (ov_assign _ rfl) ?_
 refine wl_nil ?_
 refine qn_then ?_
 refine wc_seq ?_
 refine wc_seq ?_
 refine wc_region ?_
 refine wl_v rfl rfl (ov_move _ rfl) ?_
 refine wl_v rfl rfl (ov_bin _ rfl rfl (binR_eqnil Try.underlying66)) ?_
 refine wl_nil ?_
 refine qn_then ?_
 refine wc_cond (by rfl) (fun c1 => ?_) (fun c1 => ?_)
 ·
  obtain rfl := Pc.AT.ptr_none c1
  refine wc_seq ?_
  refine wc_region ?_
  refine wl_v rfl rfl (ov_assign _ rfl) ?_
  refine wl_nil ?_
  refine qn_then ?_
  refine wc_ret ?_
  refine qn_then_ret ?_
  refine qn_ret [_] ⟨rfl, trivial⟩ ?_
  have e_ : Pc.szF (Pc.AT.fl Pc.AT.nil) = 0 := by
    simp only [Pc.AT.fl, Pc.AT.ht, Pc.szF_app, Pc.szF_cons, Pc.szF_nil, Pc.lnF_nil, Pc.lnF_app, Pc.lnF_cons, List.length_append, List.length_cons, List.length_nil] <;> omega
  rw [e_]
  exact ⟨rfl, h⟩
 ·
  obtain ⟨g2, tl3, tp4, tr5, rfl⟩ := Pc.AT.ptr_some c1
  refine wc_skip ?_
  refine qn_then ?_
  refine wc_seq ?_
  refine wc_region ?_
  refine wl_v rfl rfl (ov_move _ rfl) ?_
  refine wl_v rfl rfl (ov_nilCheck _ rfl) ?_
  refine wl_v rfl rfl (ov_fieldAddr _ ⟨g2, 7, none⟩ _ rfl fo89_4 rfl) ?_
  refine wl_v rfl rfl (ov_load1 ⟨g2, 7, none⟩ _ rfl sh3 (((Pc.at_cell (hT [] _ h)) 7).trans rfl)) ?_
  refine wl_v rfl rfl (ov_assign _ rfl) ?_
  refine wl_nil ?_
  refine qn_then ?_
  refine wc_ret ?_
  refine qn_ret [_] ⟨rfl, trivial⟩ ?_
  have e_ : Pc.szF (Pc.AT.fl (Pc.AT.nd g2 tl3 tp4 tr5)) = Pc.szF (Pc.AT.fl tl3) + (tp4).f2 + Pc.szF (Pc.AT.fl tr5) := by
    simp only [Pc.AT.fl, Pc.AT.ht, Pc.szF_app, Pc.szF_cons, Pc.szF_nil, Pc.lnF_nil, Pc.lnF_app, Pc.lnF_cons, List.length_append, List.length_cons, List.length_nil] <;> omega
  rw [e_]
  exact ⟨rfl, h⟩
set_option maxHeartbeats 4000000 in
set_option maxRecDepth 100000 in
theorem nends_calls {w0 w : World} {F0 : Nat → Prop} {R : List Sx.HP}  (T : Pc.AT)  (hT : ∀ cs_ w_, Sx.St w0 F0 (cs_ ++ R) w_ → Pc.At w_ T) (h : Sx.St w0 F0 ([] ++ R) w) : Calls Try.prog 43 #[.pointer (Pc.AT.ptr T)] w (fun e w1 => e = .returned (.int .i64 (Pc.lnF (Pc.AT.fl T))) ∧ Sx.St w0 F0 ([] ++ R) w1) := by
 refine Sx.calls_fn (vs := [.pointer (Pc.AT.ptr T)]) Try.func43 rfl Try.ntmps43 rfl ?_
 refine wc_seq ?_
 refine wc_region ?_
 refine wl_v rfl rfl (ov_assign _ rfl) ?_
 refine wl_nil ?_
 refine qn_then ?_
 refine wc_seq ?_
 refine wc_seq ?_
 refine wc_region ?_
 refine wl_v rfl rfl (ov_move _ rfl) ?_
 refine wl_v rfl rfl (ov_bin _ rfl rfl (binR_eqnil Try.underlying66)) ?_
 refine wl_nil ?_
 refine qn_then ?_
 refine wc_cond (by rfl) (fun c1 => ?_) (fun c1 => ?_)
 ·
  obtain rfl := Pc.AT.ptr_none c1
  refine wc_seq ?_
  refine wc_region ?_
  refine wl_v rfl rfl (ov_assign _ rfl) ?_
  refine wl_nil ?_
  refine qn_then ?_
  refine wc_ret ?_
  refine qn_then_ret ?_
  refine qn_ret [_] ⟨rfl, trivial⟩ ?_
  have e_ : Pc.lnF (Pc.AT.fl Pc.AT.nil) = 0 := by
    simp only [Pc.AT.fl, Pc.AT.ht, Pc.szF_app, Pc.szF_cons, Pc.szF_nil, Pc.lnF_nil, Pc.lnF_app, Pc.lnF_cons, List.length_append, List.length_cons, List.length_nil] <;> omega
  rw [e_]
  exact ⟨rfl, h⟩
 ·
  obtain ⟨g2, tl3, tp4, tr5, rfl⟩ := Pc.AT.ptr_some c1
  refine wc_skip ?_
  refine qn_then ?_
  refine wc_seq ?_
  refine wc_region ?_
  refine wl_v rfl rfl (ov_move _ rfl) ?_
  refine wl_v rfl rfl (ov_nilCheck _ rfl) ?_
  refine wl_v rfl rfl (ov_fieldAddr _ ⟨g2, 8, none⟩ _ rfl fo89_5 rfl) ?_
  refine wl_v rfl rfl (ov_load1 ⟨g2, 8, none⟩ _ rfl sh3 (((Pc.at_cell (hT [] _ h)) 8).trans rfl)) ?_
  refine wl_v rfl rfl (ov_assign _ rfl) ?_
  refine wl_nil ?_
  refine qn_then ?_
  refine wc_ret ?_
  refine qn_ret [_] ⟨rfl, trivial⟩ ?_
  have e_ : Pc.lnF (Pc.AT.fl (Pc.AT.nd g2 tl3 tp4 tr5)) = Pc.lnF (Pc.AT.fl tl3) + (tp4).f3 + Pc.lnF (Pc.AT.fl tr5) := by
    simp only [Pc.AT.fl, Pc.AT.ht, Pc.szF_app, Pc.szF_cons, Pc.szF_nil, Pc.lnF_nil, Pc.lnF_app, Pc.lnF_cons, List.length_append, List.length_cons, List.length_nil] <;> omega
  rw [e_]
  exact ⟨rfl, h⟩
set_option maxHeartbeats 4000000 in
set_option maxRecDepth 100000 in
theorem npieces_calls {w0 w : World} {F0 : Nat → Prop} {R : List Sx.HP}  (T : Pc.AT)  (hT : ∀ cs_ w_, Sx.St w0 F0 (cs_ ++ R) w_ → Pc.At w_ T) (h : Sx.St w0 F0 ([] ++ R) w) : Calls Try.prog 42 #[.pointer (Pc.AT.ptr T)] w (fun e w1 => e = .returned (.int .i64 ((((Pc.AT.fl T).length : Nat) : Int))) ∧ Sx.St w0 F0 ([] ++ R) w1) := by
 refine Sx.calls_fn (vs := [.pointer (Pc.AT.ptr T)]) Try.func42 rfl Try.ntmps42 rfl ?_
 refine wc_seq ?_
 refine wc_region ?_
 refine wl_v rfl rfl (ov_assign _ rfl) ?_
 refine wl_nil ?_
 refine qn_then ?_
 refine wc_seq ?_
 refine wc_seq ?_
 refine wc_region ?_
 refine wl_v rfl rfl (ov_move _ rfl) ?_
 refine wl_v rfl rfl (ov_bin _ rfl rfl (binR_eqnil Try.underlying66)) ?_
 refine wl_nil ?_
 refine qn_then ?_
 refine wc_cond (by rfl) (fun c1 => ?_) (fun c1 => ?_)
 ·
  obtain rfl := Pc.AT.ptr_none c1
  refine wc_seq ?_
  refine wc_region ?_
  refine wl_v rfl rfl (ov_assign _ rfl) ?_
  refine wl_nil ?_
  refine qn_then ?_
  refine wc_ret ?_
  refine qn_then_ret ?_
  refine qn_ret [_] ⟨rfl, trivial⟩ ?_
  have e_ : (((Pc.AT.fl Pc.AT.nil).length : Nat) : Int) = 0 := by
    simp only [Pc.AT.fl, Pc.AT.ht, Pc.szF_app, Pc.szF_cons, Pc.szF_nil, Pc.lnF_nil, Pc.lnF_app, Pc.lnF_cons, List.length_append, List.length_cons, List.length_nil] <;> omega
  rw [e_]
  exact ⟨rfl, h⟩
 ·
  obtain ⟨g2, tl3, tp4, tr5, rfl⟩ := Pc.AT.ptr_some c1
  refine wc_skip ?_
  refine qn_then ?_
  refine wc_seq ?_
  refine wc_region ?_
  refine wl_v rfl rfl (ov_move _ rfl) ?_
  refine wl_v rfl rfl (ov_nilCheck _ rfl) ?_
  refine wl_v rfl rfl (ov_fieldAddr _ ⟨g2, 9, none⟩ _ rfl fo89_6 rfl) ?_
  refine wl_v rfl rfl (ov_load1 ⟨g2, 9, none⟩ _ rfl sh3 (((Pc.at_cell (hT [] _ h)) 9).trans rfl)) ?_
  refine wl_v rfl rfl (ov_assign _ rfl) ?_
  refine wl_nil ?_
  refine qn_then ?_
  refine wc_ret ?_
  refine qn_ret [_] ⟨rfl, trivial⟩ ?_
  have e_ : (((Pc.AT.fl (Pc.AT.nd g2 tl3 tp4 tr5)).length : Nat) : Int) = (((Pc.AT.fl tl3).length : Nat) : Int) + 1 + (((Pc.AT.fl tr5).length : Nat) : Int) := by
    simp only [Pc.AT.fl, Pc.AT.ht, Pc.szF_app, Pc.szF_cons, Pc.szF_nil, Pc.lnF_nil, Pc.lnF_app, Pc.lnF_cons, List.length_append, List.length_cons, List.length_nil] <;> omega
  rw [e_]
  exact ⟨rfl, h⟩
set_option maxHeartbeats 4000000 in
set_option maxRecDepth 100000 in
theorem Len_calls {w0 w : World} {F0 : Nat → Prop} {R : List Sx.HP} (gt : Nat) (s0 : ByteArray) (A : Option Addr) (c : Nat) (L : List Int) (T : Pc.AT)  (hz0 : s0.size ≤ 1000000) (hzL : L.length ≤ 1000000) (hlc : L.length ≤ c) (hb : Pc.Bytes L) (hw : Pc.Wf s0 L (Pc.AT.fl T)) (hcz : (Pc.cat s0 L (Pc.AT.fl T)).size ≤ 1000000) (ht : ∀ cs_ w_, Sx.St w0 F0 (cs_ ++ R) w_ → ∀ j_, w_.cell? ⟨gt, j_, none⟩ = ([.string s0, .slice A L.length c, .pointer (Pc.AT.ptr T)] : List Value)[j_]?) (hr : ∀ cs_ w_, Sx.St w0 F0 (cs_ ++ R) w_ → (Kd.int .u8).C w_ A L.length L) (hT : ∀ cs_ w_, Sx.St w0 F0 (cs_ ++ R) w_ → Pc.At w_ T)  (h : Sx.St w0 F0 ([] ++ R) w) : Calls Try.prog 16 #[.pointer (some ⟨gt, 0, none⟩)] w (fun e w1 => e = .returned (.int .i64 (Pc.szF (Pc.AT.fl T))) ∧ Sx.St w0 F0 ([] ++ R) w1) := by
 refine Sx.calls_fn (vs := [.pointer (some ⟨gt, 0, none⟩)]) Try.func16 rfl Try.ntmps16 rfl ?_
 refine wc_seq ?_
 refine wc_region ?_
 refine wl_v rfl rfl (ov_assign _ rfl) ?_
 refine wl_nil ?_
 refine qn_then ?_
 refine wc_seq ?_
 refine wc_region ?_
 refine wl_v rfl rfl (ov_move _ rfl) ?_
 refine wl_v rfl rfl (ov_nilCheck _ rfl) ?_
 refine wl_v rfl rfl (ov_fieldAddr _ ⟨gt, 2, none⟩ _ rfl fo68_2 rfl) ?_
 refine wl_v rfl rfl (ov_load1 ⟨gt, 2, none⟩ _ rfl sh66 (((ht [] _ h) 2).trans rfl)) ?_
 refine wl_call _ rfl rfl rfl ent39 (RD.nbytes_calls (R := [] ++ R) T hT h) ?_
 rintro e_ w_ ⟨rfl, h⟩
 refine ⟨_, rfl, ?_⟩
 refine wl_v rfl rfl (ov_assign _ rfl) ?_
 refine wl_nil ?_
 refine qn_then ?_
 refine wc_ret ?_
 refine qn_ret [_] ⟨rfl, trivial⟩ ?_
 exact ⟨rfl, h⟩
set_option maxHeartbeats 4000000 in
set_option maxRecDepth 100000 in
theorem Lines_calls {w0 w : World} {F0 : Nat → Prop} {R : List Sx.HP} (gt : Nat) (s0 : ByteArray) (A : Option Addr) (c : Nat) (L : List Int) (T : Pc.AT)  (hz0 : s0.size ≤ 1000000) (hzL : L.length ≤ 1000000) (hlc : L.length ≤ c) (hb : Pc.Bytes L) (hw : Pc.Wf s0 L (Pc.AT.fl T)) (hcz : (Pc.cat s0 L (Pc.AT.fl T)).size ≤ 1000000) (ht : ∀ cs_ w_, Sx.St w0 F0 (cs_ ++ R) w_ → ∀ j_, w_.cell? ⟨gt, j_, none⟩ = ([.string s0, .slice A L.length c, .pointer (Pc.AT.ptr T)] : List Value)[j_]?) (hr : ∀ cs_ w_, Sx.St w0 F0 (cs_ ++ R) w_ → (Kd.int .u8).C w_ A L.length L) (hT : ∀ cs_ w_, Sx.St w0 F0 (cs_ ++ R) w_ → Pc.At w_ T)  (h : Sx.St w0 F0 ([] ++ R) w) : Calls Try.prog 21 #[.pointer (some ⟨gt, 0, none⟩)] w (fun e w1 => e = .returned (.int .i64 (Pc.lnF (Pc.AT.fl T))) ∧ Sx.St w0 F0 ([] ++ R) w1) := by
 refine Sx.calls_fn (vs := [.pointer (some ⟨gt, 0, none⟩)]) Try.func21 rfl Try.ntmps21 rfl ?_
 refine wc_seq ?_
 refine wc_region ?_
 refine wl_v rfl rfl (ov_assign _ rfl) ?_
 refine wl_nil ?_
 refine qn_then ?_
 refine wc_seq ?_
 refine wc_region ?_
 refine wl_v rfl rfl (ov_move _ rfl) ?_
 refine wl_v rfl rfl (ov_nilCheck _ rfl) ?_
 refine wl_v rfl rfl (ov_fieldAddr _ ⟨gt, 2, none⟩ _ rfl fo68_2 rfl) ?_
 refine wl_v rfl rfl (ov_load1 ⟨gt, 2, none⟩ _ rfl sh66 (((ht [] _ h) 2).trans rfl)) ?_
 refine wl_call _ rfl rfl rfl ent43 (RD.nends_calls (R := [] ++ R) T hT h) ?_
 rintro e_ w_ ⟨rfl, h⟩
 refine ⟨_, rfl, ?_⟩
 refine wl_v rfl rfl (ov_assign _ rfl) ?_
 refine wl_nil ?_
 refine qn_then ?_
 refine wc_ret ?_
 refine qn_ret [_] ⟨rfl, trivial⟩ ?_
 exact ⟨rfl, h⟩
set_option maxHeartbeats 4000000 in
set_option maxRecDepth 100000 in
theorem Pieces_calls {w0 w : World} {F0 : Nat → Prop} {R : List Sx.HP} (gt : Nat) (s0 : ByteArray) (A : Option Addr) (c : Nat) (L : List Int) (T : Pc.AT)  (hz0 : s0.size ≤ 1000000) (hzL : L.length ≤ 1000000) (hlc : L.length ≤ c) (hb : Pc.Bytes L) (hw : Pc.Wf s0 L (Pc.AT.fl T)) (hcz : (Pc.cat s0 L (Pc.AT.fl T)).size ≤ 1000000) (ht : ∀ cs_ w_, Sx.St w0 F0 (cs_ ++ R) w_ → ∀ j_, w_.cell? ⟨gt, j_, none⟩ = ([.string s0, .slice A L.length c, .pointer (Pc.AT.ptr T)] : List Value)[j_]?) (hr : ∀ cs_ w_, Sx.St w0 F0 (cs_ ++ R) w_ → (Kd.int .u8).C w_ A L.length L) (hT : ∀ cs_ w_, Sx.St w0 F0 (cs_ ++ R) w_ → Pc.At w_ T)  (h : Sx.St w0 F0 ([] ++ R) w) : Calls Try.prog 20 #[.pointer (some ⟨gt, 0, none⟩)] w (fun e w1 => e = .returned (.int .i64 ((((Pc.AT.fl T).length : Nat) : Int))) ∧ Sx.St w0 F0 ([] ++ R) w1) := by
 refine Sx.calls_fn (vs := [.pointer (some ⟨gt, 0, none⟩)]) Try.func20 rfl Try.ntmps20 rfl ?_
 refine wc_seq ?_
 refine wc_region ?_
 refine wl_v rfl rfl (ov_assign _ rfl) ?_
 refine wl_nil ?_
 refine qn_then ?_
 refine wc_seq ?_
 refine wc_region ?_
 refine wl_v rfl rfl (ov_move _ rfl) ?_
 refine wl_v rfl rfl (ov_nilCheck _ rfl) ?_
 refine wl_v rfl rfl (ov_fieldAddr _ ⟨gt, 2, none⟩ _ rfl fo68_2 rfl) ?_
 refine wl_v rfl rfl (ov_load1 ⟨gt, 2, none⟩ _ rfl sh66 (((ht [] _ h) 2).trans rfl)) ?_
 refine wl_call _ rfl rfl rfl ent42 (RD.npieces_calls (R := [] ++ R) T hT h) ?_
 rintro e_ w_ ⟨rfl, h⟩
 refine ⟨_, rfl, ?_⟩
 refine wl_v rfl rfl (ov_assign _ rfl) ?_
 refine wl_nil ?_
 refine qn_then ?_
 refine wc_ret ?_
 refine qn_ret [_] ⟨rfl, trivial⟩ ?_
 exact ⟨rfl, h⟩
set_option maxHeartbeats 4000000 in
set_option maxRecDepth 100000 in
theorem byteAt_calls {w0 w : World} {F0 : Nat → Prop} {R : List Sx.HP} (gt : Nat) (s0 : ByteArray) (A : Option Addr) (c : Nat) (L : List Int) (T : Pc.AT) (k0 : Int) (hz0 : s0.size ≤ 1000000) (hzL : L.length ≤ 1000000) (hlc : L.length ≤ c) (hb : Pc.Bytes L) (hw : Pc.Wf s0 L (Pc.AT.fl T)) (hcz : (Pc.cat s0 L (Pc.AT.fl T)).size ≤ 1000000) (ht : ∀ cs_ w_, Sx.St w0 F0 (cs_ ++ R) w_ → ∀ j_, w_.cell? ⟨gt, j_, none⟩ = ([.string s0, .slice A L.length c, .pointer (Pc.AT.ptr T)] : List Value)[j_]?) (hr : ∀ cs_ w_, Sx.St w0 F0 (cs_ ++ R) w_ → (Kd.int .u8).C w_ A L.length L) (hT : ∀ cs_ w_, Sx.St w0 F0 (cs_ ++ R) w_ → Pc.At w_ T) (hk0 : 0 ≤ k0) (hk1 : k0 < Pc.szF (Pc.AT.fl T)) (h : Sx.St w0 F0 ([] ++ R) w) : Calls Try.prog 56 #[.pointer (some ⟨gt, 0, none⟩), .int .i64 (k0)] w (fun e w1 => e = .returned (.int .u8 (bt (Pc.cat s0 L (Pc.AT.fl T)) k0)) ∧ Sx.St w0 F0 ([] ++ R) w1) := by
 refine Sx.calls_fn (vs := [.pointer (some ⟨gt, 0, none⟩), .int .i64 (k0)]) Try.func56 rfl Try.ntmps56 rfl ?_
 refine wc_seq ?_
 refine wc_region ?_
 refine wl_v rfl rfl (ov_assign _ rfl) ?_
 refine wl_nil ?_
 refine qn_then ?_
 refine wc_seq ?_
 refine wc_region ?_
 refine wl_v rfl rfl (ov_move _ rfl) ?_
 refine wl_v rfl rfl (ov_nilCheck _ rfl) ?_
 refine wl_v rfl rfl (ov_fieldAddr _ ⟨gt, 2, none⟩ _ rfl fo68_2 rfl) ?_
 refine wl_v rfl rfl (ov_load1 ⟨gt, 2, none⟩ _ rfl sh66 (((ht [] _ h) 2).trans rfl)) ?_
 refine wl_v rfl rfl (ov_assign _ rfl) ?_
 refine wl_nil ?_
 refine qn_then ?_
 refine wc_block ?_
 refine wc_loop (fun (x_ : Pc.AT × Int) => [(0, .pointer (some ⟨gt, 0, none⟩)), (1, .int .i64 (x_.2)), (5, .pointer (Pc.AT.ptr x_.1))]) (fun (x_ : Pc.AT × Int) (w : World) => ((∀ cs_ w_, Sx.St w0 F0 (cs_ ++ R) w_ → Pc.At w_ x_.1) ∧ Pc.Wf s0 L (Pc.AT.fl x_.1) ∧ 0 ≤ x_.2 ∧ x_.2 < Pc.szF (Pc.AT.fl x_.1) ∧ bt (Pc.cat s0 L (Pc.AT.fl x_.1)) x_.2 = bt (Pc.cat s0 L (Pc.AT.fl T)) k0 ∧ (Pc.cat s0 L (Pc.AT.fl x_.1)).size ≤ 1000000) ∧ Sx.St w0 F0 ([] ++ R) w) (fun (x_ : Pc.AT × Int) => Pc.AT.cnt x_.1) (T, k0) ?_ ?_ ?_
 · exact ⟨rfl, rfl, rfl, trivial⟩
 · exact ⟨⟨hT, hw, hk0, hk1, rfl, hcz⟩, h⟩
 rintro ⟨S, k⟩ w h
 obtain ⟨hJ, h⟩ := h
 replace hJ : (∀ cs_ w_, Sx.St w0 F0 (cs_ ++ R) w_ → Pc.At w_ S) ∧ Pc.Wf s0 L (Pc.AT.fl S) ∧ 0 ≤ k ∧ k < Pc.szF (Pc.AT.fl S) ∧ bt (Pc.cat s0 L (Pc.AT.fl S)) k = bt (Pc.cat s0 L (Pc.AT.fl T)) k0 ∧ (Pc.cat s0 L (Pc.AT.fl S)).size ≤ 1000000 := hJ
 replace h : Sx.St w0 F0 ([] ++ R) w := h
 show Sx.WC _ _ _ _ [(0, .pointer (some ⟨gt, 0, none⟩)), (1, .int .i64 (k)), (5, .pointer (Pc.AT.ptr S))] _
 obtain ⟨hS_, hW_, hk0_, hk1_, hq_, hcz_⟩ := hJ
 obtain ⟨g1, tl2, tp3, tr4, rfl⟩ := Pc.AT.ht_pos (T := S) (Pc.ht_of_sz (by omega))
 obtain ⟨hw1_, hw2_, hw3_, hw4_⟩ := Pc.nd_facts hW_
 have hfl_ : Pc.AT.fl (Pc.AT.nd g1 tl2 tp3 tr4) = Pc.AT.fl tl2 ++ tp3 :: Pc.AT.fl tr4 := rfl
 rw [hfl_] at hk1_ hq_
 rw [Pc.szF_app, Pc.szF_cons] at hk1_
 obtain ⟨hn1_, hn2_, hn3_⟩ := Pc.bt_nd (r := Pc.AT.fl tr4) hw1_ hw2_ hk0_
 have hz1_ := Pc.cat_size hw1_
 have hz2_ := Pc.tx_size hw2_
 have hz3_ := Pc.cat_size hw3_
 have hsm_ := Pc.wf_small hz0 hzL hw2_
 have hf0_ := hw2_.f0
 have hf1_ := hw2_.f1
 have hf2_ := hw2_.f2
 refine wc_block ?_
 refine wc_seq ?_
 refine wc_region ?_
 refine wl_v rfl rfl (ov_move _ rfl) ?_
 refine wl_v rfl rfl (ov_nilCheck _ rfl) ?_
 refine wl_v rfl rfl (ov_fieldAddr _ ⟨g1, 0, none⟩ _ rfl fo89_0 rfl) ?_
 refine wl_v rfl rfl (ov_load1 ⟨g1, 0, none⟩ _ rfl sh66 (((Pc.at_cell (hS_ [] _ h)) 0).trans rfl)) ?_
 refine wl_call _ rfl rfl rfl ent39 (RD.nbytes_calls (R := [] ++ R) tl2 (fun cs_ w_ h_ => (hS_ cs_ w_ h_).2.1) h) ?_
 rintro e_ w_ ⟨rfl, h⟩
 refine ⟨_, rfl, ?_⟩
 refine wl_v rfl rfl (ov_assign _ rfl) ?_
 refine wl_nil ?_
 refine qn_then ?_
 refine wc_block ?_
 refine wc_seq ?_
 refine wc_region ?_
 refine wl_v rfl rfl (ov_move _ rfl) ?_
 refine wl_v rfl rfl (ov_move _ rfl) ?_
 refine wl_v rfl rfl (ov_bin _ rfl rfl (binR_lss)) ?_
 refine wl_v rfl rfl (ov_assign _ rfl) ?_
 refine wl_nil ?_
 refine qn_then ?_
 refine wc_cond (by rfl) (fun c5 => ?_) (fun c5 => ?_)
 ·
  refine wc_region ?_
  refine wl_v rfl rfl (ov_move _ rfl) ?_
  refine wl_v rfl rfl (ov_nilCheck _ rfl) ?_
  refine wl_v rfl rfl (ov_fieldAddr _ ⟨g1, 0, none⟩ _ rfl fo89_0 rfl) ?_
  refine wl_v rfl rfl (ov_load1 ⟨g1, 0, none⟩ _ rfl sh66 (((Pc.at_cell (hS_ [] _ h)) 0).trans rfl)) ?_
  refine wl_v rfl rfl (ov_assign _ rfl) ?_
  refine wl_nil ?_
  refine qn_block_normal ?_
  refine qn_block_normal ?_
  refine qn_next (tl2, k) (by show Pc.AT.cnt tl2 < Pc.AT.cnt (Pc.AT.nd g1 tl2 tp3 tr4); first | (show _ < Pc.AT.cnt _ + 1 + Pc.AT.cnt _; omega) | omega) ⟨rfl, rfl, rfl, trivial⟩ ?_
  show ((∀ cs_ w_, Sx.St w0 F0 (cs_ ++ R) w_ → Pc.At w_ tl2) ∧ Pc.Wf s0 L (Pc.AT.fl tl2) ∧ 0 ≤ k ∧ k < Pc.szF (Pc.AT.fl tl2) ∧ bt (Pc.cat s0 L (Pc.AT.fl tl2)) k = bt (Pc.cat s0 L (Pc.AT.fl T)) k0 ∧ (Pc.cat s0 L (Pc.AT.fl tl2)).size ≤ 1000000) ∧ _
  exact ⟨⟨(fun cs_ w_ h_ => (hS_ cs_ w_ h_).2.1), hw1_, hk0_, by omega, by rw [← hn1_ (by omega)]; exact hq_, by omega⟩, h⟩
 ·
  refine wc_seq ?_
  refine wc_region ?_
  refine wl_v rfl rfl (ov_move _ rfl) ?_
  refine wl_v rfl rfl (ov_move _ rfl) ?_
  refine wl_v rfl rfl (ov_move _ rfl) ?_
  refine wl_v rfl rfl (ov_nilCheck _ rfl) ?_
  refine wl_v rfl rfl (ov_fieldAddr _ ⟨g1, 2, none⟩ _ rfl fo89_2 rfl) ?_
  refine wl_v rfl rfl (ov_fieldAddr _ ⟨g1, 4, none⟩ _ rfl fo77_2 rfl) ?_
  refine wl_v rfl rfl (ov_load1 ⟨g1, 4, none⟩ _ rfl sh3 (((Pc.at_cell (hS_ [] _ h)) 4).trans rfl)) ?_
  refine wl_v rfl rfl (ov_bin _ rfl rfl (binR_add (r := (Pc.szF (Pc.AT.fl tl2)) + ((tp3).f2)) (Sx.w64 (by omega)))) ?_
  refine wl_v rfl rfl (ov_bin _ rfl rfl (binR_lss)) ?_
  refine wl_v rfl rfl (ov_assign _ rfl) ?_
  refine wl_nil ?_
  refine qn_then ?_
  refine wc_cond (by rfl) (fun c6 => ?_) (fun c6 => ?_)
  ·
   refine wc_seq ?_
   refine wc_region ?_
   refine wl_v rfl rfl (ov_move _ rfl) ?_
   refine wl_v rfl rfl (ov_nilCheck _ rfl) ?_
   refine wl_v rfl rfl (ov_fieldAddr _ ⟨g1, 2, none⟩ _ rfl fo89_2 rfl) ?_
   refine wl_v rfl rfl (ov_fieldAddr _ ⟨g1, 3, none⟩ _ rfl fo77_1 rfl) ?_
   refine wl_v rfl rfl (ov_load1 ⟨g1, 3, none⟩ _ rfl sh3 (((Pc.at_cell (hS_ [] _ h)) 3).trans rfl)) ?_
   refine wl_v rfl rfl (ov_move _ rfl) ?_
   refine wl_v rfl rfl (ov_bin _ rfl rfl (binR_add (r := ((tp3).f1) + k) (Sx.w64 (by omega)))) ?_
   refine wl_v rfl rfl (ov_move _ rfl) ?_
   refine wl_v rfl rfl (ov_bin _ rfl rfl (binR_sub (r := (((tp3).f1) + k) - (Pc.szF (Pc.AT.fl tl2))) (Sx.w64 (by omega)))) ?_
   refine wl_v rfl rfl (ov_assign _ rfl) ?_
   refine wl_nil ?_
   refine qn_then ?_
   refine wc_seq ?_
   refine wc_seq ?_
   refine wc_region ?_
   refine wl_v rfl rfl (ov_move _ rfl) ?_
   refine wl_v rfl rfl (ov_nilCheck _ rfl) ?_
   refine wl_v rfl rfl (ov_fieldAddr _ ⟨g1, 2, none⟩ _ rfl fo89_2 rfl) ?_
   refine wl_v rfl rfl (ov_fieldAddr _ ⟨g1, 2, none⟩ _ rfl fo77_0 rfl) ?_
   refine wl_v rfl rfl (ov_load1 ⟨g1, 2, none⟩ _ rfl sh4 (((Pc.at_cell (hS_ [] _ h)) 2).trans rfl)) ?_
   refine wl_nil ?_
   refine qn_then ?_
   refine wc_condb (by rfl) (fun c7 => ?_) (fun c7 => ?_)
   ·
    have hc_ := c7
    rw [if_pos hc_] at hf2_
    refine wc_seq ?_
    refine wc_region ?_
    refine wl_v rfl rfl (ov_move _ rfl) ?_
    refine wl_v rfl rfl (ov_nilCheck _ rfl) ?_
    refine wl_v rfl rfl (ov_fieldAddr _ ⟨gt, 1, none⟩ _ rfl fo68_1 rfl) ?_
    refine wl_v rfl rfl (ov_load1 ⟨gt, 1, none⟩ _ rfl sh41 (((ht [] _ h) 1).trans rfl)) ?_
    refine wl_v rfl rfl (ov_move _ rfl) ?_
    obtain ⟨ad8, rfl⟩ := Sx.C_some ((hr [] _ h)) (k := ((((tp3).f1) + k) - (Pc.szF (Pc.AT.fl tl2)) : Int).toNat) (by first | assumption | omega)
    refine wl_v rfl rfl (ov_indexAddrN _ _ _ _ _ ((((tp3).f1) + k) - (Pc.szF (Pc.AT.fl tl2)) : Int).toNat rfl rfl es41 (by omega) (by first | assumption | omega | (simp only [List.length_take, List.length_drop, List.length_set]; omega))) ?_
    obtain ⟨cl11, _, hk10, hc9⟩ := Sx.C_cells ((hr [] _ h)) (z := (0 : Int)) (k := ((((tp3).f1) + k) - (Pc.szF (Pc.AT.fl tl2)) : Int).toNat) (by first | assumption | omega | (simp only [List.length_set]; omega))
    obtain rfl : cl11 = [.int .u8 _] := hk10
    refine wl_v rfl rfl (ov_load1 _ _ rfl sh5 ((hc9 0 _ rfl))) ?_
    refine wl_v rfl rfl (ov_assign _ rfl) ?_
    refine wl_nil ?_
    refine qn_then ?_
    refine wc_ret ?_
    refine qn_then_ret ?_
    refine qn_block_ret ?_
    refine qn_block_ret ?_
    refine qn_then_ret ?_
    refine qn_block_ret ?_
    refine qn_ret [_] ⟨rfl, trivial⟩ ?_
    have hx_ := Pc.bt_tx hb hw2_ (k := k - Pc.szF (Pc.AT.fl tl2)) (by omega) (by omega)
    rw [if_pos hc_] at hx_
    have e_ : bt (Pc.cat s0 L (Pc.AT.fl T)) k0 = (L).getD ((((tp3).f1) + k) - (Pc.szF (Pc.AT.fl tl2)) : Int).toNat (0 : Int) := by
      rw [← hq_, hn2_ (by omega) (by omega), hx_]
      congr 1
      omega
    rw [e_]
    exact ⟨rfl, h⟩
   ·
    have hc_ := c7
    rw [if_neg (by rw [hc_]; decide)] at hf2_
    refine wc_skip ?_
    refine qn_then ?_
    refine wc_seq ?_
    refine wc_region ?_
    refine wl_v rfl rfl (ov_move _ rfl) ?_
    refine wl_v rfl rfl (ov_nilCheck _ rfl) ?_
    refine wl_v rfl rfl (ov_fieldAddr _ ⟨gt, 0, none⟩ _ rfl fo68_0 rfl) ?_
    refine wl_v rfl rfl (ov_load1 ⟨gt, 0, none⟩ _ rfl sh9 (((ht [] _ h) 0).trans rfl)) ?_
    refine wl_v rfl rfl (ov_move _ rfl) ?_
    have hbt12 := Go.Proofs.Ytieieindakbpoaa.Given.bt_nonneg s0 ((((tp3).f1) + k) - (Pc.szF (Pc.AT.fl tl2)))
    refine wl_v rfl rfl (ov_indexbt _ _ rfl rfl Try.underlying9 (by omega) (by omega)) ?_
    refine wl_v rfl rfl (ov_assign _ rfl) ?_
    refine wl_nil ?_
    refine qn_then ?_
    refine wc_ret ?_
    refine qn_block_ret ?_
    refine qn_block_ret ?_
    refine qn_then_ret ?_
    refine qn_block_ret ?_
    refine qn_ret [_] ⟨rfl, trivial⟩ ?_
    have hx_ := Pc.bt_tx hb hw2_ (k := k - Pc.szF (Pc.AT.fl tl2)) (by omega) (by omega)
    rw [if_neg (by rw [hc_]; decide)] at hx_
    have e_ : bt (Pc.cat s0 L (Pc.AT.fl T)) k0 = bt s0 ((((tp3).f1) + k) - (Pc.szF (Pc.AT.fl tl2))) := by
      rw [← hq_, hn2_ (by omega) (by omega), hx_]
      congr 1
      omega
    rw [e_]
    exact ⟨rfl, h⟩
  ·
   refine wc_seq ?_
   refine wc_region ?_
   refine wl_v rfl rfl (ov_move _ rfl) ?_
   refine wl_v rfl rfl (ov_move _ rfl) ?_
   refine wl_v rfl rfl (ov_move _ rfl) ?_
   refine wl_v rfl rfl (ov_nilCheck _ rfl) ?_
   refine wl_v rfl rfl (ov_fieldAddr _ ⟨g1, 2, none⟩ _ rfl fo89_2 rfl) ?_
   refine wl_v rfl rfl (ov_fieldAddr _ ⟨g1, 4, none⟩ _ rfl fo77_2 rfl) ?_
   refine wl_v rfl rfl (ov_load1 ⟨g1, 4, none⟩ _ rfl sh3 (((Pc.at_cell (hS_ [] _ h)) 4).trans rfl)) ?_
   refine wl_v rfl rfl (ov_bin _ rfl rfl (binR_add (r := (Pc.szF (Pc.AT.fl tl2)) + ((tp3).f2)) (Sx.w64 (by omega)))) ?_
   refine wl_v rfl rfl (ov_bin _ rfl rfl (binR_sub (r := k - ((Pc.szF (Pc.AT.fl tl2)) + ((tp3).f2))) (Sx.w64 (by omega)))) ?_
   refine wl_v rfl rfl (ov_assign _ rfl) ?_
   refine wl_nil ?_
   refine qn_then ?_
   refine wc_region ?_
   refine wl_v rfl rfl (ov_move _ rfl) ?_
   refine wl_v rfl rfl (ov_nilCheck _ rfl) ?_
   refine wl_v rfl rfl (ov_fieldAddr _ ⟨g1, 1, none⟩ _ rfl fo89_1 rfl) ?_
   refine wl_v rfl rfl (ov_load1 ⟨g1, 1, none⟩ _ rfl sh66 (((Pc.at_cell (hS_ [] _ h)) 1).trans rfl)) ?_
   refine wl_v rfl rfl (ov_assign _ rfl) ?_
   refine wl_nil ?_
   refine qn_block_normal ?_
   refine qn_block_normal ?_
   refine qn_next (tr4, (k - ((Pc.szF (Pc.AT.fl tl2)) + ((tp3).f2)))) (by show Pc.AT.cnt tr4 < Pc.AT.cnt (Pc.AT.nd g1 tl2 tp3 tr4); first | (show _ < Pc.AT.cnt _ + 1 + Pc.AT.cnt _; omega) | omega) ⟨rfl, (congrArg (fun z_ => some (Value.int .i64 z_)) (show (k - ((Pc.szF (Pc.AT.fl tl2)) + ((tp3).f2)) : Int) = (k - ((Pc.szF (Pc.AT.fl tl2)) + ((tp3).f2))) by omega)), rfl, trivial⟩ ?_
   show ((∀ cs_ w_, Sx.St w0 F0 (cs_ ++ R) w_ → Pc.At w_ tr4) ∧ Pc.Wf s0 L (Pc.AT.fl tr4) ∧ 0 ≤ (k - ((Pc.szF (Pc.AT.fl tl2)) + ((tp3).f2))) ∧ (k - ((Pc.szF (Pc.AT.fl tl2)) + ((tp3).f2))) < Pc.szF (Pc.AT.fl tr4) ∧ bt (Pc.cat s0 L (Pc.AT.fl tr4)) (k - ((Pc.szF (Pc.AT.fl tl2)) + ((tp3).f2))) = bt (Pc.cat s0 L (Pc.AT.fl T)) k0 ∧ (Pc.cat s0 L (Pc.AT.fl tr4)).size ≤ 1000000) ∧ _
   exact ⟨⟨(fun cs_ w_ h_ => (hS_ cs_ w_ h_).2.2), hw3_, by omega, by omega, by rw [← hn3_ (by omega)]; exact hq_, by omega⟩, h⟩
/-- Check's answer. -/
def pchk (C : ByteArray) (k : Int) : Int := if k < 0 ∨ (C.size : Int) < k then 30 else if k < C.size ∧ inside (bt C k) = true then 21 else 0
def pspan (C : ByteArray) (a b : Int) : Int := if a < 0 ∨ (C.size : Int) < b ∨ b < a then 30 else if pchk C a ≠ 0 then pchk C a else pchk C b
theorem inside_le (C : ByteArray) (k : Int) : pchk C k = 0 ∨ pchk C k = 21 ∨ pchk C k = 30 := by
  unfold pchk
  split
  · exact .inr (.inr rfl)
  · split
    · exact .inr (.inl rfl)
    · exact .inl rfl
set_option maxHeartbeats 4000000 in
set_option maxRecDepth 100000 in
theorem Check_calls {w0 w : World} {F0 : Nat → Prop} {R : List Sx.HP} (gt : Nat) (s0 : ByteArray) (A : Option Addr) (c : Nat) (L : List Int) (T : Pc.AT) (k0 : Int) (hz0 : s0.size ≤ 1000000) (hzL : L.length ≤ 1000000) (hlc : L.length ≤ c) (hb : Pc.Bytes L) (hw : Pc.Wf s0 L (Pc.AT.fl T)) (hcz : (Pc.cat s0 L (Pc.AT.fl T)).size ≤ 1000000) (ht : ∀ cs_ w_, Sx.St w0 F0 (cs_ ++ R) w_ → ∀ j_, w_.cell? ⟨gt, j_, none⟩ = ([.string s0, .slice A L.length c, .pointer (Pc.AT.ptr T)] : List Value)[j_]?) (hr : ∀ cs_ w_, Sx.St w0 F0 (cs_ ++ R) w_ → (Kd.int .u8).C w_ A L.length L) (hT : ∀ cs_ w_, Sx.St w0 F0 (cs_ ++ R) w_ → Pc.At w_ T)  (h : Sx.St w0 F0 ([] ++ R) w) : Calls Try.prog 31 #[.pointer (some ⟨gt, 0, none⟩), .int .i64 (k0)] w (fun e w1 => e = .returned (.int .i64 (pchk (Pc.cat s0 L (Pc.AT.fl T)) k0)) ∧ Sx.St w0 F0 ([] ++ R) w1) := by
 have hcs_ := Pc.cat_size hw
 refine Sx.calls_fn (vs := [.pointer (some ⟨gt, 0, none⟩), .int .i64 (k0)]) Try.func31 rfl Try.ntmps31 rfl ?_
 refine wc_seq ?_
 refine wc_region ?_
 refine wl_v rfl rfl (ov_assign _ rfl) ?_
 refine wl_nil ?_
 refine qn_then ?_
 refine wc_seq ?_
 refine wc_seq ?_
 refine wc_region ?_
 refine wl_v rfl rfl (ov_move _ rfl) ?_
 refine wl_v rfl rfl (ov_bin _ rfl rfl (binR_lss)) ?_
 refine wl_v rfl rfl (ov_move _ rfl) ?_
 refine wl_split 7 rfl (fun c1 => ?_) (fun c1 => ?_)
 ·
  refine wl_skip rfl rfl ?_
  refine wl_skip rfl rfl ?_
  refine wl_skip rfl rfl ?_
  refine wl_skip rfl rfl ?_
  refine wl_v rfl rfl (ov_pick_true _ rfl rfl) ?_
  refine wl_nil ?_
  refine qn_then ?_
  refine wc_cond_true rfl ?_
  refine wc_seq ?_
  refine wc_region ?_
  refine wl_v rfl rfl (ov_assign _ rfl) ?_
  refine wl_nil ?_
  refine qn_then ?_
  refine wc_ret ?_
  refine qn_then_ret ?_
  refine qn_ret [_] ⟨rfl, trivial⟩ ?_
  have e_ : pchk (Pc.cat s0 L (Pc.AT.fl T)) k0 = 30 := by
    unfold pchk
    repeat' split
    all_goals first | rfl | (exfalso; omega) | (exfalso; simp_all; done) | (exfalso; simp_all; omega) | simp_all
  rw [e_]
  exact ⟨rfl, h⟩
 ·
  refine wl_v rfl rfl (ov_move _ rfl) ?_
  refine wl_v rfl rfl (ov_move _ rfl) ?_
  refine wl_call _ rfl rfl rfl ent16 (RD.Len_calls (R := [] ++ R) gt s0 A c L T  hz0 hzL hlc hb hw hcz ht hr hT  h) ?_
  rintro e_ w_ ⟨rfl, h⟩
  refine ⟨_, rfl, ?_⟩
  refine wl_v rfl rfl (ov_bin _ rfl rfl (binR_gtr)) ?_
  refine wl_v rfl rfl (ov_pick_false _ rfl rfl) ?_
  refine wl_nil ?_
  refine qn_then ?_
  refine wc_cond (by rfl) (fun c2 => ?_) (fun c2 => ?_)
  ·
   refine wc_seq ?_
   refine wc_region ?_
   refine wl_v rfl rfl (ov_assign _ rfl) ?_
   refine wl_nil ?_
   refine qn_then ?_
   refine wc_ret ?_
   refine qn_then_ret ?_
   refine qn_ret [_] ⟨rfl, trivial⟩ ?_
   have e_ : pchk (Pc.cat s0 L (Pc.AT.fl T)) k0 = 30 := by
     unfold pchk
     repeat' split
     all_goals first | rfl | (exfalso; omega) | (exfalso; simp_all; done) | (exfalso; simp_all; omega) | simp_all
   rw [e_]
   exact ⟨rfl, h⟩
  ·
   refine wc_skip ?_
   refine qn_then ?_
   refine wc_seq ?_
   refine wc_seq ?_
   refine wc_region ?_
   refine wl_v rfl rfl (ov_move _ rfl) ?_
   refine wl_v rfl rfl (ov_move _ rfl) ?_
   refine wl_call _ rfl rfl rfl ent16 (RD.Len_calls (R := [] ++ R) gt s0 A c L T  hz0 hzL hlc hb hw hcz ht hr hT  h) ?_
   rintro e_ w_ ⟨rfl, h⟩
   refine ⟨_, rfl, ?_⟩
   refine wl_v rfl rfl (ov_bin _ rfl rfl (binR_lss)) ?_
   refine wl_v rfl rfl (ov_move _ rfl) ?_
   refine wl_split 17 rfl (fun c3 => ?_) (fun c3 => ?_)
   ·
    refine wl_v rfl rfl (ov_move _ rfl) ?_
    refine wl_v rfl rfl (ov_move _ rfl) ?_
    refine wl_call _ rfl rfl rfl ent56 (RD.byteAt_calls (R := [] ++ R) gt s0 A c L T (k0) hz0 hzL hlc hb hw hcz ht hr hT (by omega) (by omega) h) ?_
    rintro e_ w_ ⟨rfl, h⟩
    refine ⟨_, rfl, ?_⟩
    have hbt4 := Go.Proofs.Ytieieindakbpoaa.Given.bt_nonneg (Pc.cat s0 L (Pc.AT.fl T)) (k0)
    refine wl_call _ rfl rfl rfl ent55 (RN.Inside_calls (R := [] ++ R) (bt (Pc.cat s0 L (Pc.AT.fl T)) (k0)) (by omega) (by omega) h) ?_
    rintro e_ w_ ⟨rfl, h⟩
    refine ⟨_, rfl, ?_⟩
    refine wl_v rfl rfl (ov_pick_true _ rfl rfl) ?_
    refine wl_nil ?_
    refine qn_then ?_
    refine wc_condb (by rfl) (fun c5 => ?_) (fun c5 => ?_)
    ·
     refine wc_seq ?_
     refine wc_region ?_
     refine wl_v rfl rfl (ov_assign _ rfl) ?_
     refine wl_nil ?_
     refine qn_then ?_
     refine wc_ret ?_
     refine qn_then_ret ?_
     refine qn_ret [_] ⟨rfl, trivial⟩ ?_
     have e_ : pchk (Pc.cat s0 L (Pc.AT.fl T)) k0 = 21 := by
       unfold pchk
       repeat' split
       all_goals first | rfl | (exfalso; omega) | (exfalso; simp_all; done) | (exfalso; simp_all; omega) | simp_all
     rw [e_]
     exact ⟨rfl, h⟩
    ·
     refine wc_skip ?_
     refine qn_then ?_
     refine wc_seq ?_
     refine wc_region ?_
     refine wl_v rfl rfl (ov_assign _ rfl) ?_
     refine wl_nil ?_
     refine qn_then ?_
     refine wc_ret ?_
     refine qn_ret [_] ⟨rfl, trivial⟩ ?_
     have e_ : pchk (Pc.cat s0 L (Pc.AT.fl T)) k0 = 0 := by
       unfold pchk
       repeat' split
       all_goals first | rfl | (exfalso; omega) | (exfalso; simp_all; done) | (exfalso; simp_all; omega) | simp_all
     rw [e_]
     exact ⟨rfl, h⟩
   ·
    refine wl_skip rfl rfl ?_
    refine wl_skip rfl rfl ?_
    refine wl_skip rfl rfl ?_
    refine wl_skip rfl rfl ?_
    refine wl_v rfl rfl (ov_pick_false _ rfl rfl) ?_
    refine wl_nil ?_
    refine qn_then ?_
    refine wc_cond_false rfl ?_
    refine wc_skip ?_
    refine qn_then ?_
    refine wc_seq ?_
    refine wc_region ?_
    refine wl_v rfl rfl (ov_assign _ rfl) ?_
    refine wl_nil ?_
    refine qn_then ?_
    refine wc_ret ?_
    refine qn_ret [_] ⟨rfl, trivial⟩ ?_
    have e_ : pchk (Pc.cat s0 L (Pc.AT.fl T)) k0 = 0 := by
      unfold pchk
      repeat' split
      all_goals first | rfl | (exfalso; omega) | (exfalso; simp_all; done) | (exfalso; simp_all; omega) | simp_all
    rw [e_]
    exact ⟨rfl, h⟩
set_option maxHeartbeats 4000000 in
set_option maxRecDepth 100000 in
theorem span_calls {w0 w : World} {F0 : Nat → Prop} {R : List Sx.HP} (gt : Nat) (s0 : ByteArray) (A : Option Addr) (c : Nat) (L : List Int) (T : Pc.AT) (a0 b0 : Int) (hz0 : s0.size ≤ 1000000) (hzL : L.length ≤ 1000000) (hlc : L.length ≤ c) (hb : Pc.Bytes L) (hw : Pc.Wf s0 L (Pc.AT.fl T)) (hcz : (Pc.cat s0 L (Pc.AT.fl T)).size ≤ 1000000) (ht : ∀ cs_ w_, Sx.St w0 F0 (cs_ ++ R) w_ → ∀ j_, w_.cell? ⟨gt, j_, none⟩ = ([.string s0, .slice A L.length c, .pointer (Pc.AT.ptr T)] : List Value)[j_]?) (hr : ∀ cs_ w_, Sx.St w0 F0 (cs_ ++ R) w_ → (Kd.int .u8).C w_ A L.length L) (hT : ∀ cs_ w_, Sx.St w0 F0 (cs_ ++ R) w_ → Pc.At w_ T)  (h : Sx.St w0 F0 ([] ++ R) w) : Calls Try.prog 52 #[.pointer (some ⟨gt, 0, none⟩), .int .i64 (a0), .int .i64 (b0)] w (fun e w1 => e = .returned (.int .i64 (pspan (Pc.cat s0 L (Pc.AT.fl T)) a0 b0)) ∧ Sx.St w0 F0 ([] ++ R) w1) := by
 have hcs_ := Pc.cat_size hw
 refine Sx.calls_fn (vs := [.pointer (some ⟨gt, 0, none⟩), .int .i64 (a0), .int .i64 (b0)]) Try.func52 rfl Try.ntmps52 rfl ?_
 refine wc_seq ?_
 refine wc_region ?_
 refine wl_v rfl rfl (ov_assign _ rfl) ?_
 refine wl_nil ?_
 refine qn_then ?_
 refine wc_seq ?_
 refine wc_seq ?_
 refine wc_region ?_
 refine wl_v rfl rfl (ov_move _ rfl) ?_
 refine wl_v rfl rfl (ov_bin _ rfl rfl (binR_lss)) ?_
 refine wl_v rfl rfl (ov_move _ rfl) ?_
 refine wl_split 10 rfl (fun c1 => ?_) (fun c1 => ?_)
 ·
  refine wl_skip rfl rfl ?_
  refine wl_skip rfl rfl ?_
  refine wl_skip rfl rfl ?_
  refine wl_skip rfl rfl ?_
  refine wl_v rfl rfl (ov_pick_true _ rfl rfl) ?_
  refine wl_v rfl rfl (ov_move _ rfl) ?_
  refine wl_skip rfl rfl ?_
  refine wl_skip rfl rfl ?_
  refine wl_skip rfl rfl ?_
  refine wl_v rfl rfl (ov_pick_true _ rfl rfl) ?_
  refine wl_nil ?_
  refine qn_then ?_
  refine wc_cond_true rfl ?_
  refine wc_seq ?_
  refine wc_region ?_
  refine wl_v rfl rfl (ov_assign _ rfl) ?_
  refine wl_nil ?_
  refine qn_then ?_
  refine wc_ret ?_
  refine qn_then_ret ?_
  refine qn_ret [_] ⟨rfl, trivial⟩ ?_
  have e_ : pspan (Pc.cat s0 L (Pc.AT.fl T)) a0 b0 = 30 := by
    unfold pspan
    repeat' split
    all_goals first | rfl | (exfalso; omega) | (exfalso; simp_all; done) | (exfalso; simp_all; omega) | simp_all
  rw [e_]
  exact ⟨rfl, h⟩
 ·
  refine wl_v rfl rfl (ov_move _ rfl) ?_
  refine wl_v rfl rfl (ov_move _ rfl) ?_
  refine wl_call _ rfl rfl rfl ent16 (RD.Len_calls (R := [] ++ R) gt s0 A c L T  hz0 hzL hlc hb hw hcz ht hr hT  h) ?_
  rintro e_ w_ ⟨rfl, h⟩
  refine ⟨_, rfl, ?_⟩
  refine wl_v rfl rfl (ov_bin _ rfl rfl (binR_gtr)) ?_
  refine wl_v rfl rfl (ov_pick_false _ rfl rfl) ?_
  refine wl_v rfl rfl (ov_move _ rfl) ?_
  refine wl_split 16 rfl (fun c2 => ?_) (fun c2 => ?_)
  ·
   refine wl_skip rfl rfl ?_
   refine wl_skip rfl rfl ?_
   refine wl_skip rfl rfl ?_
   refine wl_v rfl rfl (ov_pick_true _ rfl rfl) ?_
   refine wl_nil ?_
   refine qn_then ?_
   refine wc_cond_true rfl ?_
   refine wc_seq ?_
   refine wc_region ?_
   refine wl_v rfl rfl (ov_assign _ rfl) ?_
   refine wl_nil ?_
   refine qn_then ?_
   refine wc_ret ?_
   refine qn_then_ret ?_
   refine qn_ret [_] ⟨rfl, trivial⟩ ?_
   have e_ : pspan (Pc.cat s0 L (Pc.AT.fl T)) a0 b0 = 30 := by
     unfold pspan
     repeat' split
     all_goals first | rfl | (exfalso; omega) | (exfalso; simp_all; done) | (exfalso; simp_all; omega) | simp_all
   rw [e_]
   exact ⟨rfl, h⟩
  ·
   refine wl_v rfl rfl (ov_move _ rfl) ?_
   refine wl_v rfl rfl (ov_move _ rfl) ?_
   refine wl_v rfl rfl (ov_bin _ rfl rfl (binR_gtr)) ?_
   refine wl_v rfl rfl (ov_pick_false _ rfl rfl) ?_
   refine wl_nil ?_
   refine qn_then ?_
   refine wc_cond (by rfl) (fun c3 => ?_) (fun c3 => ?_)
   ·
    refine wc_seq ?_
    refine wc_region ?_
    refine wl_v rfl rfl (ov_assign _ rfl) ?_
    refine wl_nil ?_
    refine qn_then ?_
    refine wc_ret ?_
    refine qn_then_ret ?_
    refine qn_ret [_] ⟨rfl, trivial⟩ ?_
    have e_ : pspan (Pc.cat s0 L (Pc.AT.fl T)) a0 b0 = 30 := by
      unfold pspan
      repeat' split
      all_goals first | rfl | (exfalso; omega) | (exfalso; simp_all; done) | (exfalso; simp_all; omega) | simp_all
    rw [e_]
    exact ⟨rfl, h⟩
   ·
    refine wc_skip ?_
    refine qn_then ?_
    refine wc_seq ?_
    refine wc_seq ?_
    refine wc_region ?_
    refine wl_v rfl rfl (ov_move _ rfl) ?_
    refine wl_v rfl rfl (ov_move _ rfl) ?_
    refine wl_call _ rfl rfl rfl ent31 (RD.Check_calls (R := [] ++ R) gt s0 A c L T (a0) hz0 hzL hlc hb hw hcz ht hr hT  h) ?_
    rintro e_ w_ ⟨rfl, h⟩
    refine ⟨_, rfl, ?_⟩
    have hck_ := RD.inside_le (Pc.cat s0 L (Pc.AT.fl T)) (a0)
    refine wl_v rfl rfl (ov_assign _ rfl) ?_
    refine wl_nil ?_
    refine qn_then ?_
    refine wc_seq ?_
    refine wc_region ?_
    refine wl_v rfl rfl (ov_move _ rfl) ?_
    refine wl_v rfl rfl (ov_bin _ rfl rfl (binR_neq)) ?_
    refine wl_nil ?_
    refine qn_then ?_
    refine wc_cond (by rfl) (fun c4 => ?_) (fun c4 => ?_)
    ·
     refine wc_seq ?_
     refine wc_region ?_
     refine wl_v rfl rfl (ov_move _ rfl) ?_
     refine wl_v rfl rfl (ov_assign _ rfl) ?_
     refine wl_nil ?_
     refine qn_then ?_
     refine wc_ret ?_
     refine qn_then_ret ?_
     refine qn_ret [_] ⟨rfl, trivial⟩ ?_
     have e_ : pspan (Pc.cat s0 L (Pc.AT.fl T)) a0 b0 = RD.pchk (Pc.cat s0 L (Pc.AT.fl T)) (a0) := by
       unfold pspan
       repeat' split
       all_goals first | rfl | (exfalso; omega) | (exfalso; simp_all; done) | (exfalso; simp_all; omega) | simp_all
     rw [e_]
     exact ⟨rfl, h⟩
    ·
     refine wc_skip ?_
     refine qn_then ?_
     refine wc_seq ?_
     refine wc_region ?_
     refine wl_v rfl rfl (ov_move _ rfl) ?_
     refine wl_v rfl rfl (ov_move _ rfl) ?_
     refine wl_call _ rfl rfl rfl ent31 (RD.Check_calls (R := [] ++ R) gt s0 A c L T (b0) hz0 hzL hlc hb hw hcz ht hr hT  h) ?_
     rintro e_ w_ ⟨rfl, h⟩
     refine ⟨_, rfl, ?_⟩
     have hck_ := RD.inside_le (Pc.cat s0 L (Pc.AT.fl T)) (b0)
     refine wl_v rfl rfl (ov_assign _ rfl) ?_
     refine wl_nil ?_
     refine qn_then ?_
     refine wc_ret ?_
     refine qn_ret [_] ⟨rfl, trivial⟩ ?_
     have e_ : pspan (Pc.cat s0 L (Pc.AT.fl T)) a0 b0 = RD.pchk (Pc.cat s0 L (Pc.AT.fl T)) (b0) := by
       unfold pspan
       repeat' split
       all_goals first | rfl | (exfalso; omega) | (exfalso; simp_all; done) | (exfalso; simp_all; omega) | simp_all
     rw [e_]
     exact ⟨rfl, h⟩
end Go.Proofs.Ytieieindakbpoaa.RD
