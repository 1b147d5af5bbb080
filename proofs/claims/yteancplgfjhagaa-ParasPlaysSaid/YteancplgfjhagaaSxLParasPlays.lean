/- The walk of ParasPlays. -/
import Derived.Test.YteancplgfjhagaaProg
import Derived.Test.YteancplgfjhagaaSxGlue
import Derived.Test.YteancplgfjhagaaSxKinds
import Derived.Test.YteancplgfjhagaaParasTh
import Derived.Test.YteancplgfjhagaaSxParas
import Derived.Test.YteancplgfjhagaaSxParasB
import Derived.Test.YteancplgfjhagaaSxPlain
import Derived.Test.YteancplgfjhagaaParasIns
import Derived.Test.YteancplgfjhagaaParasDel
import Derived.Test.YteancplgfjhagaaSxEdit
import Derived.Test.YteancplgfjhagaaSxEditB
import Derived.Test.YteancplgfjhagaaSxStep
import Derived.Test.YteancplgfjhagaaSxCopy
namespace Go.Proofs.Yteancplgfjhagaa.Paras.L
open Go Go.RowKit Go.Proofs.YteancplgfjhagaaW.PrintWords Go.Proofs.Yteancplgfjhagaa.Kinds Go.Proofs.Yteancplgfjhagaa.Paras Go.Proofs.Yteancplgfjhagaa.Paras.B Go.Proofs.Yteancplgfjhagaa.Paras.C Go.Proofs.Yteancplgfjhagaa.Paras.D Go.Proofs.Yteancplgfjhagaa.Paras.E Go.Proofs.Yteancplgfjhagaa.Paras.F
set_option linter.unusedVariables false
set_option linter.unusedSimpArgs false
theorem ent11 : Sx.Ent Try.prog 11 := ⟨Try.f11, Try.func11, by kernel_rfl, by kernel_rfl⟩
theorem ent15 : Sx.Ent Try.prog 15 := ⟨Try.f15, Try.func15, by kernel_rfl, by kernel_rfl⟩
theorem ent23 : Sx.Ent Try.prog 23 := ⟨Try.f23, Try.func23, by kernel_rfl, by kernel_rfl⟩
theorem es54 : Sx.elemSz Try.prog 54 = some (49, 4) := by kernel_rfl
theorem fo49_3 : Sx.fieldOff Try.prog 49 3 = some 3 := by kernel_rfl
theorem sh9 : Sx.shapeOf Try.prog 9 = some (false, 1) := by kernel_rfl
theorem sh49 : Sx.shapeOf Try.prog 49 = some (true, 4) := by kernel_rfl
theorem ent24 : Sx.Ent Try.prog 24 := ⟨Try.f24, Try.func24, by kernel_rfl, by kernel_rfl⟩
theorem zo41 : Sx.zeroOf Try.prog 41 = some (.agg #[.int .i64 (0), .int .i64 (0), .int .i64 (0)]) := by kernel_rfl
theorem sh41 : Sx.shapeOf Try.prog 41 = some (true, 3) := by kernel_rfl
set_option maxRecDepth 100000 in
theorem ParasPlays_calls {w0 w : World} {F0 : Nat → Prop} {R : List Sx.HP} {v0 : World} (s : ByteArray) (script : List S49) (Ascript : Option Addr) (cscript : Nat) (hv : Sx.RO v0 w0 F0) (hzs : s.size ≤ 9223372036854775807) (hlscript : script.length ≤ cscript) (hCscript : k49.C v0 Ascript script.length script) (hmscript : script.length ≤ 9223372036854775807) (h : Sx.St w0 F0 ([] ++ R) w) : Calls Try.prog 8 #[.string (s), .slice (Ascript) (script.length) (cscript)] w (fun e w1 => e = .returned (.bool true) ∧ Sx.St w0 F0 R w1) := by
 have hlo := lensOf_ok s
 have hxs := ix_size s
 have hxl := congrArg List.length (ix_lens s)
 refine Sx.calls_fn (vs := [.string (s), .slice (Ascript) (script.length) (cscript)]) Try.func8 rfl Try.ntmps8 rfl ?_
 refine Sx.wc_seq ?_
 refine Sx.wc_region ?_
 refine Sx.wl_v rfl rfl (Sx.ov_assign _ rfl) ?_
 refine Sx.wl_nil ?_
 refine Sx.qn_then ?_
 refine Sx.wc_seq ?_
 refine Sx.wc_seq ?_
 refine Sx.wc_region ?_
 refine Sx.wl_call _ rfl rfl rfl ent11 (awake_calls (R := [] ++ R) h) ?_
 rintro e_ w_ ⟨rfl, h⟩
 refine ⟨_, rfl, ?_⟩
 refine Sx.wl_v rfl rfl (Sx.ov_notb _ rfl) ?_
 refine Sx.wl_nil ?_
 refine Sx.qn_then ?_
 refine Sx.wc_cond_false rfl ?_
 refine Sx.wc_skip ?_
 refine Sx.qn_then ?_
 refine Sx.wc_seq ?_
 refine Sx.wc_seq ?_
 refine Sx.wc_region ?_
 refine Sx.wl_v rfl rfl (Sx.ov_move _ rfl) ?_
 refine Sx.wl_v rfl rfl (Sx.ov_lens _ rfl Try.underlying9) ?_
 refine Sx.wl_v rfl rfl (Sx.ov_bin _ rfl rfl (Sx.binR_gtr)) ?_
 refine Sx.wl_nil ?_
 refine Sx.qn_then ?_
 refine Sx.wc_cond (by rfl) (fun c1 => ?_) (fun c1 => ?_)
 ·
  refine Sx.wc_seq ?_
  refine Sx.wc_region ?_
  refine Sx.wl_v rfl rfl (Sx.ov_assign _ rfl) ?_
  refine Sx.wl_nil ?_
  refine Sx.qn_then ?_
  refine Sx.wc_ret ?_
  refine Sx.qn_then_ret ?_
  refine Sx.qn_ret [_] ⟨rfl, trivial⟩ ?_
  exact ⟨rfl, h⟩
 ·
  refine Sx.wc_skip ?_
  refine Sx.qn_then ?_
  refine Sx.wc_seq ?_
  refine Sx.wc_region ?_
  refine Sx.wl_v rfl rfl (Sx.ov_move _ rfl) ?_
  refine Sx.wl_call _ rfl rfl rfl ent15 (New_calls (R := [] ++ R) s (by omega) h) ?_
  rintro e_ w_ ⟨g2, rfl, h⟩
  refine ⟨_, rfl, ?_⟩
  refine Sx.wl_v rfl rfl (Sx.ov_assign _ rfl) ?_
  refine Sx.wl_nil ?_
  refine Sx.qn_then ?_
  refine Sx.wc_seq ?_
  refine Sx.wc_seq ?_
  refine Sx.wc_region ?_
  refine Sx.wl_v rfl rfl (Sx.ov_move _ rfl) ?_
  refine Sx.wl_v rfl rfl (Sx.ov_bin (.bool false) rfl rfl (Sx.binR_eqnil Try.underlying28)) ?_
  refine Sx.wl_v rfl rfl (Sx.ov_move _ rfl) ?_
  refine Sx.wl_v rfl rfl (Sx.ov_move _ rfl) ?_
  refine Sx.wl_v rfl rfl (Sx.ov_move _ rfl) ?_
  refine Sx.wl_call _ rfl rfl rfl ent23 (is_calls (R := [] ++ R) g2 s (by omega) h) ?_
  rintro e_ w_ ⟨rfl, h⟩
  refine ⟨_, rfl, ?_⟩
  refine Sx.wl_v rfl rfl (Sx.ov_notb _ rfl) ?_
  refine Sx.wl_v rfl rfl (Sx.ov_pick_false _ rfl rfl) ?_
  refine Sx.wl_nil ?_
  refine Sx.qn_then ?_
  refine Sx.wc_cond_false rfl ?_
  refine Sx.wc_skip ?_
  refine Sx.qn_then ?_
  refine Sx.wc_seq ?_
  refine Sx.wc_seq ?_
  refine Sx.wc_region ?_
  refine Sx.wl_v rfl rfl (Sx.ov_assign _ rfl) ?_
  refine Sx.wl_nil ?_
  refine Sx.qn_then ?_
  refine Sx.wc_block ?_
  refine Sx.wc_loop (fun (x_ : ByteArray × Nat) => [(0, .string (x_.1)), (1, .slice (Ascript) (script.length) (cscript)), (5, .pointer (some ⟨g2, 0, none⟩)), (6, .int .i64 ((x_.2 : Int)))]) (fun (x_ : ByteArray × Nat) (w : World) => ((x_.1).size ≤ 100000 ∧ x_.2 ≤ script.length) ∧ Sx.St w0 F0 ([ixB g2 (ixOf x_.1)] ++ R) w) (fun (x_ : ByteArray × Nat) => script.length - x_.2) (s, 0) ?_ ?_ ?_
  · exact ⟨rfl, rfl, rfl, (congrArg (fun z_ => some (Value.int .i64 z_)) (show (0 : Int) = (0 : Int) by omega)), trivial⟩
  · exact ⟨⟨by show s.size ≤ 100000; omega, Nat.zero_le _⟩, h⟩
  rintro ⟨y, i⟩ w h
  obtain ⟨hJ, h⟩ := h
  replace hJ : (y).size ≤ 100000 ∧ i ≤ script.length := hJ
  replace h : Sx.St w0 F0 ([ixB g2 (ixOf y)] ++ R) w := h
  show Sx.WC _ _ _ _ [(0, .string (y)), (1, .slice (Ascript) (script.length) (cscript)), (5, .pointer (some ⟨g2, 0, none⟩)), (6, .int .i64 ((i : Int)))] _
  refine Sx.wc_seq ?_
  refine Sx.wc_seq ?_
  refine Sx.wc_region ?_
  refine Sx.wl_v rfl rfl (Sx.ov_move _ rfl) ?_
  refine Sx.wl_v rfl rfl (Sx.ov_move _ rfl) ?_
  refine Sx.wl_v rfl rfl (Sx.ov_len _ _ _ _ _ rfl es54) ?_
  refine Sx.wl_v rfl rfl (Sx.ov_bin _ rfl rfl (Sx.binR_lss)) ?_
  refine Sx.wl_v rfl rfl (Sx.ov_move _ rfl) ?_
  refine Sx.wl_split 29 rfl (fun c3 => ?_) (fun c3 => ?_)
  ·
   refine Sx.wl_v rfl rfl (Sx.ov_move _ rfl) ?_
   refine Sx.wl_v rfl rfl (Sx.ov_bin _ rfl rfl (Sx.binR_lss)) ?_
   refine Sx.wl_v rfl rfl (Sx.ov_pick_true _ rfl rfl) ?_
   refine Sx.wl_nil ?_
   refine Sx.qn_then ?_
   refine Sx.wc_cond (by rfl) (fun c4 => ?_) (fun c4 => ?_)
   ·
    refine Sx.wc_skip ?_
    refine Sx.qn_then ?_
    refine Sx.wc_seq ?_
    refine Sx.wc_block ?_
    refine Sx.wc_seq ?_
    refine Sx.wc_seq ?_
    refine Sx.wc_region ?_
    refine Sx.wl_v rfl rfl (Sx.ov_move _ rfl) ?_
    refine Sx.wl_v rfl rfl (Sx.ov_move _ rfl) ?_
    obtain ⟨ad5, rfl⟩ := Sx.C_some ((Sx.ro_C hv h hCscript)) (k := i) (by first | assumption | omega)
    refine Sx.wl_v rfl rfl (Sx.ov_indexAddrN _ _ _ _ _ i rfl rfl es54 rfl (by first | assumption | omega | (simp only [List.length_take, List.length_drop, List.length_set]; omega))) ?_
    refine Sx.wl_v rfl rfl (Sx.ov_fieldAddr _ ((ad5).add (i * 4 + 3)) _ rfl fo49_3 (by first | exact Deep.add_add _ _ _ | (rw [Deep.add_add]) | rfl)) ?_
    obtain ⟨cl8, _, hk7, hc6⟩ := Sx.C_cells (hCscript) (z := z49) (k := i) (by first | assumption | omega)
    obtain rfl := k49_open hk7
    refine Sx.wl_v rfl rfl (Sx.ov_load1 _ _ rfl sh9 (Sx.ro_cell hv h (hc6 3 _ rfl))) ?_
    refine Sx.wl_v rfl rfl (Sx.ov_lens _ rfl Try.underlying9) ?_
    refine Sx.wl_v rfl rfl (Sx.ov_bin _ rfl rfl (Sx.binR_gtr)) ?_
    refine Sx.wl_v rfl rfl (Sx.ov_move _ rfl) ?_
    refine Sx.wl_split 42 rfl (fun c9 => ?_) (fun c9 => ?_)
    ·
     refine Sx.wl_skip rfl rfl ?_
     refine Sx.wl_skip rfl rfl ?_
     refine Sx.wl_skip rfl rfl ?_
     refine Sx.wl_v rfl rfl (Sx.ov_pick_true _ rfl rfl) ?_
     refine Sx.wl_nil ?_
     refine Sx.qn_then ?_
     refine Sx.wc_cond_true rfl ?_
     refine Sx.wc_seq ?_
     refine Sx.wc_region ?_
     refine Sx.wl_v rfl rfl (Sx.ov_assign _ rfl) ?_
     refine Sx.wl_nil ?_
     refine Sx.qn_then ?_
     refine Sx.wc_ret ?_
     refine Sx.qn_then_ret ?_
     refine Sx.qn_block_ret ?_
     refine Sx.qn_then_ret ?_
     refine Sx.qn_then_ret ?_
     refine Sx.qn_block_ret ?_
     refine Sx.qn_then_ret ?_
     replace h := Sx.st_selT [false] h
     refine Sx.qn_ret [_] ⟨rfl, trivial⟩ ?_
     exact ⟨rfl, h⟩
    ·
     refine Sx.wl_v rfl rfl (Sx.ov_move _ rfl) ?_
     refine Sx.wl_v rfl rfl (Sx.ov_lens _ rfl Try.underlying9) ?_
     refine Sx.wl_v rfl rfl (Sx.ov_bin _ rfl rfl (Sx.binR_gtr)) ?_
     refine Sx.wl_v rfl rfl (Sx.ov_pick_false _ rfl rfl) ?_
     refine Sx.wl_nil ?_
     refine Sx.qn_then ?_
     refine Sx.wc_cond (by rfl) (fun c10 => ?_) (fun c10 => ?_)
     ·
      refine Sx.wc_seq ?_
      refine Sx.wc_region ?_
      refine Sx.wl_v rfl rfl (Sx.ov_assign _ rfl) ?_
      refine Sx.wl_nil ?_
      refine Sx.qn_then ?_
      refine Sx.wc_ret ?_
      refine Sx.qn_then_ret ?_
      refine Sx.qn_block_ret ?_
      refine Sx.qn_then_ret ?_
      refine Sx.qn_then_ret ?_
      refine Sx.qn_block_ret ?_
      refine Sx.qn_then_ret ?_
      replace h := Sx.st_selT [false] h
      refine Sx.qn_ret [_] ⟨rfl, trivial⟩ ?_
      exact ⟨rfl, h⟩
     ·
      have hss := step_size y (script.getD i z49)
      refine Sx.wc_skip ?_
      refine Sx.qn_then ?_
      refine Sx.wc_seq ?_
      refine Sx.wc_region ?_
      refine Sx.wl_v rfl rfl (Sx.ov_move _ rfl) ?_
      refine Sx.wl_v rfl rfl (Sx.ov_move _ rfl) ?_
      refine Sx.wl_v rfl rfl (Sx.ov_move _ rfl) ?_
      refine Sx.wl_v rfl rfl (Sx.ov_move _ rfl) ?_
      refine Sx.wl_v rfl rfl (Sx.ov_indexAddrN _ _ _ _ _ i rfl rfl es54 rfl (by first | assumption | omega | (simp only [List.length_take, List.length_drop, List.length_set]; omega))) ?_
      refine Sx.wl_v rfl rfl (Sx.ov_loadN _ [.bool (((script).getD i z49).f0), .int .i64 (((script).getD i z49).f1), .int .i64 (((script).getD i z49).f2), .string (((script).getD i z49).f3)] rfl sh49 (by intro j u hu; rw [Deep.add_add]; exact Sx.ro_cell hv h (hc6 _ _ hu))) ?_
      refine Sx.wl_call _ rfl rfl rfl ent24 (step_calls (R := [] ++ R) g2 y ((script).getD i z49) (by omega) (by omega) h) ?_
      rintro e_ w_ ⟨rfl, h⟩
      refine ⟨_, rfl, ?_⟩
      refine Sx.wl_v rfl rfl (Sx.ov_move _ rfl) ?_
      refine Sx.wl_v rfl rfl (Sx.ov_extract [.string (stepS y ((script).getD i z49)), .agg #[.int .i64 ((stepI y ((script).getD i z49)).1), .int .i64 ((stepI y ((script).getD i z49)).2.1), .int .i64 ((stepI y ((script).getD i z49)).2.2)], .bool true] _ rfl rfl) ?_
      refine Sx.wl_v rfl rfl (Sx.ov_extract [.string (stepS y ((script).getD i z49)), .agg #[.int .i64 ((stepI y ((script).getD i z49)).1), .int .i64 ((stepI y ((script).getD i z49)).2.1), .int .i64 ((stepI y ((script).getD i z49)).2.2)], .bool true] _ rfl rfl) ?_
      refine Sx.wl_v rfl rfl (Sx.ov_extract [.string (stepS y ((script).getD i z49)), .agg #[.int .i64 ((stepI y ((script).getD i z49)).1), .int .i64 ((stepI y ((script).getD i z49)).2.1), .int .i64 ((stepI y ((script).getD i z49)).2.2)], .bool true] _ rfl rfl) ?_
      refine Sx.wl_alloc _ h rfl rfl zo41 (fun b11 _ h => ?_)
      replace h : Sx.St _ _ (Sx.blk b11 [.int .i64 (0), .int .i64 (0), .int .i64 (0)] 41 :: _) _ := h
      refine Sx.wl_v rfl rfl (Sx.ov_assign _ rfl) ?_
      refine Sx.wl_storebN 0 [.int .i64 ((stepI y ((script).getD i z49)).1), .int .i64 ((stepI y ((script).getD i z49)).2.1), .int .i64 ((stepI y ((script).getD i z49)).2.2)] [.int .i64 ((stepI y ((script).getD i z49)).1), .int .i64 ((stepI y ((script).getD i z49)).2.1), .int .i64 ((stepI y ((script).getD i z49)).2.2)] h rfl rfl rfl rfl (by simp [Value.oneCell']) sh41 rfl rfl (fun _ h => ?_)
      refine Sx.wl_v rfl rfl (Sx.ov_assign _ rfl) ?_
      refine Sx.wl_nil ?_
      refine Sx.qn_then ?_
      refine Sx.wc_seq ?_
      refine Sx.wc_seq ?_
      refine Sx.wc_region ?_
      refine Sx.wl_v rfl rfl (Sx.ov_move _ rfl) ?_
      refine Sx.wl_v rfl rfl (Sx.ov_notb _ rfl) ?_
      refine Sx.wl_v rfl rfl (Sx.ov_move _ rfl) ?_
      refine Sx.wl_v rfl rfl (Sx.ov_move _ rfl) ?_
      refine Sx.wl_v rfl rfl (Sx.ov_move _ rfl) ?_
      replace h := Sx.st_front 1 h
      refine Sx.wl_call _ rfl rfl rfl ent23 (is_calls (R := [Sx.blk b11 [.int .i64 ((stepI y ((script).getD i z49)).1), .int .i64 ((stepI y ((script).getD i z49)).2.1), .int .i64 ((stepI y ((script).getD i z49)).2.2)] 41] ++ R) g2 (stepS y ((script).getD i z49)) (by omega) h) ?_
      rintro e_ w_ ⟨rfl, h⟩
      refine ⟨_, rfl, ?_⟩
      refine Sx.wl_v rfl rfl (Sx.ov_notb _ rfl) ?_
      refine Sx.wl_v rfl rfl (Sx.ov_pick_false _ rfl rfl) ?_
      refine Sx.wl_nil ?_
      refine Sx.qn_then ?_
      refine Sx.wc_cond_false rfl ?_
      refine Sx.wc_skip ?_
      refine Sx.qn_then ?_
      refine Sx.wc_region ?_
      refine Sx.wl_v rfl rfl (Sx.ov_move _ rfl) ?_
      refine Sx.wl_v rfl rfl (Sx.ov_assign _ rfl) ?_
      refine Sx.wl_nil ?_
      refine Sx.qn_block_normal ?_
      refine Sx.qn_then ?_
      refine Sx.wc_region ?_
      refine Sx.wl_v rfl rfl (Sx.ov_move _ rfl) ?_
      refine Sx.wl_v rfl rfl (Sx.ov_bin _ rfl rfl (Sx.binR_add (r := ((i : Int)) + 1) (Sx.w64 (by omega)))) ?_
      refine Sx.wl_v rfl rfl (Sx.ov_assign _ rfl) ?_
      refine Sx.wl_nil ?_
      replace h := Sx.st_selT [true, false] h
      refine Sx.qn_next ((stepS y ((script).getD i z49)), (i + 1)) (by show script.length - (i + 1) < script.length - i; omega) ⟨rfl, (congrArg (fun z_ => some (Value.slice (some ad5) z_ (cscript))) (show (script.length : Nat) = script.length by first | rfl | simp)), rfl, (congrArg (fun z_ => some (Value.int .i64 z_)) (show (((i : Int)) + 1 : Int) = ((i + 1) : Int) by omega)), trivial⟩ ?_
      show (((stepS y ((script).getD i z49))).size ≤ 100000 ∧ (i + 1) ≤ script.length) ∧ _
      exact ⟨⟨by omega, by omega⟩, h⟩
   ·
    refine Sx.wc_exit ?_
    refine Sx.qn_then_exit ?_
    refine Sx.qn_then_exit ?_
    refine Sx.qn_block_exit ?_
    refine Sx.qn_then ?_
    refine Sx.wc_seq ?_
    refine Sx.wc_region ?_
    refine Sx.wl_v rfl rfl (Sx.ov_assign _ rfl) ?_
    refine Sx.wl_nil ?_
    refine Sx.qn_then ?_
    refine Sx.wc_ret ?_
    replace h := Sx.st_selT [false] h
    refine Sx.qn_ret [_] ⟨rfl, trivial⟩ ?_
    exact ⟨rfl, h⟩
  ·
   refine Sx.wl_skip rfl rfl ?_
   refine Sx.wl_skip rfl rfl ?_
   refine Sx.wl_v rfl rfl (Sx.ov_pick_false _ rfl rfl) ?_
   refine Sx.wl_nil ?_
   refine Sx.qn_then ?_
   refine Sx.wc_cond_false rfl ?_
   refine Sx.wc_exit ?_
   refine Sx.qn_then_exit ?_
   refine Sx.qn_then_exit ?_
   refine Sx.qn_block_exit ?_
   refine Sx.qn_then ?_
   refine Sx.wc_seq ?_
   refine Sx.wc_region ?_
   refine Sx.wl_v rfl rfl (Sx.ov_assign _ rfl) ?_
   refine Sx.wl_nil ?_
   refine Sx.qn_then ?_
   refine Sx.wc_ret ?_
   replace h := Sx.st_selT [false] h
   refine Sx.qn_ret [_] ⟨rfl, trivial⟩ ?_
   exact ⟨rfl, h⟩
end Go.Proofs.Yteancplgfjhagaa.Paras.L
