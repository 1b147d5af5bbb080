/- The walk of ParasSplits. -/
import Derived.Test.YteancplgfjhagaaProg
import Derived.Test.YteancplgfjhagaaSxGlue
import Derived.Test.YteancplgfjhagaaSxKinds
import Derived.Test.YteancplgfjhagaaParasTh
import Derived.Test.YteancplgfjhagaaSxParas
import Derived.Test.YteancplgfjhagaaSxParasB
import Derived.Test.YteancplgfjhagaaSxPlain
namespace Go.Proofs.Yteancplgfjhagaa.Paras.L
open Go Go.RowKit Go.Proofs.YteancplgfjhagaaW.PrintWords Go.Proofs.Yteancplgfjhagaa.Kinds Go.Proofs.Yteancplgfjhagaa.Paras Go.Proofs.Yteancplgfjhagaa.Paras.B Go.Proofs.Yteancplgfjhagaa.Paras.C
set_option linter.unusedVariables false
set_option linter.unusedSimpArgs false
theorem ent11 : Sx.Ent Try.prog 11 := ⟨Try.f11, Try.func11, by kernel_rfl, by kernel_rfl⟩
theorem ent12 : Sx.Ent Try.prog 12 := ⟨Try.f12, Try.func12, by kernel_rfl, by kernel_rfl⟩
theorem ent13 : Sx.Ent Try.prog 13 := ⟨Try.f13, Try.func13, by kernel_rfl, by kernel_rfl⟩
theorem es23 : Sx.elemSz Try.prog 23 = some (3, 1) := by kernel_rfl
theorem ent14 : Sx.Ent Try.prog 14 := ⟨Try.f14, Try.func14, by kernel_rfl, by kernel_rfl⟩
theorem sh3 : Sx.shapeOf Try.prog 3 = some (false, 1) := by kernel_rfl
set_option maxRecDepth 100000 in
theorem ParasSplits_calls {w0 w : World} {F0 : Nat → Prop} {R : List Sx.HP} {v0 : World} (s : ByteArray) (hv : Sx.RO v0 w0 F0) (hzs : s.size ≤ 9223372036854775807) (hws : s.size ≤ 1048576) (h : Sx.St w0 F0 ([] ++ R) w) : Calls Try.prog 3 #[.string (s)] w (fun e w1 => e = .returned (.bool true) ∧ Sx.St w0 F0 R w1) := by
  have hlo := lensOf_ok s
  have hxs := ix_size s
  have hxl := congrArg List.length (ix_lens s)
  have hsl := starts_len s
  refine Sx.calls_fn (vs := [.string (s)]) Try.func3 rfl Try.ntmps3 rfl ?_
  refine Sx.wc_seq ?_
  refine Sx.wc_region ?_
  refine Sx.wl_v rfl rfl (Sx.ov_assign _ rfl) ?_
  refine Sx.wl_nil ?_
  refine Sx.qn_then ?_
  refine Sx.wc_seq ?_
  refine Sx.wc_seq ?_
  refine Sx.wc_region ?_
  refine Sx.wl_call _ rfl rfl rfl ent11 (awake_calls (R := [] ++ R) h) ?_
  rintro e_ w_ ⟨rfl, h⟩
  refine ⟨_, rfl, ?_⟩
  refine Sx.wl_v rfl rfl (Sx.ov_notb _ rfl) ?_
  refine Sx.wl_nil ?_
  refine Sx.qn_then ?_
  refine Sx.wc_cond_false rfl ?_
  refine Sx.wc_skip ?_
  refine Sx.qn_then ?_
  refine Sx.wc_seq ?_
  refine Sx.wc_region ?_
  refine Sx.wl_v rfl rfl (Sx.ov_move _ rfl) ?_
  refine Sx.wl_call _ rfl rfl rfl ent12 (Split_calls (R := [] ++ R) s (by omega) h) ?_
  rintro e_ w_ ⟨A1, cp2, rfl, h⟩
  refine ⟨_, rfl, ?_⟩
  refine Sx.wl_v rfl rfl (Sx.ov_move _ rfl) ?_
  refine Sx.wl_v rfl rfl (Sx.ov_extract [.slice (A1) ((lensOf s).length) (cp2), .bool (openOf s)] _ rfl rfl) ?_
  refine Sx.wl_v rfl rfl (Sx.ov_extract [.slice (A1) ((lensOf s).length) (cp2), .bool (openOf s)] _ rfl rfl) ?_
  refine Sx.wl_v rfl rfl (Sx.ov_assign _ rfl) ?_
  refine Sx.wl_v rfl rfl (Sx.ov_assign _ rfl) ?_
  refine Sx.wl_nil ?_
  refine Sx.qn_then ?_
  refine Sx.wc_seq ?_
  refine Sx.wc_region ?_
  refine Sx.wl_v rfl rfl (Sx.ov_move _ rfl) ?_
  refine Sx.wl_call _ rfl rfl rfl ent13 (Starts_calls (R := [Sx.row (Kd.int .i64) 3 (A1) (cp2) (lensOf s)] ++ R) s (by omega) h) ?_
  rintro e_ w_ ⟨A3, cp4, rfl, h⟩
  refine ⟨_, rfl, ?_⟩
  refine Sx.wl_v rfl rfl (Sx.ov_assign _ rfl) ?_
  refine Sx.wl_nil ?_
  refine Sx.qn_then ?_
  refine Sx.wc_seq ?_
  refine Sx.wc_seq ?_
  refine Sx.wc_region ?_
  refine Sx.wl_v rfl rfl (Sx.ov_move _ rfl) ?_
  refine Sx.wl_v rfl rfl (Sx.ov_len _ _ _ _ _ rfl es23) ?_
  refine Sx.wl_v rfl rfl (Sx.ov_move _ rfl) ?_
  refine Sx.wl_v rfl rfl (Sx.ov_len _ _ _ _ _ rfl es23) ?_
  refine Sx.wl_v rfl rfl (Sx.ov_bin _ rfl rfl (Sx.binR_sub (r := ((((startsOf s).length : Nat) : Int)) - 1) (Sx.w64 (by omega)))) ?_
  refine Sx.wl_v rfl rfl (Sx.ov_bin _ rfl rfl (Sx.binR_neq)) ?_
  refine Sx.wl_v rfl rfl (Sx.ov_move _ rfl) ?_
  refine Sx.wl_split 22 rfl (fun c5 => ?_) (fun c5 => ?_)
  · omega
  · refine Sx.wl_v rfl rfl (Sx.ov_move _ rfl) ?_
    refine Sx.wl_v rfl rfl (Sx.ov_move _ rfl) ?_
    refine Sx.wl_call _ rfl rfl rfl ent14 (rOpen_calls (R := [Sx.row (Kd.int .i64) 3 (A3) (cp4) (startsOf s), Sx.row (Kd.int .i64) 3 (A1) (cp2) (lensOf s)] ++ R) s (by omega) h) ?_
    rintro e_ w_ ⟨rfl, h⟩
    refine ⟨_, rfl, ?_⟩
    refine Sx.wl_v rfl rfl (Sx.ov_bin _ rfl rfl (Sx.binR_neb Try.underlying4)) ?_
    refine Sx.wl_v rfl rfl (Sx.ov_pick_false _ rfl rfl) ?_
    refine Sx.wl_nil ?_
    refine Sx.qn_then ?_
    refine Sx.wc_cond (by rfl) (fun c6 => ?_) (fun c6 => ?_)
    · exact absurd (open_eq s) c6
    · refine Sx.wc_skip ?_
      refine Sx.qn_then ?_
      refine Sx.wc_seq ?_
      refine Sx.wc_seq ?_
      refine Sx.wc_region ?_
      refine Sx.wl_v rfl rfl (Sx.ov_assign _ rfl) ?_
      refine Sx.wl_nil ?_
      refine Sx.qn_then ?_
      refine Sx.wc_block ?_
      replace h := Sx.st_front 1 h
      refine Sx.wc_loop (fun (x_ : Nat × (Option Addr) × (Option Addr)) => [(3, .slice (x_.2.1) ((lensOf s).length) (cp2)), (5, .slice (x_.2.2) ((startsOf s).length) (cp4)), (6, .int .i64 ((x_.1 : Int)))]) (fun (x_ : Nat × (Option Addr) × (Option Addr)) (w : World) => (x_.1 ≤ (lensOf s).length) ∧ Sx.St w0 F0 ([Sx.row (Kd.int .i64) 3 (x_.2.1) (cp2) (lensOf s), Sx.row (Kd.int .i64) 3 (x_.2.2) (cp4) (startsOf s)] ++ R) w) (fun (x_ : Nat × (Option Addr) × (Option Addr)) => (lensOf s).length - x_.1) (0, A1, A3) ?_ ?_ ?_
      · exact ⟨rfl, rfl, (congrArg (fun z_ => some (Value.int .i64 z_)) (show (0 : Int) = (0 : Int) by omega)), trivial⟩
      · exact ⟨by first | omega | simp, h⟩
      rintro ⟨k, A, B⟩ w h
      obtain ⟨hJ, h⟩ := h
      replace hJ : k ≤ (lensOf s).length := hJ
      replace h : Sx.St w0 F0 ([Sx.row (Kd.int .i64) 3 (A) (cp2) (lensOf s), Sx.row (Kd.int .i64) 3 (B) (cp4) (startsOf s)] ++ R) w := h
      show Sx.WC _ _ _ _ [(3, .slice (A) ((lensOf s).length) (cp2)), (5, .slice (B) ((startsOf s).length) (cp4)), (6, .int .i64 ((k : Int)))] _
      refine Sx.wc_seq ?_
      refine Sx.wc_seq ?_
      refine Sx.wc_region ?_
      refine Sx.wl_v rfl rfl (Sx.ov_move _ rfl) ?_
      refine Sx.wl_v rfl rfl (Sx.ov_move _ rfl) ?_
      refine Sx.wl_v rfl rfl (Sx.ov_len _ _ _ _ _ rfl es23) ?_
      refine Sx.wl_v rfl rfl (Sx.ov_bin _ rfl rfl (Sx.binR_lss)) ?_
      refine Sx.wl_nil ?_
      refine Sx.qn_then ?_
      refine Sx.wc_cond (by rfl) (fun c7 => ?_) (fun c7 => ?_)
      · have hk : k < (lensOf s).length := by omega
        have hb1 := starts_at s k (by omega)
        have hb2 := starts_at s (k + 1) (by omega)
        have hsn := sum_take_succ (lensOf s) k hk
        have hs1 := sum_take_le hlo.2.2 k
        have hs2 := sum_take_le hlo.2.2 (k + 1)
        refine Sx.wc_skip ?_
        refine Sx.qn_then ?_
        refine Sx.wc_seq ?_
        refine Sx.wc_block ?_
        refine Sx.wc_seq ?_
        refine Sx.wc_draw (fun w => Sx.St w0 F0 ([Sx.row (Kd.int .i64) 3 (A) (cp2) (lensOf s), Sx.row (Kd.int .i64) 3 (B) (cp4) (startsOf s)] ++ R) w) (by kernel_rfl) ?_
        replace h := Sx.st_drew h
        refine Sx.wa_take 0 rfl (by kernel_rfl) (by kernel_rfl) (by kernel_rfl) (fun _ _ _ h => h) rfl rfl (Sx.st_selT [true, true] h) (fun w_ hS => Sx.ov_move _ rfl) ?_
        refine Sx.wa_take 1 rfl (by kernel_rfl) (by kernel_rfl) (by kernel_rfl) (fun _ _ _ h => h) rfl rfl (Sx.st_selT [true, true] h) (fun w_ hS => Sx.ov_move _ rfl) ?_
        obtain ⟨ad8, rfl⟩ := Sx.C_some ((Sx.row_reads h (i := 0) rfl).2) (k := k) (by first | assumption | omega)
        refine Sx.wa_take 2 rfl (by kernel_rfl) (by kernel_rfl) (by kernel_rfl) (fun _ _ _ h => h) rfl rfl (Sx.st_selT [true, true] h) (fun w_ hS => Sx.ov_indexAddrN _ _ _ _ _ k rfl rfl es23 rfl (by first | assumption | omega | (simp only [List.length_take, List.length_drop, List.length_set]; omega))) ?_
        refine Sx.wa_take 3 rfl (by kernel_rfl) (by kernel_rfl) (by kernel_rfl) (fun _ _ _ h => h) rfl rfl (Sx.st_selT [true, true] h) (fun w_ hS => by
            obtain ⟨cl11, _, hk10, hc9⟩ := Sx.C_cells ((Sx.row_reads hS (i := 0) rfl).2) (z := (0 : Int)) (k := k) (by first | assumption | omega)
            obtain rfl : cl11 = [.int .i64 _] := hk10
            exact Sx.ov_load1 _ _ rfl sh3 ((hc9 0 _ rfl))) ?_
        refine Sx.wa_take 4 rfl (by kernel_rfl) (by kernel_rfl) (by kernel_rfl) (fun _ _ _ h => h) rfl rfl (Sx.st_selT [true, true] h) (fun w_ hS => Sx.ov_move _ rfl) ?_
        refine Sx.wa_take 5 rfl (by kernel_rfl) (by kernel_rfl) (by kernel_rfl) (fun _ _ _ h => h) rfl rfl (Sx.st_selT [true, true] h) (fun w_ hS => Sx.ov_move _ rfl) ?_
        refine Sx.wa_take 6 rfl (by kernel_rfl) (by kernel_rfl) (by kernel_rfl) (fun _ _ _ h => h) rfl rfl (Sx.st_selT [true, true] h) (fun w_ hS => Sx.ov_bin _ rfl rfl (Sx.binR_add (r := ((k : Int)) + 1) (Sx.w64 (by omega)))) ?_
        obtain ⟨ad12, rfl⟩ := Sx.C_some ((Sx.row_reads h (i := 1) rfl).2) (k := (k + 1)) (by first | assumption | omega)
        refine Sx.wa_take 7 rfl (by kernel_rfl) (by kernel_rfl) (by kernel_rfl) (fun _ _ _ h => h) rfl rfl (Sx.st_selT [true, true] h) (fun w_ hS => Sx.ov_indexAddrN _ _ _ _ _ (k + 1) rfl rfl es23 (by omega) (by first | assumption | omega | (simp only [List.length_take, List.length_drop, List.length_set]; omega))) ?_
        refine Sx.wa_take 8 rfl (by kernel_rfl) (by kernel_rfl) (by kernel_rfl) (fun _ _ _ h => h) rfl rfl (Sx.st_selT [true, true] h) (fun w_ hS => by
            obtain ⟨cl15, _, hk14, hc13⟩ := Sx.C_cells ((Sx.row_reads hS (i := 1) rfl).2) (z := (0 : Int)) (k := (k + 1)) (by first | assumption | omega)
            obtain rfl : cl15 = [.int .i64 _] := hk14
            exact Sx.ov_load1 _ _ rfl sh3 ((hc13 0 _ rfl))) ?_
        refine Sx.wa_take 9 rfl (by kernel_rfl) (by kernel_rfl) (by kernel_rfl) (fun _ _ _ h => h) rfl rfl (Sx.st_selT [true, true] h) (fun w_ hS => Sx.ov_move _ rfl) ?_
        refine Sx.wa_take 10 rfl (by kernel_rfl) (by kernel_rfl) (by kernel_rfl) (fun _ _ _ h => h) rfl rfl (Sx.st_selT [true, true] h) (fun w_ hS => Sx.ov_move _ rfl) ?_
        refine Sx.wa_take 11 rfl (by kernel_rfl) (by kernel_rfl) (by kernel_rfl) (fun _ _ _ h => h) rfl rfl (Sx.st_selT [true, true] h) (fun w_ hS => Sx.ov_indexAddrN _ _ _ _ _ k rfl rfl es23 rfl (by first | assumption | omega | (simp only [List.length_take, List.length_drop, List.length_set]; omega))) ?_
        refine Sx.wa_take 12 rfl (by kernel_rfl) (by kernel_rfl) (by kernel_rfl) (fun _ _ _ h => h) rfl rfl (Sx.st_selT [true, true] h) (fun w_ hS => by
            obtain ⟨cl18, _, hk17, hc16⟩ := Sx.C_cells ((Sx.row_reads hS (i := 1) rfl).2) (z := (0 : Int)) (k := k) (by first | assumption | omega)
            obtain rfl : cl18 = [.int .i64 _] := hk17
            exact Sx.ov_load1 _ _ rfl sh3 ((hc16 0 _ rfl))) ?_
        refine Sx.wa_take 13 rfl (by kernel_rfl) (by kernel_rfl) (by kernel_rfl) (fun _ _ _ h => h) rfl rfl (Sx.st_selT [true, true] h) (fun w_ hS => Sx.ov_bin _ rfl rfl (Sx.binR_sub (r := ((startsOf s).getD (k + 1) (0 : Int)) - ((startsOf s).getD k (0 : Int))) (Sx.w64 (by omega)))) ?_
        refine Sx.wa_take 14 rfl (by kernel_rfl) (by kernel_rfl) (by kernel_rfl) (fun _ _ _ h => h) rfl rfl (Sx.st_selT [true, true] h) (fun w_ hS => Sx.ov_bin _ rfl rfl (Sx.binR_neq)) ?_
        refine Sx.wa_done (by kernel_rfl) ?_
        refine Sx.qn_then ?_
        refine Sx.wc_cond (by rfl) (fun c19 => ?_) (fun c19 => ?_)
        · omega
        · refine Sx.wc_skip ?_
          refine Sx.qn_block_normal ?_
          refine Sx.qn_then ?_
          refine Sx.wc_region ?_
          refine Sx.wl_v rfl rfl (Sx.ov_move _ rfl) ?_
          refine Sx.wl_v rfl rfl (Sx.ov_bin _ rfl rfl (Sx.binR_add (r := ((k : Int)) + 1) (Sx.w64 (by omega)))) ?_
          refine Sx.wl_v rfl rfl (Sx.ov_assign _ rfl) ?_
          refine Sx.wl_nil ?_
          replace h := Sx.st_front 1 h
          replace h := Sx.st_front 1 h
          refine Sx.qn_next ((k + 1), some ad8, some ad12) (by show (lensOf s).length - (k + 1) < (lensOf s).length - k; omega) ⟨rfl, rfl, (congrArg (fun z_ => some (Value.int .i64 z_)) (show (((k : Int)) + 1 : Int) = ((k + 1) : Int) by omega)), trivial⟩ ?_
          show ((k + 1) ≤ (lensOf s).length) ∧ _
          exact ⟨by first | omega | simp, h⟩
      · refine Sx.wc_exit ?_
        refine Sx.qn_then_exit ?_
        refine Sx.qn_then_exit ?_
        refine Sx.qn_block_exit ?_
        refine Sx.qn_then ?_
        refine Sx.wc_seq ?_
        refine Sx.wc_region ?_
        refine Sx.wl_v rfl rfl (Sx.ov_assign _ rfl) ?_
        refine Sx.wl_nil ?_
        refine Sx.qn_then ?_
        refine Sx.wc_ret ?_
        replace h := Sx.st_selT [false, false] h
        refine Sx.qn_ret [_] ⟨rfl, trivial⟩ ?_
        exact ⟨rfl, h⟩
end Go.Proofs.Yteancplgfjhagaa.Paras.L
