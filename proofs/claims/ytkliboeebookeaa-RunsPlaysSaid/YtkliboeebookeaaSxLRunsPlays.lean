/- The walk of RunsPlays. -/
import Derived.Test.YtkliboeebookeaaProg
import Derived.Test.YtkliboeebookeaaSxGlue
import Derived.Test.YtkliboeebookeaaSxKinds
import Derived.Test.YtkliboeebookeaaRunsTh
import Derived.Test.YtkliboeebookeaaSxRuns
import Derived.Test.YtkliboeebookeaaSxRunsB
import Derived.Test.YtkliboeebookeaaSxRef
import Derived.Test.YtkliboeebookeaaSxPlain
import Derived.Test.YtkliboeebookeaaSxPlainB
import Derived.Test.YtkliboeebookeaaSxPlay
import Derived.Test.YtkliboeebookeaaSxAwake
namespace Go.Proofs.Ytkliboeebookeaa.Runs.L
open Go Go.RowKit Go.Proofs.YtkliboeebookeaaW.PrintWords Go.Proofs.Ytkliboeebookeaa.Kinds Go.Proofs.Ytkliboeebookeaa.Runs Go.Proofs.Ytkliboeebookeaa.Runs.B Go.Proofs.Ytkliboeebookeaa.Runs.C Go.Proofs.Ytkliboeebookeaa.Runs.D Go.Proofs.Ytkliboeebookeaa.Runs.E Go.Proofs.Ytkliboeebookeaa.Runs.F Go.Proofs.Ytkliboeebookeaa.Runs.G
set_option linter.unusedVariables false
set_option linter.unusedSimpArgs false
theorem ent11 : Sx.Ent Try.prog 11 := ⟨Try.f11, Try.func11, by kernel_rfl, by kernel_rfl⟩
theorem ent12 : Sx.Ent Try.prog 12 := ⟨Try.f12, Try.func12, by kernel_rfl, by kernel_rfl⟩
theorem ent13 : Sx.Ent Try.prog 13 := ⟨Try.f13, Try.func13, by kernel_rfl, by kernel_rfl⟩
theorem zo28 : Sx.zeroOf Try.prog 28 = some (.agg #[.slice (none) (0) (0), .int .i64 (0)]) := by kernel_rfl
theorem sh28 : Sx.shapeOf Try.prog 28 = some (true, 2) := by kernel_rfl
theorem ent14 : Sx.Ent Try.prog 14 := ⟨Try.f14, Try.func14, by kernel_rfl, by kernel_rfl⟩
theorem fo28_0 : Sx.fieldOff Try.prog 28 0 = some 0 := by kernel_rfl
theorem sh26 : Sx.shapeOf Try.prog 26 = some (false, 1) := by kernel_rfl
theorem es26 : Sx.elemSz Try.prog 26 = some (3, 1) := by kernel_rfl
theorem ent16 : Sx.Ent Try.prog 16 := ⟨Try.f16, Try.func16, by kernel_rfl, by kernel_rfl⟩
theorem ent17 : Sx.Ent Try.prog 17 := ⟨Try.f17, Try.func17, by kernel_rfl, by kernel_rfl⟩
theorem ent15 : Sx.Ent Try.prog 15 := ⟨Try.f15, Try.func15, by kernel_rfl, by kernel_rfl⟩
theorem ent18 : Sx.Ent Try.prog 18 := ⟨Try.f18, Try.func18, by kernel_rfl, by kernel_rfl⟩
theorem es33 : Sx.elemSz Try.prog 33 = some (66, 2) := by kernel_rfl
set_option maxRecDepth 100000 in
theorem RunsPlays_calls {w0 w : World} {F0 : Nat → Prop} {R : List Sx.HP} {v0 : World} (n : Int) (s : Int) (script : List S55) (Ascript : Option Addr) (cscript : Nat) (hv : Sx.RO v0 w0 F0) (hlscript : script.length ≤ cscript) (hCscript : k55.C v0 Ascript script.length script) (hmscript : script.length ≤ 9223372036854775807) (h : Sx.St w0 F0 ([] ++ R) w) : Calls Try.prog 3 #[.int .i64 (n), .int .i64 (s), .slice (Ascript) (script.length) (cscript)] w (fun e w1 => e = .returned (.bool true) ∧ Sx.St w0 F0 R w1) := by
  refine Sx.calls_fn (vs := [.int .i64 (n), .int .i64 (s), .slice (Ascript) (script.length) (cscript)]) Try.func3 rfl Try.ntmps3 rfl ?_
  refine Sx.wc_seq ?_
  refine Sx.wc_region ?_
  refine Sx.wl_v rfl rfl (Sx.ov_assign _ rfl) ?_
  refine Sx.wl_nil ?_
  refine Sx.qn_then ?_
  refine Sx.wc_seq ?_
  refine Sx.wc_seq ?_
  refine Sx.wc_region ?_
  refine Sx.wl_call _ rfl rfl rfl ent11 (awake_calls (R := [] ++ R) h) ?_
  rintro e_ w_ ⟨rfl, h⟩
  refine ⟨_, rfl, ?_⟩
  refine Sx.wl_v rfl rfl (Sx.ov_notb _ rfl) ?_
  refine Sx.wl_nil ?_
  refine Sx.qn_then ?_
  refine Sx.wc_cond_false rfl ?_
  refine Sx.wc_skip ?_
  refine Sx.qn_then ?_
  refine Sx.wc_seq ?_
  refine Sx.wc_seq ?_
  refine Sx.wc_region ?_
  refine Sx.wl_v rfl rfl (Sx.ov_move _ rfl) ?_
  refine Sx.wl_v rfl rfl (Sx.ov_move _ rfl) ?_
  refine Sx.wl_call _ rfl rfl rfl ent12 (small_calls (R := [] ++ R) n s h) ?_
  rintro e_ w_ ⟨rfl, h⟩
  refine ⟨_, rfl, ?_⟩
  refine Sx.wl_v rfl rfl (Sx.ov_not _ (¬ (smallP n s)) rfl (by first | exact decide_not.symm | simp)) ?_
  refine Sx.wl_nil ?_
  refine Sx.qn_then ?_
  refine Sx.wc_cond (by rfl) (fun c1 => ?_) (fun c1 => ?_)
  · refine Sx.wc_seq ?_
    refine Sx.wc_region ?_
    refine Sx.wl_v rfl rfl (Sx.ov_assign _ rfl) ?_
    refine Sx.wl_nil ?_
    refine Sx.qn_then ?_
    refine Sx.wc_ret ?_
    refine Sx.qn_then_ret ?_
    refine Sx.qn_ret [_] ⟨rfl, trivial⟩ ?_
    exact ⟨rfl, h⟩
  · refine Sx.wc_skip ?_
    refine Sx.qn_then ?_
    refine Sx.wc_seq ?_
    refine Sx.wc_region ?_
    refine Sx.wl_v rfl rfl (Sx.ov_move _ rfl) ?_
    refine Sx.wl_v rfl rfl (Sx.ov_move _ rfl) ?_
    refine Sx.wl_v rfl rfl (Sx.ov_move _ rfl) ?_
    refine Sx.wl_call _ rfl rfl rfl ent13 (played_calls (R := [] ++ R) n s (script) (Ascript) (cscript) hv hlscript hCscript (by omega) (by exact small_new (by omega)) h) ?_
    rintro e_ w_ ⟨g2, A3, cp4, rfl, hl7, h⟩
    refine ⟨_, rfl, ?_⟩
    generalize hy6 : playV (newL n s) (script) 40 = y5 at h hl7 ⊢
    have hy5 := runs_len y5.st
    refine Sx.wl_v rfl rfl (Sx.ov_move _ rfl) ?_
    refine Sx.wl_v rfl rfl (Sx.ov_extract [.pointer (some ⟨g2, 0, none⟩), .agg #[.slice (A3) (((y5).st).length) (cp4), .int .i64 ((y5).base)]] _ rfl rfl) ?_
    refine Sx.wl_v rfl rfl (Sx.ov_extract [.pointer (some ⟨g2, 0, none⟩), .agg #[.slice (A3) (((y5).st).length) (cp4), .int .i64 ((y5).base)]] _ rfl rfl) ?_
    refine Sx.wl_alloc _ h rfl rfl zo28 (fun b8 _ h => ?_)
    replace h : Sx.St _ _ (Sx.blk b8 [.slice (none) (0) (0), .int .i64 (0)] 28 :: _) _ := h
    refine Sx.wl_v rfl rfl (Sx.ov_assign _ rfl) ?_
    refine Sx.wl_storebN 0 [.slice (A3) (((y5).st).length) (cp4), .int .i64 ((y5).base)] [.slice (A3) (((y5).st).length) (cp4), .int .i64 ((y5).base)] h rfl rfl rfl rfl (by simp [Value.oneCell']) sh28 rfl rfl (fun _ h => ?_)
    refine Sx.wl_nil ?_
    refine Sx.qn_then ?_
    refine Sx.wc_seq ?_
    refine Sx.wc_draw (fun w => Sx.St w0 F0 ([Sx.blk b8 [.slice (A3) (((y5).st).length) (cp4), .int .i64 ((y5).base)] 28, listS g2 (y5), Sx.row (Kd.int .i64) 3 (A3) (cp4) ((y5).st)] ++ R) w) (by kernel_rfl) ?_
    replace h := Sx.st_drew h
    refine Sx.wa_take 0 rfl (by kernel_rfl) (by kernel_rfl) (by kernel_rfl) (fun _ _ _ h => h) rfl rfl (Sx.st_selT [true, true, true] h) (fun w_ hS => Sx.ov_move _ rfl) ?_
    refine Sx.wa_take 1 rfl (by kernel_rfl) (by kernel_rfl) (by kernel_rfl) (fun _ _ _ h => h) rfl rfl (Sx.st_selT [true, true, true] h) (fun w_ hS => Sx.ov_bin (.bool true) rfl rfl (Sx.binR_nenil Try.underlying25)) ?_
    refine Sx.wa_take 2 rfl (by kernel_rfl) (by kernel_rfl) (by kernel_rfl) (fun _ _ _ h => h) rfl rfl (Sx.st_selT [true, true, true] h) (fun w_ hS => Sx.ov_move _ rfl) ?_
    refine Sx.wa_take 3 rfl (by kernel_rfl) (by kernel_rfl) (by kernel_rfl) (fun _ _ _ h => h) rfl rfl (Sx.st_selT [true, true, true] h) (fun w_ hS => Sx.ov_move _ rfl) ?_
    refine Sx.wa_take 5 rfl (by kernel_rfl) (by kernel_rfl) (by kernel_rfl) (fun _ _ _ h => h) rfl rfl (Sx.st_selT [true, true, true] h) (fun w_ hS => Sx.ov_fieldAddr _ ⟨b8, 0, none⟩ _ rfl fo28_0 rfl) ?_
    refine Sx.wa_take 6 rfl (by kernel_rfl) (by kernel_rfl) (by kernel_rfl) (fun _ _ _ h => h) rfl rfl (Sx.st_selT [true, true, true] h) (fun w_ hS => Sx.ov_loadb 0 _ hS rfl rfl sh26 rfl) ?_
    refine Sx.wa_take 7 rfl (by kernel_rfl) (by kernel_rfl) (by kernel_rfl) (fun _ _ _ h => h) rfl rfl (Sx.st_selT [true, true, true] h) (fun w_ hS => Sx.ov_len _ _ _ _ _ rfl es26) ?_
    refine Sx.wa_one 4 rfl (by kernel_rfl) ?_
    replace h := Sx.st_front 1 h
    refine Sx.wl_call _ rfl rfl rfl ent14 (Len_calls g2 y5   h) ?_
    rintro e_ w_ ⟨rfl, h⟩
    refine ⟨_, rfl, ?_⟩
    refine Sx.wl_nil ?_
    refine Sx.qn_wa (Sx.st_selT [true, true, true] (Sx.st_front 2 (Sx.st_front 1 (Sx.st_front 2 h)))) ?_
    refine Sx.wa_take 8 rfl (by kernel_rfl) (by kernel_rfl) (by kernel_rfl) (fun _ _ _ h => h) rfl rfl (Sx.st_selT [true, true, true] (Sx.st_front 2 (Sx.st_front 1 (Sx.st_front 2 h)))) (fun w_ hS => Sx.ov_bin _ rfl rfl (Sx.binR_eql)) ?_
    refine Sx.wa_take 9 rfl (by kernel_rfl) (by kernel_rfl) (by kernel_rfl) (fun _ _ _ h => h) rfl rfl (Sx.st_selT [true, true, true] (Sx.st_front 2 (Sx.st_front 1 (Sx.st_front 2 h)))) (fun w_ hS => Sx.ov_pick_true _ rfl rfl) ?_
    refine Sx.wa_take 10 rfl (by kernel_rfl) (by kernel_rfl) (by kernel_rfl) (fun _ _ _ h => h) rfl rfl (Sx.st_selT [true, true, true] (Sx.st_front 2 (Sx.st_front 1 (Sx.st_front 2 h)))) (fun w_ hS => Sx.ov_move _ rfl) ?_
    refine Sx.wa_split 32 rfl (fun c9 => ?_) (fun c9 => ?_)
    · refine Sx.wa_take 11 rfl (by kernel_rfl) (by kernel_rfl) (by kernel_rfl) (fun _ _ _ h => h) rfl rfl (Sx.st_selT [true, true, true] (Sx.st_front 2 (Sx.st_front 1 (Sx.st_front 2 h)))) (fun w_ hS => Sx.ov_move _ rfl) ?_
      refine Sx.wa_take 13 rfl (by kernel_rfl) (by kernel_rfl) (by kernel_rfl) (fun _ _ _ h => h) rfl rfl (Sx.st_selT [true, true, true] (Sx.st_front 2 (Sx.st_front 1 (Sx.st_front 2 h)))) (fun w_ hS => Sx.ov_fieldAddr _ ⟨b8, 0, none⟩ _ rfl fo28_0 rfl) ?_
      refine Sx.wa_take 14 rfl (by kernel_rfl) (by kernel_rfl) (by kernel_rfl) (fun _ _ _ h => h) rfl rfl (Sx.st_selT [true, true, true] (Sx.st_front 2 (Sx.st_front 1 (Sx.st_front 2 h)))) (fun w_ hS => Sx.ov_loadb 0 _ hS rfl rfl sh26 rfl) ?_
      refine Sx.wa_one 12 rfl (by kernel_rfl) ?_
      refine Sx.wl_call _ rfl rfl rfl ent16 (Runs_calls g2 y5 (by omega) h) ?_
      rintro e_ w_ ⟨A10, cp11, rfl, h⟩
      refine ⟨_, rfl, ?_⟩
      refine Sx.wl_nil ?_
      refine Sx.qn_wa (Sx.st_selT [true, true, true, false] (Sx.st_front 3 (Sx.st_front 1 (Sx.st_front 3 h)))) ?_
      refine Sx.wa_one 15 rfl (by kernel_rfl) ?_
      refine Sx.wl_call _ rfl rfl rfl ent17 (rRuns_calls (R := [listS g2 (y5), Sx.row k66 66 (A10) (cp11) (runsOf (y5).st), Sx.blk b8 [.slice (A3) (((y5).st).length) (cp4), .int .i64 ((y5).base)] 28, Sx.row (Kd.int .i64) 3 (A3) (cp4) ((y5).st)] ++ R) ((y5).st) (A3) (cp4) (by omega) (Sx.row_reads_at (R := [listS g2 (y5), Sx.row k66 66 (A10) (cp11) (runsOf (y5).st), Sx.blk b8 [.slice (A3) (((y5).st).length) (cp4), .int .i64 ((y5).base)] 28, Sx.row (Kd.int .i64) 3 (A3) (cp4) ((y5).st)] ++ R) (j := 3) rfl) h) ?_
      rintro e_ w_ ⟨A12, cp13, rfl, h⟩
      refine ⟨_, rfl, ?_⟩
      refine Sx.wl_nil ?_
      refine Sx.qn_wa (Sx.st_selT [true, true, true, false, false] (Sx.st_front 4 (Sx.st_front 2 (Sx.st_front 4 h)))) ?_
      refine Sx.wa_one 16 rfl (by kernel_rfl) ?_
      refine Sx.wl_call _ rfl rfl rfl ent15 (rSame_calls (R := [Sx.row k66 66 (A12) (cp13) (runsOf ((y5).st)), listS g2 (y5), Sx.row k66 66 (A10) (cp11) (runsOf (y5).st), Sx.blk b8 [.slice (A3) (((y5).st).length) (cp4), .int .i64 ((y5).base)] 28, Sx.row (Kd.int .i64) 3 (A3) (cp4) ((y5).st)] ++ R) (runsOf (y5).st) (runsOf ((y5).st)) (A10) (A12) (cp11) (cp13) (by omega) (by omega) (Sx.row_reads_at (R := [Sx.row k66 66 (A12) (cp13) (runsOf ((y5).st)), listS g2 (y5), Sx.row k66 66 (A10) (cp11) (runsOf (y5).st), Sx.blk b8 [.slice (A3) (((y5).st).length) (cp4), .int .i64 ((y5).base)] 28, Sx.row (Kd.int .i64) 3 (A3) (cp4) ((y5).st)] ++ R) (j := 2) rfl) (Sx.row_reads_at (R := [Sx.row k66 66 (A12) (cp13) (runsOf ((y5).st)), listS g2 (y5), Sx.row k66 66 (A10) (cp11) (runsOf (y5).st), Sx.blk b8 [.slice (A3) (((y5).st).length) (cp4), .int .i64 ((y5).base)] 28, Sx.row (Kd.int .i64) 3 (A3) (cp4) ((y5).st)] ++ R) (j := 0) rfl) h) ?_
      rintro e_ w_ ⟨rfl, h⟩
      refine ⟨_, rfl, ?_⟩
      refine Sx.wl_nil ?_
      refine Sx.qn_wa (Sx.st_selT [true, true, true, false, false] (Sx.st_front 4 (Sx.st_front 2 (Sx.st_front 4 h)))) ?_
      refine Sx.wa_take 17 rfl (by kernel_rfl) (by kernel_rfl) (by kernel_rfl) (fun _ _ _ h => h) rfl rfl (Sx.st_selT [true, true, true, false, false] (Sx.st_front 4 (Sx.st_front 2 (Sx.st_front 4 h)))) (fun w_ hS => Sx.ov_pick_true _ rfl rfl) ?_
      refine Sx.wa_take 18 rfl (by kernel_rfl) (by kernel_rfl) (by kernel_rfl) (fun _ _ _ h => h) rfl rfl (Sx.st_selT [true, true, true, false, false] (Sx.st_front 4 (Sx.st_front 2 (Sx.st_front 4 h)))) (fun w_ hS => Sx.ov_move _ rfl) ?_
      refine Sx.wa_splitb 40 rfl (fun c14 => ?_) (fun c14 => ?_)
      · refine Sx.wa_take 19 rfl (by kernel_rfl) (by kernel_rfl) (by kernel_rfl) (fun _ _ _ h => h) rfl rfl (Sx.st_selT [true, true, true, false, false] (Sx.st_front 4 (Sx.st_front 2 (Sx.st_front 4 h)))) (fun w_ hS => Sx.ov_move _ rfl) ?_
        refine Sx.wa_take 21 rfl (by kernel_rfl) (by kernel_rfl) (by kernel_rfl) (fun _ _ _ h => h) rfl rfl (Sx.st_selT [true, true, true, false, false] (Sx.st_front 4 (Sx.st_front 2 (Sx.st_front 4 h)))) (fun w_ hS => Sx.ov_fieldAddr _ ⟨b8, 0, none⟩ _ rfl fo28_0 rfl) ?_
        refine Sx.wa_take 22 rfl (by kernel_rfl) (by kernel_rfl) (by kernel_rfl) (fun _ _ _ h => h) rfl rfl (Sx.st_selT [true, true, true, false, false] (Sx.st_front 4 (Sx.st_front 2 (Sx.st_front 4 h)))) (fun w_ hS => Sx.ov_loadb 0 _ hS rfl rfl sh26 rfl) ?_
        refine Sx.wa_one 20 rfl (by kernel_rfl) ?_
        replace h := Sx.st_front 1 h
        refine Sx.wl_call _ rfl rfl rfl ent18 (Count_calls g2 y5   h) ?_
        rintro e_ w_ ⟨rfl, h⟩
        refine ⟨_, rfl, ?_⟩
        refine Sx.wl_nil ?_
        refine Sx.qn_wa (Sx.st_selT [true, true, true, false, false] (Sx.st_front 4 (Sx.st_front 1 (Sx.st_front 4 h)))) ?_
        refine Sx.wa_one 23 rfl (by kernel_rfl) ?_
        refine Sx.wl_call _ rfl rfl rfl ent17 (rRuns_calls (R := [listS g2 (y5), Sx.row k66 66 (A12) (cp13) (runsOf ((y5).st)), Sx.row k66 66 (A10) (cp11) (runsOf (y5).st), Sx.blk b8 [.slice (A3) (((y5).st).length) (cp4), .int .i64 ((y5).base)] 28, Sx.row (Kd.int .i64) 3 (A3) (cp4) ((y5).st)] ++ R) ((y5).st) (A3) (cp4) (by omega) (Sx.row_reads_at (R := [listS g2 (y5), Sx.row k66 66 (A12) (cp13) (runsOf ((y5).st)), Sx.row k66 66 (A10) (cp11) (runsOf (y5).st), Sx.blk b8 [.slice (A3) (((y5).st).length) (cp4), .int .i64 ((y5).base)] 28, Sx.row (Kd.int .i64) 3 (A3) (cp4) ((y5).st)] ++ R) (j := 4) rfl) h) ?_
        rintro e_ w_ ⟨A15, cp16, rfl, h⟩
        refine ⟨_, rfl, ?_⟩
        refine Sx.wl_nil ?_
        refine Sx.qn_wa (Sx.st_selT [true, true, true, false, false, false] (Sx.st_front 5 (Sx.st_front 2 (Sx.st_front 5 h)))) ?_
        refine Sx.wa_take 24 rfl (by kernel_rfl) (by kernel_rfl) (by kernel_rfl) (fun _ _ _ h => h) rfl rfl (Sx.st_selT [true, true, true, false, false, false] (Sx.st_front 5 (Sx.st_front 2 (Sx.st_front 5 h)))) (fun w_ hS => Sx.ov_len _ _ _ _ _ rfl es33) ?_
        refine Sx.wa_take 25 rfl (by kernel_rfl) (by kernel_rfl) (by kernel_rfl) (fun _ _ _ h => h) rfl rfl (Sx.st_selT [true, true, true, false, false, false] (Sx.st_front 5 (Sx.st_front 2 (Sx.st_front 5 h)))) (fun w_ hS => Sx.ov_bin _ rfl rfl (Sx.binR_eql)) ?_
        refine Sx.wa_take 26 rfl (by kernel_rfl) (by kernel_rfl) (by kernel_rfl) (fun _ _ _ h => h) rfl rfl (Sx.st_selT [true, true, true, false, false, false] (Sx.st_front 5 (Sx.st_front 2 (Sx.st_front 5 h)))) (fun w_ hS => Sx.ov_pick_true _ rfl rfl) ?_
        refine Sx.wa_take 27 rfl (by kernel_rfl) (by kernel_rfl) (by kernel_rfl) (fun _ _ _ h => h) rfl rfl (Sx.st_selT [true, true, true, false, false, false] (Sx.st_front 5 (Sx.st_front 2 (Sx.st_front 5 h)))) (fun w_ hS => Sx.ov_assign _ rfl) ?_
        refine Sx.wa_done (by kernel_rfl) ?_
        refine Sx.qn_then ?_
        refine Sx.wc_ret ?_
        replace h := Sx.st_selT [false, false, false, false, false, false] h
        refine Sx.qn_ret [_] ⟨rfl, trivial⟩ ?_
        have b_ : (decide (((((runsOf (y5).st).length) : Int) : Int) = ((((runsOf ((y5).st)).length : Nat) : Int)))) = true := by first | rfl | (simp; done) | (apply decide_eq_true; omega)
        exact ⟨congrArg (fun z => Ending.returned (Value.bool z)) b_, h⟩
      · exact absurd (sameB_refl _) (by rw [c14]; decide)
    · exact absurd rfl c9
end Go.Proofs.Ytkliboeebookeaa.Runs.L
