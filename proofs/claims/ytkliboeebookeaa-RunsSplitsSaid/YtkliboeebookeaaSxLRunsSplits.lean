/- The walk of RunsSplits. -/
import Derived.Test.YtkliboeebookeaaProg
import Derived.Test.YtkliboeebookeaaSxGlue
import Derived.Test.YtkliboeebookeaaSxKinds
import Derived.Test.YtkliboeebookeaaRunsTh
import Derived.Test.YtkliboeebookeaaSxRuns
import Derived.Test.YtkliboeebookeaaSxRunsB
import Derived.Test.YtkliboeebookeaaSxRef
import Derived.Test.YtkliboeebookeaaSxPlain
import Derived.Test.YtkliboeebookeaaSxPlainB
import Derived.Test.YtkliboeebookeaaSxPlay
import Derived.Test.YtkliboeebookeaaSxAwake
namespace Go.Proofs.Ytkliboeebookeaa.Runs.L
open Go Go.RowKit Go.Proofs.YtkliboeebookeaaW.PrintWords Go.Proofs.Ytkliboeebookeaa.Kinds Go.Proofs.Ytkliboeebookeaa.Runs Go.Proofs.Ytkliboeebookeaa.Runs.B Go.Proofs.Ytkliboeebookeaa.Runs.C Go.Proofs.Ytkliboeebookeaa.Runs.D Go.Proofs.Ytkliboeebookeaa.Runs.E Go.Proofs.Ytkliboeebookeaa.Runs.F Go.Proofs.Ytkliboeebookeaa.Runs.G
set_option linter.unusedVariables false
set_option linter.unusedSimpArgs false
theorem ent11 : Sx.Ent Try.prog 11 := ⟨Try.f11, Try.func11, by kernel_rfl, by kernel_rfl⟩
theorem ent12 : Sx.Ent Try.prog 12 := ⟨Try.f12, Try.func12, by kernel_rfl, by kernel_rfl⟩
theorem ent13 : Sx.Ent Try.prog 13 := ⟨Try.f13, Try.func13, by kernel_rfl, by kernel_rfl⟩
theorem zo28 : Sx.zeroOf Try.prog 28 = some (.agg #[.slice (none) (0) (0), .int .i64 (0)]) := by kernel_rfl
theorem sh28 : Sx.shapeOf Try.prog 28 = some (true, 2) := by kernel_rfl
theorem ent19 : Sx.Ent Try.prog 19 := ⟨Try.f19, Try.func19, by kernel_rfl, by kernel_rfl⟩
theorem ent14 : Sx.Ent Try.prog 14 := ⟨Try.f14, Try.func14, by kernel_rfl, by kernel_rfl⟩
theorem infb66 : (Try.prog.info? 66).map (fun i => (i.zero, i.size)) = some (some (.agg #[.int .i64 (0), .int .i64 (0)]), 2) := by kernel_rfl
theorem inf66 : (Try.prog.info? 66).map (fun i => (i.zero, i.size, i.bytes)) = some (some (.agg #[.int .i64 (0), .int .i64 (0)]), 2, 16) := by kernel_rfl
theorem ent16 : Sx.Ent Try.prog 16 := ⟨Try.f16, Try.func16, by kernel_rfl, by kernel_rfl⟩
theorem ent33 : Sx.Ent Try.prog 33 := ⟨Try.f33, Try.func33, by kernel_rfl, by kernel_rfl⟩

theorem splits_span (y : LS) (i : Int) : (i < 0 ∨ (y.st.length : Int) < i → spanV y 0 i = 30 ∧ spanV y i (y.st.length : Int) = 30) ∧ (¬ (i < 0 ∨ (y.st.length : Int) < i) → spanV y 0 i = 0 ∧ spanV y i (y.st.length : Int) = 0) := by
  unfold spanV
  constructor
  · intro h; rw [if_pos (by omega), if_pos (by omega)]; exact ⟨rfl, rfl⟩
  · intro h; rw [if_neg (by omega), if_neg (by omega)]; exact ⟨rfl, rfl⟩
theorem sliceV_len (y : LS) (a b : Int) : (sliceV y a b).length ≤ y.st.length := by
  unfold sliceV
  split
  · simp
  · refine Nat.le_trans (runs_len _) ?_
    simp [Runs.part]; omega
theorem expand_app (a b : List Rn) : expand (a ++ b) = expand a ++ expand b := by simp [expand]
theorem splits_all {y : LS} {i : Int} (h0 : 0 ≤ i) (h1 : i ≤ y.st.length) : expand (([] ++ sliceV y 0 i) ++ sliceV y i (y.st.length : Int)) = y.st := by
  have h := (splits_span y i).2 (by omega)
  unfold sliceV
  rw [if_neg (by omega), if_neg (by omega), List.nil_append, expand_app, expand_runs, expand_runs, Int.toNat_natCast, part_end, show (0 : Int).toNat = 0 from rfl, part_zero, List.take_append_drop]

set_option maxRecDepth 100000 in
theorem RunsSplits_calls {w0 w : World} {F0 : Nat → Prop} {R : List Sx.HP} {v0 : World} (n : Int) (script : List S55) (Ascript : Option Addr) (cscript : Nat) (i : Int) (hv : Sx.RO v0 w0 F0) (hlscript : script.length ≤ cscript) (hCscript : k55.C v0 Ascript script.length script) (hmscript : script.length ≤ 9223372036854775807) (h : Sx.St w0 F0 ([] ++ R) w) : Calls Try.prog 10 #[.int .i64 (n), .slice (Ascript) (script.length) (cscript), .int .i64 (i)] w (fun e w1 => e = .returned (.bool true) ∧ Sx.St w0 F0 R w1) := by
  refine Sx.calls_fn (vs := [.int .i64 (n), .slice (Ascript) (script.length) (cscript), .int .i64 (i)]) Try.func10 rfl Try.ntmps10 rfl ?_
  refine Sx.wc_seq ?_
  refine Sx.wc_region ?_
  refine Sx.wl_v rfl rfl (Sx.ov_assign _ rfl) ?_
  refine Sx.wl_nil ?_
  refine Sx.qn_then ?_
  refine Sx.wc_seq ?_
  refine Sx.wc_seq ?_
  refine Sx.wc_region ?_
  refine Sx.wl_call _ rfl rfl rfl ent11 (awake_calls (R := [] ++ R) h) ?_
  rintro e_ w_ ⟨rfl, h⟩
  refine ⟨_, rfl, ?_⟩
  refine Sx.wl_v rfl rfl (Sx.ov_notb _ rfl) ?_
  refine Sx.wl_nil ?_
  refine Sx.qn_then ?_
  refine Sx.wc_cond_false rfl ?_
  refine Sx.wc_skip ?_
  refine Sx.qn_then ?_
  refine Sx.wc_seq ?_
  refine Sx.wc_seq ?_
  refine Sx.wc_region ?_
  refine Sx.wl_v rfl rfl (Sx.ov_move _ rfl) ?_
  refine Sx.wl_call _ rfl rfl rfl ent12 (small_calls (R := [] ++ R) n 1 h) ?_
  rintro e_ w_ ⟨rfl, h⟩
  refine ⟨_, rfl, ?_⟩
  refine Sx.wl_v rfl rfl (Sx.ov_not _ (¬ (smallP n 1)) rfl (by first | exact decide_not.symm | simp)) ?_
  refine Sx.wl_nil ?_
  refine Sx.qn_then ?_
  refine Sx.wc_cond (by rfl) (fun c1 => ?_) (fun c1 => ?_)
  · refine Sx.wc_seq ?_
    refine Sx.wc_region ?_
    refine Sx.wl_v rfl rfl (Sx.ov_assign _ rfl) ?_
    refine Sx.wl_nil ?_
    refine Sx.qn_then ?_
    refine Sx.wc_ret ?_
    refine Sx.qn_then_ret ?_
    refine Sx.qn_ret [_] ⟨rfl, trivial⟩ ?_
    exact ⟨rfl, h⟩
  · refine Sx.wc_skip ?_
    refine Sx.qn_then ?_
    refine Sx.wc_seq ?_
    refine Sx.wc_region ?_
    refine Sx.wl_v rfl rfl (Sx.ov_move _ rfl) ?_
    refine Sx.wl_v rfl rfl (Sx.ov_move _ rfl) ?_
    refine Sx.wl_call _ rfl rfl rfl ent13 (played_calls (R := [] ++ R) n 1 (script) (Ascript) (cscript) hv hlscript hCscript (by omega) (by exact small_new (by omega)) h) ?_
    rintro e_ w_ ⟨g2, A3, cp4, rfl, hl7, h⟩
    refine ⟨_, rfl, ?_⟩
    generalize hy6 : playV (newL n 1) (script) 40 = y5 at h hl7 ⊢
    have hy5 := runs_len y5.st
    refine Sx.wl_v rfl rfl (Sx.ov_move _ rfl) ?_
    refine Sx.wl_v rfl rfl (Sx.ov_extract [.pointer (some ⟨g2, 0, none⟩), .agg #[.slice (A3) (((y5).st).length) (cp4), .int .i64 ((y5).base)]] _ rfl rfl) ?_
    refine Sx.wl_v rfl rfl (Sx.ov_extract [.pointer (some ⟨g2, 0, none⟩), .agg #[.slice (A3) (((y5).st).length) (cp4), .int .i64 ((y5).base)]] _ rfl rfl) ?_
    refine Sx.wl_alloc _ h rfl rfl zo28 (fun b8 _ h => ?_)
    replace h : Sx.St _ _ (Sx.blk b8 [.slice (none) (0) (0), .int .i64 (0)] 28 :: _) _ := h
    refine Sx.wl_v rfl rfl (Sx.ov_assign _ rfl) ?_
    refine Sx.wl_storebN 0 [.slice (A3) (((y5).st).length) (cp4), .int .i64 ((y5).base)] [.slice (A3) (((y5).st).length) (cp4), .int .i64 ((y5).base)] h rfl rfl rfl rfl (by simp [Value.oneCell']) sh28 rfl rfl (fun _ h => ?_)
    refine Sx.wl_nil ?_
    refine Sx.qn_then ?_
    refine Sx.wc_seq ?_
    refine Sx.wc_seq ?_
    refine Sx.wc_region ?_
    refine Sx.wl_v rfl rfl (Sx.ov_move _ rfl) ?_
    refine Sx.wl_v rfl rfl (Sx.ov_bin (.bool false) rfl rfl (Sx.binR_eqnil Try.underlying25)) ?_
    refine Sx.wl_nil ?_
    refine Sx.qn_then ?_
    refine Sx.wc_cond_false rfl ?_
    refine Sx.wc_skip ?_
    refine Sx.qn_then ?_
    refine Sx.wc_seq ?_
    refine Sx.wc_region ?_
    refine Sx.wl_v rfl rfl (Sx.ov_move _ rfl) ?_
    refine Sx.wl_v rfl rfl (Sx.ov_move _ rfl) ?_
    replace h := Sx.st_front 1 h
    refine Sx.wl_call _ rfl rfl rfl ent19 (Slice_calls g2 y5 0 i (by omega) h) ?_
    rintro e_ w_ ⟨A9, cp10, rfl, h⟩
    refine ⟨_, rfl, ?_⟩
    refine Sx.wl_v rfl rfl (Sx.ov_move _ rfl) ?_
    refine Sx.wl_v rfl rfl (Sx.ov_extract [.slice (A9) ((sliceV y5 0 i).length) (cp10), .int .i64 (spanV y5 0 i)] _ rfl rfl) ?_
    refine Sx.wl_v rfl rfl (Sx.ov_extract [.slice (A9) ((sliceV y5 0 i).length) (cp10), .int .i64 (spanV y5 0 i)] _ rfl rfl) ?_
    refine Sx.wl_v rfl rfl (Sx.ov_assign _ rfl) ?_
    refine Sx.wl_v rfl rfl (Sx.ov_assign _ rfl) ?_
    refine Sx.wl_nil ?_
    refine Sx.qn_then ?_
    refine Sx.wc_seq ?_
    refine Sx.wc_region ?_
    refine Sx.wl_v rfl rfl (Sx.ov_move _ rfl) ?_
    refine Sx.wl_v rfl rfl (Sx.ov_move _ rfl) ?_
    refine Sx.wl_v rfl rfl (Sx.ov_move _ rfl) ?_
    refine Sx.wl_call _ rfl rfl rfl ent14 (Len_calls g2 y5   h) ?_
    rintro e_ w_ ⟨rfl, h⟩
    refine ⟨_, rfl, ?_⟩
    refine Sx.wl_call _ rfl rfl rfl ent19 (Slice_calls g2 y5 i ((((y5).st.length) : Int)) (by omega) h) ?_
    rintro e_ w_ ⟨A11, cp12, rfl, h⟩
    refine ⟨_, rfl, ?_⟩
    refine Sx.wl_v rfl rfl (Sx.ov_move _ rfl) ?_
    refine Sx.wl_v rfl rfl (Sx.ov_extract [.slice (A11) ((sliceV y5 i ((((y5).st.length) : Int))).length) (cp12), .int .i64 (spanV y5 i ((((y5).st.length) : Int)))] _ rfl rfl) ?_
    refine Sx.wl_v rfl rfl (Sx.ov_extract [.slice (A11) ((sliceV y5 i ((((y5).st.length) : Int))).length) (cp12), .int .i64 (spanV y5 i ((((y5).st.length) : Int)))] _ rfl rfl) ?_
    refine Sx.wl_v rfl rfl (Sx.ov_assign _ rfl) ?_
    refine Sx.wl_v rfl rfl (Sx.ov_assign _ rfl) ?_
    refine Sx.wl_nil ?_
    refine Sx.qn_then ?_
    refine Sx.wc_seq ?_
    refine Sx.wc_seq ?_
    refine Sx.wc_region ?_
    refine Sx.wl_v rfl rfl (Sx.ov_move _ rfl) ?_
    refine Sx.wl_v rfl rfl (Sx.ov_bin _ rfl rfl (Sx.binR_neq)) ?_
    refine Sx.wl_v rfl rfl (Sx.ov_move _ rfl) ?_
    refine Sx.wl_split 42 rfl (fun c13 => ?_) (fun c13 => ?_)
    · have hsp_ := splits_span y5 i
      have hsl1_ := sliceV_len y5 0 i
      have hsl2_ := sliceV_len y5 i (y5.st.length : Int)
      refine Sx.wl_skip rfl rfl ?_
      refine Sx.wl_skip rfl rfl ?_
      refine Sx.wl_v rfl rfl (Sx.ov_pick_true _ rfl rfl) ?_
      refine Sx.wl_nil ?_
      refine Sx.qn_then ?_
      refine Sx.wc_cond_true rfl ?_
      refine Sx.wc_seq ?_
      refine Sx.wc_region ?_
      refine Sx.wl_v rfl rfl (Sx.ov_move _ rfl) ?_
      refine Sx.wl_v rfl rfl (Sx.ov_move _ rfl) ?_
      refine Sx.wl_v rfl rfl (Sx.ov_bin _ rfl rfl (Sx.binR_eql)) ?_
      refine Sx.wl_v rfl rfl (Sx.ov_move _ rfl) ?_
      refine Sx.wl_split 49 rfl (fun c14 => ?_) (fun c14 => ?_)
      · have hsp_ := splits_span y5 i
        have hsl1_ := sliceV_len y5 0 i
        have hsl2_ := sliceV_len y5 i (y5.st.length : Int)
        refine Sx.wl_v rfl rfl (Sx.ov_move _ rfl) ?_
        refine Sx.wl_v rfl rfl (Sx.ov_bin _ rfl rfl (Sx.binR_lss)) ?_
        refine Sx.wl_v rfl rfl (Sx.ov_move _ rfl) ?_
        refine Sx.wl_split 52 rfl (fun c15 => ?_) (fun c15 => ?_)
        · refine Sx.wl_skip rfl rfl ?_
          refine Sx.wl_skip rfl rfl ?_
          refine Sx.wl_skip rfl rfl ?_
          refine Sx.wl_skip rfl rfl ?_
          refine Sx.wl_v rfl rfl (Sx.ov_pick_true _ rfl rfl) ?_
          refine Sx.wl_v rfl rfl (Sx.ov_pick_true _ rfl rfl) ?_
          refine Sx.wl_v rfl rfl (Sx.ov_assign _ rfl) ?_
          refine Sx.wl_nil ?_
          refine Sx.qn_then ?_
          refine Sx.wc_ret ?_
          refine Sx.qn_then_ret ?_
          replace h := Sx.st_selT [false, false, false, false, false] h
          refine Sx.qn_ret [_] ⟨rfl, trivial⟩ ?_
          exact ⟨rfl, h⟩
        · refine Sx.wl_v rfl rfl (Sx.ov_move _ rfl) ?_
          refine Sx.wl_v rfl rfl (Sx.ov_move _ rfl) ?_
          refine Sx.wl_call _ rfl rfl rfl ent14 (Len_calls g2 y5   h) ?_
          rintro e_ w_ ⟨rfl, h⟩
          refine ⟨_, rfl, ?_⟩
          refine Sx.wl_v rfl rfl (Sx.ov_bin _ rfl rfl (Sx.binR_gtr)) ?_
          refine Sx.wl_v rfl rfl (Sx.ov_pick_false _ rfl rfl) ?_
          refine Sx.wl_v rfl rfl (Sx.ov_pick_true _ rfl rfl) ?_
          refine Sx.wl_v rfl rfl (Sx.ov_assign _ rfl) ?_
          refine Sx.wl_nil ?_
          refine Sx.qn_then ?_
          refine Sx.wc_ret ?_
          refine Sx.qn_then_ret ?_
          replace h := Sx.st_selT [false, false, false, false, false] h
          refine Sx.qn_ret [_] ⟨rfl, trivial⟩ ?_
          have b_ : (decide (((((y5).st.length) : Int) : Int) < i)) = true := by first | (apply decide_eq_true; omega) | (unfold sameV; rw [splits_all (by omega) (by omega), expand_runs]; exact decide_eq_true rfl)
          exact ⟨congrArg (fun z => Ending.returned (Value.bool z)) b_, h⟩
      · have hsp_ := splits_span y5 i
        have hsl1_ := sliceV_len y5 0 i
        have hsl2_ := sliceV_len y5 i (y5.st.length : Int)
        omega
    · have hsp_ := splits_span y5 i
      have hsl1_ := sliceV_len y5 0 i
      have hsl2_ := sliceV_len y5 i (y5.st.length : Int)
      refine Sx.wl_v rfl rfl (Sx.ov_move _ rfl) ?_
      refine Sx.wl_v rfl rfl (Sx.ov_bin _ rfl rfl (Sx.binR_neq)) ?_
      refine Sx.wl_v rfl rfl (Sx.ov_pick_false _ rfl rfl) ?_
      refine Sx.wl_nil ?_
      refine Sx.qn_then ?_
      refine Sx.wc_cond (by rfl) (fun c16 => ?_) (fun c16 => ?_)
      · have hsp_ := splits_span y5 i
        have hsl1_ := sliceV_len y5 0 i
        have hsl2_ := sliceV_len y5 i (y5.st.length : Int)
        refine Sx.wc_seq ?_
        refine Sx.wc_region ?_
        refine Sx.wl_v rfl rfl (Sx.ov_move _ rfl) ?_
        refine Sx.wl_v rfl rfl (Sx.ov_move _ rfl) ?_
        refine Sx.wl_v rfl rfl (Sx.ov_bin _ rfl rfl (Sx.binR_eql)) ?_
        refine Sx.wl_v rfl rfl (Sx.ov_move _ rfl) ?_
        refine Sx.wl_split 49 rfl (fun c17 => ?_) (fun c17 => ?_)
        · have hsp_ := splits_span y5 i
          have hsl1_ := sliceV_len y5 0 i
          have hsl2_ := sliceV_len y5 i (y5.st.length : Int)
          refine Sx.wl_v rfl rfl (Sx.ov_move _ rfl) ?_
          refine Sx.wl_v rfl rfl (Sx.ov_bin _ rfl rfl (Sx.binR_lss)) ?_
          refine Sx.wl_v rfl rfl (Sx.ov_move _ rfl) ?_
          refine Sx.wl_split 52 rfl (fun c18 => ?_) (fun c18 => ?_)
          · refine Sx.wl_skip rfl rfl ?_
            refine Sx.wl_skip rfl rfl ?_
            refine Sx.wl_skip rfl rfl ?_
            refine Sx.wl_skip rfl rfl ?_
            refine Sx.wl_v rfl rfl (Sx.ov_pick_true _ rfl rfl) ?_
            refine Sx.wl_v rfl rfl (Sx.ov_pick_true _ rfl rfl) ?_
            refine Sx.wl_v rfl rfl (Sx.ov_assign _ rfl) ?_
            refine Sx.wl_nil ?_
            refine Sx.qn_then ?_
            refine Sx.wc_ret ?_
            refine Sx.qn_then_ret ?_
            replace h := Sx.st_selT [false, false, false, false, false] h
            refine Sx.qn_ret [_] ⟨rfl, trivial⟩ ?_
            exact ⟨rfl, h⟩
          · refine Sx.wl_v rfl rfl (Sx.ov_move _ rfl) ?_
            refine Sx.wl_v rfl rfl (Sx.ov_move _ rfl) ?_
            refine Sx.wl_call _ rfl rfl rfl ent14 (Len_calls g2 y5   h) ?_
            rintro e_ w_ ⟨rfl, h⟩
            refine ⟨_, rfl, ?_⟩
            refine Sx.wl_v rfl rfl (Sx.ov_bin _ rfl rfl (Sx.binR_gtr)) ?_
            refine Sx.wl_v rfl rfl (Sx.ov_pick_false _ rfl rfl) ?_
            refine Sx.wl_v rfl rfl (Sx.ov_pick_true _ rfl rfl) ?_
            refine Sx.wl_v rfl rfl (Sx.ov_assign _ rfl) ?_
            refine Sx.wl_nil ?_
            refine Sx.qn_then ?_
            refine Sx.wc_ret ?_
            refine Sx.qn_then_ret ?_
            replace h := Sx.st_selT [false, false, false, false, false] h
            refine Sx.qn_ret [_] ⟨rfl, trivial⟩ ?_
            have b_ : (decide (((((y5).st.length) : Int) : Int) < i)) = true := by first | (apply decide_eq_true; omega) | (unfold sameV; rw [splits_all (by omega) (by omega), expand_runs]; exact decide_eq_true rfl)
            exact ⟨congrArg (fun z => Ending.returned (Value.bool z)) b_, h⟩
        · have hsp_ := splits_span y5 i
          have hsl1_ := sliceV_len y5 0 i
          have hsl2_ := sliceV_len y5 i (y5.st.length : Int)
          omega
      · have hsp_ := splits_span y5 i
        have hsl1_ := sliceV_len y5 0 i
        have hsl2_ := sliceV_len y5 i (y5.st.length : Int)
        refine Sx.wc_skip ?_
        refine Sx.qn_then ?_
        refine Sx.wc_seq ?_
        refine Sx.wc_region ?_
        refine Sx.wl_lit (d := k66) [] _ [] ([]) h rfl rfl rfl rfl Try.underlying33 infb66 rfl (by decide) (by kernel_rfl) rfl (fun _ _ _ => (Reps.none _ _)) (fun A19 cp20 _ h => ?_)
        refine Sx.wl_v rfl rfl (Sx.ov_move _ rfl) ?_
        refine Sx.wl_append (d := k66) (L := []) 0 _ 16 _ _ _ (sliceV y5 0 i) flat66 h rfl rfl rfl rfl rfl ((Sx.row_reads h (i := 3) rfl).2) Try.underlying33 inf66 rfl (by decide) (by decide) (by simp only [List.length_nil, List.length_append]; omega) (by first | rfl | simp) (fun A21 cp22 _ h => ?_)
        refine Sx.wl_v rfl rfl (Sx.ov_move _ rfl) ?_
        refine Sx.wl_append (d := k66) (L := ([]) ++ (sliceV y5 0 i)) 0 _ 16 _ _ _ (sliceV y5 i ((((y5).st.length) : Int))) flat66 h rfl rfl rfl rfl rfl ((Sx.row_reads h (i := 2) rfl).2) Try.underlying33 inf66 rfl (by decide) (by decide) (by simp only [List.length_nil, List.length_append]; omega) (by first | rfl | simp) (fun A23 cp24 _ h => ?_)
        refine Sx.wl_v rfl rfl (Sx.ov_move _ rfl) ?_
        replace h := Sx.st_front 1 h
        refine Sx.wl_call _ rfl rfl rfl ent16 (Runs_calls g2 y5 (by omega) h) ?_
        rintro e_ w_ ⟨A25, cp26, rfl, h⟩
        refine ⟨_, rfl, ?_⟩
        refine Sx.wl_call _ rfl rfl rfl ent33 (Same_calls (R := [listS g2 (y5), Sx.row k66 66 (A25) (cp26) (runsOf (y5).st), Sx.row k66 66 (A23) (cp24) ((([]) ++ (sliceV y5 0 i)) ++ (sliceV y5 i ((((y5).st.length) : Int)))), Sx.row k66 66 (A11) (cp12) (sliceV y5 i ((((y5).st.length) : Int))), Sx.row k66 66 (A9) (cp10) (sliceV y5 0 i), Sx.blk b8 [.slice (A3) (((y5).st).length) (cp4), .int .i64 ((y5).base)] 28, Sx.row (Kd.int .i64) 3 (A3) (cp4) ((y5).st)] ++ R) ((([]) ++ (sliceV y5 0 i)) ++ (sliceV y5 i ((((y5).st.length) : Int)))) (runsOf (y5).st) (A23) (A25) (cp24) (cp26) (by rw [splits_all (by omega) (by omega)]; omega) (by rw [expand_runs]; omega) (by simp only [List.length_nil, List.length_append]; omega) (by omega) (Sx.row_reads_at (R := [listS g2 (y5), Sx.row k66 66 (A25) (cp26) (runsOf (y5).st), Sx.row k66 66 (A23) (cp24) ((([]) ++ (sliceV y5 0 i)) ++ (sliceV y5 i ((((y5).st.length) : Int)))), Sx.row k66 66 (A11) (cp12) (sliceV y5 i ((((y5).st.length) : Int))), Sx.row k66 66 (A9) (cp10) (sliceV y5 0 i), Sx.blk b8 [.slice (A3) (((y5).st).length) (cp4), .int .i64 ((y5).base)] 28, Sx.row (Kd.int .i64) 3 (A3) (cp4) ((y5).st)] ++ R) (j := 2) rfl) (Sx.row_reads_at (R := [listS g2 (y5), Sx.row k66 66 (A25) (cp26) (runsOf (y5).st), Sx.row k66 66 (A23) (cp24) ((([]) ++ (sliceV y5 0 i)) ++ (sliceV y5 i ((((y5).st.length) : Int)))), Sx.row k66 66 (A11) (cp12) (sliceV y5 i ((((y5).st.length) : Int))), Sx.row k66 66 (A9) (cp10) (sliceV y5 0 i), Sx.blk b8 [.slice (A3) (((y5).st).length) (cp4), .int .i64 ((y5).base)] 28, Sx.row (Kd.int .i64) 3 (A3) (cp4) ((y5).st)] ++ R) (j := 1) rfl) h) ?_
        rintro e_ w_ ⟨rfl, h⟩
        refine ⟨_, rfl, ?_⟩
        refine Sx.wl_v rfl rfl (Sx.ov_assign _ rfl) ?_
        refine Sx.wl_nil ?_
        refine Sx.qn_then ?_
        refine Sx.wc_ret ?_
        replace h := Sx.st_selT [false, false, false, false, false, false, false] h
        refine Sx.qn_ret [_] ⟨rfl, trivial⟩ ?_
        have b_ : (sameV ((([]) ++ (sliceV y5 0 i)) ++ (sliceV y5 i ((((y5).st.length) : Int)))) (runsOf (y5).st)) = true := by first | (apply decide_eq_true; omega) | (unfold sameV; rw [splits_all (by omega) (by omega), expand_runs]; exact decide_eq_true rfl)
        exact ⟨congrArg (fun z => Ending.returned (Value.bool z)) b_, h⟩
end Go.Proofs.Ytkliboeebookeaa.Runs.L
