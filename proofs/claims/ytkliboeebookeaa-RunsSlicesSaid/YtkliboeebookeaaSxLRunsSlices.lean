/- The walk of RunsSlices. -/
import Derived.Test.YtkliboeebookeaaProg
import Derived.Test.YtkliboeebookeaaSxGlue
import Derived.Test.YtkliboeebookeaaSxKinds
import Derived.Test.YtkliboeebookeaaRunsTh
import Derived.Test.YtkliboeebookeaaSxRuns
import Derived.Test.YtkliboeebookeaaSxRunsB
import Derived.Test.YtkliboeebookeaaSxRef
import Derived.Test.YtkliboeebookeaaSxPlain
import Derived.Test.YtkliboeebookeaaSxPlainB
import Derived.Test.YtkliboeebookeaaSxPlay
import Derived.Test.YtkliboeebookeaaSxAwake
namespace Go.Proofs.Ytkliboeebookeaa.Runs.L
open Go Go.RowKit Go.Proofs.YtkliboeebookeaaW.PrintWords Go.Proofs.Ytkliboeebookeaa.Kinds Go.Proofs.Ytkliboeebookeaa.Runs Go.Proofs.Ytkliboeebookeaa.Runs.B Go.Proofs.Ytkliboeebookeaa.Runs.C Go.Proofs.Ytkliboeebookeaa.Runs.D Go.Proofs.Ytkliboeebookeaa.Runs.E Go.Proofs.Ytkliboeebookeaa.Runs.F Go.Proofs.Ytkliboeebookeaa.Runs.G
set_option linter.unusedVariables false
set_option linter.unusedSimpArgs false
theorem ent11 : Sx.Ent Try.prog 11 := ⟨Try.f11, Try.func11, by kernel_rfl, by kernel_rfl⟩
theorem ent12 : Sx.Ent Try.prog 12 := ⟨Try.f12, Try.func12, by kernel_rfl, by kernel_rfl⟩
theorem ent13 : Sx.Ent Try.prog 13 := ⟨Try.f13, Try.func13, by kernel_rfl, by kernel_rfl⟩
theorem zo28 : Sx.zeroOf Try.prog 28 = some (.agg #[.slice (none) (0) (0), .int .i64 (0)]) := by kernel_rfl
theorem sh28 : Sx.shapeOf Try.prog 28 = some (true, 2) := by kernel_rfl
theorem ar37 : Sx.arrSz Try.prog 37 = some (2, 3, 1) := by kernel_rfl
theorem sh3 : Sx.shapeOf Try.prog 3 = some (false, 1) := by kernel_rfl
theorem ent19 : Sx.Ent Try.prog 19 := ⟨Try.f19, Try.func19, by kernel_rfl, by kernel_rfl⟩
theorem ent20 : Sx.Ent Try.prog 20 := ⟨Try.f20, Try.func20, by kernel_rfl, by kernel_rfl⟩
theorem es33 : Sx.elemSz Try.prog 33 = some (66, 2) := by kernel_rfl
theorem fo28_0 : Sx.fieldOff Try.prog 28 0 = some 0 := by kernel_rfl
theorem sh26 : Sx.shapeOf Try.prog 26 = some (false, 1) := by kernel_rfl
theorem es26 : Sx.elemSz Try.prog 26 = some (3, 1) := by kernel_rfl
theorem ent17 : Sx.Ent Try.prog 17 := ⟨Try.f17, Try.func17, by kernel_rfl, by kernel_rfl⟩
theorem ent15 : Sx.Ent Try.prog 15 := ⟨Try.f15, Try.func15, by kernel_rfl, by kernel_rfl⟩

theorem slice_err {y : LS} {a b : Int} (h : spanV y a b ≠ 0) : sliceV y a b = [] := by unfold sliceV; rw [if_pos h]
theorem slice_le (y : LS) (a b : Int) (h : y.st.length ≤ 1099511627776) : (sliceV y a b).length ≤ 1099511627776 := by
  unfold sliceV
  split
  · simp
  · refine Nat.le_trans (runs_len _) ?_
    simp [Runs.part]; omega

set_option maxRecDepth 100000 in
theorem RunsSlices_calls {w0 w : World} {F0 : Nat → Prop} {R : List Sx.HP} {v0 : World} (n : Int) (script : List S55) (Ascript : Option Addr) (cscript : Nat) (p0 : Int) (p1 : Int) (hv : Sx.RO v0 w0 F0) (hlscript : script.length ≤ cscript) (hCscript : k55.C v0 Ascript script.length script) (hmscript : script.length ≤ 9223372036854775807) (h : Sx.St w0 F0 ([] ++ R) w) : Calls Try.prog 4 #[.int .i64 (n), .slice (Ascript) (script.length) (cscript), .agg #[.int .i64 (p0), .int .i64 (p1)]] w (fun e w1 => e = .returned (.bool true) ∧ Sx.St w0 F0 R w1) := by
  refine Sx.calls_fn (vs := [.int .i64 (n), .slice (Ascript) (script.length) (cscript), .agg #[.int .i64 (p0), .int .i64 (p1)]]) Try.func4 rfl Try.ntmps4 rfl ?_
  refine Sx.wc_seq ?_
  refine Sx.wc_region ?_
  refine Sx.wl_box _ h rfl rfl rfl (fun b1 _ h => ?_)
  replace h : Sx.St _ _ (Sx.blk b1 [.int .i64 (p0), .int .i64 (p1)] 37 :: _) _ := h
  refine Sx.wl_v rfl rfl (Sx.ov_assign _ rfl) ?_
  refine Sx.wl_nil ?_
  refine Sx.qn_then ?_
  refine Sx.wc_seq ?_
  refine Sx.wc_seq ?_
  refine Sx.wc_region ?_
  refine Sx.wl_call _ rfl rfl rfl ent11 (awake_calls (R := [Sx.blk b1 [.int .i64 (p0), .int .i64 (p1)] 37] ++ R) h) ?_
  rintro e_ w_ ⟨rfl, h⟩
  refine ⟨_, rfl, ?_⟩
  refine Sx.wl_v rfl rfl (Sx.ov_notb _ rfl) ?_
  refine Sx.wl_nil ?_
  refine Sx.qn_then ?_
  refine Sx.wc_cond_false rfl ?_
  refine Sx.wc_skip ?_
  refine Sx.qn_then ?_
  refine Sx.wc_seq ?_
  refine Sx.wc_seq ?_
  refine Sx.wc_region ?_
  refine Sx.wl_v rfl rfl (Sx.ov_move _ rfl) ?_
  refine Sx.wl_call _ rfl rfl rfl ent12 (small_calls (R := [Sx.blk b1 [.int .i64 (p0), .int .i64 (p1)] 37] ++ R) n 1 h) ?_
  rintro e_ w_ ⟨rfl, h⟩
  refine ⟨_, rfl, ?_⟩
  refine Sx.wl_v rfl rfl (Sx.ov_not _ (¬ (smallP n 1)) rfl (by first | exact decide_not.symm | simp)) ?_
  refine Sx.wl_nil ?_
  refine Sx.qn_then ?_
  refine Sx.wc_cond (by rfl) (fun c2 => ?_) (fun c2 => ?_)
  · refine Sx.wc_seq ?_
    refine Sx.wc_region ?_
    refine Sx.wl_v rfl rfl (Sx.ov_assign _ rfl) ?_
    refine Sx.wl_nil ?_
    refine Sx.qn_then ?_
    refine Sx.wc_ret ?_
    refine Sx.qn_then_ret ?_
    replace h := Sx.st_selT [false] h
    refine Sx.qn_ret [_] ⟨rfl, trivial⟩ ?_
    exact ⟨rfl, h⟩
  · refine Sx.wc_skip ?_
    refine Sx.qn_then ?_
    refine Sx.wc_seq ?_
    refine Sx.wc_region ?_
    refine Sx.wl_v rfl rfl (Sx.ov_move _ rfl) ?_
    refine Sx.wl_v rfl rfl (Sx.ov_move _ rfl) ?_
    refine Sx.wl_call _ rfl rfl rfl ent13 (played_calls (R := [Sx.blk b1 [.int .i64 (p0), .int .i64 (p1)] 37] ++ R) n 1 (script) (Ascript) (cscript) hv hlscript hCscript (by omega) (by exact small_new (by omega)) h) ?_
    rintro e_ w_ ⟨g3, A4, cp5, rfl, hl8, h⟩
    refine ⟨_, rfl, ?_⟩
    generalize hy7 : playV (newL n 1) (script) 40 = y6 at h hl8 ⊢
    have hy6 := runs_len y6.st
    refine Sx.wl_v rfl rfl (Sx.ov_move _ rfl) ?_
    refine Sx.wl_v rfl rfl (Sx.ov_extract [.pointer (some ⟨g3, 0, none⟩), .agg #[.slice (A4) (((y6).st).length) (cp5), .int .i64 ((y6).base)]] _ rfl rfl) ?_
    refine Sx.wl_v rfl rfl (Sx.ov_extract [.pointer (some ⟨g3, 0, none⟩), .agg #[.slice (A4) (((y6).st).length) (cp5), .int .i64 ((y6).base)]] _ rfl rfl) ?_
    refine Sx.wl_alloc _ h rfl rfl zo28 (fun b9 _ h => ?_)
    replace h : Sx.St _ _ (Sx.blk b9 [.slice (none) (0) (0), .int .i64 (0)] 28 :: _) _ := h
    refine Sx.wl_v rfl rfl (Sx.ov_assign _ rfl) ?_
    refine Sx.wl_storebN 0 [.slice (A4) (((y6).st).length) (cp5), .int .i64 ((y6).base)] [.slice (A4) (((y6).st).length) (cp5), .int .i64 ((y6).base)] h rfl rfl rfl rfl (by simp [Value.oneCell']) sh28 rfl rfl (fun _ h => ?_)
    refine Sx.wl_nil ?_
    refine Sx.qn_then ?_
    refine Sx.wc_seq ?_
    refine Sx.wc_seq ?_
    refine Sx.wc_region ?_
    refine Sx.wl_v rfl rfl (Sx.ov_move _ rfl) ?_
    refine Sx.wl_v rfl rfl (Sx.ov_bin (.bool false) rfl rfl (Sx.binR_eqnil Try.underlying25)) ?_
    refine Sx.wl_nil ?_
    refine Sx.qn_then ?_
    refine Sx.wc_cond_false rfl ?_
    refine Sx.wc_skip ?_
    refine Sx.qn_then ?_
    refine Sx.wc_seq ?_
    refine Sx.wc_region ?_
    refine Sx.wl_v rfl rfl (Sx.ov_move _ rfl) ?_
    refine Sx.wl_v rfl rfl (Sx.ov_indexAddrA ⟨b1, 0, none⟩ 0 ⟨b1, 0, none⟩ rfl rfl ar37 (by decide) rfl) ?_
    refine Sx.wl_v rfl rfl (Sx.ov_loadb 3 _ h rfl rfl sh3 rfl) ?_
    refine Sx.wl_v rfl rfl (Sx.ov_indexAddrA ⟨b1, 0, none⟩ 1 ⟨b1, 1, none⟩ rfl rfl ar37 (by decide) rfl) ?_
    refine Sx.wl_v rfl rfl (Sx.ov_loadb 3 _ h rfl rfl sh3 rfl) ?_
    replace h := Sx.st_front 1 h
    refine Sx.wl_call _ rfl rfl rfl ent19 (Slice_calls g3 y6 p0 p1 (by omega) h) ?_
    rintro e_ w_ ⟨A10, cp11, rfl, h⟩
    refine ⟨_, rfl, ?_⟩
    refine Sx.wl_v rfl rfl (Sx.ov_move _ rfl) ?_
    refine Sx.wl_v rfl rfl (Sx.ov_extract [.slice (A10) ((sliceV y6 p0 p1).length) (cp11), .int .i64 (spanV y6 p0 p1)] _ rfl rfl) ?_
    refine Sx.wl_v rfl rfl (Sx.ov_extract [.slice (A10) ((sliceV y6 p0 p1).length) (cp11), .int .i64 (spanV y6 p0 p1)] _ rfl rfl) ?_
    refine Sx.wl_v rfl rfl (Sx.ov_assign _ rfl) ?_
    refine Sx.wl_v rfl rfl (Sx.ov_assign _ rfl) ?_
    refine Sx.wl_nil ?_
    refine Sx.qn_then ?_
    refine Sx.wc_seq ?_
    refine Sx.wc_seq ?_
    refine Sx.wc_region ?_
    refine Sx.wl_v rfl rfl (Sx.ov_loadbN 2 [.slice (A4) (((y6).st).length) (cp5), .int .i64 ((y6).base)] h rfl rfl sh28 rfl) ?_
    refine Sx.wl_v rfl rfl (Sx.ov_indexAddrA ⟨b1, 0, none⟩ 0 ⟨b1, 0, none⟩ rfl rfl ar37 (by decide) rfl) ?_
    refine Sx.wl_v rfl rfl (Sx.ov_loadb 4 _ h rfl rfl sh3 rfl) ?_
    refine Sx.wl_v rfl rfl (Sx.ov_indexAddrA ⟨b1, 0, none⟩ 1 ⟨b1, 1, none⟩ rfl rfl ar37 (by decide) rfl) ?_
    refine Sx.wl_v rfl rfl (Sx.ov_loadb 4 _ h rfl rfl sh3 rfl) ?_
    replace h := Sx.st_front 3 h
    refine Sx.wl_call _ rfl rfl rfl ent20 (rSpan_calls (R := [listS g3 (y6), Sx.row k66 66 (A10) (cp11) (sliceV y6 p0 p1), Sx.blk b9 [.slice (A4) (((y6).st).length) (cp5), .int .i64 ((y6).base)] 28, Sx.blk b1 [.int .i64 (p0), .int .i64 (p1)] 37] ++ R) (A4) (cp5) y6 p0 p1  h) ?_
    rintro e_ w_ ⟨rfl, h⟩
    refine ⟨_, rfl, ?_⟩
    refine Sx.wl_v rfl rfl (Sx.ov_assign _ rfl) ?_
    refine Sx.wl_nil ?_
    refine Sx.qn_then ?_
    refine Sx.wc_seq ?_
    refine Sx.wc_region ?_
    refine Sx.wl_v rfl rfl (Sx.ov_move _ rfl) ?_
    refine Sx.wl_v rfl rfl (Sx.ov_bin _ rfl rfl (Sx.binR_neq)) ?_
    refine Sx.wl_nil ?_
    refine Sx.qn_then ?_
    refine Sx.wc_cond (by rfl) (fun c12 => ?_) (fun c12 => ?_)
    · have hsp_ := slice_err c12
      refine Sx.wc_seq ?_
      refine Sx.wc_region ?_
      refine Sx.wl_v rfl rfl (Sx.ov_move _ rfl) ?_
      refine Sx.wl_v rfl rfl (Sx.ov_move _ rfl) ?_
      refine Sx.wl_v rfl rfl (Sx.ov_bin _ rfl rfl (Sx.binR_eql)) ?_
      refine Sx.wl_v rfl rfl (Sx.ov_move _ rfl) ?_
      refine Sx.wl_split 45 rfl (fun c13 => ?_) (fun c13 => ?_)
      · refine Sx.wl_v rfl rfl (Sx.ov_move _ rfl) ?_
        refine Sx.wl_v rfl rfl (Sx.ov_len _ _ _ _ _ rfl es33) ?_
        refine Sx.wl_v rfl rfl (Sx.ov_bin _ rfl rfl (Sx.binR_eql)) ?_
        refine Sx.wl_v rfl rfl (Sx.ov_pick_true _ rfl rfl) ?_
        refine Sx.wl_v rfl rfl (Sx.ov_assign _ rfl) ?_
        refine Sx.wl_nil ?_
        refine Sx.qn_then ?_
        refine Sx.wc_ret ?_
        refine Sx.qn_then_ret ?_
        replace h := Sx.st_selT [false, false, false, false, false] h
        refine Sx.qn_ret [_] ⟨rfl, trivial⟩ ?_
        have b_ : (decide (((((sliceV y6 p0 p1).length : Nat) : Int) : Int) = 0)) = true := by first | (apply decide_eq_true; rw [hsp_]; rfl) | (unfold sliceV sameB; rw [if_neg (by assumption)]; exact decide_eq_true rfl)
        exact ⟨congrArg (fun z => Ending.returned (Value.bool z)) b_, h⟩
      · omega
    · have hsp_ := span_ok c12
      refine Sx.wc_skip ?_
      refine Sx.qn_then ?_
      refine Sx.wc_seq ?_
      refine Sx.wc_region ?_
      refine Sx.wl_v rfl rfl (Sx.ov_move _ rfl) ?_
      refine Sx.wl_v rfl rfl (Sx.ov_bin _ rfl rfl (Sx.binR_eql)) ?_
      refine Sx.wl_v rfl rfl (Sx.ov_move _ rfl) ?_
      refine Sx.wl_split 52 rfl (fun c14 => ?_) (fun c14 => ?_)
      · refine Sx.wl_v rfl rfl (Sx.ov_move _ rfl) ?_
        refine Sx.wl_v rfl rfl (Sx.ov_fieldAddr _ ⟨b9, 0, none⟩ _ rfl fo28_0 rfl) ?_
        refine Sx.wl_v rfl rfl (Sx.ov_loadb 3 _ h rfl rfl sh26 rfl) ?_
        refine Sx.wl_v rfl rfl (Sx.ov_indexAddrA ⟨b1, 0, none⟩ 0 ⟨b1, 0, none⟩ rfl rfl ar37 (by decide) rfl) ?_
        refine Sx.wl_v rfl rfl (Sx.ov_loadb 4 _ h rfl rfl sh3 rfl) ?_
        refine Sx.wl_v rfl rfl (Sx.ov_indexAddrA ⟨b1, 0, none⟩ 1 ⟨b1, 1, none⟩ rfl rfl ar37 (by decide) rfl) ?_
        refine Sx.wl_v rfl rfl (Sx.ov_loadb 4 _ h rfl rfl sh3 rfl) ?_
        have hcap15 := (Sx.row_reads h (i := 0) rfl).1
        obtain ⟨A16, hA17⟩ : ∃ A_, (if cp5 = ((p0 : Int).toNat) then A4 else Option.map (·.add (((p0 : Int).toNat) * 1)) (A4)) = A_ := ⟨_, rfl⟩
        refine Sx.wl_v rfl rfl (Sx.ov_slice _ _ _ ((p0 : Int).toNat) ((p1 : Int).toNat) (by rfl) (by exact ⟨_, _, rfl, (by omega)⟩) (by exact ⟨_, _, rfl, (by omega)⟩) es26 (by omega) (by omega) hA17 (n' := ((((y6).st).take ((p1 : Int).toNat)).drop ((p0 : Int).toNat)).length) (by simp only [List.length_drop, List.length_take]; omega)) ?_
        refine Sx.wl_call _ rfl rfl rfl ent17 (rRuns_calls (R := [Sx.row (Kd.int .i64) 3 (A4) (cp5) ((y6).st), listS g3 (y6), Sx.row k66 66 (A10) (cp11) (sliceV y6 p0 p1), Sx.blk b9 [.slice (A4) (((y6).st).length) (cp5), .int .i64 ((y6).base)] 28, Sx.blk b1 [.int .i64 (p0), .int .i64 (p1)] 37] ++ R) ((((y6).st).take ((p1 : Int).toNat)).drop ((p0 : Int).toNat)) (A16) (cp5 - ((p0 : Int).toNat)) (by simp only [List.length_drop, List.length_take]; omega) (fun cs_ w_ h_ => Sx.mid_C (lo := ((p0 : Int).toNat)) (hi := ((p1 : Int).toNat)) (by omega) (by omega) hcap15 hA17 ((Sx.row_reads_at (R := [Sx.row (Kd.int .i64) 3 (A4) (cp5) ((y6).st), listS g3 (y6), Sx.row k66 66 (A10) (cp11) (sliceV y6 p0 p1), Sx.blk b9 [.slice (A4) (((y6).st).length) (cp5), .int .i64 ((y6).base)] 28, Sx.blk b1 [.int .i64 (p0), .int .i64 (p1)] 37] ++ R) (j := 0) rfl) cs_ w_ h_)) h) ?_
        rintro e_ w_ ⟨A18, cp19, rfl, h⟩
        refine ⟨_, rfl, ?_⟩
        refine Sx.wl_call _ rfl rfl rfl ent15 (rSame_calls (R := [Sx.row k66 66 (A18) (cp19) (runsOf ((((y6).st).take ((p1 : Int).toNat)).drop ((p0 : Int).toNat))), Sx.row (Kd.int .i64) 3 (A4) (cp5) ((y6).st), listS g3 (y6), Sx.row k66 66 (A10) (cp11) (sliceV y6 p0 p1), Sx.blk b9 [.slice (A4) (((y6).st).length) (cp5), .int .i64 ((y6).base)] 28, Sx.blk b1 [.int .i64 (p0), .int .i64 (p1)] 37] ++ R) (sliceV y6 p0 p1) (runsOf ((((y6).st).take ((p1 : Int).toNat)).drop ((p0 : Int).toNat))) (A10) (A18) (cp11) (cp19) (by exact slice_le _ _ _ (by omega)) (by refine Nat.le_trans (runs_len _) ?_; simp only [List.length_drop, List.length_take]; omega) (Sx.row_reads_at (R := [Sx.row k66 66 (A18) (cp19) (runsOf ((((y6).st).take ((p1 : Int).toNat)).drop ((p0 : Int).toNat))), Sx.row (Kd.int .i64) 3 (A4) (cp5) ((y6).st), listS g3 (y6), Sx.row k66 66 (A10) (cp11) (sliceV y6 p0 p1), Sx.blk b9 [.slice (A4) (((y6).st).length) (cp5), .int .i64 ((y6).base)] 28, Sx.blk b1 [.int .i64 (p0), .int .i64 (p1)] 37] ++ R) (j := 3) rfl) (Sx.row_reads_at (R := [Sx.row k66 66 (A18) (cp19) (runsOf ((((y6).st).take ((p1 : Int).toNat)).drop ((p0 : Int).toNat))), Sx.row (Kd.int .i64) 3 (A4) (cp5) ((y6).st), listS g3 (y6), Sx.row k66 66 (A10) (cp11) (sliceV y6 p0 p1), Sx.blk b9 [.slice (A4) (((y6).st).length) (cp5), .int .i64 ((y6).base)] 28, Sx.blk b1 [.int .i64 (p0), .int .i64 (p1)] 37] ++ R) (j := 0) rfl) h) ?_
        rintro e_ w_ ⟨rfl, h⟩
        refine ⟨_, rfl, ?_⟩
        refine Sx.wl_v rfl rfl (Sx.ov_pick_true _ rfl rfl) ?_
        refine Sx.wl_v rfl rfl (Sx.ov_assign _ rfl) ?_
        refine Sx.wl_nil ?_
        refine Sx.qn_then ?_
        refine Sx.wc_ret ?_
        replace h := Sx.st_selT [false, false, false, false, false, false] h
        refine Sx.qn_ret [_] ⟨rfl, trivial⟩ ?_
        have b_ : (sameB (sliceV y6 p0 p1) (runsOf ((((y6).st).take ((p1 : Int).toNat)).drop ((p0 : Int).toNat)))) = true := by first | (apply decide_eq_true; rw [hsp_]; rfl) | (unfold sliceV sameB; rw [if_neg (by assumption)]; exact decide_eq_true rfl)
        exact ⟨congrArg (fun z => Ending.returned (Value.bool z)) b_, h⟩
      · omega
end Go.Proofs.Ytkliboeebookeaa.Runs.L
