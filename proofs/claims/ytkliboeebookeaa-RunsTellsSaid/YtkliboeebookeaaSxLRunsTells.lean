/- The walk of RunsTells. -/
import Derived.Test.YtkliboeebookeaaProg
import Derived.Test.YtkliboeebookeaaSxGlue
import Derived.Test.YtkliboeebookeaaSxKinds
import Derived.Test.YtkliboeebookeaaRunsTh
import Derived.Test.YtkliboeebookeaaSxRuns
import Derived.Test.YtkliboeebookeaaSxRunsB
import Derived.Test.YtkliboeebookeaaSxRef
import Derived.Test.YtkliboeebookeaaSxPlain
import Derived.Test.YtkliboeebookeaaSxPlainB
import Derived.Test.YtkliboeebookeaaSxPlay
import Derived.Test.YtkliboeebookeaaSxAwake
namespace Go.Proofs.Ytkliboeebookeaa.Runs.L
open Go Go.RowKit Go.Proofs.YtkliboeebookeaaW.PrintWords Go.Proofs.Ytkliboeebookeaa.Kinds Go.Proofs.Ytkliboeebookeaa.Runs Go.Proofs.Ytkliboeebookeaa.Runs.B Go.Proofs.Ytkliboeebookeaa.Runs.C Go.Proofs.Ytkliboeebookeaa.Runs.D Go.Proofs.Ytkliboeebookeaa.Runs.E Go.Proofs.Ytkliboeebookeaa.Runs.F Go.Proofs.Ytkliboeebookeaa.Runs.G
set_option linter.unusedVariables false
set_option linter.unusedSimpArgs false
theorem ent11 : Sx.Ent Try.prog 11 := ⟨Try.f11, Try.func11, by kernel_rfl, by kernel_rfl⟩
theorem ent12 : Sx.Ent Try.prog 12 := ⟨Try.f12, Try.func12, by kernel_rfl, by kernel_rfl⟩
theorem ent13 : Sx.Ent Try.prog 13 := ⟨Try.f13, Try.func13, by kernel_rfl, by kernel_rfl⟩
theorem zo28 : Sx.zeroOf Try.prog 28 = some (.agg #[.slice (none) (0) (0), .int .i64 (0)]) := by kernel_rfl
theorem sh28 : Sx.shapeOf Try.prog 28 = some (true, 2) := by kernel_rfl
theorem ent25 : Sx.Ent Try.prog 25 := ⟨Try.f25, Try.func25, by kernel_rfl, by kernel_rfl⟩
theorem ent23 : Sx.Ent Try.prog 23 := ⟨Try.f23, Try.func23, by kernel_rfl, by kernel_rfl⟩
theorem ent26 : Sx.Ent Try.prog 26 := ⟨Try.f26, Try.func26, by kernel_rfl, by kernel_rfl⟩
theorem fo28_0 : Sx.fieldOff Try.prog 28 0 = some 0 := by kernel_rfl
theorem sh26 : Sx.shapeOf Try.prog 26 = some (false, 1) := by kernel_rfl
theorem es26 : Sx.elemSz Try.prog 26 = some (3, 1) := by kernel_rfl
theorem sh3 : Sx.shapeOf Try.prog 3 = some (false, 1) := by kernel_rfl
theorem ent24 : Sx.Ent Try.prog 24 := ⟨Try.f24, Try.func24, by kernel_rfl, by kernel_rfl⟩

theorem max_next (σ : List Int) {k : Nat} (hk : k < σ.length) : max ((σ.take k).foldl max (-1)) (σ.getD k 0) = (σ.take (k + 1)).foldl max (-1) := by
  rw [take_next σ k hk 0, List.foldl_append]; rfl
theorem at_bool (y : LS) (i : Int) (h : 0 ≤ i) : (atV y i).2 = decide (i < (y.st.length : Int)) := by
  unfold atV
  by_cases h2 : i < (y.st.length : Int)
  · rw [if_pos ⟨h, h2⟩, decide_eq_true h2]
  · rw [if_neg (by omega), decide_eq_false h2]
theorem at_neg (y : LS) (i : Int) (h : ¬ 0 ≤ i) : (atV y i).1 = 0 ∧ (atV y i).2 = false := by
  unfold atV; rw [if_neg (by omega)]; exact ⟨rfl, rfl⟩
theorem at_neg2 (y : LS) (i : Int) (h : ¬ i < (y.st.length : Int)) : (atV y i).1 = 0 ∧ (atV y i).2 = false := by
  unfold atV; rw [if_neg (by omega)]; exact ⟨rfl, rfl⟩
theorem at_val (y : LS) (i : Int) (h : 0 ≤ i) (h2 : i < (y.st.length : Int)) : (atV y i).1 = y.st.getD i.toNat 0 := by
  unfold atV; rw [if_pos ⟨h, h2⟩]

set_option maxRecDepth 100000 in
theorem RunsTells_calls {w0 w : World} {F0 : Nat → Prop} {R : List Sx.HP} {v0 : World} (n : Int) (script : List S55) (Ascript : Option Addr) (cscript : Nat) (i : Int) (hv : Sx.RO v0 w0 F0) (hlscript : script.length ≤ cscript) (hCscript : k55.C v0 Ascript script.length script) (hmscript : script.length ≤ 9223372036854775807) (h : Sx.St w0 F0 ([] ++ R) w) : Calls Try.prog 6 #[.int .i64 (n), .slice (Ascript) (script.length) (cscript), .int .i64 (i)] w (fun e w1 => e = .returned (.bool true) ∧ Sx.St w0 F0 R w1) := by
  refine Sx.calls_fn (vs := [.int .i64 (n), .slice (Ascript) (script.length) (cscript), .int .i64 (i)]) Try.func6 rfl Try.ntmps6 rfl ?_
  refine Sx.wc_seq ?_
  refine Sx.wc_region ?_
  refine Sx.wl_v rfl rfl (Sx.ov_assign _ rfl) ?_
  refine Sx.wl_nil ?_
  refine Sx.qn_then ?_
  refine Sx.wc_seq ?_
  refine Sx.wc_seq ?_
  refine Sx.wc_region ?_
  refine Sx.wl_call _ rfl rfl rfl ent11 (awake_calls (R := [] ++ R) h) ?_
  rintro e_ w_ ⟨rfl, h⟩
  refine ⟨_, rfl, ?_⟩
  refine Sx.wl_v rfl rfl (Sx.ov_notb _ rfl) ?_
  refine Sx.wl_nil ?_
  refine Sx.qn_then ?_
  refine Sx.wc_cond_false rfl ?_
  refine Sx.wc_skip ?_
  refine Sx.qn_then ?_
  refine Sx.wc_seq ?_
  refine Sx.wc_seq ?_
  refine Sx.wc_region ?_
  refine Sx.wl_v rfl rfl (Sx.ov_move _ rfl) ?_
  refine Sx.wl_call _ rfl rfl rfl ent12 (small_calls (R := [] ++ R) n 1 h) ?_
  rintro e_ w_ ⟨rfl, h⟩
  refine ⟨_, rfl, ?_⟩
  refine Sx.wl_v rfl rfl (Sx.ov_not _ (¬ (smallP n 1)) rfl (by first | exact decide_not.symm | simp)) ?_
  refine Sx.wl_nil ?_
  refine Sx.qn_then ?_
  refine Sx.wc_cond (by rfl) (fun c1 => ?_) (fun c1 => ?_)
  · refine Sx.wc_seq ?_
    refine Sx.wc_region ?_
    refine Sx.wl_v rfl rfl (Sx.ov_assign _ rfl) ?_
    refine Sx.wl_nil ?_
    refine Sx.qn_then ?_
    refine Sx.wc_ret ?_
    refine Sx.qn_then_ret ?_
    refine Sx.qn_ret [_] ⟨rfl, trivial⟩ ?_
    exact ⟨rfl, h⟩
  · refine Sx.wc_skip ?_
    refine Sx.qn_then ?_
    refine Sx.wc_seq ?_
    refine Sx.wc_region ?_
    refine Sx.wl_v rfl rfl (Sx.ov_move _ rfl) ?_
    refine Sx.wl_v rfl rfl (Sx.ov_move _ rfl) ?_
    refine Sx.wl_call _ rfl rfl rfl ent13 (played_calls (R := [] ++ R) n 1 (script) (Ascript) (cscript) hv hlscript hCscript (by omega) (by exact small_new (by omega)) h) ?_
    rintro e_ w_ ⟨g2, A3, cp4, rfl, hl7, h⟩
    refine ⟨_, rfl, ?_⟩
    generalize hy6 : playV (newL n 1) (script) 40 = y5 at h hl7 ⊢
    have hy5 := runs_len y5.st
    refine Sx.wl_v rfl rfl (Sx.ov_move _ rfl) ?_
    refine Sx.wl_v rfl rfl (Sx.ov_extract [.pointer (some ⟨g2, 0, none⟩), .agg #[.slice (A3) (((y5).st).length) (cp4), .int .i64 ((y5).base)]] _ rfl rfl) ?_
    refine Sx.wl_v rfl rfl (Sx.ov_extract [.pointer (some ⟨g2, 0, none⟩), .agg #[.slice (A3) (((y5).st).length) (cp4), .int .i64 ((y5).base)]] _ rfl rfl) ?_
    refine Sx.wl_alloc _ h rfl rfl zo28 (fun b8 _ h => ?_)
    replace h : Sx.St _ _ (Sx.blk b8 [.slice (none) (0) (0), .int .i64 (0)] 28 :: _) _ := h
    refine Sx.wl_v rfl rfl (Sx.ov_assign _ rfl) ?_
    refine Sx.wl_storebN 0 [.slice (A3) (((y5).st).length) (cp4), .int .i64 ((y5).base)] [.slice (A3) (((y5).st).length) (cp4), .int .i64 ((y5).base)] h rfl rfl rfl rfl (by simp [Value.oneCell']) sh28 rfl rfl (fun _ h => ?_)
    refine Sx.wl_nil ?_
    refine Sx.qn_then ?_
    refine Sx.wc_seq ?_
    refine Sx.wc_seq ?_
    refine Sx.wc_region ?_
    refine Sx.wl_v rfl rfl (Sx.ov_move _ rfl) ?_
    refine Sx.wl_v rfl rfl (Sx.ov_bin (.bool false) rfl rfl (Sx.binR_eqnil Try.underlying25)) ?_
    refine Sx.wl_nil ?_
    refine Sx.qn_then ?_
    refine Sx.wc_cond_false rfl ?_
    refine Sx.wc_skip ?_
    refine Sx.qn_then ?_
    refine Sx.wc_seq ?_
    refine Sx.wc_region ?_
    refine Sx.wl_v rfl rfl (Sx.ov_move _ rfl) ?_
    refine Sx.wl_v rfl rfl (Sx.ov_move _ rfl) ?_
    replace h := Sx.st_front 1 h
    refine Sx.wl_call _ rfl rfl rfl ent25 (At_calls g2 y5 i (by omega) h) ?_
    rintro e_ w_ ⟨rfl, h⟩
    refine ⟨_, rfl, ?_⟩
    refine Sx.wl_v rfl rfl (Sx.ov_move _ rfl) ?_
    refine Sx.wl_v rfl rfl (Sx.ov_extract [.int .i64 ((atV y5 i).1), .bool ((atV y5 i).2)] _ rfl rfl) ?_
    refine Sx.wl_v rfl rfl (Sx.ov_extract [.int .i64 ((atV y5 i).1), .bool ((atV y5 i).2)] _ rfl rfl) ?_
    refine Sx.wl_v rfl rfl (Sx.ov_assign _ rfl) ?_
    refine Sx.wl_v rfl rfl (Sx.ov_assign _ rfl) ?_
    refine Sx.wl_nil ?_
    refine Sx.qn_then ?_
    refine Sx.wc_seq ?_
    refine Sx.wc_region ?_
    refine Sx.wl_v rfl rfl (Sx.ov_move _ rfl) ?_
    refine Sx.wl_v rfl rfl (Sx.ov_move _ rfl) ?_
    refine Sx.wl_call _ rfl rfl rfl ent23 (Near_calls g2 y5 i (by omega) h) ?_
    rintro e_ w_ ⟨rfl, h⟩
    refine ⟨_, rfl, ?_⟩
    refine Sx.wl_v rfl rfl (Sx.ov_move _ rfl) ?_
    refine Sx.wl_v rfl rfl (Sx.ov_extract [.int .i64 ((nearV y5 i).1), .int .i64 ((nearV y5 i).2)] _ rfl rfl) ?_
    refine Sx.wl_v rfl rfl (Sx.ov_extract [.int .i64 ((nearV y5 i).1), .int .i64 ((nearV y5 i).2)] _ rfl rfl) ?_
    refine Sx.wl_v rfl rfl (Sx.ov_assign _ rfl) ?_
    refine Sx.wl_v rfl rfl (Sx.ov_assign _ rfl) ?_
    refine Sx.wl_nil ?_
    refine Sx.qn_then ?_
    refine Sx.wc_seq ?_
    refine Sx.wc_region ?_
    refine Sx.wl_v rfl rfl (Sx.ov_loadbN 1 [.slice (A3) (((y5).st).length) (cp4), .int .i64 ((y5).base)] h rfl rfl sh28 rfl) ?_
    refine Sx.wl_v rfl rfl (Sx.ov_move _ rfl) ?_
    replace h := Sx.st_front 2 h
    refine Sx.wl_call _ rfl rfl rfl ent26 (rNear_calls (R := [listS g2 (y5), Sx.blk b8 [.slice (A3) (((y5).st).length) (cp4), .int .i64 ((y5).base)] 28] ++ R) (A3) (cp4) y5 i (by omega) h) ?_
    rintro e_ w_ ⟨rfl, h⟩
    refine ⟨_, rfl, ?_⟩
    refine Sx.wl_v rfl rfl (Sx.ov_move _ rfl) ?_
    refine Sx.wl_v rfl rfl (Sx.ov_extract [.int .i64 ((nearV y5 i).1), .int .i64 ((nearV y5 i).2)] _ rfl rfl) ?_
    refine Sx.wl_v rfl rfl (Sx.ov_extract [.int .i64 ((nearV y5 i).1), .int .i64 ((nearV y5 i).2)] _ rfl rfl) ?_
    refine Sx.wl_v rfl rfl (Sx.ov_assign _ rfl) ?_
    refine Sx.wl_v rfl rfl (Sx.ov_assign _ rfl) ?_
    refine Sx.wl_nil ?_
    refine Sx.qn_then ?_
    refine Sx.wc_seq ?_
    refine Sx.wc_seq ?_
    refine Sx.wc_region ?_
    refine Sx.wl_v rfl rfl (Sx.ov_move _ rfl) ?_
    refine Sx.wl_v rfl rfl (Sx.ov_bin _ rfl rfl (Sx.binR_geq)) ?_
    refine Sx.wl_v rfl rfl (Sx.ov_move _ rfl) ?_
    refine Sx.wl_split 51 rfl (fun c9 => ?_) (fun c9 => ?_)
    · refine Sx.wl_v rfl rfl (Sx.ov_move _ rfl) ?_
      refine Sx.wl_v rfl rfl (Sx.ov_fieldAddr _ ⟨b8, 0, none⟩ _ rfl fo28_0 rfl) ?_
      refine Sx.wl_v rfl rfl (Sx.ov_loadb 2 _ h rfl rfl sh26 rfl) ?_
      refine Sx.wl_v rfl rfl (Sx.ov_len _ _ _ _ _ rfl es26) ?_
      refine Sx.wl_v rfl rfl (Sx.ov_bin _ rfl rfl (Sx.binR_lss)) ?_
      refine Sx.wl_v rfl rfl (Sx.ov_pick_true _ rfl rfl) ?_
      refine Sx.wl_v rfl rfl (Sx.ov_assign _ rfl) ?_
      refine Sx.wl_nil ?_
      refine Sx.qn_then ?_
      refine Sx.wc_seq ?_
      refine Sx.wc_region ?_
      refine Sx.wl_v rfl rfl (Sx.ov_move _ rfl) ?_
      refine Sx.wl_v rfl rfl (Sx.ov_move _ rfl) ?_
      refine Sx.wl_v rfl rfl (Sx.ov_bin _ rfl rfl (Sx.binR_neb Try.underlying4)) ?_
      refine Sx.wl_v rfl rfl (Sx.ov_move _ rfl) ?_
      refine Sx.wl_split 61 rfl (fun c10 => ?_) (fun c10 => ?_)
      · exfalso
        first | exact c10 (at_bool _ _ (by omega)) | exact c10 (at_neg _ _ (by omega)).2 | exact c10 (at_val _ _ (by omega) (by omega)) | exact c10 (at_neg _ _ (by omega)).1 | exact c10 (at_neg2 _ _ (by omega)).1 | exact c10 (at_neg2 _ _ (by omega)).2
      · refine Sx.wl_v rfl rfl (Sx.ov_move _ rfl) ?_
        refine Sx.wl_v rfl rfl (Sx.ov_move _ rfl) ?_
        refine Sx.wl_split 63 rfl (fun c11 => ?_) (fun c11 => ?_)
        · refine Sx.wl_v rfl rfl (Sx.ov_move _ rfl) ?_
          refine Sx.wl_v rfl rfl (Sx.ov_fieldAddr _ ⟨b8, 0, none⟩ _ rfl fo28_0 rfl) ?_
          refine Sx.wl_v rfl rfl (Sx.ov_loadb 2 _ h rfl rfl sh26 rfl) ?_
          refine Sx.wl_v rfl rfl (Sx.ov_move _ rfl) ?_
          obtain ⟨ad12, rfl⟩ := Sx.C_some ((Sx.row_reads h (i := 0) rfl).2) (k := (i : Int).toNat) (by first | assumption | omega)
          refine Sx.wl_v rfl rfl (Sx.ov_indexAddrN _ _ _ _ _ (i : Int).toNat rfl rfl es26 (by omega) (by first | assumption | omega | (simp only [List.length_take, List.length_drop, List.length_set]; omega))) ?_
          obtain ⟨cl15, _, hk14, hc13⟩ := Sx.C_cells ((Sx.row_reads h (i := 0) rfl).2) (z := (0 : Int)) (k := (i : Int).toNat) (by first | assumption | omega)
          obtain rfl : cl15 = [.int .i64 _] := hk14
          refine Sx.wl_v rfl rfl (Sx.ov_load1 _ _ rfl sh3 ((hc13 0 _ rfl))) ?_
          refine Sx.wl_v rfl rfl (Sx.ov_bin _ rfl rfl (Sx.binR_neq)) ?_
          refine Sx.wl_v rfl rfl (Sx.ov_pick_true _ rfl rfl) ?_
          refine Sx.wl_v rfl rfl (Sx.ov_pick_false _ rfl rfl) ?_
          refine Sx.wl_v rfl rfl (Sx.ov_move _ rfl) ?_
          refine Sx.wl_split 73 rfl (fun c16 => ?_) (fun c16 => ?_)
          · exfalso
            first | exact c16 (at_bool _ _ (by omega)) | exact c16 (at_neg _ _ (by omega)).2 | exact c16 (at_val _ _ (by omega) (by omega)) | exact c16 (at_neg _ _ (by omega)).1 | exact c16 (at_neg2 _ _ (by omega)).1 | exact c16 (at_neg2 _ _ (by omega)).2
          · refine Sx.wl_v rfl rfl (Sx.ov_move _ rfl) ?_
            refine Sx.wl_v rfl rfl (Sx.ov_not _ (¬ ((i : Int) < (((((y5).st).length : Nat) : Int)))) rfl (by first | exact decide_not.symm | simp)) ?_
            refine Sx.wl_v rfl rfl (Sx.ov_move _ rfl) ?_
            refine Sx.wl_split 76 rfl (fun c17 => ?_) (fun c17 => ?_)
            · refine Sx.wl_v rfl rfl (Sx.ov_move _ rfl) ?_
              refine Sx.wl_v rfl rfl (Sx.ov_bin _ rfl rfl (Sx.binR_neq)) ?_
              refine Sx.wl_v rfl rfl (Sx.ov_pick_true _ rfl rfl) ?_
              refine Sx.wl_v rfl rfl (Sx.ov_pick_false _ rfl rfl) ?_
              refine Sx.wl_nil ?_
              refine Sx.qn_then ?_
              refine Sx.wc_cond (by rfl) (fun c18 => ?_) (fun c18 => ?_)
              · exfalso
                first | exact c18 (at_bool _ _ (by omega)) | exact c18 (at_neg _ _ (by omega)).2 | exact c18 (at_val _ _ (by omega) (by omega)) | exact c18 (at_neg _ _ (by omega)).1 | exact c18 (at_neg2 _ _ (by omega)).1 | exact c18 (at_neg2 _ _ (by omega)).2
              · refine Sx.wc_skip ?_
                refine Sx.qn_then ?_
                refine Sx.wc_seq ?_
                refine Sx.wc_region ?_
                refine Sx.wl_v rfl rfl (Sx.ov_assign _ rfl) ?_
                refine Sx.wl_nil ?_
                refine Sx.qn_then ?_
                refine Sx.wc_seq ?_
                refine Sx.wc_seq ?_
                refine Sx.wc_region ?_
                refine Sx.wl_v rfl rfl (Sx.ov_assign _ rfl) ?_
                refine Sx.wl_nil ?_
                refine Sx.qn_then ?_
                refine Sx.wc_block ?_
                replace h := Sx.st_front 2 h
                replace h := Sx.st_front 2 h
                refine Sx.wc_loop (fun (x_ : Nat × (Option Addr)) => [(7, .pointer (some ⟨g2, 0, none⟩)), (8, .pointer (some ⟨b8, 0, none⟩)), (9, .int .i64 ((atV y5 i).1)), (10, .bool ((atV y5 i).2)), (11, .int .i64 ((nearV y5 i).1)), (12, .int .i64 ((nearV y5 i).2)), (13, .int .i64 ((nearV y5 i).1)), (14, .int .i64 ((nearV y5 i).2)), (15, .bool (decide ((i : Int) < (((((y5).st).length : Nat) : Int))))), (16, .int .i64 (((y5.st.take x_.1).foldl max (-1)))), (17, .int .i64 ((x_.1 : Int)))]) (fun (x_ : Nat × (Option Addr)) (w : World) => (x_.1 ≤ y5.st.length) ∧ Sx.St w0 F0 ([listS g2 (y5), Sx.blk b8 [.slice (x_.2) (((y5).st).length) (cp4), .int .i64 ((y5).base)] 28, Sx.row (Kd.int .i64) 3 (x_.2) (cp4) ((y5).st)] ++ R) w) (fun (x_ : Nat × (Option Addr)) => y5.st.length - x_.1) (0, some ad12) ?_ ?_ ?_
                · exact ⟨rfl, rfl, rfl, rfl, rfl, rfl, rfl, rfl, rfl, (congrArg (fun z_ => some (Value.int .i64 z_)) (show (-1 : Int) = ((y5.st.take 0).foldl max (-1)) by rfl)), (congrArg (fun z_ => some (Value.int .i64 z_)) (show (0 : Int) = (0 : Int) by omega)), trivial⟩
                · exact ⟨by first | omega | simp, h⟩
                rintro ⟨k, A⟩ w h
                obtain ⟨hJ, h⟩ := h
                replace hJ : k ≤ y5.st.length := hJ
                replace h : Sx.St w0 F0 ([listS g2 (y5), Sx.blk b8 [.slice (A) (((y5).st).length) (cp4), .int .i64 ((y5).base)] 28, Sx.row (Kd.int .i64) 3 (A) (cp4) ((y5).st)] ++ R) w := h
                show Sx.WC _ _ _ _ [(7, .pointer (some ⟨g2, 0, none⟩)), (8, .pointer (some ⟨b8, 0, none⟩)), (9, .int .i64 ((atV y5 i).1)), (10, .bool ((atV y5 i).2)), (11, .int .i64 ((nearV y5 i).1)), (12, .int .i64 ((nearV y5 i).2)), (13, .int .i64 ((nearV y5 i).1)), (14, .int .i64 ((nearV y5 i).2)), (15, .bool (decide ((i : Int) < (((((y5).st).length : Nat) : Int))))), (16, .int .i64 (((y5.st.take k).foldl max (-1)))), (17, .int .i64 ((k : Int)))] _
                refine Sx.wc_seq ?_
                refine Sx.wc_seq ?_
                refine Sx.wc_region ?_
                refine Sx.wl_v rfl rfl (Sx.ov_move _ rfl) ?_
                refine Sx.wl_v rfl rfl (Sx.ov_fieldAddr _ ⟨b8, 0, none⟩ _ rfl fo28_0 rfl) ?_
                refine Sx.wl_v rfl rfl (Sx.ov_loadb 1 _ h rfl rfl sh26 rfl) ?_
                refine Sx.wl_v rfl rfl (Sx.ov_len _ _ _ _ _ rfl es26) ?_
                refine Sx.wl_v rfl rfl (Sx.ov_bin _ rfl rfl (Sx.binR_lss)) ?_
                refine Sx.wl_nil ?_
                refine Sx.qn_then ?_
                refine Sx.wc_cond (by rfl) (fun c19 => ?_) (fun c19 => ?_)
                · have hk : k < y5.st.length := by omega
                  have hmn := max_next y5.st hk
                  refine Sx.wc_skip ?_
                  refine Sx.qn_then ?_
                  refine Sx.wc_seq ?_
                  refine Sx.wc_block ?_
                  refine Sx.wc_region ?_
                  refine Sx.wl_v rfl rfl (Sx.ov_move _ rfl) ?_
                  refine Sx.wl_v rfl rfl (Sx.ov_fieldAddr _ ⟨b8, 0, none⟩ _ rfl fo28_0 rfl) ?_
                  refine Sx.wl_v rfl rfl (Sx.ov_loadb 1 _ h rfl rfl sh26 rfl) ?_
                  refine Sx.wl_v rfl rfl (Sx.ov_move _ rfl) ?_
                  obtain ⟨ad20, rfl⟩ := Sx.C_some ((Sx.row_reads h (i := 2) rfl).2) (k := k) (by first | assumption | omega)
                  refine Sx.wl_v rfl rfl (Sx.ov_indexAddrN _ _ _ _ _ k rfl rfl es26 rfl (by first | assumption | omega | (simp only [List.length_take, List.length_drop, List.length_set]; omega))) ?_
                  obtain ⟨cl23, _, hk22, hc21⟩ := Sx.C_cells ((Sx.row_reads h (i := 2) rfl).2) (z := (0 : Int)) (k := k) (by first | assumption | omega)
                  obtain rfl : cl23 = [.int .i64 _] := hk22
                  refine Sx.wl_v rfl rfl (Sx.ov_load1 _ _ rfl sh3 ((hc21 0 _ rfl))) ?_
                  refine Sx.wl_v rfl rfl (Sx.ov_max _ _ _ (max (((y5.st.take k).foldl max (-1))) (((y5).st).getD k (0 : Int))) rfl rfl rfl) ?_
                  refine Sx.wl_v rfl rfl (Sx.ov_assign _ rfl) ?_
                  refine Sx.wl_nil ?_
                  refine Sx.qn_block_normal ?_
                  refine Sx.qn_then ?_
                  refine Sx.wc_region ?_
                  refine Sx.wl_v rfl rfl (Sx.ov_move _ rfl) ?_
                  refine Sx.wl_v rfl rfl (Sx.ov_bin _ rfl rfl (Sx.binR_add (r := ((k : Int)) + 1) (Sx.w64 (by omega)))) ?_
                  refine Sx.wl_v rfl rfl (Sx.ov_assign _ rfl) ?_
                  refine Sx.wl_nil ?_
                  replace h := Sx.st_front 2 h
                  replace h := Sx.st_front 2 h
                  replace h := Sx.st_front 2 h
                  refine Sx.qn_next ((k + 1), some ad20) (by show y5.st.length - (k + 1) < y5.st.length - k; omega) ⟨rfl, rfl, rfl, rfl, rfl, rfl, rfl, rfl, rfl, (congrArg (fun z_ => some (Value.int .i64 z_)) (show (max (((y5.st.take k).foldl max (-1))) (((y5).st).getD k (0 : Int)) : Int) = ((y5.st.take (k + 1)).foldl max (-1)) by exact hmn)), (congrArg (fun z_ => some (Value.int .i64 z_)) (show (((k : Int)) + 1 : Int) = ((k + 1) : Int) by omega)), trivial⟩ ?_
                  show ((k + 1) ≤ y5.st.length) ∧ _
                  exact ⟨by first | omega | simp, h⟩
                · have hmm : mostV y5.st = (y5.st.take k).foldl max (-1) := by rw [show k = y5.st.length by omega, List.take_length]; rfl
                  refine Sx.wc_exit ?_
                  refine Sx.qn_then_exit ?_
                  refine Sx.qn_then_exit ?_
                  refine Sx.qn_block_exit ?_
                  refine Sx.qn_then ?_
                  refine Sx.wc_seq ?_
                  refine Sx.wc_region ?_
                  refine Sx.wl_v rfl rfl (Sx.ov_move _ rfl) ?_
                  refine Sx.wl_v rfl rfl (Sx.ov_move _ rfl) ?_
                  refine Sx.wl_v rfl rfl (Sx.ov_bin _ rfl rfl (Sx.binR_eql)) ?_
                  refine Sx.wl_v rfl rfl (Sx.ov_move _ rfl) ?_
                  refine Sx.wl_split 98 rfl (fun c24 => ?_) (fun c24 => ?_)
                  · refine Sx.wl_v rfl rfl (Sx.ov_move _ rfl) ?_
                    refine Sx.wl_v rfl rfl (Sx.ov_move _ rfl) ?_
                    refine Sx.wl_v rfl rfl (Sx.ov_bin _ rfl rfl (Sx.binR_eql)) ?_
                    refine Sx.wl_v rfl rfl (Sx.ov_pick_true _ rfl rfl) ?_
                    refine Sx.wl_v rfl rfl (Sx.ov_move _ rfl) ?_
                    refine Sx.wl_split 103 rfl (fun c25 => ?_) (fun c25 => ?_)
                    · refine Sx.wl_v rfl rfl (Sx.ov_move _ rfl) ?_
                      refine Sx.wl_call _ rfl rfl rfl ent24 (Most_calls g2 y5  (by omega) h) ?_
                      rintro e_ w_ ⟨rfl, h⟩
                      refine ⟨_, rfl, ?_⟩
                      refine Sx.wl_v rfl rfl (Sx.ov_move _ rfl) ?_
                      refine Sx.wl_v rfl rfl (Sx.ov_bin _ rfl rfl (Sx.binR_eql)) ?_
                      refine Sx.wl_v rfl rfl (Sx.ov_pick_true _ rfl rfl) ?_
                      refine Sx.wl_v rfl rfl (Sx.ov_assign _ rfl) ?_
                      refine Sx.wl_nil ?_
                      refine Sx.qn_then ?_
                      refine Sx.wc_ret ?_
                      replace h := Sx.st_selT [false, false, false] h
                      refine Sx.qn_ret [_] ⟨rfl, trivial⟩ ?_
                      have b_ : (decide ((mostV (y5).st : Int) = (((y5.st.take k).foldl max (-1))))) = true := by apply decide_eq_true; omega
                      exact ⟨congrArg (fun z => Ending.returned (Value.bool z)) b_, h⟩
                    · first | exact absurd rfl c25 | omega
                  · first | exact absurd rfl c24 | omega
            · refine Sx.wl_skip rfl rfl ?_
              refine Sx.wl_skip rfl rfl ?_
              refine Sx.wl_v rfl rfl (Sx.ov_pick_false _ rfl rfl) ?_
              refine Sx.wl_v rfl rfl (Sx.ov_pick_false _ rfl rfl) ?_
              refine Sx.wl_nil ?_
              refine Sx.qn_then ?_
              refine Sx.wc_cond_false rfl ?_
              refine Sx.wc_skip ?_
              refine Sx.qn_then ?_
              refine Sx.wc_seq ?_
              refine Sx.wc_region ?_
              refine Sx.wl_v rfl rfl (Sx.ov_assign _ rfl) ?_
              refine Sx.wl_nil ?_
              refine Sx.qn_then ?_
              refine Sx.wc_seq ?_
              refine Sx.wc_seq ?_
              refine Sx.wc_region ?_
              refine Sx.wl_v rfl rfl (Sx.ov_assign _ rfl) ?_
              refine Sx.wl_nil ?_
              refine Sx.qn_then ?_
              refine Sx.wc_block ?_
              replace h := Sx.st_front 2 h
              replace h := Sx.st_front 2 h
              refine Sx.wc_loop (fun (x_ : Nat × (Option Addr)) => [(7, .pointer (some ⟨g2, 0, none⟩)), (8, .pointer (some ⟨b8, 0, none⟩)), (9, .int .i64 ((atV y5 i).1)), (10, .bool ((atV y5 i).2)), (11, .int .i64 ((nearV y5 i).1)), (12, .int .i64 ((nearV y5 i).2)), (13, .int .i64 ((nearV y5 i).1)), (14, .int .i64 ((nearV y5 i).2)), (15, .bool (decide ((i : Int) < (((((y5).st).length : Nat) : Int))))), (16, .int .i64 (((y5.st.take x_.1).foldl max (-1)))), (17, .int .i64 ((x_.1 : Int)))]) (fun (x_ : Nat × (Option Addr)) (w : World) => (x_.1 ≤ y5.st.length) ∧ Sx.St w0 F0 ([listS g2 (y5), Sx.blk b8 [.slice (x_.2) (((y5).st).length) (cp4), .int .i64 ((y5).base)] 28, Sx.row (Kd.int .i64) 3 (x_.2) (cp4) ((y5).st)] ++ R) w) (fun (x_ : Nat × (Option Addr)) => y5.st.length - x_.1) (0, some ad12) ?_ ?_ ?_
              · exact ⟨rfl, rfl, rfl, rfl, rfl, rfl, rfl, rfl, rfl, (congrArg (fun z_ => some (Value.int .i64 z_)) (show (-1 : Int) = ((y5.st.take 0).foldl max (-1)) by rfl)), (congrArg (fun z_ => some (Value.int .i64 z_)) (show (0 : Int) = (0 : Int) by omega)), trivial⟩
              · exact ⟨by first | omega | simp, h⟩
              rintro ⟨k, A⟩ w h
              obtain ⟨hJ, h⟩ := h
              replace hJ : k ≤ y5.st.length := hJ
              replace h : Sx.St w0 F0 ([listS g2 (y5), Sx.blk b8 [.slice (A) (((y5).st).length) (cp4), .int .i64 ((y5).base)] 28, Sx.row (Kd.int .i64) 3 (A) (cp4) ((y5).st)] ++ R) w := h
              show Sx.WC _ _ _ _ [(7, .pointer (some ⟨g2, 0, none⟩)), (8, .pointer (some ⟨b8, 0, none⟩)), (9, .int .i64 ((atV y5 i).1)), (10, .bool ((atV y5 i).2)), (11, .int .i64 ((nearV y5 i).1)), (12, .int .i64 ((nearV y5 i).2)), (13, .int .i64 ((nearV y5 i).1)), (14, .int .i64 ((nearV y5 i).2)), (15, .bool (decide ((i : Int) < (((((y5).st).length : Nat) : Int))))), (16, .int .i64 (((y5.st.take k).foldl max (-1)))), (17, .int .i64 ((k : Int)))] _
              refine Sx.wc_seq ?_
              refine Sx.wc_seq ?_
              refine Sx.wc_region ?_
              refine Sx.wl_v rfl rfl (Sx.ov_move _ rfl) ?_
              refine Sx.wl_v rfl rfl (Sx.ov_fieldAddr _ ⟨b8, 0, none⟩ _ rfl fo28_0 rfl) ?_
              refine Sx.wl_v rfl rfl (Sx.ov_loadb 1 _ h rfl rfl sh26 rfl) ?_
              refine Sx.wl_v rfl rfl (Sx.ov_len _ _ _ _ _ rfl es26) ?_
              refine Sx.wl_v rfl rfl (Sx.ov_bin _ rfl rfl (Sx.binR_lss)) ?_
              refine Sx.wl_nil ?_
              refine Sx.qn_then ?_
              refine Sx.wc_cond (by rfl) (fun c26 => ?_) (fun c26 => ?_)
              · have hk : k < y5.st.length := by omega
                have hmn := max_next y5.st hk
                refine Sx.wc_skip ?_
                refine Sx.qn_then ?_
                refine Sx.wc_seq ?_
                refine Sx.wc_block ?_
                refine Sx.wc_region ?_
                refine Sx.wl_v rfl rfl (Sx.ov_move _ rfl) ?_
                refine Sx.wl_v rfl rfl (Sx.ov_fieldAddr _ ⟨b8, 0, none⟩ _ rfl fo28_0 rfl) ?_
                refine Sx.wl_v rfl rfl (Sx.ov_loadb 1 _ h rfl rfl sh26 rfl) ?_
                refine Sx.wl_v rfl rfl (Sx.ov_move _ rfl) ?_
                obtain ⟨ad27, rfl⟩ := Sx.C_some ((Sx.row_reads h (i := 2) rfl).2) (k := k) (by first | assumption | omega)
                refine Sx.wl_v rfl rfl (Sx.ov_indexAddrN _ _ _ _ _ k rfl rfl es26 rfl (by first | assumption | omega | (simp only [List.length_take, List.length_drop, List.length_set]; omega))) ?_
                obtain ⟨cl30, _, hk29, hc28⟩ := Sx.C_cells ((Sx.row_reads h (i := 2) rfl).2) (z := (0 : Int)) (k := k) (by first | assumption | omega)
                obtain rfl : cl30 = [.int .i64 _] := hk29
                refine Sx.wl_v rfl rfl (Sx.ov_load1 _ _ rfl sh3 ((hc28 0 _ rfl))) ?_
                refine Sx.wl_v rfl rfl (Sx.ov_max _ _ _ (max (((y5.st.take k).foldl max (-1))) (((y5).st).getD k (0 : Int))) rfl rfl rfl) ?_
                refine Sx.wl_v rfl rfl (Sx.ov_assign _ rfl) ?_
                refine Sx.wl_nil ?_
                refine Sx.qn_block_normal ?_
                refine Sx.qn_then ?_
                refine Sx.wc_region ?_
                refine Sx.wl_v rfl rfl (Sx.ov_move _ rfl) ?_
                refine Sx.wl_v rfl rfl (Sx.ov_bin _ rfl rfl (Sx.binR_add (r := ((k : Int)) + 1) (Sx.w64 (by omega)))) ?_
                refine Sx.wl_v rfl rfl (Sx.ov_assign _ rfl) ?_
                refine Sx.wl_nil ?_
                replace h := Sx.st_front 2 h
                replace h := Sx.st_front 2 h
                replace h := Sx.st_front 2 h
                refine Sx.qn_next ((k + 1), some ad27) (by show y5.st.length - (k + 1) < y5.st.length - k; omega) ⟨rfl, rfl, rfl, rfl, rfl, rfl, rfl, rfl, rfl, (congrArg (fun z_ => some (Value.int .i64 z_)) (show (max (((y5.st.take k).foldl max (-1))) (((y5).st).getD k (0 : Int)) : Int) = ((y5.st.take (k + 1)).foldl max (-1)) by exact hmn)), (congrArg (fun z_ => some (Value.int .i64 z_)) (show (((k : Int)) + 1 : Int) = ((k + 1) : Int) by omega)), trivial⟩ ?_
                show ((k + 1) ≤ y5.st.length) ∧ _
                exact ⟨by first | omega | simp, h⟩
              · have hmm : mostV y5.st = (y5.st.take k).foldl max (-1) := by rw [show k = y5.st.length by omega, List.take_length]; rfl
                refine Sx.wc_exit ?_
                refine Sx.qn_then_exit ?_
                refine Sx.qn_then_exit ?_
                refine Sx.qn_block_exit ?_
                refine Sx.qn_then ?_
                refine Sx.wc_seq ?_
                refine Sx.wc_region ?_
                refine Sx.wl_v rfl rfl (Sx.ov_move _ rfl) ?_
                refine Sx.wl_v rfl rfl (Sx.ov_move _ rfl) ?_
                refine Sx.wl_v rfl rfl (Sx.ov_bin _ rfl rfl (Sx.binR_eql)) ?_
                refine Sx.wl_v rfl rfl (Sx.ov_move _ rfl) ?_
                refine Sx.wl_split 98 rfl (fun c31 => ?_) (fun c31 => ?_)
                · refine Sx.wl_v rfl rfl (Sx.ov_move _ rfl) ?_
                  refine Sx.wl_v rfl rfl (Sx.ov_move _ rfl) ?_
                  refine Sx.wl_v rfl rfl (Sx.ov_bin _ rfl rfl (Sx.binR_eql)) ?_
                  refine Sx.wl_v rfl rfl (Sx.ov_pick_true _ rfl rfl) ?_
                  refine Sx.wl_v rfl rfl (Sx.ov_move _ rfl) ?_
                  refine Sx.wl_split 103 rfl (fun c32 => ?_) (fun c32 => ?_)
                  · refine Sx.wl_v rfl rfl (Sx.ov_move _ rfl) ?_
                    refine Sx.wl_call _ rfl rfl rfl ent24 (Most_calls g2 y5  (by omega) h) ?_
                    rintro e_ w_ ⟨rfl, h⟩
                    refine ⟨_, rfl, ?_⟩
                    refine Sx.wl_v rfl rfl (Sx.ov_move _ rfl) ?_
                    refine Sx.wl_v rfl rfl (Sx.ov_bin _ rfl rfl (Sx.binR_eql)) ?_
                    refine Sx.wl_v rfl rfl (Sx.ov_pick_true _ rfl rfl) ?_
                    refine Sx.wl_v rfl rfl (Sx.ov_assign _ rfl) ?_
                    refine Sx.wl_nil ?_
                    refine Sx.qn_then ?_
                    refine Sx.wc_ret ?_
                    replace h := Sx.st_selT [false, false, false] h
                    refine Sx.qn_ret [_] ⟨rfl, trivial⟩ ?_
                    have b_ : (decide ((mostV (y5).st : Int) = (((y5.st.take k).foldl max (-1))))) = true := by apply decide_eq_true; omega
                    exact ⟨congrArg (fun z => Ending.returned (Value.bool z)) b_, h⟩
                  · first | exact absurd rfl c32 | omega
                · first | exact absurd rfl c31 | omega
        · refine Sx.wl_skip rfl rfl ?_
          refine Sx.wl_skip rfl rfl ?_
          refine Sx.wl_skip rfl rfl ?_
          refine Sx.wl_skip rfl rfl ?_
          refine Sx.wl_skip rfl rfl ?_
          refine Sx.wl_skip rfl rfl ?_
          refine Sx.wl_skip rfl rfl ?_
          refine Sx.wl_v rfl rfl (Sx.ov_pick_false _ rfl rfl) ?_
          refine Sx.wl_v rfl rfl (Sx.ov_pick_false _ rfl rfl) ?_
          refine Sx.wl_v rfl rfl (Sx.ov_move _ rfl) ?_
          refine Sx.wl_v rfl rfl (Sx.ov_move _ rfl) ?_
          refine Sx.wl_v rfl rfl (Sx.ov_not _ (¬ ((i : Int) < (((((y5).st).length : Nat) : Int)))) rfl (by first | exact decide_not.symm | simp)) ?_
          refine Sx.wl_v rfl rfl (Sx.ov_move _ rfl) ?_
          refine Sx.wl_split 76 rfl (fun c33 => ?_) (fun c33 => ?_)
          · refine Sx.wl_v rfl rfl (Sx.ov_move _ rfl) ?_
            refine Sx.wl_v rfl rfl (Sx.ov_bin _ rfl rfl (Sx.binR_neq)) ?_
            refine Sx.wl_v rfl rfl (Sx.ov_pick_true _ rfl rfl) ?_
            refine Sx.wl_v rfl rfl (Sx.ov_pick_false _ rfl rfl) ?_
            refine Sx.wl_nil ?_
            refine Sx.qn_then ?_
            refine Sx.wc_cond (by rfl) (fun c34 => ?_) (fun c34 => ?_)
            · exfalso
              first | exact c34 (at_bool _ _ (by omega)) | exact c34 (at_neg _ _ (by omega)).2 | exact c34 (at_val _ _ (by omega) (by omega)) | exact c34 (at_neg _ _ (by omega)).1 | exact c34 (at_neg2 _ _ (by omega)).1 | exact c34 (at_neg2 _ _ (by omega)).2
            · refine Sx.wc_skip ?_
              refine Sx.qn_then ?_
              refine Sx.wc_seq ?_
              refine Sx.wc_region ?_
              refine Sx.wl_v rfl rfl (Sx.ov_assign _ rfl) ?_
              refine Sx.wl_nil ?_
              refine Sx.qn_then ?_
              refine Sx.wc_seq ?_
              refine Sx.wc_seq ?_
              refine Sx.wc_region ?_
              refine Sx.wl_v rfl rfl (Sx.ov_assign _ rfl) ?_
              refine Sx.wl_nil ?_
              refine Sx.qn_then ?_
              refine Sx.wc_block ?_
              replace h := Sx.st_front 2 h
              replace h := Sx.st_front 2 h
              refine Sx.wc_loop (fun (x_ : Nat × (Option Addr)) => [(7, .pointer (some ⟨g2, 0, none⟩)), (8, .pointer (some ⟨b8, 0, none⟩)), (9, .int .i64 ((atV y5 i).1)), (10, .bool ((atV y5 i).2)), (11, .int .i64 ((nearV y5 i).1)), (12, .int .i64 ((nearV y5 i).2)), (13, .int .i64 ((nearV y5 i).1)), (14, .int .i64 ((nearV y5 i).2)), (15, .bool (decide ((i : Int) < (((((y5).st).length : Nat) : Int))))), (16, .int .i64 (((y5.st.take x_.1).foldl max (-1)))), (17, .int .i64 ((x_.1 : Int)))]) (fun (x_ : Nat × (Option Addr)) (w : World) => (x_.1 ≤ y5.st.length) ∧ Sx.St w0 F0 ([listS g2 (y5), Sx.blk b8 [.slice (x_.2) (((y5).st).length) (cp4), .int .i64 ((y5).base)] 28, Sx.row (Kd.int .i64) 3 (x_.2) (cp4) ((y5).st)] ++ R) w) (fun (x_ : Nat × (Option Addr)) => y5.st.length - x_.1) (0, A3) ?_ ?_ ?_
              · exact ⟨rfl, rfl, rfl, rfl, rfl, rfl, rfl, rfl, rfl, (congrArg (fun z_ => some (Value.int .i64 z_)) (show (-1 : Int) = ((y5.st.take 0).foldl max (-1)) by rfl)), (congrArg (fun z_ => some (Value.int .i64 z_)) (show (0 : Int) = (0 : Int) by omega)), trivial⟩
              · exact ⟨by first | omega | simp, h⟩
              rintro ⟨k, A⟩ w h
              obtain ⟨hJ, h⟩ := h
              replace hJ : k ≤ y5.st.length := hJ
              replace h : Sx.St w0 F0 ([listS g2 (y5), Sx.blk b8 [.slice (A) (((y5).st).length) (cp4), .int .i64 ((y5).base)] 28, Sx.row (Kd.int .i64) 3 (A) (cp4) ((y5).st)] ++ R) w := h
              show Sx.WC _ _ _ _ [(7, .pointer (some ⟨g2, 0, none⟩)), (8, .pointer (some ⟨b8, 0, none⟩)), (9, .int .i64 ((atV y5 i).1)), (10, .bool ((atV y5 i).2)), (11, .int .i64 ((nearV y5 i).1)), (12, .int .i64 ((nearV y5 i).2)), (13, .int .i64 ((nearV y5 i).1)), (14, .int .i64 ((nearV y5 i).2)), (15, .bool (decide ((i : Int) < (((((y5).st).length : Nat) : Int))))), (16, .int .i64 (((y5.st.take k).foldl max (-1)))), (17, .int .i64 ((k : Int)))] _
              refine Sx.wc_seq ?_
              refine Sx.wc_seq ?_
              refine Sx.wc_region ?_
              refine Sx.wl_v rfl rfl (Sx.ov_move _ rfl) ?_
              refine Sx.wl_v rfl rfl (Sx.ov_fieldAddr _ ⟨b8, 0, none⟩ _ rfl fo28_0 rfl) ?_
              refine Sx.wl_v rfl rfl (Sx.ov_loadb 1 _ h rfl rfl sh26 rfl) ?_
              refine Sx.wl_v rfl rfl (Sx.ov_len _ _ _ _ _ rfl es26) ?_
              refine Sx.wl_v rfl rfl (Sx.ov_bin _ rfl rfl (Sx.binR_lss)) ?_
              refine Sx.wl_nil ?_
              refine Sx.qn_then ?_
              refine Sx.wc_cond (by rfl) (fun c35 => ?_) (fun c35 => ?_)
              · have hk : k < y5.st.length := by omega
                have hmn := max_next y5.st hk
                refine Sx.wc_skip ?_
                refine Sx.qn_then ?_
                refine Sx.wc_seq ?_
                refine Sx.wc_block ?_
                refine Sx.wc_region ?_
                refine Sx.wl_v rfl rfl (Sx.ov_move _ rfl) ?_
                refine Sx.wl_v rfl rfl (Sx.ov_fieldAddr _ ⟨b8, 0, none⟩ _ rfl fo28_0 rfl) ?_
                refine Sx.wl_v rfl rfl (Sx.ov_loadb 1 _ h rfl rfl sh26 rfl) ?_
                refine Sx.wl_v rfl rfl (Sx.ov_move _ rfl) ?_
                obtain ⟨ad36, rfl⟩ := Sx.C_some ((Sx.row_reads h (i := 2) rfl).2) (k := k) (by first | assumption | omega)
                refine Sx.wl_v rfl rfl (Sx.ov_indexAddrN _ _ _ _ _ k rfl rfl es26 rfl (by first | assumption | omega | (simp only [List.length_take, List.length_drop, List.length_set]; omega))) ?_
                obtain ⟨cl39, _, hk38, hc37⟩ := Sx.C_cells ((Sx.row_reads h (i := 2) rfl).2) (z := (0 : Int)) (k := k) (by first | assumption | omega)
                obtain rfl : cl39 = [.int .i64 _] := hk38
                refine Sx.wl_v rfl rfl (Sx.ov_load1 _ _ rfl sh3 ((hc37 0 _ rfl))) ?_
                refine Sx.wl_v rfl rfl (Sx.ov_max _ _ _ (max (((y5.st.take k).foldl max (-1))) (((y5).st).getD k (0 : Int))) rfl rfl rfl) ?_
                refine Sx.wl_v rfl rfl (Sx.ov_assign _ rfl) ?_
                refine Sx.wl_nil ?_
                refine Sx.qn_block_normal ?_
                refine Sx.qn_then ?_
                refine Sx.wc_region ?_
                refine Sx.wl_v rfl rfl (Sx.ov_move _ rfl) ?_
                refine Sx.wl_v rfl rfl (Sx.ov_bin _ rfl rfl (Sx.binR_add (r := ((k : Int)) + 1) (Sx.w64 (by omega)))) ?_
                refine Sx.wl_v rfl rfl (Sx.ov_assign _ rfl) ?_
                refine Sx.wl_nil ?_
                replace h := Sx.st_front 2 h
                replace h := Sx.st_front 2 h
                replace h := Sx.st_front 2 h
                refine Sx.qn_next ((k + 1), some ad36) (by show y5.st.length - (k + 1) < y5.st.length - k; omega) ⟨rfl, rfl, rfl, rfl, rfl, rfl, rfl, rfl, rfl, (congrArg (fun z_ => some (Value.int .i64 z_)) (show (max (((y5.st.take k).foldl max (-1))) (((y5).st).getD k (0 : Int)) : Int) = ((y5.st.take (k + 1)).foldl max (-1)) by exact hmn)), (congrArg (fun z_ => some (Value.int .i64 z_)) (show (((k : Int)) + 1 : Int) = ((k + 1) : Int) by omega)), trivial⟩ ?_
                show ((k + 1) ≤ y5.st.length) ∧ _
                exact ⟨by first | omega | simp, h⟩
              · have hmm : mostV y5.st = (y5.st.take k).foldl max (-1) := by rw [show k = y5.st.length by omega, List.take_length]; rfl
                refine Sx.wc_exit ?_
                refine Sx.qn_then_exit ?_
                refine Sx.qn_then_exit ?_
                refine Sx.qn_block_exit ?_
                refine Sx.qn_then ?_
                refine Sx.wc_seq ?_
                refine Sx.wc_region ?_
                refine Sx.wl_v rfl rfl (Sx.ov_move _ rfl) ?_
                refine Sx.wl_v rfl rfl (Sx.ov_move _ rfl) ?_
                refine Sx.wl_v rfl rfl (Sx.ov_bin _ rfl rfl (Sx.binR_eql)) ?_
                refine Sx.wl_v rfl rfl (Sx.ov_move _ rfl) ?_
                refine Sx.wl_split 98 rfl (fun c40 => ?_) (fun c40 => ?_)
                · refine Sx.wl_v rfl rfl (Sx.ov_move _ rfl) ?_
                  refine Sx.wl_v rfl rfl (Sx.ov_move _ rfl) ?_
                  refine Sx.wl_v rfl rfl (Sx.ov_bin _ rfl rfl (Sx.binR_eql)) ?_
                  refine Sx.wl_v rfl rfl (Sx.ov_pick_true _ rfl rfl) ?_
                  refine Sx.wl_v rfl rfl (Sx.ov_move _ rfl) ?_
                  refine Sx.wl_split 103 rfl (fun c41 => ?_) (fun c41 => ?_)
                  · refine Sx.wl_v rfl rfl (Sx.ov_move _ rfl) ?_
                    refine Sx.wl_call _ rfl rfl rfl ent24 (Most_calls g2 y5  (by omega) h) ?_
                    rintro e_ w_ ⟨rfl, h⟩
                    refine ⟨_, rfl, ?_⟩
                    refine Sx.wl_v rfl rfl (Sx.ov_move _ rfl) ?_
                    refine Sx.wl_v rfl rfl (Sx.ov_bin _ rfl rfl (Sx.binR_eql)) ?_
                    refine Sx.wl_v rfl rfl (Sx.ov_pick_true _ rfl rfl) ?_
                    refine Sx.wl_v rfl rfl (Sx.ov_assign _ rfl) ?_
                    refine Sx.wl_nil ?_
                    refine Sx.qn_then ?_
                    refine Sx.wc_ret ?_
                    replace h := Sx.st_selT [false, false, false] h
                    refine Sx.qn_ret [_] ⟨rfl, trivial⟩ ?_
                    have b_ : (decide ((mostV (y5).st : Int) = (((y5.st.take k).foldl max (-1))))) = true := by apply decide_eq_true; omega
                    exact ⟨congrArg (fun z => Ending.returned (Value.bool z)) b_, h⟩
                  · first | exact absurd rfl c41 | omega
                · first | exact absurd rfl c40 | omega
          · refine Sx.wl_skip rfl rfl ?_
            refine Sx.wl_skip rfl rfl ?_
            refine Sx.wl_v rfl rfl (Sx.ov_pick_false _ rfl rfl) ?_
            refine Sx.wl_v rfl rfl (Sx.ov_pick_false _ rfl rfl) ?_
            refine Sx.wl_nil ?_
            refine Sx.qn_then ?_
            refine Sx.wc_cond_false rfl ?_
            refine Sx.wc_skip ?_
            refine Sx.qn_then ?_
            refine Sx.wc_seq ?_
            refine Sx.wc_region ?_
            refine Sx.wl_v rfl rfl (Sx.ov_assign _ rfl) ?_
            refine Sx.wl_nil ?_
            refine Sx.qn_then ?_
            refine Sx.wc_seq ?_
            refine Sx.wc_seq ?_
            refine Sx.wc_region ?_
            refine Sx.wl_v rfl rfl (Sx.ov_assign _ rfl) ?_
            refine Sx.wl_nil ?_
            refine Sx.qn_then ?_
            refine Sx.wc_block ?_
            replace h := Sx.st_front 2 h
            replace h := Sx.st_front 2 h
            refine Sx.wc_loop (fun (x_ : Nat × (Option Addr)) => [(7, .pointer (some ⟨g2, 0, none⟩)), (8, .pointer (some ⟨b8, 0, none⟩)), (9, .int .i64 ((atV y5 i).1)), (10, .bool ((atV y5 i).2)), (11, .int .i64 ((nearV y5 i).1)), (12, .int .i64 ((nearV y5 i).2)), (13, .int .i64 ((nearV y5 i).1)), (14, .int .i64 ((nearV y5 i).2)), (15, .bool (decide ((i : Int) < (((((y5).st).length : Nat) : Int))))), (16, .int .i64 (((y5.st.take x_.1).foldl max (-1)))), (17, .int .i64 ((x_.1 : Int)))]) (fun (x_ : Nat × (Option Addr)) (w : World) => (x_.1 ≤ y5.st.length) ∧ Sx.St w0 F0 ([listS g2 (y5), Sx.blk b8 [.slice (x_.2) (((y5).st).length) (cp4), .int .i64 ((y5).base)] 28, Sx.row (Kd.int .i64) 3 (x_.2) (cp4) ((y5).st)] ++ R) w) (fun (x_ : Nat × (Option Addr)) => y5.st.length - x_.1) (0, A3) ?_ ?_ ?_
            · exact ⟨rfl, rfl, rfl, rfl, rfl, rfl, rfl, rfl, rfl, (congrArg (fun z_ => some (Value.int .i64 z_)) (show (-1 : Int) = ((y5.st.take 0).foldl max (-1)) by rfl)), (congrArg (fun z_ => some (Value.int .i64 z_)) (show (0 : Int) = (0 : Int) by omega)), trivial⟩
            · exact ⟨by first | omega | simp, h⟩
            rintro ⟨k, A⟩ w h
            obtain ⟨hJ, h⟩ := h
            replace hJ : k ≤ y5.st.length := hJ
            replace h : Sx.St w0 F0 ([listS g2 (y5), Sx.blk b8 [.slice (A) (((y5).st).length) (cp4), .int .i64 ((y5).base)] 28, Sx.row (Kd.int .i64) 3 (A) (cp4) ((y5).st)] ++ R) w := h
            show Sx.WC _ _ _ _ [(7, .pointer (some ⟨g2, 0, none⟩)), (8, .pointer (some ⟨b8, 0, none⟩)), (9, .int .i64 ((atV y5 i).1)), (10, .bool ((atV y5 i).2)), (11, .int .i64 ((nearV y5 i).1)), (12, .int .i64 ((nearV y5 i).2)), (13, .int .i64 ((nearV y5 i).1)), (14, .int .i64 ((nearV y5 i).2)), (15, .bool (decide ((i : Int) < (((((y5).st).length : Nat) : Int))))), (16, .int .i64 (((y5.st.take k).foldl max (-1)))), (17, .int .i64 ((k : Int)))] _
            refine Sx.wc_seq ?_
            refine Sx.wc_seq ?_
            refine Sx.wc_region ?_
            refine Sx.wl_v rfl rfl (Sx.ov_move _ rfl) ?_
            refine Sx.wl_v rfl rfl (Sx.ov_fieldAddr _ ⟨b8, 0, none⟩ _ rfl fo28_0 rfl) ?_
            refine Sx.wl_v rfl rfl (Sx.ov_loadb 1 _ h rfl rfl sh26 rfl) ?_
            refine Sx.wl_v rfl rfl (Sx.ov_len _ _ _ _ _ rfl es26) ?_
            refine Sx.wl_v rfl rfl (Sx.ov_bin _ rfl rfl (Sx.binR_lss)) ?_
            refine Sx.wl_nil ?_
            refine Sx.qn_then ?_
            refine Sx.wc_cond (by rfl) (fun c42 => ?_) (fun c42 => ?_)
            · have hk : k < y5.st.length := by omega
              have hmn := max_next y5.st hk
              refine Sx.wc_skip ?_
              refine Sx.qn_then ?_
              refine Sx.wc_seq ?_
              refine Sx.wc_block ?_
              refine Sx.wc_region ?_
              refine Sx.wl_v rfl rfl (Sx.ov_move _ rfl) ?_
              refine Sx.wl_v rfl rfl (Sx.ov_fieldAddr _ ⟨b8, 0, none⟩ _ rfl fo28_0 rfl) ?_
              refine Sx.wl_v rfl rfl (Sx.ov_loadb 1 _ h rfl rfl sh26 rfl) ?_
              refine Sx.wl_v rfl rfl (Sx.ov_move _ rfl) ?_
              obtain ⟨ad43, rfl⟩ := Sx.C_some ((Sx.row_reads h (i := 2) rfl).2) (k := k) (by first | assumption | omega)
              refine Sx.wl_v rfl rfl (Sx.ov_indexAddrN _ _ _ _ _ k rfl rfl es26 rfl (by first | assumption | omega | (simp only [List.length_take, List.length_drop, List.length_set]; omega))) ?_
              obtain ⟨cl46, _, hk45, hc44⟩ := Sx.C_cells ((Sx.row_reads h (i := 2) rfl).2) (z := (0 : Int)) (k := k) (by first | assumption | omega)
              obtain rfl : cl46 = [.int .i64 _] := hk45
              refine Sx.wl_v rfl rfl (Sx.ov_load1 _ _ rfl sh3 ((hc44 0 _ rfl))) ?_
              refine Sx.wl_v rfl rfl (Sx.ov_max _ _ _ (max (((y5.st.take k).foldl max (-1))) (((y5).st).getD k (0 : Int))) rfl rfl rfl) ?_
              refine Sx.wl_v rfl rfl (Sx.ov_assign _ rfl) ?_
              refine Sx.wl_nil ?_
              refine Sx.qn_block_normal ?_
              refine Sx.qn_then ?_
              refine Sx.wc_region ?_
              refine Sx.wl_v rfl rfl (Sx.ov_move _ rfl) ?_
              refine Sx.wl_v rfl rfl (Sx.ov_bin _ rfl rfl (Sx.binR_add (r := ((k : Int)) + 1) (Sx.w64 (by omega)))) ?_
              refine Sx.wl_v rfl rfl (Sx.ov_assign _ rfl) ?_
              refine Sx.wl_nil ?_
              replace h := Sx.st_front 2 h
              replace h := Sx.st_front 2 h
              replace h := Sx.st_front 2 h
              refine Sx.qn_next ((k + 1), some ad43) (by show y5.st.length - (k + 1) < y5.st.length - k; omega) ⟨rfl, rfl, rfl, rfl, rfl, rfl, rfl, rfl, rfl, (congrArg (fun z_ => some (Value.int .i64 z_)) (show (max (((y5.st.take k).foldl max (-1))) (((y5).st).getD k (0 : Int)) : Int) = ((y5.st.take (k + 1)).foldl max (-1)) by exact hmn)), (congrArg (fun z_ => some (Value.int .i64 z_)) (show (((k : Int)) + 1 : Int) = ((k + 1) : Int) by omega)), trivial⟩ ?_
              show ((k + 1) ≤ y5.st.length) ∧ _
              exact ⟨by first | omega | simp, h⟩
            · have hmm : mostV y5.st = (y5.st.take k).foldl max (-1) := by rw [show k = y5.st.length by omega, List.take_length]; rfl
              refine Sx.wc_exit ?_
              refine Sx.qn_then_exit ?_
              refine Sx.qn_then_exit ?_
              refine Sx.qn_block_exit ?_
              refine Sx.qn_then ?_
              refine Sx.wc_seq ?_
              refine Sx.wc_region ?_
              refine Sx.wl_v rfl rfl (Sx.ov_move _ rfl) ?_
              refine Sx.wl_v rfl rfl (Sx.ov_move _ rfl) ?_
              refine Sx.wl_v rfl rfl (Sx.ov_bin _ rfl rfl (Sx.binR_eql)) ?_
              refine Sx.wl_v rfl rfl (Sx.ov_move _ rfl) ?_
              refine Sx.wl_split 98 rfl (fun c47 => ?_) (fun c47 => ?_)
              · refine Sx.wl_v rfl rfl (Sx.ov_move _ rfl) ?_
                refine Sx.wl_v rfl rfl (Sx.ov_move _ rfl) ?_
                refine Sx.wl_v rfl rfl (Sx.ov_bin _ rfl rfl (Sx.binR_eql)) ?_
                refine Sx.wl_v rfl rfl (Sx.ov_pick_true _ rfl rfl) ?_
                refine Sx.wl_v rfl rfl (Sx.ov_move _ rfl) ?_
                refine Sx.wl_split 103 rfl (fun c48 => ?_) (fun c48 => ?_)
                · refine Sx.wl_v rfl rfl (Sx.ov_move _ rfl) ?_
                  refine Sx.wl_call _ rfl rfl rfl ent24 (Most_calls g2 y5  (by omega) h) ?_
                  rintro e_ w_ ⟨rfl, h⟩
                  refine ⟨_, rfl, ?_⟩
                  refine Sx.wl_v rfl rfl (Sx.ov_move _ rfl) ?_
                  refine Sx.wl_v rfl rfl (Sx.ov_bin _ rfl rfl (Sx.binR_eql)) ?_
                  refine Sx.wl_v rfl rfl (Sx.ov_pick_true _ rfl rfl) ?_
                  refine Sx.wl_v rfl rfl (Sx.ov_assign _ rfl) ?_
                  refine Sx.wl_nil ?_
                  refine Sx.qn_then ?_
                  refine Sx.wc_ret ?_
                  replace h := Sx.st_selT [false, false, false] h
                  refine Sx.qn_ret [_] ⟨rfl, trivial⟩ ?_
                  have b_ : (decide ((mostV (y5).st : Int) = (((y5.st.take k).foldl max (-1))))) = true := by apply decide_eq_true; omega
                  exact ⟨congrArg (fun z => Ending.returned (Value.bool z)) b_, h⟩
                · first | exact absurd rfl c48 | omega
              · first | exact absurd rfl c47 | omega
    · refine Sx.wl_skip rfl rfl ?_
      refine Sx.wl_skip rfl rfl ?_
      refine Sx.wl_skip rfl rfl ?_
      refine Sx.wl_skip rfl rfl ?_
      refine Sx.wl_skip rfl rfl ?_
      refine Sx.wl_v rfl rfl (Sx.ov_pick_false _ rfl rfl) ?_
      refine Sx.wl_v rfl rfl (Sx.ov_assign _ rfl) ?_
      refine Sx.wl_nil ?_
      refine Sx.qn_then ?_
      refine Sx.wc_seq ?_
      refine Sx.wc_region ?_
      refine Sx.wl_v rfl rfl (Sx.ov_move _ rfl) ?_
      refine Sx.wl_v rfl rfl (Sx.ov_move _ rfl) ?_
      refine Sx.wl_v rfl rfl (Sx.ov_bin _ rfl rfl (Sx.binR_neb Try.underlying4)) ?_
      refine Sx.wl_v rfl rfl (Sx.ov_move _ rfl) ?_
      refine Sx.wl_split 61 rfl (fun c49 => ?_) (fun c49 => ?_)
      · exfalso
        first | exact c49 (at_bool _ _ (by omega)) | exact c49 (at_neg _ _ (by omega)).2 | exact c49 (at_val _ _ (by omega) (by omega)) | exact c49 (at_neg _ _ (by omega)).1 | exact c49 (at_neg2 _ _ (by omega)).1 | exact c49 (at_neg2 _ _ (by omega)).2
      · refine Sx.wl_v rfl rfl (Sx.ov_move _ rfl) ?_
        refine Sx.wl_v rfl rfl (Sx.ov_move _ rfl) ?_
        refine Sx.wl_skip rfl rfl ?_
        refine Sx.wl_skip rfl rfl ?_
        refine Sx.wl_skip rfl rfl ?_
        refine Sx.wl_skip rfl rfl ?_
        refine Sx.wl_skip rfl rfl ?_
        refine Sx.wl_skip rfl rfl ?_
        refine Sx.wl_skip rfl rfl ?_
        refine Sx.wl_v rfl rfl (Sx.ov_pick_false _ rfl rfl) ?_
        refine Sx.wl_v rfl rfl (Sx.ov_pick_false _ rfl rfl) ?_
        refine Sx.wl_v rfl rfl (Sx.ov_move _ rfl) ?_
        refine Sx.wl_v rfl rfl (Sx.ov_move _ rfl) ?_
        refine Sx.wl_v rfl rfl (Sx.ov_notb _ rfl) ?_
        refine Sx.wl_v rfl rfl (Sx.ov_move _ rfl) ?_
        refine Sx.wl_v rfl rfl (Sx.ov_move _ rfl) ?_
        refine Sx.wl_v rfl rfl (Sx.ov_bin _ rfl rfl (Sx.binR_neq)) ?_
        refine Sx.wl_v rfl rfl (Sx.ov_pick_true _ rfl rfl) ?_
        refine Sx.wl_v rfl rfl (Sx.ov_pick_false _ rfl rfl) ?_
        refine Sx.wl_nil ?_
        refine Sx.qn_then ?_
        refine Sx.wc_cond (by rfl) (fun c50 => ?_) (fun c50 => ?_)
        · exfalso
          first | exact c50 (at_bool _ _ (by omega)) | exact c50 (at_neg _ _ (by omega)).2 | exact c50 (at_val _ _ (by omega) (by omega)) | exact c50 (at_neg _ _ (by omega)).1 | exact c50 (at_neg2 _ _ (by omega)).1 | exact c50 (at_neg2 _ _ (by omega)).2
        · refine Sx.wc_skip ?_
          refine Sx.qn_then ?_
          refine Sx.wc_seq ?_
          refine Sx.wc_region ?_
          refine Sx.wl_v rfl rfl (Sx.ov_assign _ rfl) ?_
          refine Sx.wl_nil ?_
          refine Sx.qn_then ?_
          refine Sx.wc_seq ?_
          refine Sx.wc_seq ?_
          refine Sx.wc_region ?_
          refine Sx.wl_v rfl rfl (Sx.ov_assign _ rfl) ?_
          refine Sx.wl_nil ?_
          refine Sx.qn_then ?_
          refine Sx.wc_block ?_
          replace h := Sx.st_front 2 h
          replace h := Sx.st_front 2 h
          refine Sx.wc_loop (fun (x_ : Nat × (Option Addr)) => [(7, .pointer (some ⟨g2, 0, none⟩)), (8, .pointer (some ⟨b8, 0, none⟩)), (9, .int .i64 ((atV y5 i).1)), (10, .bool ((atV y5 i).2)), (11, .int .i64 ((nearV y5 i).1)), (12, .int .i64 ((nearV y5 i).2)), (13, .int .i64 ((nearV y5 i).1)), (14, .int .i64 ((nearV y5 i).2)), (15, .bool false), (16, .int .i64 (((y5.st.take x_.1).foldl max (-1)))), (17, .int .i64 ((x_.1 : Int)))]) (fun (x_ : Nat × (Option Addr)) (w : World) => (x_.1 ≤ y5.st.length) ∧ Sx.St w0 F0 ([listS g2 (y5), Sx.blk b8 [.slice (x_.2) (((y5).st).length) (cp4), .int .i64 ((y5).base)] 28, Sx.row (Kd.int .i64) 3 (x_.2) (cp4) ((y5).st)] ++ R) w) (fun (x_ : Nat × (Option Addr)) => y5.st.length - x_.1) (0, A3) ?_ ?_ ?_
          · exact ⟨rfl, rfl, rfl, rfl, rfl, rfl, rfl, rfl, rfl, (congrArg (fun z_ => some (Value.int .i64 z_)) (show (-1 : Int) = ((y5.st.take 0).foldl max (-1)) by rfl)), (congrArg (fun z_ => some (Value.int .i64 z_)) (show (0 : Int) = (0 : Int) by omega)), trivial⟩
          · exact ⟨by first | omega | simp, h⟩
          rintro ⟨k, A⟩ w h
          obtain ⟨hJ, h⟩ := h
          replace hJ : k ≤ y5.st.length := hJ
          replace h : Sx.St w0 F0 ([listS g2 (y5), Sx.blk b8 [.slice (A) (((y5).st).length) (cp4), .int .i64 ((y5).base)] 28, Sx.row (Kd.int .i64) 3 (A) (cp4) ((y5).st)] ++ R) w := h
          show Sx.WC _ _ _ _ [(7, .pointer (some ⟨g2, 0, none⟩)), (8, .pointer (some ⟨b8, 0, none⟩)), (9, .int .i64 ((atV y5 i).1)), (10, .bool ((atV y5 i).2)), (11, .int .i64 ((nearV y5 i).1)), (12, .int .i64 ((nearV y5 i).2)), (13, .int .i64 ((nearV y5 i).1)), (14, .int .i64 ((nearV y5 i).2)), (15, .bool false), (16, .int .i64 (((y5.st.take k).foldl max (-1)))), (17, .int .i64 ((k : Int)))] _
          refine Sx.wc_seq ?_
          refine Sx.wc_seq ?_
          refine Sx.wc_region ?_
          refine Sx.wl_v rfl rfl (Sx.ov_move _ rfl) ?_
          refine Sx.wl_v rfl rfl (Sx.ov_fieldAddr _ ⟨b8, 0, none⟩ _ rfl fo28_0 rfl) ?_
          refine Sx.wl_v rfl rfl (Sx.ov_loadb 1 _ h rfl rfl sh26 rfl) ?_
          refine Sx.wl_v rfl rfl (Sx.ov_len _ _ _ _ _ rfl es26) ?_
          refine Sx.wl_v rfl rfl (Sx.ov_bin _ rfl rfl (Sx.binR_lss)) ?_
          refine Sx.wl_nil ?_
          refine Sx.qn_then ?_
          refine Sx.wc_cond (by rfl) (fun c51 => ?_) (fun c51 => ?_)
          · have hk : k < y5.st.length := by omega
            have hmn := max_next y5.st hk
            refine Sx.wc_skip ?_
            refine Sx.qn_then ?_
            refine Sx.wc_seq ?_
            refine Sx.wc_block ?_
            refine Sx.wc_region ?_
            refine Sx.wl_v rfl rfl (Sx.ov_move _ rfl) ?_
            refine Sx.wl_v rfl rfl (Sx.ov_fieldAddr _ ⟨b8, 0, none⟩ _ rfl fo28_0 rfl) ?_
            refine Sx.wl_v rfl rfl (Sx.ov_loadb 1 _ h rfl rfl sh26 rfl) ?_
            refine Sx.wl_v rfl rfl (Sx.ov_move _ rfl) ?_
            obtain ⟨ad52, rfl⟩ := Sx.C_some ((Sx.row_reads h (i := 2) rfl).2) (k := k) (by first | assumption | omega)
            refine Sx.wl_v rfl rfl (Sx.ov_indexAddrN _ _ _ _ _ k rfl rfl es26 rfl (by first | assumption | omega | (simp only [List.length_take, List.length_drop, List.length_set]; omega))) ?_
            obtain ⟨cl55, _, hk54, hc53⟩ := Sx.C_cells ((Sx.row_reads h (i := 2) rfl).2) (z := (0 : Int)) (k := k) (by first | assumption | omega)
            obtain rfl : cl55 = [.int .i64 _] := hk54
            refine Sx.wl_v rfl rfl (Sx.ov_load1 _ _ rfl sh3 ((hc53 0 _ rfl))) ?_
            refine Sx.wl_v rfl rfl (Sx.ov_max _ _ _ (max (((y5.st.take k).foldl max (-1))) (((y5).st).getD k (0 : Int))) rfl rfl rfl) ?_
            refine Sx.wl_v rfl rfl (Sx.ov_assign _ rfl) ?_
            refine Sx.wl_nil ?_
            refine Sx.qn_block_normal ?_
            refine Sx.qn_then ?_
            refine Sx.wc_region ?_
            refine Sx.wl_v rfl rfl (Sx.ov_move _ rfl) ?_
            refine Sx.wl_v rfl rfl (Sx.ov_bin _ rfl rfl (Sx.binR_add (r := ((k : Int)) + 1) (Sx.w64 (by omega)))) ?_
            refine Sx.wl_v rfl rfl (Sx.ov_assign _ rfl) ?_
            refine Sx.wl_nil ?_
            replace h := Sx.st_front 2 h
            replace h := Sx.st_front 2 h
            replace h := Sx.st_front 2 h
            refine Sx.qn_next ((k + 1), some ad52) (by show y5.st.length - (k + 1) < y5.st.length - k; omega) ⟨rfl, rfl, rfl, rfl, rfl, rfl, rfl, rfl, rfl, (congrArg (fun z_ => some (Value.int .i64 z_)) (show (max (((y5.st.take k).foldl max (-1))) (((y5).st).getD k (0 : Int)) : Int) = ((y5.st.take (k + 1)).foldl max (-1)) by exact hmn)), (congrArg (fun z_ => some (Value.int .i64 z_)) (show (((k : Int)) + 1 : Int) = ((k + 1) : Int) by omega)), trivial⟩ ?_
            show ((k + 1) ≤ y5.st.length) ∧ _
            exact ⟨by first | omega | simp, h⟩
          · have hmm : mostV y5.st = (y5.st.take k).foldl max (-1) := by rw [show k = y5.st.length by omega, List.take_length]; rfl
            refine Sx.wc_exit ?_
            refine Sx.qn_then_exit ?_
            refine Sx.qn_then_exit ?_
            refine Sx.qn_block_exit ?_
            refine Sx.qn_then ?_
            refine Sx.wc_seq ?_
            refine Sx.wc_region ?_
            refine Sx.wl_v rfl rfl (Sx.ov_move _ rfl) ?_
            refine Sx.wl_v rfl rfl (Sx.ov_move _ rfl) ?_
            refine Sx.wl_v rfl rfl (Sx.ov_bin _ rfl rfl (Sx.binR_eql)) ?_
            refine Sx.wl_v rfl rfl (Sx.ov_move _ rfl) ?_
            refine Sx.wl_split 98 rfl (fun c56 => ?_) (fun c56 => ?_)
            · refine Sx.wl_v rfl rfl (Sx.ov_move _ rfl) ?_
              refine Sx.wl_v rfl rfl (Sx.ov_move _ rfl) ?_
              refine Sx.wl_v rfl rfl (Sx.ov_bin _ rfl rfl (Sx.binR_eql)) ?_
              refine Sx.wl_v rfl rfl (Sx.ov_pick_true _ rfl rfl) ?_
              refine Sx.wl_v rfl rfl (Sx.ov_move _ rfl) ?_
              refine Sx.wl_split 103 rfl (fun c57 => ?_) (fun c57 => ?_)
              · refine Sx.wl_v rfl rfl (Sx.ov_move _ rfl) ?_
                refine Sx.wl_call _ rfl rfl rfl ent24 (Most_calls g2 y5  (by omega) h) ?_
                rintro e_ w_ ⟨rfl, h⟩
                refine ⟨_, rfl, ?_⟩
                refine Sx.wl_v rfl rfl (Sx.ov_move _ rfl) ?_
                refine Sx.wl_v rfl rfl (Sx.ov_bin _ rfl rfl (Sx.binR_eql)) ?_
                refine Sx.wl_v rfl rfl (Sx.ov_pick_true _ rfl rfl) ?_
                refine Sx.wl_v rfl rfl (Sx.ov_assign _ rfl) ?_
                refine Sx.wl_nil ?_
                refine Sx.qn_then ?_
                refine Sx.wc_ret ?_
                replace h := Sx.st_selT [false, false, false] h
                refine Sx.qn_ret [_] ⟨rfl, trivial⟩ ?_
                have b_ : (decide ((mostV (y5).st : Int) = (((y5.st.take k).foldl max (-1))))) = true := by apply decide_eq_true; omega
                exact ⟨congrArg (fun z => Ending.returned (Value.bool z)) b_, h⟩
              · first | exact absurd rfl c57 | omega
            · first | exact absurd rfl c56 | omega
end Go.Proofs.Ytkliboeebookeaa.Runs.L
