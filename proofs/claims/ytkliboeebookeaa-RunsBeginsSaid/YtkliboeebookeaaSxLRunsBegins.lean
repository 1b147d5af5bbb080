/- The walk of RunsBegins. -/
import Derived.Test.YtkliboeebookeaaProg
import Derived.Test.YtkliboeebookeaaSxGlue
import Derived.Test.YtkliboeebookeaaSxKinds
import Derived.Test.YtkliboeebookeaaRunsTh
import Derived.Test.YtkliboeebookeaaSxRuns
import Derived.Test.YtkliboeebookeaaSxRunsB
import Derived.Test.YtkliboeebookeaaSxRef
import Derived.Test.YtkliboeebookeaaSxPlain
import Derived.Test.YtkliboeebookeaaSxPlainB
import Derived.Test.YtkliboeebookeaaSxPlay
import Derived.Test.YtkliboeebookeaaSxAwake
namespace Go.Proofs.Ytkliboeebookeaa.Runs.L
open Go Go.RowKit Go.Proofs.YtkliboeebookeaaW.PrintWords Go.Proofs.Ytkliboeebookeaa.Kinds Go.Proofs.Ytkliboeebookeaa.Runs Go.Proofs.Ytkliboeebookeaa.Runs.B Go.Proofs.Ytkliboeebookeaa.Runs.C Go.Proofs.Ytkliboeebookeaa.Runs.D Go.Proofs.Ytkliboeebookeaa.Runs.E Go.Proofs.Ytkliboeebookeaa.Runs.F Go.Proofs.Ytkliboeebookeaa.Runs.G
set_option linter.unusedVariables false
set_option linter.unusedSimpArgs false
theorem ent11 : Sx.Ent Try.prog 11 := ⟨Try.f11, Try.func11, by kernel_rfl, by kernel_rfl⟩
theorem ent21 : Sx.Ent Try.prog 21 := ⟨Try.f21, Try.func21, by kernel_rfl, by kernel_rfl⟩
theorem ent22 : Sx.Ent Try.prog 22 := ⟨Try.f22, Try.func22, by kernel_rfl, by kernel_rfl⟩
theorem zo28 : Sx.zeroOf Try.prog 28 = some (.agg #[.slice (none) (0) (0), .int .i64 (0)]) := by kernel_rfl
theorem sh28 : Sx.shapeOf Try.prog 28 = some (true, 2) := by kernel_rfl
theorem ent23 : Sx.Ent Try.prog 23 := ⟨Try.f23, Try.func23, by kernel_rfl, by kernel_rfl⟩
theorem ent14 : Sx.Ent Try.prog 14 := ⟨Try.f14, Try.func14, by kernel_rfl, by kernel_rfl⟩
theorem ent18 : Sx.Ent Try.prog 18 := ⟨Try.f18, Try.func18, by kernel_rfl, by kernel_rfl⟩
theorem ent24 : Sx.Ent Try.prog 24 := ⟨Try.f24, Try.func24, by kernel_rfl, by kernel_rfl⟩

theorem begins_facts {n s : Int} {y : LS} (h : newE n s = 0) (hy : (⟨List.replicate n.toNat s, s⟩ : LS) = y) :
    0 ≤ n ∧ n ≤ 65536 ∧ (y.st.length : Int) = n ∧ (nearV y 0).1 = s ∧ (nearV y 0).2 = 0 ∧ (n = 0 → (runsOf y.st).length = 0 ∧ mostV y.st = -1) ∧ (0 < n → (runsOf y.st).length = 1 ∧ mostV y.st = s) := by
  subst hy
  have h0 : 0 ≤ n ∧ n ≤ 65536 ∧ styleP s := by
    unfold newE at h
    split at h
    · cases h
    · split at h
      · cases h
      · rename_i h1 h2; omega
  obtain ⟨h1, h2, h3⟩ := h0
  have hl : ((List.replicate n.toNat s).length : Int) = n := by simp; omega
  have hn : nearV ⟨List.replicate n.toNat s, s⟩ 0 = (s, 0) := by
    unfold nearV
    rw [if_neg (by show ¬ ((0 : Int) < 0 ∨ ((List.replicate n.toNat s).length : Int) < 0); omega)]
    split
    · rfl
    · rename_i h4
      have h4 : (List.replicate n.toNat s).length ≠ 0 := h4
      show (((List.replicate n.toNat s).getD _ 0, (0 : Int)) : Int × Int) = _
      rw [show ((0 : Int) - 1).toNat = 0 from rfl]
      simp at h4
      simp [List.getD, List.getElem?_replicate, show 0 < n.toNat by omega]
  have hr := runsOf_rep [] n.toNat s
  rw [List.nil_append] at hr
  refine ⟨h1, h2, hl, by rw [hn], by rw [hn], fun e => ?_, fun e => ?_⟩
  · subst e; exact ⟨rfl, rfl⟩
  · show (runsOf (List.replicate n.toNat s)).length = 1 ∧ mostV (List.replicate n.toNat s) = s
    rw [hr]
    unfold putL mostV
    rw [if_neg (by omega), foldl_max_rep _ _ _ (by omega)]
    exact ⟨rfl, by omega⟩

set_option maxRecDepth 100000 in
theorem RunsBegins_calls {w0 w : World} {F0 : Nat → Prop} {R : List Sx.HP} {v0 : World} (n : Int) (s : Int) (hv : Sx.RO v0 w0 F0) (h : Sx.St w0 F0 ([] ++ R) w) : Calls Try.prog 5 #[.int .i64 (n), .int .i64 (s)] w (fun e w1 => e = .returned (.bool true) ∧ Sx.St w0 F0 R w1) := by
  refine Sx.calls_fn (vs := [.int .i64 (n), .int .i64 (s)]) Try.func5 rfl Try.ntmps5 rfl ?_
  refine Sx.wc_seq ?_
  refine Sx.wc_region ?_
  refine Sx.wl_v rfl rfl (Sx.ov_assign _ rfl) ?_
  refine Sx.wl_nil ?_
  refine Sx.qn_then ?_
  refine Sx.wc_seq ?_
  refine Sx.wc_seq ?_
  refine Sx.wc_region ?_
  refine Sx.wl_call _ rfl rfl rfl ent11 (awake_calls (R := [] ++ R) h) ?_
  rintro e_ w_ ⟨rfl, h⟩
  refine ⟨_, rfl, ?_⟩
  refine Sx.wl_v rfl rfl (Sx.ov_notb _ rfl) ?_
  refine Sx.wl_nil ?_
  refine Sx.qn_then ?_
  refine Sx.wc_cond_false rfl ?_
  refine Sx.wc_skip ?_
  refine Sx.qn_then ?_
  refine Sx.wc_seq ?_
  refine Sx.wc_region ?_
  refine Sx.wl_v rfl rfl (Sx.ov_move _ rfl) ?_
  refine Sx.wl_v rfl rfl (Sx.ov_move _ rfl) ?_
  refine Sx.wl_call _ rfl rfl rfl ent21 (New_calls (R := [] ++ R) n s h) ?_
  rintro e_ w_ (⟨hn2, rfl, h⟩ | ⟨hn2, g1, rfl, h⟩)
  · refine ⟨_, rfl, ?_⟩
    refine Sx.wl_v rfl rfl (Sx.ov_move _ rfl) ?_
    refine Sx.wl_v rfl rfl (Sx.ov_extract [.pointer none, .int .i64 (newE n s)] _ rfl rfl) ?_
    refine Sx.wl_v rfl rfl (Sx.ov_extract [.pointer none, .int .i64 (newE n s)] _ rfl rfl) ?_
    refine Sx.wl_v rfl rfl (Sx.ov_assign _ rfl) ?_
    refine Sx.wl_v rfl rfl (Sx.ov_assign _ rfl) ?_
    refine Sx.wl_nil ?_
    refine Sx.qn_then ?_
    refine Sx.wc_seq ?_
    refine Sx.wc_region ?_
    refine Sx.wl_v rfl rfl (Sx.ov_move _ rfl) ?_
    refine Sx.wl_v rfl rfl (Sx.ov_move _ rfl) ?_
    refine Sx.wl_call _ rfl rfl rfl ent22 (rNew_calls (R := [] ++ R) n s h) ?_
    rintro e_ w_ ⟨A3, cp4, rfl, h⟩
    refine ⟨_, rfl, ?_⟩
    refine Sx.wl_v rfl rfl (Sx.ov_move _ rfl) ?_
    refine Sx.wl_v rfl rfl (Sx.ov_extract [.agg #[.slice (A3) ((((newL n s)).st).length) (cp4), .int .i64 (((newL n s)).base)], .int .i64 (newE n s)] _ rfl rfl) ?_
    refine Sx.wl_v rfl rfl (Sx.ov_extract [.agg #[.slice (A3) ((((newL n s)).st).length) (cp4), .int .i64 (((newL n s)).base)], .int .i64 (newE n s)] _ rfl rfl) ?_
    refine Sx.wl_alloc _ h rfl rfl zo28 (fun b5 _ h => ?_)
    replace h : Sx.St _ _ (Sx.blk b5 [.slice (none) (0) (0), .int .i64 (0)] 28 :: _) _ := h
    refine Sx.wl_storebN 0 [.slice (A3) ((((newL n s)).st).length) (cp4), .int .i64 (((newL n s)).base)] [.slice (A3) ((((newL n s)).st).length) (cp4), .int .i64 (((newL n s)).base)] h rfl rfl rfl rfl (by simp [Value.oneCell']) sh28 rfl rfl (fun _ h => ?_)
    refine Sx.wl_v rfl rfl (Sx.ov_assign _ rfl) ?_
    refine Sx.wl_nil ?_
    refine Sx.qn_then ?_
    refine Sx.wc_seq ?_
    refine Sx.wc_seq ?_
    refine Sx.wc_region ?_
    refine Sx.wl_v rfl rfl (Sx.ov_move _ rfl) ?_
    refine Sx.wl_v rfl rfl (Sx.ov_move _ rfl) ?_
    refine Sx.wl_v rfl rfl (Sx.ov_bin _ rfl rfl (Sx.binR_neq)) ?_
    refine Sx.wl_v rfl rfl (Sx.ov_move _ rfl) ?_
    refine Sx.wl_split 28 rfl (fun c6 => ?_) (fun c6 => ?_)
    · omega
    · refine Sx.wl_v rfl rfl (Sx.ov_move _ rfl) ?_
      refine Sx.wl_v rfl rfl (Sx.ov_bin (.bool true) rfl rfl (Sx.binR_eqnil Try.underlying25)) ?_
      refine Sx.wl_v rfl rfl (Sx.ov_move _ rfl) ?_
      refine Sx.wl_v rfl rfl (Sx.ov_bin _ rfl rfl (Sx.binR_neq)) ?_
      refine Sx.wl_v rfl rfl (Sx.ov_bin _ rfl rfl (Sx.binR_neb Try.underlying4)) ?_
      refine Sx.wl_v rfl rfl (Sx.ov_pick_false _ rfl rfl) ?_
      refine Sx.wl_nil ?_
      refine Sx.qn_then ?_
      refine Sx.wc_cond (by rfl) (fun c7 => ?_) (fun c7 => ?_)
      · exfalso
        exact c7 (by rw [eq_comm]; exact decide_eq_true (by omega))
      · refine Sx.wc_skip ?_
        refine Sx.qn_then ?_
        refine Sx.wc_seq ?_
        refine Sx.wc_seq ?_
        refine Sx.wc_region ?_
        refine Sx.wl_v rfl rfl (Sx.ov_move _ rfl) ?_
        refine Sx.wl_v rfl rfl (Sx.ov_bin (.bool true) rfl rfl (Sx.binR_eqnil Try.underlying25)) ?_
        refine Sx.wl_nil ?_
        refine Sx.qn_then ?_
        refine Sx.wc_cond_true rfl ?_
        refine Sx.wc_seq ?_
        refine Sx.wc_region ?_
        refine Sx.wl_v rfl rfl (Sx.ov_assign _ rfl) ?_
        refine Sx.wl_nil ?_
        refine Sx.qn_then ?_
        refine Sx.wc_ret ?_
        refine Sx.qn_then_ret ?_
        replace h := Sx.st_selT [false, false] h
        refine Sx.qn_ret [_] ⟨rfl, trivial⟩ ?_
        exact ⟨rfl, h⟩
  · refine ⟨_, rfl, ?_⟩
    generalize hy8 : (⟨List.replicate (n : Int).toNat s, s⟩ : LS) = y8 at h
    have hB := begins_facts hn2 hy8
    refine Sx.wl_v rfl rfl (Sx.ov_move _ rfl) ?_
    refine Sx.wl_v rfl rfl (Sx.ov_extract [.pointer (some ⟨g1, 0, none⟩), .int .i64 (0)] _ rfl rfl) ?_
    refine Sx.wl_v rfl rfl (Sx.ov_extract [.pointer (some ⟨g1, 0, none⟩), .int .i64 (0)] _ rfl rfl) ?_
    refine Sx.wl_v rfl rfl (Sx.ov_assign _ rfl) ?_
    refine Sx.wl_v rfl rfl (Sx.ov_assign _ rfl) ?_
    refine Sx.wl_nil ?_
    refine Sx.qn_then ?_
    refine Sx.wc_seq ?_
    refine Sx.wc_region ?_
    refine Sx.wl_v rfl rfl (Sx.ov_move _ rfl) ?_
    refine Sx.wl_v rfl rfl (Sx.ov_move _ rfl) ?_
    refine Sx.wl_call _ rfl rfl rfl ent22 (rNew_calls (R := [listS g1 (y8)] ++ R) n s h) ?_
    rintro e_ w_ ⟨A9, cp10, rfl, h⟩
    refine ⟨_, rfl, ?_⟩
    refine Sx.wl_v rfl rfl (Sx.ov_move _ rfl) ?_
    refine Sx.wl_v rfl rfl (Sx.ov_extract [.agg #[.slice (A9) ((((newL n s)).st).length) (cp10), .int .i64 (((newL n s)).base)], .int .i64 (newE n s)] _ rfl rfl) ?_
    refine Sx.wl_v rfl rfl (Sx.ov_extract [.agg #[.slice (A9) ((((newL n s)).st).length) (cp10), .int .i64 (((newL n s)).base)], .int .i64 (newE n s)] _ rfl rfl) ?_
    refine Sx.wl_alloc _ h rfl rfl zo28 (fun b11 _ h => ?_)
    replace h : Sx.St _ _ (Sx.blk b11 [.slice (none) (0) (0), .int .i64 (0)] 28 :: _) _ := h
    refine Sx.wl_storebN 0 [.slice (A9) ((((newL n s)).st).length) (cp10), .int .i64 (((newL n s)).base)] [.slice (A9) ((((newL n s)).st).length) (cp10), .int .i64 (((newL n s)).base)] h rfl rfl rfl rfl (by simp [Value.oneCell']) sh28 rfl rfl (fun _ h => ?_)
    refine Sx.wl_v rfl rfl (Sx.ov_assign _ rfl) ?_
    refine Sx.wl_nil ?_
    refine Sx.qn_then ?_
    refine Sx.wc_seq ?_
    refine Sx.wc_seq ?_
    refine Sx.wc_region ?_
    refine Sx.wl_v rfl rfl (Sx.ov_move _ rfl) ?_
    refine Sx.wl_v rfl rfl (Sx.ov_move _ rfl) ?_
    refine Sx.wl_v rfl rfl (Sx.ov_bin _ rfl rfl (Sx.binR_neq)) ?_
    refine Sx.wl_v rfl rfl (Sx.ov_move _ rfl) ?_
    refine Sx.wl_split 28 rfl (fun c12 => ?_) (fun c12 => ?_)
    · omega
    · refine Sx.wl_v rfl rfl (Sx.ov_move _ rfl) ?_
      refine Sx.wl_v rfl rfl (Sx.ov_bin (.bool false) rfl rfl (Sx.binR_eqnil Try.underlying25)) ?_
      refine Sx.wl_v rfl rfl (Sx.ov_move _ rfl) ?_
      refine Sx.wl_v rfl rfl (Sx.ov_bin _ rfl rfl (Sx.binR_neq)) ?_
      refine Sx.wl_v rfl rfl (Sx.ov_bin _ rfl rfl (Sx.binR_neb Try.underlying4)) ?_
      refine Sx.wl_v rfl rfl (Sx.ov_pick_false _ rfl rfl) ?_
      refine Sx.wl_nil ?_
      refine Sx.qn_then ?_
      refine Sx.wc_cond (by rfl) (fun c13 => ?_) (fun c13 => ?_)
      · exfalso
        exact c13 (by rw [eq_comm]; exact decide_eq_false (by omega))
      · refine Sx.wc_skip ?_
        refine Sx.qn_then ?_
        refine Sx.wc_seq ?_
        refine Sx.wc_seq ?_
        refine Sx.wc_region ?_
        refine Sx.wl_v rfl rfl (Sx.ov_move _ rfl) ?_
        refine Sx.wl_v rfl rfl (Sx.ov_bin (.bool false) rfl rfl (Sx.binR_eqnil Try.underlying25)) ?_
        refine Sx.wl_nil ?_
        refine Sx.qn_then ?_
        refine Sx.wc_cond_false rfl ?_
        refine Sx.wc_skip ?_
        refine Sx.qn_then ?_
        refine Sx.wc_seq ?_
        refine Sx.wc_region ?_
        refine Sx.wl_v rfl rfl (Sx.ov_move _ rfl) ?_
        replace h := Sx.st_front 2 h
        refine Sx.wl_call _ rfl rfl rfl ent23 (Near_calls g1 y8 0 (by omega) h) ?_
        rintro e_ w_ ⟨rfl, h⟩
        refine ⟨_, rfl, ?_⟩
        refine Sx.wl_v rfl rfl (Sx.ov_move _ rfl) ?_
        refine Sx.wl_v rfl rfl (Sx.ov_extract [.int .i64 ((nearV y8 0).1), .int .i64 ((nearV y8 0).2)] _ rfl rfl) ?_
        refine Sx.wl_v rfl rfl (Sx.ov_extract [.int .i64 ((nearV y8 0).1), .int .i64 ((nearV y8 0).2)] _ rfl rfl) ?_
        refine Sx.wl_v rfl rfl (Sx.ov_assign _ rfl) ?_
        refine Sx.wl_v rfl rfl (Sx.ov_assign _ rfl) ?_
        refine Sx.wl_nil ?_
        refine Sx.qn_then ?_
        refine Sx.wc_seq ?_
        refine Sx.wc_region ?_
        refine Sx.wl_v rfl rfl (Sx.ov_move _ rfl) ?_
        refine Sx.wl_call _ rfl rfl rfl ent14 (Len_calls g1 y8   h) ?_
        rintro e_ w_ ⟨rfl, h⟩
        refine ⟨_, rfl, ?_⟩
        refine Sx.wl_v rfl rfl (Sx.ov_move _ rfl) ?_
        refine Sx.wl_v rfl rfl (Sx.ov_bin _ rfl rfl (Sx.binR_eql)) ?_
        refine Sx.wl_v rfl rfl (Sx.ov_move _ rfl) ?_
        refine Sx.wl_split 46 rfl (fun c14 => ?_) (fun c14 => ?_)
        · refine Sx.wl_v rfl rfl (Sx.ov_move _ rfl) ?_
          refine Sx.wl_v rfl rfl (Sx.ov_bin _ rfl rfl (Sx.binR_eql)) ?_
          refine Sx.wl_v rfl rfl (Sx.ov_pick_true _ rfl rfl) ?_
          refine Sx.wl_v rfl rfl (Sx.ov_move _ rfl) ?_
          refine Sx.wl_split 50 rfl (fun c15 => ?_) (fun c15 => ?_)
          · refine Sx.wl_v rfl rfl (Sx.ov_move _ rfl) ?_
            refine Sx.wl_v rfl rfl (Sx.ov_move _ rfl) ?_
            refine Sx.wl_v rfl rfl (Sx.ov_bin _ rfl rfl (Sx.binR_eql)) ?_
            refine Sx.wl_v rfl rfl (Sx.ov_pick_true _ rfl rfl) ?_
            refine Sx.wl_v rfl rfl (Sx.ov_move _ rfl) ?_
            refine Sx.wl_split 55 rfl (fun c16 => ?_) (fun c16 => ?_)
            · refine Sx.wl_v rfl rfl (Sx.ov_move _ rfl) ?_
              refine Sx.wl_v rfl rfl (Sx.ov_bin _ rfl rfl (Sx.binR_eql)) ?_
              refine Sx.wl_v rfl rfl (Sx.ov_move _ rfl) ?_
              refine Sx.wl_split 58 rfl (fun c17 => ?_) (fun c17 => ?_)
              · refine Sx.wl_v rfl rfl (Sx.ov_move _ rfl) ?_
                refine Sx.wl_call _ rfl rfl rfl ent18 (Count_calls g1 y8   h) ?_
                rintro e_ w_ ⟨rfl, h⟩
                refine ⟨_, rfl, ?_⟩
                refine Sx.wl_v rfl rfl (Sx.ov_bin _ rfl rfl (Sx.binR_eql)) ?_
                refine Sx.wl_v rfl rfl (Sx.ov_pick_true _ rfl rfl) ?_
                refine Sx.wl_v rfl rfl (Sx.ov_move _ rfl) ?_
                refine Sx.wl_split 63 rfl (fun c18 => ?_) (fun c18 => ?_)
                · refine Sx.wl_v rfl rfl (Sx.ov_move _ rfl) ?_
                  refine Sx.wl_call _ rfl rfl rfl ent24 (Most_calls g1 y8  (by omega) h) ?_
                  rintro e_ w_ ⟨rfl, h⟩
                  refine ⟨_, rfl, ?_⟩
                  refine Sx.wl_v rfl rfl (Sx.ov_bin _ rfl rfl (Sx.binR_eql)) ?_
                  refine Sx.wl_v rfl rfl (Sx.ov_pick_true _ rfl rfl) ?_
                  refine Sx.wl_v rfl rfl (Sx.ov_move _ rfl) ?_
                  refine Sx.wl_split 68 rfl (fun c19 => ?_) (fun c19 => ?_)
                  · refine Sx.wl_skip rfl rfl ?_
                    refine Sx.wl_skip rfl rfl ?_
                    refine Sx.wl_skip rfl rfl ?_
                    refine Sx.wl_skip rfl rfl ?_
                    refine Sx.wl_skip rfl rfl ?_
                    refine Sx.wl_skip rfl rfl ?_
                    refine Sx.wl_skip rfl rfl ?_
                    refine Sx.wl_skip rfl rfl ?_
                    refine Sx.wl_skip rfl rfl ?_
                    refine Sx.wl_skip rfl rfl ?_
                    refine Sx.wl_skip rfl rfl ?_
                    refine Sx.wl_skip rfl rfl ?_
                    refine Sx.wl_skip rfl rfl ?_
                    refine Sx.wl_v rfl rfl (Sx.ov_pick_true _ rfl rfl) ?_
                    refine Sx.wl_v rfl rfl (Sx.ov_pick_true _ rfl rfl) ?_
                    refine Sx.wl_v rfl rfl (Sx.ov_assign _ rfl) ?_
                    refine Sx.wl_nil ?_
                    refine Sx.qn_then ?_
                    refine Sx.wc_ret ?_
                    replace h := Sx.st_selT [false, false, false] h
                    refine Sx.qn_ret [_] ⟨rfl, trivial⟩ ?_
                    exact ⟨rfl, h⟩
                  · omega
                · omega
              · refine Sx.wl_skip rfl rfl ?_
                refine Sx.wl_skip rfl rfl ?_
                refine Sx.wl_skip rfl rfl ?_
                refine Sx.wl_v rfl rfl (Sx.ov_pick_false _ rfl rfl) ?_
                refine Sx.wl_v rfl rfl (Sx.ov_move _ rfl) ?_
                refine Sx.wl_skip rfl rfl ?_
                refine Sx.wl_skip rfl rfl ?_
                refine Sx.wl_skip rfl rfl ?_
                refine Sx.wl_v rfl rfl (Sx.ov_pick_false _ rfl rfl) ?_
                refine Sx.wl_v rfl rfl (Sx.ov_move _ rfl) ?_
                refine Sx.wl_v rfl rfl (Sx.ov_move _ rfl) ?_
                refine Sx.wl_v rfl rfl (Sx.ov_bin _ rfl rfl (Sx.binR_gtr)) ?_
                refine Sx.wl_v rfl rfl (Sx.ov_move _ rfl) ?_
                refine Sx.wl_split 71 rfl (fun c20 => ?_) (fun c20 => ?_)
                · refine Sx.wl_v rfl rfl (Sx.ov_move _ rfl) ?_
                  refine Sx.wl_call _ rfl rfl rfl ent18 (Count_calls g1 y8   h) ?_
                  rintro e_ w_ ⟨rfl, h⟩
                  refine ⟨_, rfl, ?_⟩
                  refine Sx.wl_v rfl rfl (Sx.ov_bin _ rfl rfl (Sx.binR_eql)) ?_
                  refine Sx.wl_v rfl rfl (Sx.ov_pick_true _ rfl rfl) ?_
                  refine Sx.wl_v rfl rfl (Sx.ov_move _ rfl) ?_
                  refine Sx.wl_split 76 rfl (fun c21 => ?_) (fun c21 => ?_)
                  · refine Sx.wl_v rfl rfl (Sx.ov_move _ rfl) ?_
                    refine Sx.wl_call _ rfl rfl rfl ent24 (Most_calls g1 y8  (by omega) h) ?_
                    rintro e_ w_ ⟨rfl, h⟩
                    refine ⟨_, rfl, ?_⟩
                    refine Sx.wl_v rfl rfl (Sx.ov_move _ rfl) ?_
                    refine Sx.wl_v rfl rfl (Sx.ov_bin _ rfl rfl (Sx.binR_eql)) ?_
                    refine Sx.wl_v rfl rfl (Sx.ov_pick_true _ rfl rfl) ?_
                    refine Sx.wl_v rfl rfl (Sx.ov_pick_false _ rfl rfl) ?_
                    refine Sx.wl_v rfl rfl (Sx.ov_pick_true _ rfl rfl) ?_
                    refine Sx.wl_v rfl rfl (Sx.ov_assign _ rfl) ?_
                    refine Sx.wl_nil ?_
                    refine Sx.qn_then ?_
                    refine Sx.wc_ret ?_
                    replace h := Sx.st_selT [false, false, false] h
                    refine Sx.qn_ret [_] ⟨rfl, trivial⟩ ?_
                    have b_ : (decide ((mostV (y8).st : Int) = s)) = true := by first | rfl | (simp; done) | (apply decide_eq_true; omega)
                    exact ⟨congrArg (fun z => Ending.returned (Value.bool z)) b_, h⟩
                  · omega
                · omega
            · omega
          · omega
        · omega
end Go.Proofs.Ytkliboeebookeaa.Runs.L
