/- The walk of ParasFinds. -/
import Derived.Test.YteancplgfjhagaaProg
import Derived.Test.YteancplgfjhagaaSxGlue
import Derived.Test.YteancplgfjhagaaSxKinds
import Derived.Test.YteancplgfjhagaaParasTh
import Derived.Test.YteancplgfjhagaaSxParas
import Derived.Test.YteancplgfjhagaaSxParasB
import Derived.Test.YteancplgfjhagaaSxPlain
namespace Go.Proofs.Yteancplgfjhagaa.Paras.L
open Go Go.RowKit Go.Proofs.YteancplgfjhagaaW.PrintWords Go.Proofs.Yteancplgfjhagaa.Kinds Go.Proofs.Yteancplgfjhagaa.Paras Go.Proofs.Yteancplgfjhagaa.Paras.B Go.Proofs.Yteancplgfjhagaa.Paras.C
set_option linter.unusedVariables false
set_option linter.unusedSimpArgs false
theorem ent11 : Sx.Ent Try.prog 11 := ⟨Try.f11, Try.func11, by kernel_rfl, by kernel_rfl⟩
theorem ent15 : Sx.Ent Try.prog 15 := ⟨Try.f15, Try.func15, by kernel_rfl, by kernel_rfl⟩
theorem ent16 : Sx.Ent Try.prog 16 := ⟨Try.f16, Try.func16, by kernel_rfl, by kernel_rfl⟩
theorem ent17 : Sx.Ent Try.prog 17 := ⟨Try.f17, Try.func17, by kernel_rfl, by kernel_rfl⟩
theorem ent18 : Sx.Ent Try.prog 18 := ⟨Try.f18, Try.func18, by kernel_rfl, by kernel_rfl⟩
theorem ent19 : Sx.Ent Try.prog 19 := ⟨Try.f19, Try.func19, by kernel_rfl, by kernel_rfl⟩

theorem findI_out {s : ByteArray} {a : Int} : a < 0 ∨ (s.size : Int) ≤ a → (findI (ixOf s) a).1 = 0 ∧ (findI (ixOf s) a).2 = false := by
  intro h
  have e : findI (ixOf s) a = (0, false) := by unfold findI; rw [if_pos (by rw [ix_size]; exact h)]
  rw [e]; exact ⟨rfl, rfl⟩
theorem findI_in {s : ByteArray} {a : Int} : 0 ≤ a ∧ a < (s.size : Int) → (findI (ixOf s) a).1 = (nlc s a.toNat : Int) ∧ (findI (ixOf s) a).2 = true ∧ (spanI (ixOf s) (findI (ixOf s) a).1).1 ≤ a ∧ a < (spanI (ixOf s) (findI (ixOf s) a).1).2.1 ∧ (spanI (ixOf s) (findI (ixOf s) a).1).2.2 = true := by
  intro h
  have hl := lensOf_ok s
  have e : findI (ixOf s) a = (((findP (lensOf s) a : Nat) : Int), true) := by unfold findI; rw [if_neg (by rw [ix_size]; omega)]; rfl
  have e1 := find_eq s a.toNat (by omega)
  rw [show ((a.toNat : Nat) : Int) = a by omega] at e1
  have h4 := findP_spec (l := lensOf s) h.1 (by omega) hl.2.2
  rw [e]
  have h5 := ix_span s (findP (lensOf s) a) h4.1
  dsimp only
  rw [h5.1, h5.2.1, h5.2.2, e1]
  rw [e1] at h4
  exact ⟨rfl, rfl, h4.2.1, h4.2.2, rfl⟩
theorem spanI_cases (s : ByteArray) (i : Int) : (i < 0 ∨ ((lensOf s).length : Int) ≤ i → (spanI (ixOf s) i).1 = 0 ∧ (spanI (ixOf s) i).2.1 = 0 ∧ (spanI (ixOf s) i).2.2 = false) ∧ (0 ≤ i → i < ((lensOf s).length : Int) → (spanI (ixOf s) i).2.2 = true) := by
  constructor
  · intro h
    have e : spanI (ixOf s) i = (0, 0, false) := by unfold spanI; rw [ix_lens, if_pos h]
    rw [e]; exact ⟨rfl, rfl, rfl⟩
  · intro h0 h1
    unfold spanI; rw [ix_lens, if_neg (by omega)]
theorem span_bool (s : ByteArray) (i : Int) (h0 : 0 ≤ i) : (spanI (ixOf s) i).2.2 = decide (i < ((lensOf s).length : Int)) := by
  by_cases h : i < ((lensOf s).length : Int)
  · rw [(spanI_cases s i).2 h0 h, decide_eq_true h]
  · rw [((spanI_cases s i).1 (.inr (by omega))).2.2, decide_eq_false h]
theorem span_not {s : ByteArray} {i : Int} (h : (spanI (ixOf s) i).2.2 = false) : i < 0 ∨ ((lensOf s).length : Int) ≤ i := by
  rcases Int.lt_or_le i 0 with h0 | h0
  · exact .inl h0
  · rw [span_bool s i h0] at h
    have := of_decide_eq_false h
    exact .inr (by omega)

set_option maxRecDepth 100000 in
theorem ParasFinds_calls {w0 w : World} {F0 : Nat → Prop} {R : List Sx.HP} {v0 : World} (s : ByteArray) (i : Int) (hv : Sx.RO v0 w0 F0) (hzs : s.size ≤ 9223372036854775807) (h : Sx.St w0 F0 ([] ++ R) w) : Calls Try.prog 4 #[.string (s), .int .i64 (i)] w (fun e w1 => e = .returned (.bool true) ∧ Sx.St w0 F0 R w1) := by
  have hlo := lensOf_ok s
  have hxs := ix_size s
  have hxl := congrArg List.length (ix_lens s)
  refine Sx.calls_fn (vs := [.string (s), .int .i64 (i)]) Try.func4 rfl Try.ntmps4 rfl ?_
  refine Sx.wc_seq ?_
  refine Sx.wc_region ?_
  refine Sx.wl_v rfl rfl (Sx.ov_assign _ rfl) ?_
  refine Sx.wl_nil ?_
  refine Sx.qn_then ?_
  refine Sx.wc_seq ?_
  refine Sx.wc_seq ?_
  refine Sx.wc_region ?_
  refine Sx.wl_call _ rfl rfl rfl ent11 (awake_calls (R := [] ++ R) h) ?_
  rintro e_ w_ ⟨rfl, h⟩
  refine ⟨_, rfl, ?_⟩
  refine Sx.wl_v rfl rfl (Sx.ov_notb _ rfl) ?_
  refine Sx.wl_nil ?_
  refine Sx.qn_then ?_
  refine Sx.wc_cond_false rfl ?_
  refine Sx.wc_skip ?_
  refine Sx.qn_then ?_
  refine Sx.wc_seq ?_
  refine Sx.wc_seq ?_
  refine Sx.wc_region ?_
  refine Sx.wl_v rfl rfl (Sx.ov_move _ rfl) ?_
  refine Sx.wl_v rfl rfl (Sx.ov_lens _ rfl Try.underlying9) ?_
  refine Sx.wl_v rfl rfl (Sx.ov_bin _ rfl rfl (Sx.binR_gtr)) ?_
  refine Sx.wl_nil ?_
  refine Sx.qn_then ?_
  refine Sx.wc_cond (by rfl) (fun c1 => ?_) (fun c1 => ?_)
  · refine Sx.wc_seq ?_
    refine Sx.wc_region ?_
    refine Sx.wl_v rfl rfl (Sx.ov_assign _ rfl) ?_
    refine Sx.wl_nil ?_
    refine Sx.qn_then ?_
    refine Sx.wc_ret ?_
    refine Sx.qn_then_ret ?_
    refine Sx.qn_ret [_] ⟨rfl, trivial⟩ ?_
    exact ⟨rfl, h⟩
  · have hix := ixOf_ok s (by omega)
    have hf0 := findI_out (s := s) (a := i)
    have hs0 := spanI_cases s i
    have hf1 := findI_in (s := s) (a := i)
    refine Sx.wc_skip ?_
    refine Sx.qn_then ?_
    refine Sx.wc_seq ?_
    refine Sx.wc_region ?_
    refine Sx.wl_v rfl rfl (Sx.ov_move _ rfl) ?_
    refine Sx.wl_call _ rfl rfl rfl ent15 (New_calls (R := [] ++ R) s (by omega) h) ?_
    rintro e_ w_ ⟨g2, rfl, h⟩
    refine ⟨_, rfl, ?_⟩
    refine Sx.wl_v rfl rfl (Sx.ov_assign _ rfl) ?_
    refine Sx.wl_nil ?_
    refine Sx.qn_then ?_
    refine Sx.wc_seq ?_
    refine Sx.wc_seq ?_
    refine Sx.wc_region ?_
    refine Sx.wl_v rfl rfl (Sx.ov_move _ rfl) ?_
    refine Sx.wl_v rfl rfl (Sx.ov_bin (.bool false) rfl rfl (Sx.binR_eqnil Try.underlying28)) ?_
    refine Sx.wl_nil ?_
    refine Sx.qn_then ?_
    refine Sx.wc_cond_false rfl ?_
    refine Sx.wc_skip ?_
    refine Sx.qn_then ?_
    refine Sx.wc_seq ?_
    refine Sx.wc_region ?_
    refine Sx.wl_v rfl rfl (Sx.ov_move _ rfl) ?_
    refine Sx.wl_v rfl rfl (Sx.ov_move _ rfl) ?_
    refine Sx.wl_call _ rfl rfl rfl ent16 (Find_calls (R := [] ++ R) g2 (ixOf s) i (by exact ixOf_ok _ (by omega)) h) ?_
    rintro e_ w_ ⟨rfl, h⟩
    refine ⟨_, rfl, ?_⟩
    refine Sx.wl_v rfl rfl (Sx.ov_move _ rfl) ?_
    refine Sx.wl_v rfl rfl (Sx.ov_extract [.int .i64 ((findI (ixOf s) i).1), .bool ((findI (ixOf s) i).2)] _ rfl rfl) ?_
    refine Sx.wl_v rfl rfl (Sx.ov_extract [.int .i64 ((findI (ixOf s) i).1), .bool ((findI (ixOf s) i).2)] _ rfl rfl) ?_
    refine Sx.wl_v rfl rfl (Sx.ov_assign _ rfl) ?_
    refine Sx.wl_v rfl rfl (Sx.ov_assign _ rfl) ?_
    refine Sx.wl_nil ?_
    refine Sx.qn_then ?_
    refine Sx.wc_seq ?_
    refine Sx.wc_region ?_
    refine Sx.wl_v rfl rfl (Sx.ov_move _ rfl) ?_
    refine Sx.wl_v rfl rfl (Sx.ov_move _ rfl) ?_
    refine Sx.wl_call _ rfl rfl rfl ent17 (Span_calls (R := [] ++ R) g2 (ixOf s) i (by exact ixOf_ok _ (by omega)) h) ?_
    rintro e_ w_ ⟨rfl, h⟩
    refine ⟨_, rfl, ?_⟩
    refine Sx.wl_v rfl rfl (Sx.ov_move _ rfl) ?_
    refine Sx.wl_v rfl rfl (Sx.ov_extract [.int .i64 ((spanI (ixOf s) i).1), .int .i64 ((spanI (ixOf s) i).2.1), .bool ((spanI (ixOf s) i).2.2)] _ rfl rfl) ?_
    refine Sx.wl_v rfl rfl (Sx.ov_extract [.int .i64 ((spanI (ixOf s) i).1), .int .i64 ((spanI (ixOf s) i).2.1), .bool ((spanI (ixOf s) i).2.2)] _ rfl rfl) ?_
    refine Sx.wl_v rfl rfl (Sx.ov_extract [.int .i64 ((spanI (ixOf s) i).1), .int .i64 ((spanI (ixOf s) i).2.1), .bool ((spanI (ixOf s) i).2.2)] _ rfl rfl) ?_
    refine Sx.wl_v rfl rfl (Sx.ov_assign _ rfl) ?_
    refine Sx.wl_v rfl rfl (Sx.ov_assign _ rfl) ?_
    refine Sx.wl_v rfl rfl (Sx.ov_assign _ rfl) ?_
    refine Sx.wl_nil ?_
    refine Sx.qn_then ?_
    refine Sx.wc_seq ?_
    refine Sx.wc_seq ?_
    refine Sx.wc_region ?_
    refine Sx.wl_v rfl rfl (Sx.ov_move _ rfl) ?_
    refine Sx.wl_call _ rfl rfl rfl ent18 (rCount_calls (R := [ixB g2 (ixOf s)] ++ R) s (by omega) h) ?_
    rintro e_ w_ ⟨rfl, h⟩
    refine ⟨_, rfl, ?_⟩
    refine Sx.wl_v rfl rfl (Sx.ov_assign _ rfl) ?_
    refine Sx.wl_nil ?_
    refine Sx.qn_then ?_
    refine Sx.wc_seq ?_
    refine Sx.wc_region ?_
    refine Sx.wl_v rfl rfl (Sx.ov_move _ rfl) ?_
    refine Sx.wl_v rfl rfl (Sx.ov_move _ rfl) ?_
    refine Sx.wl_v rfl rfl (Sx.ov_bin _ rfl rfl (Sx.binR_geq)) ?_
    refine Sx.wl_v rfl rfl (Sx.ov_move _ rfl) ?_
    refine Sx.wl_split 42 rfl (fun c3 => ?_) (fun c3 => ?_)
    · refine Sx.wl_v rfl rfl (Sx.ov_move _ rfl) ?_
      refine Sx.wl_v rfl rfl (Sx.ov_move _ rfl) ?_
      refine Sx.wl_v rfl rfl (Sx.ov_bin _ rfl rfl (Sx.binR_lss)) ?_
      refine Sx.wl_v rfl rfl (Sx.ov_pick_true _ rfl rfl) ?_
      refine Sx.wl_v rfl rfl (Sx.ov_bin _ rfl rfl (Sx.binR_neb Try.underlying4)) ?_
      refine Sx.wl_v rfl rfl (Sx.ov_move _ rfl) ?_
      refine Sx.wl_split 48 rfl (fun c4 => ?_) (fun c4 => ?_)
      · exfalso
        first | exact c4 (hs0.1 (by omega)).2.2 | exact c4 (span_bool s i (by omega))
      · refine Sx.wl_v rfl rfl (Sx.ov_move _ rfl) ?_
        refine Sx.wl_v rfl rfl (Sx.ov_notb _ rfl) ?_
        refine Sx.wl_v rfl rfl (Sx.ov_move _ rfl) ?_
        refine Sx.wl_splitb 51 rfl (fun c5 => ?_) (fun c5 => ?_)
        · refine Sx.wl_v rfl rfl (Sx.ov_move _ rfl) ?_
          refine Sx.wl_v rfl rfl (Sx.ov_bin _ rfl rfl (Sx.binR_neq)) ?_
          refine Sx.wl_v rfl rfl (Sx.ov_move _ rfl) ?_
          refine Sx.wl_split 54 rfl (fun c6 => ?_) (fun c6 => ?_)
          · exfalso
            have hno_ := hs0.1 (span_not (by simpa using c5))
            omega
          · refine Sx.wl_v rfl rfl (Sx.ov_move _ rfl) ?_
            refine Sx.wl_v rfl rfl (Sx.ov_bin _ rfl rfl (Sx.binR_neq)) ?_
            refine Sx.wl_v rfl rfl (Sx.ov_pick_false _ rfl rfl) ?_
            refine Sx.wl_v rfl rfl (Sx.ov_pick_true _ rfl rfl) ?_
            refine Sx.wl_v rfl rfl (Sx.ov_pick_false _ rfl rfl) ?_
            refine Sx.wl_nil ?_
            refine Sx.qn_then ?_
            refine Sx.wc_cond (by rfl) (fun c7 => ?_) (fun c7 => ?_)
            · exfalso
              have hno_ := hs0.1 (span_not (by simpa using c5))
              omega
            · refine Sx.wc_skip ?_
              refine Sx.qn_then ?_
              refine Sx.wc_seq ?_
              refine Sx.wc_seq ?_
              refine Sx.wc_region ?_
              refine Sx.wl_v rfl rfl (Sx.ov_move _ rfl) ?_
              refine Sx.wl_v rfl rfl (Sx.ov_bin _ rfl rfl (Sx.binR_lss)) ?_
              refine Sx.wl_v rfl rfl (Sx.ov_move _ rfl) ?_
              refine Sx.wl_split 62 rfl (fun c8 => ?_) (fun c8 => ?_)
              · refine Sx.wl_skip rfl rfl ?_
                refine Sx.wl_skip rfl rfl ?_
                refine Sx.wl_skip rfl rfl ?_
                refine Sx.wl_skip rfl rfl ?_
                refine Sx.wl_v rfl rfl (Sx.ov_pick_true _ rfl rfl) ?_
                refine Sx.wl_nil ?_
                refine Sx.qn_then ?_
                refine Sx.wc_cond_true rfl ?_
                refine Sx.wc_seq ?_
                refine Sx.wc_region ?_
                refine Sx.wl_v rfl rfl (Sx.ov_move _ rfl) ?_
                refine Sx.wl_v rfl rfl (Sx.ov_notb _ rfl) ?_
                refine Sx.wl_v rfl rfl (Sx.ov_move _ rfl) ?_
                refine Sx.wl_splitb 70 rfl (fun c9 => ?_) (fun c9 => ?_)
                · refine Sx.wl_v rfl rfl (Sx.ov_move _ rfl) ?_
                  refine Sx.wl_v rfl rfl (Sx.ov_bin _ rfl rfl (Sx.binR_eql)) ?_
                  refine Sx.wl_v rfl rfl (Sx.ov_pick_true _ rfl rfl) ?_
                  refine Sx.wl_v rfl rfl (Sx.ov_assign _ rfl) ?_
                  refine Sx.wl_nil ?_
                  refine Sx.qn_then ?_
                  refine Sx.wc_ret ?_
                  refine Sx.qn_then_ret ?_
                  replace h := Sx.st_selT [false] h
                  refine Sx.qn_ret [_] ⟨rfl, trivial⟩ ?_
                  have b_ : (decide (((findI (ixOf s) i).1 : Int) = 0)) = true := by apply decide_eq_true; omega
                  exact ⟨congrArg (fun z => Ending.returned (Value.bool z)) b_, h⟩
                · exact absurd c9 (by rw [(hf0 (by omega)).2]; decide)
              · refine Sx.wl_v rfl rfl (Sx.ov_move _ rfl) ?_
                refine Sx.wl_v rfl rfl (Sx.ov_move _ rfl) ?_
                refine Sx.wl_v rfl rfl (Sx.ov_lens _ rfl Try.underlying9) ?_
                refine Sx.wl_v rfl rfl (Sx.ov_bin _ rfl rfl (Sx.binR_geq)) ?_
                refine Sx.wl_v rfl rfl (Sx.ov_pick_false _ rfl rfl) ?_
                refine Sx.wl_nil ?_
                refine Sx.qn_then ?_
                refine Sx.wc_cond (by rfl) (fun c10 => ?_) (fun c10 => ?_)
                · refine Sx.wc_seq ?_
                  refine Sx.wc_region ?_
                  refine Sx.wl_v rfl rfl (Sx.ov_move _ rfl) ?_
                  refine Sx.wl_v rfl rfl (Sx.ov_notb _ rfl) ?_
                  refine Sx.wl_v rfl rfl (Sx.ov_move _ rfl) ?_
                  refine Sx.wl_splitb 70 rfl (fun c11 => ?_) (fun c11 => ?_)
                  · refine Sx.wl_v rfl rfl (Sx.ov_move _ rfl) ?_
                    refine Sx.wl_v rfl rfl (Sx.ov_bin _ rfl rfl (Sx.binR_eql)) ?_
                    refine Sx.wl_v rfl rfl (Sx.ov_pick_true _ rfl rfl) ?_
                    refine Sx.wl_v rfl rfl (Sx.ov_assign _ rfl) ?_
                    refine Sx.wl_nil ?_
                    refine Sx.qn_then ?_
                    refine Sx.wc_ret ?_
                    refine Sx.qn_then_ret ?_
                    replace h := Sx.st_selT [false] h
                    refine Sx.qn_ret [_] ⟨rfl, trivial⟩ ?_
                    have b_ : (decide (((findI (ixOf s) i).1 : Int) = 0)) = true := by apply decide_eq_true; omega
                    exact ⟨congrArg (fun z => Ending.returned (Value.bool z)) b_, h⟩
                  · exact absurd c11 (by rw [(hf0 (by omega)).2]; decide)
                · refine Sx.wc_skip ?_
                  refine Sx.qn_then ?_
                  refine Sx.wc_seq ?_
                  refine Sx.wc_region ?_
                  refine Sx.wl_v rfl rfl (Sx.ov_move _ rfl) ?_
                  refine Sx.wl_v rfl rfl (Sx.ov_move _ rfl) ?_
                  refine Sx.wl_call _ rfl rfl rfl ent17 (Span_calls (R := [] ++ R) g2 (ixOf s) ((findI (ixOf s) i).1) (by exact ixOf_ok _ (by omega)) h) ?_
                  rintro e_ w_ ⟨rfl, h⟩
                  refine ⟨_, rfl, ?_⟩
                  refine Sx.wl_v rfl rfl (Sx.ov_move _ rfl) ?_
                  refine Sx.wl_v rfl rfl (Sx.ov_extract [.int .i64 ((spanI (ixOf s) ((findI (ixOf s) i).1)).1), .int .i64 ((spanI (ixOf s) ((findI (ixOf s) i).1)).2.1), .bool ((spanI (ixOf s) ((findI (ixOf s) i).1)).2.2)] _ rfl rfl) ?_
                  refine Sx.wl_v rfl rfl (Sx.ov_extract [.int .i64 ((spanI (ixOf s) ((findI (ixOf s) i).1)).1), .int .i64 ((spanI (ixOf s) ((findI (ixOf s) i).1)).2.1), .bool ((spanI (ixOf s) ((findI (ixOf s) i).1)).2.2)] _ rfl rfl) ?_
                  refine Sx.wl_v rfl rfl (Sx.ov_extract [.int .i64 ((spanI (ixOf s) ((findI (ixOf s) i).1)).1), .int .i64 ((spanI (ixOf s) ((findI (ixOf s) i).1)).2.1), .bool ((spanI (ixOf s) ((findI (ixOf s) i).1)).2.2)] _ rfl rfl) ?_
                  refine Sx.wl_v rfl rfl (Sx.ov_assign _ rfl) ?_
                  refine Sx.wl_v rfl rfl (Sx.ov_assign _ rfl) ?_
                  refine Sx.wl_v rfl rfl (Sx.ov_assign _ rfl) ?_
                  refine Sx.wl_nil ?_
                  refine Sx.qn_then ?_
                  refine Sx.wc_seq ?_
                  refine Sx.wc_region ?_
                  refine Sx.wl_v rfl rfl (Sx.ov_move _ rfl) ?_
                  refine Sx.wl_v rfl rfl (Sx.ov_move _ rfl) ?_
                  refine Sx.wl_splitb 82 rfl (fun c12 => ?_) (fun c12 => ?_)
                  · refine Sx.wl_v rfl rfl (Sx.ov_move _ rfl) ?_
                    refine Sx.wl_v rfl rfl (Sx.ov_pick_true _ rfl rfl) ?_
                    refine Sx.wl_v rfl rfl (Sx.ov_move _ rfl) ?_
                    refine Sx.wl_splitb 85 rfl (fun c13 => ?_) (fun c13 => ?_)
                    · refine Sx.wl_v rfl rfl (Sx.ov_move _ rfl) ?_
                      refine Sx.wl_v rfl rfl (Sx.ov_move _ rfl) ?_
                      refine Sx.wl_v rfl rfl (Sx.ov_move _ rfl) ?_
                      refine Sx.wl_call _ rfl rfl rfl ent19 (rFind_calls (R := [ixB g2 (ixOf s)] ++ R) s i (by omega) (by omega) (by omega) h) ?_
                      rintro e_ w_ ⟨rfl, h⟩
                      refine ⟨_, rfl, ?_⟩
                      refine Sx.wl_v rfl rfl (Sx.ov_bin _ rfl rfl (Sx.binR_eql)) ?_
                      refine Sx.wl_v rfl rfl (Sx.ov_pick_true _ rfl rfl) ?_
                      refine Sx.wl_v rfl rfl (Sx.ov_move _ rfl) ?_
                      refine Sx.wl_split 92 rfl (fun c14 => ?_) (fun c14 => ?_)
                      · refine Sx.wl_v rfl rfl (Sx.ov_move _ rfl) ?_
                        refine Sx.wl_v rfl rfl (Sx.ov_move _ rfl) ?_
                        refine Sx.wl_v rfl rfl (Sx.ov_bin _ rfl rfl (Sx.binR_leq)) ?_
                        refine Sx.wl_v rfl rfl (Sx.ov_pick_true _ rfl rfl) ?_
                        refine Sx.wl_v rfl rfl (Sx.ov_move _ rfl) ?_
                        refine Sx.wl_split 97 rfl (fun c15 => ?_) (fun c15 => ?_)
                        · refine Sx.wl_v rfl rfl (Sx.ov_move _ rfl) ?_
                          refine Sx.wl_v rfl rfl (Sx.ov_move _ rfl) ?_
                          refine Sx.wl_v rfl rfl (Sx.ov_bin _ rfl rfl (Sx.binR_lss)) ?_
                          refine Sx.wl_v rfl rfl (Sx.ov_pick_true _ rfl rfl) ?_
                          refine Sx.wl_v rfl rfl (Sx.ov_assign _ rfl) ?_
                          refine Sx.wl_nil ?_
                          refine Sx.qn_then ?_
                          refine Sx.wc_ret ?_
                          replace h := Sx.st_selT [false] h
                          refine Sx.qn_ret [_] ⟨rfl, trivial⟩ ?_
                          have b_ : (decide ((i : Int) < ((spanI (ixOf s) ((findI (ixOf s) i).1)).2.1))) = true := by apply decide_eq_true; omega
                          exact ⟨congrArg (fun z => Ending.returned (Value.bool z)) b_, h⟩
                        · refine Sx.wl_skip rfl rfl ?_
                          refine Sx.wl_skip rfl rfl ?_
                          refine Sx.wl_skip rfl rfl ?_
                          refine Sx.wl_v rfl rfl (Sx.ov_pick_false _ rfl rfl) ?_
                          refine Sx.wl_v rfl rfl (Sx.ov_assign _ rfl) ?_
                          refine Sx.wl_nil ?_
                          refine Sx.qn_then ?_
                          refine Sx.wc_ret ?_
                          replace h := Sx.st_selT [false] h
                          refine Sx.qn_ret [_] ⟨rfl, trivial⟩ ?_
                          exfalso
                          omega
                      · refine Sx.wl_skip rfl rfl ?_
                        refine Sx.wl_skip rfl rfl ?_
                        refine Sx.wl_skip rfl rfl ?_
                        refine Sx.wl_v rfl rfl (Sx.ov_pick_false _ rfl rfl) ?_
                        refine Sx.wl_v rfl rfl (Sx.ov_move _ rfl) ?_
                        refine Sx.wl_skip rfl rfl ?_
                        refine Sx.wl_skip rfl rfl ?_
                        refine Sx.wl_skip rfl rfl ?_
                        refine Sx.wl_v rfl rfl (Sx.ov_pick_false _ rfl rfl) ?_
                        refine Sx.wl_v rfl rfl (Sx.ov_assign _ rfl) ?_
                        refine Sx.wl_nil ?_
                        refine Sx.qn_then ?_
                        refine Sx.wc_ret ?_
                        replace h := Sx.st_selT [false] h
                        refine Sx.qn_ret [_] ⟨rfl, trivial⟩ ?_
                        exfalso
                        omega
                    · exact absurd c13 (by rw [(hf1 ⟨by omega, by omega⟩).2.2.2.2]; decide)
                  · exact absurd c12 (by rw [(hf1 ⟨by omega, by omega⟩).2.1]; decide)
        · refine Sx.wl_skip rfl rfl ?_
          refine Sx.wl_skip rfl rfl ?_
          refine Sx.wl_skip rfl rfl ?_
          refine Sx.wl_skip rfl rfl ?_
          refine Sx.wl_skip rfl rfl ?_
          refine Sx.wl_skip rfl rfl ?_
          refine Sx.wl_v rfl rfl (Sx.ov_pick_false _ rfl rfl) ?_
          refine Sx.wl_v rfl rfl (Sx.ov_pick_false _ rfl rfl) ?_
          refine Sx.wl_nil ?_
          refine Sx.qn_then ?_
          refine Sx.wc_cond_false rfl ?_
          refine Sx.wc_skip ?_
          refine Sx.qn_then ?_
          refine Sx.wc_seq ?_
          refine Sx.wc_seq ?_
          refine Sx.wc_region ?_
          refine Sx.wl_v rfl rfl (Sx.ov_move _ rfl) ?_
          refine Sx.wl_v rfl rfl (Sx.ov_bin _ rfl rfl (Sx.binR_lss)) ?_
          refine Sx.wl_v rfl rfl (Sx.ov_move _ rfl) ?_
          refine Sx.wl_split 62 rfl (fun c16 => ?_) (fun c16 => ?_)
          · refine Sx.wl_skip rfl rfl ?_
            refine Sx.wl_skip rfl rfl ?_
            refine Sx.wl_skip rfl rfl ?_
            refine Sx.wl_skip rfl rfl ?_
            refine Sx.wl_v rfl rfl (Sx.ov_pick_true _ rfl rfl) ?_
            refine Sx.wl_nil ?_
            refine Sx.qn_then ?_
            refine Sx.wc_cond_true rfl ?_
            refine Sx.wc_seq ?_
            refine Sx.wc_region ?_
            refine Sx.wl_v rfl rfl (Sx.ov_move _ rfl) ?_
            refine Sx.wl_v rfl rfl (Sx.ov_notb _ rfl) ?_
            refine Sx.wl_v rfl rfl (Sx.ov_move _ rfl) ?_
            refine Sx.wl_splitb 70 rfl (fun c17 => ?_) (fun c17 => ?_)
            · refine Sx.wl_v rfl rfl (Sx.ov_move _ rfl) ?_
              refine Sx.wl_v rfl rfl (Sx.ov_bin _ rfl rfl (Sx.binR_eql)) ?_
              refine Sx.wl_v rfl rfl (Sx.ov_pick_true _ rfl rfl) ?_
              refine Sx.wl_v rfl rfl (Sx.ov_assign _ rfl) ?_
              refine Sx.wl_nil ?_
              refine Sx.qn_then ?_
              refine Sx.wc_ret ?_
              refine Sx.qn_then_ret ?_
              replace h := Sx.st_selT [false] h
              refine Sx.qn_ret [_] ⟨rfl, trivial⟩ ?_
              have b_ : (decide (((findI (ixOf s) i).1 : Int) = 0)) = true := by apply decide_eq_true; omega
              exact ⟨congrArg (fun z => Ending.returned (Value.bool z)) b_, h⟩
            · exact absurd c17 (by rw [(hf0 (by omega)).2]; decide)
          · refine Sx.wl_v rfl rfl (Sx.ov_move _ rfl) ?_
            refine Sx.wl_v rfl rfl (Sx.ov_move _ rfl) ?_
            refine Sx.wl_v rfl rfl (Sx.ov_lens _ rfl Try.underlying9) ?_
            refine Sx.wl_v rfl rfl (Sx.ov_bin _ rfl rfl (Sx.binR_geq)) ?_
            refine Sx.wl_v rfl rfl (Sx.ov_pick_false _ rfl rfl) ?_
            refine Sx.wl_nil ?_
            refine Sx.qn_then ?_
            refine Sx.wc_cond (by rfl) (fun c18 => ?_) (fun c18 => ?_)
            · refine Sx.wc_seq ?_
              refine Sx.wc_region ?_
              refine Sx.wl_v rfl rfl (Sx.ov_move _ rfl) ?_
              refine Sx.wl_v rfl rfl (Sx.ov_notb _ rfl) ?_
              refine Sx.wl_v rfl rfl (Sx.ov_move _ rfl) ?_
              refine Sx.wl_splitb 70 rfl (fun c19 => ?_) (fun c19 => ?_)
              · refine Sx.wl_v rfl rfl (Sx.ov_move _ rfl) ?_
                refine Sx.wl_v rfl rfl (Sx.ov_bin _ rfl rfl (Sx.binR_eql)) ?_
                refine Sx.wl_v rfl rfl (Sx.ov_pick_true _ rfl rfl) ?_
                refine Sx.wl_v rfl rfl (Sx.ov_assign _ rfl) ?_
                refine Sx.wl_nil ?_
                refine Sx.qn_then ?_
                refine Sx.wc_ret ?_
                refine Sx.qn_then_ret ?_
                replace h := Sx.st_selT [false] h
                refine Sx.qn_ret [_] ⟨rfl, trivial⟩ ?_
                have b_ : (decide (((findI (ixOf s) i).1 : Int) = 0)) = true := by apply decide_eq_true; omega
                exact ⟨congrArg (fun z => Ending.returned (Value.bool z)) b_, h⟩
              · exact absurd c19 (by rw [(hf0 (by omega)).2]; decide)
            · refine Sx.wc_skip ?_
              refine Sx.qn_then ?_
              refine Sx.wc_seq ?_
              refine Sx.wc_region ?_
              refine Sx.wl_v rfl rfl (Sx.ov_move _ rfl) ?_
              refine Sx.wl_v rfl rfl (Sx.ov_move _ rfl) ?_
              refine Sx.wl_call _ rfl rfl rfl ent17 (Span_calls (R := [] ++ R) g2 (ixOf s) ((findI (ixOf s) i).1) (by exact ixOf_ok _ (by omega)) h) ?_
              rintro e_ w_ ⟨rfl, h⟩
              refine ⟨_, rfl, ?_⟩
              refine Sx.wl_v rfl rfl (Sx.ov_move _ rfl) ?_
              refine Sx.wl_v rfl rfl (Sx.ov_extract [.int .i64 ((spanI (ixOf s) ((findI (ixOf s) i).1)).1), .int .i64 ((spanI (ixOf s) ((findI (ixOf s) i).1)).2.1), .bool ((spanI (ixOf s) ((findI (ixOf s) i).1)).2.2)] _ rfl rfl) ?_
              refine Sx.wl_v rfl rfl (Sx.ov_extract [.int .i64 ((spanI (ixOf s) ((findI (ixOf s) i).1)).1), .int .i64 ((spanI (ixOf s) ((findI (ixOf s) i).1)).2.1), .bool ((spanI (ixOf s) ((findI (ixOf s) i).1)).2.2)] _ rfl rfl) ?_
              refine Sx.wl_v rfl rfl (Sx.ov_extract [.int .i64 ((spanI (ixOf s) ((findI (ixOf s) i).1)).1), .int .i64 ((spanI (ixOf s) ((findI (ixOf s) i).1)).2.1), .bool ((spanI (ixOf s) ((findI (ixOf s) i).1)).2.2)] _ rfl rfl) ?_
              refine Sx.wl_v rfl rfl (Sx.ov_assign _ rfl) ?_
              refine Sx.wl_v rfl rfl (Sx.ov_assign _ rfl) ?_
              refine Sx.wl_v rfl rfl (Sx.ov_assign _ rfl) ?_
              refine Sx.wl_nil ?_
              refine Sx.qn_then ?_
              refine Sx.wc_seq ?_
              refine Sx.wc_region ?_
              refine Sx.wl_v rfl rfl (Sx.ov_move _ rfl) ?_
              refine Sx.wl_v rfl rfl (Sx.ov_move _ rfl) ?_
              refine Sx.wl_splitb 82 rfl (fun c20 => ?_) (fun c20 => ?_)
              · refine Sx.wl_v rfl rfl (Sx.ov_move _ rfl) ?_
                refine Sx.wl_v rfl rfl (Sx.ov_pick_true _ rfl rfl) ?_
                refine Sx.wl_v rfl rfl (Sx.ov_move _ rfl) ?_
                refine Sx.wl_splitb 85 rfl (fun c21 => ?_) (fun c21 => ?_)
                · refine Sx.wl_v rfl rfl (Sx.ov_move _ rfl) ?_
                  refine Sx.wl_v rfl rfl (Sx.ov_move _ rfl) ?_
                  refine Sx.wl_v rfl rfl (Sx.ov_move _ rfl) ?_
                  refine Sx.wl_call _ rfl rfl rfl ent19 (rFind_calls (R := [ixB g2 (ixOf s)] ++ R) s i (by omega) (by omega) (by omega) h) ?_
                  rintro e_ w_ ⟨rfl, h⟩
                  refine ⟨_, rfl, ?_⟩
                  refine Sx.wl_v rfl rfl (Sx.ov_bin _ rfl rfl (Sx.binR_eql)) ?_
                  refine Sx.wl_v rfl rfl (Sx.ov_pick_true _ rfl rfl) ?_
                  refine Sx.wl_v rfl rfl (Sx.ov_move _ rfl) ?_
                  refine Sx.wl_split 92 rfl (fun c22 => ?_) (fun c22 => ?_)
                  · refine Sx.wl_v rfl rfl (Sx.ov_move _ rfl) ?_
                    refine Sx.wl_v rfl rfl (Sx.ov_move _ rfl) ?_
                    refine Sx.wl_v rfl rfl (Sx.ov_bin _ rfl rfl (Sx.binR_leq)) ?_
                    refine Sx.wl_v rfl rfl (Sx.ov_pick_true _ rfl rfl) ?_
                    refine Sx.wl_v rfl rfl (Sx.ov_move _ rfl) ?_
                    refine Sx.wl_split 97 rfl (fun c23 => ?_) (fun c23 => ?_)
                    · refine Sx.wl_v rfl rfl (Sx.ov_move _ rfl) ?_
                      refine Sx.wl_v rfl rfl (Sx.ov_move _ rfl) ?_
                      refine Sx.wl_v rfl rfl (Sx.ov_bin _ rfl rfl (Sx.binR_lss)) ?_
                      refine Sx.wl_v rfl rfl (Sx.ov_pick_true _ rfl rfl) ?_
                      refine Sx.wl_v rfl rfl (Sx.ov_assign _ rfl) ?_
                      refine Sx.wl_nil ?_
                      refine Sx.qn_then ?_
                      refine Sx.wc_ret ?_
                      replace h := Sx.st_selT [false] h
                      refine Sx.qn_ret [_] ⟨rfl, trivial⟩ ?_
                      have b_ : (decide ((i : Int) < ((spanI (ixOf s) ((findI (ixOf s) i).1)).2.1))) = true := by apply decide_eq_true; omega
                      exact ⟨congrArg (fun z => Ending.returned (Value.bool z)) b_, h⟩
                    · refine Sx.wl_skip rfl rfl ?_
                      refine Sx.wl_skip rfl rfl ?_
                      refine Sx.wl_skip rfl rfl ?_
                      refine Sx.wl_v rfl rfl (Sx.ov_pick_false _ rfl rfl) ?_
                      refine Sx.wl_v rfl rfl (Sx.ov_assign _ rfl) ?_
                      refine Sx.wl_nil ?_
                      refine Sx.qn_then ?_
                      refine Sx.wc_ret ?_
                      replace h := Sx.st_selT [false] h
                      refine Sx.qn_ret [_] ⟨rfl, trivial⟩ ?_
                      exfalso
                      omega
                  · refine Sx.wl_skip rfl rfl ?_
                    refine Sx.wl_skip rfl rfl ?_
                    refine Sx.wl_skip rfl rfl ?_
                    refine Sx.wl_v rfl rfl (Sx.ov_pick_false _ rfl rfl) ?_
                    refine Sx.wl_v rfl rfl (Sx.ov_move _ rfl) ?_
                    refine Sx.wl_skip rfl rfl ?_
                    refine Sx.wl_skip rfl rfl ?_
                    refine Sx.wl_skip rfl rfl ?_
                    refine Sx.wl_v rfl rfl (Sx.ov_pick_false _ rfl rfl) ?_
                    refine Sx.wl_v rfl rfl (Sx.ov_assign _ rfl) ?_
                    refine Sx.wl_nil ?_
                    refine Sx.qn_then ?_
                    refine Sx.wc_ret ?_
                    replace h := Sx.st_selT [false] h
                    refine Sx.qn_ret [_] ⟨rfl, trivial⟩ ?_
                    exfalso
                    omega
                · exact absurd c21 (by rw [(hf1 ⟨by omega, by omega⟩).2.2.2.2]; decide)
              · exact absurd c20 (by rw [(hf1 ⟨by omega, by omega⟩).2.1]; decide)
    · refine Sx.wl_skip rfl rfl ?_
      refine Sx.wl_skip rfl rfl ?_
      refine Sx.wl_skip rfl rfl ?_
      refine Sx.wl_v rfl rfl (Sx.ov_pick_false _ rfl rfl) ?_
      refine Sx.wl_v rfl rfl (Sx.ov_bin _ rfl rfl (Sx.binR_neb Try.underlying4)) ?_
      refine Sx.wl_v rfl rfl (Sx.ov_move _ rfl) ?_
      refine Sx.wl_split 48 rfl (fun c24 => ?_) (fun c24 => ?_)
      · exfalso
        first | exact c24 (hs0.1 (by omega)).2.2 | exact c24 (span_bool s i (by omega))
      · refine Sx.wl_v rfl rfl (Sx.ov_move _ rfl) ?_
        refine Sx.wl_v rfl rfl (Sx.ov_notb _ rfl) ?_
        refine Sx.wl_v rfl rfl (Sx.ov_move _ rfl) ?_
        refine Sx.wl_splitb 51 rfl (fun c25 => ?_) (fun c25 => ?_)
        · refine Sx.wl_v rfl rfl (Sx.ov_move _ rfl) ?_
          refine Sx.wl_v rfl rfl (Sx.ov_bin _ rfl rfl (Sx.binR_neq)) ?_
          refine Sx.wl_v rfl rfl (Sx.ov_move _ rfl) ?_
          refine Sx.wl_split 54 rfl (fun c26 => ?_) (fun c26 => ?_)
          · exfalso
            have hno_ := hs0.1 (span_not (by simpa using c25))
            omega
          · refine Sx.wl_v rfl rfl (Sx.ov_move _ rfl) ?_
            refine Sx.wl_v rfl rfl (Sx.ov_bin _ rfl rfl (Sx.binR_neq)) ?_
            refine Sx.wl_v rfl rfl (Sx.ov_pick_false _ rfl rfl) ?_
            refine Sx.wl_v rfl rfl (Sx.ov_pick_true _ rfl rfl) ?_
            refine Sx.wl_v rfl rfl (Sx.ov_pick_false _ rfl rfl) ?_
            refine Sx.wl_nil ?_
            refine Sx.qn_then ?_
            refine Sx.wc_cond (by rfl) (fun c27 => ?_) (fun c27 => ?_)
            · exfalso
              have hno_ := hs0.1 (span_not (by simpa using c25))
              omega
            · refine Sx.wc_skip ?_
              refine Sx.qn_then ?_
              refine Sx.wc_seq ?_
              refine Sx.wc_seq ?_
              refine Sx.wc_region ?_
              refine Sx.wl_v rfl rfl (Sx.ov_move _ rfl) ?_
              refine Sx.wl_v rfl rfl (Sx.ov_bin _ rfl rfl (Sx.binR_lss)) ?_
              refine Sx.wl_v rfl rfl (Sx.ov_move _ rfl) ?_
              refine Sx.wl_split 62 rfl (fun c28 => ?_) (fun c28 => ?_)
              · refine Sx.wl_skip rfl rfl ?_
                refine Sx.wl_skip rfl rfl ?_
                refine Sx.wl_skip rfl rfl ?_
                refine Sx.wl_skip rfl rfl ?_
                refine Sx.wl_v rfl rfl (Sx.ov_pick_true _ rfl rfl) ?_
                refine Sx.wl_nil ?_
                refine Sx.qn_then ?_
                refine Sx.wc_cond_true rfl ?_
                refine Sx.wc_seq ?_
                refine Sx.wc_region ?_
                refine Sx.wl_v rfl rfl (Sx.ov_move _ rfl) ?_
                refine Sx.wl_v rfl rfl (Sx.ov_notb _ rfl) ?_
                refine Sx.wl_v rfl rfl (Sx.ov_move _ rfl) ?_
                refine Sx.wl_splitb 70 rfl (fun c29 => ?_) (fun c29 => ?_)
                · refine Sx.wl_v rfl rfl (Sx.ov_move _ rfl) ?_
                  refine Sx.wl_v rfl rfl (Sx.ov_bin _ rfl rfl (Sx.binR_eql)) ?_
                  refine Sx.wl_v rfl rfl (Sx.ov_pick_true _ rfl rfl) ?_
                  refine Sx.wl_v rfl rfl (Sx.ov_assign _ rfl) ?_
                  refine Sx.wl_nil ?_
                  refine Sx.qn_then ?_
                  refine Sx.wc_ret ?_
                  refine Sx.qn_then_ret ?_
                  replace h := Sx.st_selT [false] h
                  refine Sx.qn_ret [_] ⟨rfl, trivial⟩ ?_
                  have b_ : (decide (((findI (ixOf s) i).1 : Int) = 0)) = true := by apply decide_eq_true; omega
                  exact ⟨congrArg (fun z => Ending.returned (Value.bool z)) b_, h⟩
                · exact absurd c29 (by rw [(hf0 (by omega)).2]; decide)
              · refine Sx.wl_v rfl rfl (Sx.ov_move _ rfl) ?_
                refine Sx.wl_v rfl rfl (Sx.ov_move _ rfl) ?_
                refine Sx.wl_v rfl rfl (Sx.ov_lens _ rfl Try.underlying9) ?_
                refine Sx.wl_v rfl rfl (Sx.ov_bin _ rfl rfl (Sx.binR_geq)) ?_
                refine Sx.wl_v rfl rfl (Sx.ov_pick_false _ rfl rfl) ?_
                refine Sx.wl_nil ?_
                refine Sx.qn_then ?_
                refine Sx.wc_cond (by rfl) (fun c30 => ?_) (fun c30 => ?_)
                · refine Sx.wc_seq ?_
                  refine Sx.wc_region ?_
                  refine Sx.wl_v rfl rfl (Sx.ov_move _ rfl) ?_
                  refine Sx.wl_v rfl rfl (Sx.ov_notb _ rfl) ?_
                  refine Sx.wl_v rfl rfl (Sx.ov_move _ rfl) ?_
                  refine Sx.wl_splitb 70 rfl (fun c31 => ?_) (fun c31 => ?_)
                  · refine Sx.wl_v rfl rfl (Sx.ov_move _ rfl) ?_
                    refine Sx.wl_v rfl rfl (Sx.ov_bin _ rfl rfl (Sx.binR_eql)) ?_
                    refine Sx.wl_v rfl rfl (Sx.ov_pick_true _ rfl rfl) ?_
                    refine Sx.wl_v rfl rfl (Sx.ov_assign _ rfl) ?_
                    refine Sx.wl_nil ?_
                    refine Sx.qn_then ?_
                    refine Sx.wc_ret ?_
                    refine Sx.qn_then_ret ?_
                    replace h := Sx.st_selT [false] h
                    refine Sx.qn_ret [_] ⟨rfl, trivial⟩ ?_
                    have b_ : (decide (((findI (ixOf s) i).1 : Int) = 0)) = true := by apply decide_eq_true; omega
                    exact ⟨congrArg (fun z => Ending.returned (Value.bool z)) b_, h⟩
                  · exact absurd c31 (by rw [(hf0 (by omega)).2]; decide)
                · refine Sx.wc_skip ?_
                  refine Sx.qn_then ?_
                  refine Sx.wc_seq ?_
                  refine Sx.wc_region ?_
                  refine Sx.wl_v rfl rfl (Sx.ov_move _ rfl) ?_
                  refine Sx.wl_v rfl rfl (Sx.ov_move _ rfl) ?_
                  refine Sx.wl_call _ rfl rfl rfl ent17 (Span_calls (R := [] ++ R) g2 (ixOf s) ((findI (ixOf s) i).1) (by exact ixOf_ok _ (by omega)) h) ?_
                  rintro e_ w_ ⟨rfl, h⟩
                  refine ⟨_, rfl, ?_⟩
                  refine Sx.wl_v rfl rfl (Sx.ov_move _ rfl) ?_
                  refine Sx.wl_v rfl rfl (Sx.ov_extract [.int .i64 ((spanI (ixOf s) ((findI (ixOf s) i).1)).1), .int .i64 ((spanI (ixOf s) ((findI (ixOf s) i).1)).2.1), .bool ((spanI (ixOf s) ((findI (ixOf s) i).1)).2.2)] _ rfl rfl) ?_
                  refine Sx.wl_v rfl rfl (Sx.ov_extract [.int .i64 ((spanI (ixOf s) ((findI (ixOf s) i).1)).1), .int .i64 ((spanI (ixOf s) ((findI (ixOf s) i).1)).2.1), .bool ((spanI (ixOf s) ((findI (ixOf s) i).1)).2.2)] _ rfl rfl) ?_
                  refine Sx.wl_v rfl rfl (Sx.ov_extract [.int .i64 ((spanI (ixOf s) ((findI (ixOf s) i).1)).1), .int .i64 ((spanI (ixOf s) ((findI (ixOf s) i).1)).2.1), .bool ((spanI (ixOf s) ((findI (ixOf s) i).1)).2.2)] _ rfl rfl) ?_
                  refine Sx.wl_v rfl rfl (Sx.ov_assign _ rfl) ?_
                  refine Sx.wl_v rfl rfl (Sx.ov_assign _ rfl) ?_
                  refine Sx.wl_v rfl rfl (Sx.ov_assign _ rfl) ?_
                  refine Sx.wl_nil ?_
                  refine Sx.qn_then ?_
                  refine Sx.wc_seq ?_
                  refine Sx.wc_region ?_
                  refine Sx.wl_v rfl rfl (Sx.ov_move _ rfl) ?_
                  refine Sx.wl_v rfl rfl (Sx.ov_move _ rfl) ?_
                  refine Sx.wl_splitb 82 rfl (fun c32 => ?_) (fun c32 => ?_)
                  · refine Sx.wl_v rfl rfl (Sx.ov_move _ rfl) ?_
                    refine Sx.wl_v rfl rfl (Sx.ov_pick_true _ rfl rfl) ?_
                    refine Sx.wl_v rfl rfl (Sx.ov_move _ rfl) ?_
                    refine Sx.wl_splitb 85 rfl (fun c33 => ?_) (fun c33 => ?_)
                    · refine Sx.wl_v rfl rfl (Sx.ov_move _ rfl) ?_
                      refine Sx.wl_v rfl rfl (Sx.ov_move _ rfl) ?_
                      refine Sx.wl_v rfl rfl (Sx.ov_move _ rfl) ?_
                      refine Sx.wl_call _ rfl rfl rfl ent19 (rFind_calls (R := [ixB g2 (ixOf s)] ++ R) s i (by omega) (by omega) (by omega) h) ?_
                      rintro e_ w_ ⟨rfl, h⟩
                      refine ⟨_, rfl, ?_⟩
                      refine Sx.wl_v rfl rfl (Sx.ov_bin _ rfl rfl (Sx.binR_eql)) ?_
                      refine Sx.wl_v rfl rfl (Sx.ov_pick_true _ rfl rfl) ?_
                      refine Sx.wl_v rfl rfl (Sx.ov_move _ rfl) ?_
                      refine Sx.wl_split 92 rfl (fun c34 => ?_) (fun c34 => ?_)
                      · refine Sx.wl_v rfl rfl (Sx.ov_move _ rfl) ?_
                        refine Sx.wl_v rfl rfl (Sx.ov_move _ rfl) ?_
                        refine Sx.wl_v rfl rfl (Sx.ov_bin _ rfl rfl (Sx.binR_leq)) ?_
                        refine Sx.wl_v rfl rfl (Sx.ov_pick_true _ rfl rfl) ?_
                        refine Sx.wl_v rfl rfl (Sx.ov_move _ rfl) ?_
                        refine Sx.wl_split 97 rfl (fun c35 => ?_) (fun c35 => ?_)
                        · refine Sx.wl_v rfl rfl (Sx.ov_move _ rfl) ?_
                          refine Sx.wl_v rfl rfl (Sx.ov_move _ rfl) ?_
                          refine Sx.wl_v rfl rfl (Sx.ov_bin _ rfl rfl (Sx.binR_lss)) ?_
                          refine Sx.wl_v rfl rfl (Sx.ov_pick_true _ rfl rfl) ?_
                          refine Sx.wl_v rfl rfl (Sx.ov_assign _ rfl) ?_
                          refine Sx.wl_nil ?_
                          refine Sx.qn_then ?_
                          refine Sx.wc_ret ?_
                          replace h := Sx.st_selT [false] h
                          refine Sx.qn_ret [_] ⟨rfl, trivial⟩ ?_
                          have b_ : (decide ((i : Int) < ((spanI (ixOf s) ((findI (ixOf s) i).1)).2.1))) = true := by apply decide_eq_true; omega
                          exact ⟨congrArg (fun z => Ending.returned (Value.bool z)) b_, h⟩
                        · refine Sx.wl_skip rfl rfl ?_
                          refine Sx.wl_skip rfl rfl ?_
                          refine Sx.wl_skip rfl rfl ?_
                          refine Sx.wl_v rfl rfl (Sx.ov_pick_false _ rfl rfl) ?_
                          refine Sx.wl_v rfl rfl (Sx.ov_assign _ rfl) ?_
                          refine Sx.wl_nil ?_
                          refine Sx.qn_then ?_
                          refine Sx.wc_ret ?_
                          replace h := Sx.st_selT [false] h
                          refine Sx.qn_ret [_] ⟨rfl, trivial⟩ ?_
                          exfalso
                          omega
                      · refine Sx.wl_skip rfl rfl ?_
                        refine Sx.wl_skip rfl rfl ?_
                        refine Sx.wl_skip rfl rfl ?_
                        refine Sx.wl_v rfl rfl (Sx.ov_pick_false _ rfl rfl) ?_
                        refine Sx.wl_v rfl rfl (Sx.ov_move _ rfl) ?_
                        refine Sx.wl_skip rfl rfl ?_
                        refine Sx.wl_skip rfl rfl ?_
                        refine Sx.wl_skip rfl rfl ?_
                        refine Sx.wl_v rfl rfl (Sx.ov_pick_false _ rfl rfl) ?_
                        refine Sx.wl_v rfl rfl (Sx.ov_assign _ rfl) ?_
                        refine Sx.wl_nil ?_
                        refine Sx.qn_then ?_
                        refine Sx.wc_ret ?_
                        replace h := Sx.st_selT [false] h
                        refine Sx.qn_ret [_] ⟨rfl, trivial⟩ ?_
                        exfalso
                        omega
                    · exact absurd c33 (by rw [(hf1 ⟨by omega, by omega⟩).2.2.2.2]; decide)
                  · exact absurd c32 (by rw [(hf1 ⟨by omega, by omega⟩).2.1]; decide)
        · refine Sx.wl_skip rfl rfl ?_
          refine Sx.wl_skip rfl rfl ?_
          refine Sx.wl_skip rfl rfl ?_
          refine Sx.wl_skip rfl rfl ?_
          refine Sx.wl_skip rfl rfl ?_
          refine Sx.wl_skip rfl rfl ?_
          refine Sx.wl_v rfl rfl (Sx.ov_pick_false _ rfl rfl) ?_
          refine Sx.wl_v rfl rfl (Sx.ov_pick_false _ rfl rfl) ?_
          refine Sx.wl_nil ?_
          refine Sx.qn_then ?_
          refine Sx.wc_cond_false rfl ?_
          refine Sx.wc_skip ?_
          refine Sx.qn_then ?_
          refine Sx.wc_seq ?_
          refine Sx.wc_seq ?_
          refine Sx.wc_region ?_
          refine Sx.wl_v rfl rfl (Sx.ov_move _ rfl) ?_
          refine Sx.wl_v rfl rfl (Sx.ov_bin _ rfl rfl (Sx.binR_lss)) ?_
          refine Sx.wl_v rfl rfl (Sx.ov_move _ rfl) ?_
          refine Sx.wl_split 62 rfl (fun c36 => ?_) (fun c36 => ?_)
          · refine Sx.wl_skip rfl rfl ?_
            refine Sx.wl_skip rfl rfl ?_
            refine Sx.wl_skip rfl rfl ?_
            refine Sx.wl_skip rfl rfl ?_
            refine Sx.wl_v rfl rfl (Sx.ov_pick_true _ rfl rfl) ?_
            refine Sx.wl_nil ?_
            refine Sx.qn_then ?_
            refine Sx.wc_cond_true rfl ?_
            refine Sx.wc_seq ?_
            refine Sx.wc_region ?_
            refine Sx.wl_v rfl rfl (Sx.ov_move _ rfl) ?_
            refine Sx.wl_v rfl rfl (Sx.ov_notb _ rfl) ?_
            refine Sx.wl_v rfl rfl (Sx.ov_move _ rfl) ?_
            refine Sx.wl_splitb 70 rfl (fun c37 => ?_) (fun c37 => ?_)
            · refine Sx.wl_v rfl rfl (Sx.ov_move _ rfl) ?_
              refine Sx.wl_v rfl rfl (Sx.ov_bin _ rfl rfl (Sx.binR_eql)) ?_
              refine Sx.wl_v rfl rfl (Sx.ov_pick_true _ rfl rfl) ?_
              refine Sx.wl_v rfl rfl (Sx.ov_assign _ rfl) ?_
              refine Sx.wl_nil ?_
              refine Sx.qn_then ?_
              refine Sx.wc_ret ?_
              refine Sx.qn_then_ret ?_
              replace h := Sx.st_selT [false] h
              refine Sx.qn_ret [_] ⟨rfl, trivial⟩ ?_
              have b_ : (decide (((findI (ixOf s) i).1 : Int) = 0)) = true := by apply decide_eq_true; omega
              exact ⟨congrArg (fun z => Ending.returned (Value.bool z)) b_, h⟩
            · exact absurd c37 (by rw [(hf0 (by omega)).2]; decide)
          · refine Sx.wl_v rfl rfl (Sx.ov_move _ rfl) ?_
            refine Sx.wl_v rfl rfl (Sx.ov_move _ rfl) ?_
            refine Sx.wl_v rfl rfl (Sx.ov_lens _ rfl Try.underlying9) ?_
            refine Sx.wl_v rfl rfl (Sx.ov_bin _ rfl rfl (Sx.binR_geq)) ?_
            refine Sx.wl_v rfl rfl (Sx.ov_pick_false _ rfl rfl) ?_
            refine Sx.wl_nil ?_
            refine Sx.qn_then ?_
            refine Sx.wc_cond (by rfl) (fun c38 => ?_) (fun c38 => ?_)
            · refine Sx.wc_seq ?_
              refine Sx.wc_region ?_
              refine Sx.wl_v rfl rfl (Sx.ov_move _ rfl) ?_
              refine Sx.wl_v rfl rfl (Sx.ov_notb _ rfl) ?_
              refine Sx.wl_v rfl rfl (Sx.ov_move _ rfl) ?_
              refine Sx.wl_splitb 70 rfl (fun c39 => ?_) (fun c39 => ?_)
              · refine Sx.wl_v rfl rfl (Sx.ov_move _ rfl) ?_
                refine Sx.wl_v rfl rfl (Sx.ov_bin _ rfl rfl (Sx.binR_eql)) ?_
                refine Sx.wl_v rfl rfl (Sx.ov_pick_true _ rfl rfl) ?_
                refine Sx.wl_v rfl rfl (Sx.ov_assign _ rfl) ?_
                refine Sx.wl_nil ?_
                refine Sx.qn_then ?_
                refine Sx.wc_ret ?_
                refine Sx.qn_then_ret ?_
                replace h := Sx.st_selT [false] h
                refine Sx.qn_ret [_] ⟨rfl, trivial⟩ ?_
                have b_ : (decide (((findI (ixOf s) i).1 : Int) = 0)) = true := by apply decide_eq_true; omega
                exact ⟨congrArg (fun z => Ending.returned (Value.bool z)) b_, h⟩
              · exact absurd c39 (by rw [(hf0 (by omega)).2]; decide)
            · refine Sx.wc_skip ?_
              refine Sx.qn_then ?_
              refine Sx.wc_seq ?_
              refine Sx.wc_region ?_
              refine Sx.wl_v rfl rfl (Sx.ov_move _ rfl) ?_
              refine Sx.wl_v rfl rfl (Sx.ov_move _ rfl) ?_
              refine Sx.wl_call _ rfl rfl rfl ent17 (Span_calls (R := [] ++ R) g2 (ixOf s) ((findI (ixOf s) i).1) (by exact ixOf_ok _ (by omega)) h) ?_
              rintro e_ w_ ⟨rfl, h⟩
              refine ⟨_, rfl, ?_⟩
              refine Sx.wl_v rfl rfl (Sx.ov_move _ rfl) ?_
              refine Sx.wl_v rfl rfl (Sx.ov_extract [.int .i64 ((spanI (ixOf s) ((findI (ixOf s) i).1)).1), .int .i64 ((spanI (ixOf s) ((findI (ixOf s) i).1)).2.1), .bool ((spanI (ixOf s) ((findI (ixOf s) i).1)).2.2)] _ rfl rfl) ?_
              refine Sx.wl_v rfl rfl (Sx.ov_extract [.int .i64 ((spanI (ixOf s) ((findI (ixOf s) i).1)).1), .int .i64 ((spanI (ixOf s) ((findI (ixOf s) i).1)).2.1), .bool ((spanI (ixOf s) ((findI (ixOf s) i).1)).2.2)] _ rfl rfl) ?_
              refine Sx.wl_v rfl rfl (Sx.ov_extract [.int .i64 ((spanI (ixOf s) ((findI (ixOf s) i).1)).1), .int .i64 ((spanI (ixOf s) ((findI (ixOf s) i).1)).2.1), .bool ((spanI (ixOf s) ((findI (ixOf s) i).1)).2.2)] _ rfl rfl) ?_
              refine Sx.wl_v rfl rfl (Sx.ov_assign _ rfl) ?_
              refine Sx.wl_v rfl rfl (Sx.ov_assign _ rfl) ?_
              refine Sx.wl_v rfl rfl (Sx.ov_assign _ rfl) ?_
              refine Sx.wl_nil ?_
              refine Sx.qn_then ?_
              refine Sx.wc_seq ?_
              refine Sx.wc_region ?_
              refine Sx.wl_v rfl rfl (Sx.ov_move _ rfl) ?_
              refine Sx.wl_v rfl rfl (Sx.ov_move _ rfl) ?_
              refine Sx.wl_splitb 82 rfl (fun c40 => ?_) (fun c40 => ?_)
              · refine Sx.wl_v rfl rfl (Sx.ov_move _ rfl) ?_
                refine Sx.wl_v rfl rfl (Sx.ov_pick_true _ rfl rfl) ?_
                refine Sx.wl_v rfl rfl (Sx.ov_move _ rfl) ?_
                refine Sx.wl_splitb 85 rfl (fun c41 => ?_) (fun c41 => ?_)
                · refine Sx.wl_v rfl rfl (Sx.ov_move _ rfl) ?_
                  refine Sx.wl_v rfl rfl (Sx.ov_move _ rfl) ?_
                  refine Sx.wl_v rfl rfl (Sx.ov_move _ rfl) ?_
                  refine Sx.wl_call _ rfl rfl rfl ent19 (rFind_calls (R := [ixB g2 (ixOf s)] ++ R) s i (by omega) (by omega) (by omega) h) ?_
                  rintro e_ w_ ⟨rfl, h⟩
                  refine ⟨_, rfl, ?_⟩
                  refine Sx.wl_v rfl rfl (Sx.ov_bin _ rfl rfl (Sx.binR_eql)) ?_
                  refine Sx.wl_v rfl rfl (Sx.ov_pick_true _ rfl rfl) ?_
                  refine Sx.wl_v rfl rfl (Sx.ov_move _ rfl) ?_
                  refine Sx.wl_split 92 rfl (fun c42 => ?_) (fun c42 => ?_)
                  · refine Sx.wl_v rfl rfl (Sx.ov_move _ rfl) ?_
                    refine Sx.wl_v rfl rfl (Sx.ov_move _ rfl) ?_
                    refine Sx.wl_v rfl rfl (Sx.ov_bin _ rfl rfl (Sx.binR_leq)) ?_
                    refine Sx.wl_v rfl rfl (Sx.ov_pick_true _ rfl rfl) ?_
                    refine Sx.wl_v rfl rfl (Sx.ov_move _ rfl) ?_
                    refine Sx.wl_split 97 rfl (fun c43 => ?_) (fun c43 => ?_)
                    · refine Sx.wl_v rfl rfl (Sx.ov_move _ rfl) ?_
                      refine Sx.wl_v rfl rfl (Sx.ov_move _ rfl) ?_
                      refine Sx.wl_v rfl rfl (Sx.ov_bin _ rfl rfl (Sx.binR_lss)) ?_
                      refine Sx.wl_v rfl rfl (Sx.ov_pick_true _ rfl rfl) ?_
                      refine Sx.wl_v rfl rfl (Sx.ov_assign _ rfl) ?_
                      refine Sx.wl_nil ?_
                      refine Sx.qn_then ?_
                      refine Sx.wc_ret ?_
                      replace h := Sx.st_selT [false] h
                      refine Sx.qn_ret [_] ⟨rfl, trivial⟩ ?_
                      have b_ : (decide ((i : Int) < ((spanI (ixOf s) ((findI (ixOf s) i).1)).2.1))) = true := by apply decide_eq_true; omega
                      exact ⟨congrArg (fun z => Ending.returned (Value.bool z)) b_, h⟩
                    · refine Sx.wl_skip rfl rfl ?_
                      refine Sx.wl_skip rfl rfl ?_
                      refine Sx.wl_skip rfl rfl ?_
                      refine Sx.wl_v rfl rfl (Sx.ov_pick_false _ rfl rfl) ?_
                      refine Sx.wl_v rfl rfl (Sx.ov_assign _ rfl) ?_
                      refine Sx.wl_nil ?_
                      refine Sx.qn_then ?_
                      refine Sx.wc_ret ?_
                      replace h := Sx.st_selT [false] h
                      refine Sx.qn_ret [_] ⟨rfl, trivial⟩ ?_
                      exfalso
                      omega
                  · refine Sx.wl_skip rfl rfl ?_
                    refine Sx.wl_skip rfl rfl ?_
                    refine Sx.wl_skip rfl rfl ?_
                    refine Sx.wl_v rfl rfl (Sx.ov_pick_false _ rfl rfl) ?_
                    refine Sx.wl_v rfl rfl (Sx.ov_move _ rfl) ?_
                    refine Sx.wl_skip rfl rfl ?_
                    refine Sx.wl_skip rfl rfl ?_
                    refine Sx.wl_skip rfl rfl ?_
                    refine Sx.wl_v rfl rfl (Sx.ov_pick_false _ rfl rfl) ?_
                    refine Sx.wl_v rfl rfl (Sx.ov_assign _ rfl) ?_
                    refine Sx.wl_nil ?_
                    refine Sx.qn_then ?_
                    refine Sx.wc_ret ?_
                    replace h := Sx.st_selT [false] h
                    refine Sx.qn_ret [_] ⟨rfl, trivial⟩ ?_
                    exfalso
                    omega
                · exact absurd c41 (by rw [(hf1 ⟨by omega, by omega⟩).2.2.2.2]; decide)
              · exact absurd c40 (by rw [(hf1 ⟨by omega, by omega⟩).2.1]; decide)
end Go.Proofs.Yteancplgfjhagaa.Paras.L
