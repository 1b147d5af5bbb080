/- The walk of ParasOver. -/
import Derived.Test.YteancplgfjhagaaProg
import Derived.Test.YteancplgfjhagaaSxGlue
import Derived.Test.YteancplgfjhagaaSxKinds
import Derived.Test.YteancplgfjhagaaParasTh
import Derived.Test.YteancplgfjhagaaSxParas
import Derived.Test.YteancplgfjhagaaSxParasB
import Derived.Test.YteancplgfjhagaaSxPlain
namespace Go.Proofs.Yteancplgfjhagaa.Paras.L
open Go Go.RowKit Go.Proofs.YteancplgfjhagaaW.PrintWords Go.Proofs.Yteancplgfjhagaa.Kinds Go.Proofs.Yteancplgfjhagaa.Paras Go.Proofs.Yteancplgfjhagaa.Paras.B Go.Proofs.Yteancplgfjhagaa.Paras.C
set_option linter.unusedVariables false
set_option linter.unusedSimpArgs false
theorem ent11 : Sx.Ent Try.prog 11 := ⟨Try.f11, Try.func11, by kernel_rfl, by kernel_rfl⟩
theorem ent15 : Sx.Ent Try.prog 15 := ⟨Try.f15, Try.func15, by kernel_rfl, by kernel_rfl⟩
theorem ent21 : Sx.Ent Try.prog 21 := ⟨Try.f21, Try.func21, by kernel_rfl, by kernel_rfl⟩
theorem zo41 : Sx.zeroOf Try.prog 41 = some (.agg #[.int .i64 (0), .int .i64 (0), .int .i64 (0)]) := by kernel_rfl
theorem sh41 : Sx.shapeOf Try.prog 41 = some (true, 3) := by kernel_rfl
theorem ent22 : Sx.Ent Try.prog 22 := ⟨Try.f22, Try.func22, by kernel_rfl, by kernel_rfl⟩
theorem eqs41 : (Try.prog.stoodInHeld 41 || Try.prog.eqGuardType Try.prog.depth 41) = false := by kernel_rfl
theorem eqf41 : Try.prog.underlying 41 = some (.struct (Try.prog.fieldsOf 41)) := by kernel_rfl
theorem ent19 : Sx.Ent Try.prog 19 := ⟨Try.f19, Try.func19, by kernel_rfl, by kernel_rfl⟩
theorem ent23 : Sx.Ent Try.prog 23 := ⟨Try.f23, Try.func23, by kernel_rfl, by kernel_rfl⟩

theorem over_cases (s : ByteArray) {a b : Int} : (errI (ixOf s) a b ≠ 0 → (overI (ixOf s) a b).1.1 = 0 ∧ (overI (ixOf s) a b).1.2.1 = 0 ∧ (overI (ixOf s) a b).1.2.2 = 0 ∧ (overI (ixOf s) a b).2 = errI (ixOf s) a b) ∧
    (errI (ixOf s) a b = 0 → a = b → (overI (ixOf s) a b).1.1 = 0 ∧ (overI (ixOf s) a b).1.2.1 = 0 ∧ (overI (ixOf s) a b).1.2.2 = 0 ∧ (overI (ixOf s) a b).2 = 0) ∧
    (errI (ixOf s) a b = 0 → a ≠ b → (overI (ixOf s) a b).1.1 = (nlc s a.toNat : Int) ∧ (overI (ixOf s) a b).1.2.1 = (nlc s (b - 1).toNat : Int) - (nlc s a.toNat : Int) + 1 ∧ (overI (ixOf s) a b).1.2.2 = (nlc s (b - 1).toNat : Int) - (nlc s a.toNat : Int) + 1 ∧ (overI (ixOf s) a b).2 = 0) := by
  refine ⟨fun h => ?_, fun h h2 => ?_, fun h h2 => ?_⟩
  · have e : overI (ixOf s) a b = ((0, 0, 0), errI (ixOf s) a b) := by unfold overI; rw [if_pos h]
    rw [e]; exact ⟨rfl, rfl, rfl, rfl⟩
  · have e : overI (ixOf s) a b = ((0, 0, 0), 0) := by unfold overI; rw [if_neg (by omega), if_pos h2]
    rw [e]; exact ⟨rfl, rfl, rfl, rfl⟩
  · have h3 := err_ok (x := ixOf s) (a := a) (b := b) (by omega)
    rw [ix_size] at h3
    have e : overI (ixOf s) a b = ((((findP (lensOf s) a : Nat) : Int), ((findP (lensOf s) (b - 1) : Nat) : Int) - ((findP (lensOf s) a : Nat) : Int) + 1, ((findP (lensOf s) (b - 1) : Nat) : Int) - ((findP (lensOf s) a : Nat) : Int) + 1), 0) := by unfold overI; rw [if_neg (by omega), if_neg h2]; rfl
    have e1 := find_eq s a.toNat (by omega)
    have e2 := find_eq s (b - 1).toNat (by omega)
    rw [show ((a.toNat : Nat) : Int) = a by omega] at e1
    rw [show (((b - 1).toNat : Nat) : Int) = b - 1 by omega] at e2
    rw [e, e1, e2]; exact ⟨rfl, rfl, rfl, rfl⟩

set_option maxRecDepth 100000 in
theorem ParasOver_calls {w0 w : World} {F0 : Nat → Prop} {R : List Sx.HP} {v0 : World} (s : ByteArray) (a : Int) (b : Int) (hv : Sx.RO v0 w0 F0) (hzs : s.size ≤ 9223372036854775807) (h : Sx.St w0 F0 ([] ++ R) w) : Calls Try.prog 6 #[.string (s), .int .i64 (a), .int .i64 (b)] w (fun e w1 => e = .returned (.bool true) ∧ Sx.St w0 F0 R w1) := by
  have hlo := lensOf_ok s
  have hxs := ix_size s
  have hxl := congrArg List.length (ix_lens s)
  refine Sx.calls_fn (vs := [.string (s), .int .i64 (a), .int .i64 (b)]) Try.func6 rfl Try.ntmps6 rfl ?_
  refine Sx.wc_seq ?_
  refine Sx.wc_region ?_
  refine Sx.wl_v rfl rfl (Sx.ov_assign _ rfl) ?_
  refine Sx.wl_nil ?_
  refine Sx.qn_then ?_
  refine Sx.wc_seq ?_
  refine Sx.wc_seq ?_
  refine Sx.wc_region ?_
  refine Sx.wl_call _ rfl rfl rfl ent11 (awake_calls (R := [] ++ R) h) ?_
  rintro e_ w_ ⟨rfl, h⟩
  refine ⟨_, rfl, ?_⟩
  refine Sx.wl_v rfl rfl (Sx.ov_notb _ rfl) ?_
  refine Sx.wl_nil ?_
  refine Sx.qn_then ?_
  refine Sx.wc_cond_false rfl ?_
  refine Sx.wc_skip ?_
  refine Sx.qn_then ?_
  refine Sx.wc_seq ?_
  refine Sx.wc_seq ?_
  refine Sx.wc_region ?_
  refine Sx.wl_v rfl rfl (Sx.ov_move _ rfl) ?_
  refine Sx.wl_v rfl rfl (Sx.ov_lens _ rfl Try.underlying9) ?_
  refine Sx.wl_v rfl rfl (Sx.ov_bin _ rfl rfl (Sx.binR_gtr)) ?_
  refine Sx.wl_nil ?_
  refine Sx.qn_then ?_
  refine Sx.wc_cond (by rfl) (fun c1 => ?_) (fun c1 => ?_)
  · refine Sx.wc_seq ?_
    refine Sx.wc_region ?_
    refine Sx.wl_v rfl rfl (Sx.ov_assign _ rfl) ?_
    refine Sx.wl_nil ?_
    refine Sx.qn_then ?_
    refine Sx.wc_ret ?_
    refine Sx.qn_then_ret ?_
    refine Sx.qn_ret [_] ⟨rfl, trivial⟩ ?_
    exact ⟨rfl, h⟩
  · have hix := ixOf_ok s (by omega)
    have hov := over_cases s (a := a) (b := b)
    refine Sx.wc_skip ?_
    refine Sx.qn_then ?_
    refine Sx.wc_seq ?_
    refine Sx.wc_region ?_
    refine Sx.wl_v rfl rfl (Sx.ov_move _ rfl) ?_
    refine Sx.wl_call _ rfl rfl rfl ent15 (New_calls (R := [] ++ R) s (by omega) h) ?_
    rintro e_ w_ ⟨g2, rfl, h⟩
    refine ⟨_, rfl, ?_⟩
    refine Sx.wl_v rfl rfl (Sx.ov_assign _ rfl) ?_
    refine Sx.wl_nil ?_
    refine Sx.qn_then ?_
    refine Sx.wc_seq ?_
    refine Sx.wc_seq ?_
    refine Sx.wc_region ?_
    refine Sx.wl_v rfl rfl (Sx.ov_move _ rfl) ?_
    refine Sx.wl_v rfl rfl (Sx.ov_bin (.bool false) rfl rfl (Sx.binR_eqnil Try.underlying28)) ?_
    refine Sx.wl_nil ?_
    refine Sx.qn_then ?_
    refine Sx.wc_cond_false rfl ?_
    refine Sx.wc_skip ?_
    refine Sx.qn_then ?_
    refine Sx.wc_seq ?_
    refine Sx.wc_region ?_
    refine Sx.wl_v rfl rfl (Sx.ov_move _ rfl) ?_
    refine Sx.wl_v rfl rfl (Sx.ov_move _ rfl) ?_
    refine Sx.wl_v rfl rfl (Sx.ov_move _ rfl) ?_
    refine Sx.wl_call _ rfl rfl rfl ent21 (Over_calls (R := [] ++ R) g2 (ixOf s) a b (by exact ixOf_ok _ (by omega)) h) ?_
    rintro e_ w_ ⟨rfl, h⟩
    refine ⟨_, rfl, ?_⟩
    refine Sx.wl_v rfl rfl (Sx.ov_move _ rfl) ?_
    refine Sx.wl_v rfl rfl (Sx.ov_extract [.agg #[.int .i64 ((overI (ixOf s) a b).1.1), .int .i64 ((overI (ixOf s) a b).1.2.1), .int .i64 ((overI (ixOf s) a b).1.2.2)], .int .i64 ((overI (ixOf s) a b).2)] _ rfl rfl) ?_
    refine Sx.wl_v rfl rfl (Sx.ov_extract [.agg #[.int .i64 ((overI (ixOf s) a b).1.1), .int .i64 ((overI (ixOf s) a b).1.2.1), .int .i64 ((overI (ixOf s) a b).1.2.2)], .int .i64 ((overI (ixOf s) a b).2)] _ rfl rfl) ?_
    refine Sx.wl_alloc _ h rfl rfl zo41 (fun b3 _ h => ?_)
    replace h : Sx.St _ _ (Sx.blk b3 [.int .i64 (0), .int .i64 (0), .int .i64 (0)] 41 :: _) _ := h
    refine Sx.wl_storebN 0 [.int .i64 ((overI (ixOf s) a b).1.1), .int .i64 ((overI (ixOf s) a b).1.2.1), .int .i64 ((overI (ixOf s) a b).1.2.2)] [.int .i64 ((overI (ixOf s) a b).1.1), .int .i64 ((overI (ixOf s) a b).1.2.1), .int .i64 ((overI (ixOf s) a b).1.2.2)] h rfl rfl rfl rfl (by simp [Value.oneCell']) sh41 rfl rfl (fun _ h => ?_)
    refine Sx.wl_v rfl rfl (Sx.ov_assign _ rfl) ?_
    refine Sx.wl_nil ?_
    refine Sx.qn_then ?_
    refine Sx.wc_seq ?_
    refine Sx.wc_seq ?_
    refine Sx.wc_region ?_
    refine Sx.wl_v rfl rfl (Sx.ov_move _ rfl) ?_
    refine Sx.wl_v rfl rfl (Sx.ov_move _ rfl) ?_
    refine Sx.wl_v rfl rfl (Sx.ov_move _ rfl) ?_
    refine Sx.wl_call _ rfl rfl rfl ent22 (rSpan_calls (R := [Sx.blk b3 [.int .i64 ((overI (ixOf s) a b).1.1), .int .i64 ((overI (ixOf s) a b).1.2.1), .int .i64 ((overI (ixOf s) a b).1.2.2)] 41, ixB g2 (ixOf s)] ++ R) s a b  h) ?_
    rintro e_ w_ ⟨rfl, h⟩
    refine ⟨_, rfl, ?_⟩
    refine Sx.wl_v rfl rfl (Sx.ov_assign _ rfl) ?_
    refine Sx.wl_nil ?_
    refine Sx.qn_then ?_
    refine Sx.wc_seq ?_
    refine Sx.wc_region ?_
    refine Sx.wl_v rfl rfl (Sx.ov_move _ rfl) ?_
    refine Sx.wl_v rfl rfl (Sx.ov_bin _ rfl rfl (Sx.binR_neq)) ?_
    refine Sx.wl_v rfl rfl (Sx.ov_move _ rfl) ?_
    refine Sx.wl_split 35 rfl (fun c4 => ?_) (fun c4 => ?_)
    · refine Sx.wl_skip rfl rfl ?_
      refine Sx.wl_skip rfl rfl ?_
      refine Sx.wl_skip rfl rfl ?_
      refine Sx.wl_v rfl rfl (Sx.ov_pick_true _ rfl rfl) ?_
      refine Sx.wl_nil ?_
      refine Sx.qn_then ?_
      refine Sx.wc_cond_true rfl ?_
      refine Sx.wc_seq ?_
      refine Sx.wc_region ?_
      refine Sx.wl_v rfl rfl (Sx.ov_move _ rfl) ?_
      refine Sx.wl_v rfl rfl (Sx.ov_move _ rfl) ?_
      refine Sx.wl_v rfl rfl (Sx.ov_bin _ rfl rfl (Sx.binR_eql)) ?_
      refine Sx.wl_v rfl rfl (Sx.ov_move _ rfl) ?_
      refine Sx.wl_split 43 rfl (fun c5 => ?_) (fun c5 => ?_)
      · refine Sx.wl_v rfl rfl (Sx.ov_loadbN 0 [.int .i64 ((overI (ixOf s) a b).1.1), .int .i64 ((overI (ixOf s) a b).1.2.1), .int .i64 ((overI (ixOf s) a b).1.2.2)] h rfl rfl sh41 rfl) ?_
        refine Sx.wl_v rfl rfl (Sx.ov_build [] [.int .i64 (0), .int .i64 (0), .int .i64 (0)] rfl rfl (by kernel_rfl)) ?_
        refine Sx.wl_v rfl rfl (Sx.ov_bin _ rfl rfl (Sx.binR_eqS (((((overI (ixOf s) a b).1.1 : Int) == 0) && ((((overI (ixOf s) a b).1.2.1 : Int) == 0) && ((((overI (ixOf s) a b).1.2.2 : Int) == 0) && true)))) (((overI (ixOf s) a b).1.1 : Int) = 0 ∧ ((overI (ixOf s) a b).1.2.1 : Int) = 0 ∧ ((overI (ixOf s) a b).1.2.2 : Int) = 0) eqf41 eqs41 (by kernel_rfl) (by rw [Bool.eq_iff_iff]; simp))) ?_
        refine Sx.wl_v rfl rfl (Sx.ov_pick_true _ rfl rfl) ?_
        refine Sx.wl_v rfl rfl (Sx.ov_assign _ rfl) ?_
        refine Sx.wl_nil ?_
        refine Sx.qn_then ?_
        refine Sx.wc_ret ?_
        refine Sx.qn_then_ret ?_
        replace h := Sx.st_selT [false, false] h
        refine Sx.qn_ret [_] ⟨rfl, trivial⟩ ?_
        have b_ : (decide (((overI (ixOf s) a b).1.1 : Int) = 0 ∧ ((overI (ixOf s) a b).1.2.1 : Int) = 0 ∧ ((overI (ixOf s) a b).1.2.2 : Int) = 0)) = true := by apply decide_eq_true; omega
        exact ⟨congrArg (fun z => Ending.returned (Value.bool z)) b_, h⟩
      · exfalso
        first | omega | (apply c5; refine ⟨?_, ?_, ?_⟩ <;> omega)
    · have her := err_ok c4
      have hna : nlc s a.toNat ≤ a.toNat := by rw [nlc_cut]; exact (cut_le _ _).2.1
      have hnb : nlc s (b - 1).toNat ≤ (b - 1).toNat := by rw [nlc_cut]; exact (cut_le _ _).2.1
      refine Sx.wl_v rfl rfl (Sx.ov_move _ rfl) ?_
      refine Sx.wl_v rfl rfl (Sx.ov_move _ rfl) ?_
      refine Sx.wl_v rfl rfl (Sx.ov_bin _ rfl rfl (Sx.binR_eql)) ?_
      refine Sx.wl_v rfl rfl (Sx.ov_pick_false _ rfl rfl) ?_
      refine Sx.wl_nil ?_
      refine Sx.qn_then ?_
      refine Sx.wc_cond (by rfl) (fun c6 => ?_) (fun c6 => ?_)
      · refine Sx.wc_seq ?_
        refine Sx.wc_region ?_
        refine Sx.wl_v rfl rfl (Sx.ov_move _ rfl) ?_
        refine Sx.wl_v rfl rfl (Sx.ov_move _ rfl) ?_
        refine Sx.wl_v rfl rfl (Sx.ov_bin _ rfl rfl (Sx.binR_eql)) ?_
        refine Sx.wl_v rfl rfl (Sx.ov_move _ rfl) ?_
        refine Sx.wl_split 43 rfl (fun c7 => ?_) (fun c7 => ?_)
        · refine Sx.wl_v rfl rfl (Sx.ov_loadbN 0 [.int .i64 ((overI (ixOf s) a b).1.1), .int .i64 ((overI (ixOf s) a b).1.2.1), .int .i64 ((overI (ixOf s) a b).1.2.2)] h rfl rfl sh41 rfl) ?_
          refine Sx.wl_v rfl rfl (Sx.ov_build [] [.int .i64 (0), .int .i64 (0), .int .i64 (0)] rfl rfl (by kernel_rfl)) ?_
          refine Sx.wl_v rfl rfl (Sx.ov_bin _ rfl rfl (Sx.binR_eqS (((((overI (ixOf s) a b).1.1 : Int) == 0) && ((((overI (ixOf s) a b).1.2.1 : Int) == 0) && ((((overI (ixOf s) a b).1.2.2 : Int) == 0) && true)))) (((overI (ixOf s) a b).1.1 : Int) = 0 ∧ ((overI (ixOf s) a b).1.2.1 : Int) = 0 ∧ ((overI (ixOf s) a b).1.2.2 : Int) = 0) eqf41 eqs41 (by kernel_rfl) (by rw [Bool.eq_iff_iff]; simp))) ?_
          refine Sx.wl_v rfl rfl (Sx.ov_pick_true _ rfl rfl) ?_
          refine Sx.wl_v rfl rfl (Sx.ov_assign _ rfl) ?_
          refine Sx.wl_nil ?_
          refine Sx.qn_then ?_
          refine Sx.wc_ret ?_
          refine Sx.qn_then_ret ?_
          replace h := Sx.st_selT [false, false] h
          refine Sx.qn_ret [_] ⟨rfl, trivial⟩ ?_
          have b_ : (decide (((overI (ixOf s) a b).1.1 : Int) = 0 ∧ ((overI (ixOf s) a b).1.2.1 : Int) = 0 ∧ ((overI (ixOf s) a b).1.2.2 : Int) = 0)) = true := by apply decide_eq_true; omega
          exact ⟨congrArg (fun z => Ending.returned (Value.bool z)) b_, h⟩
        · exfalso
          first | omega | (apply c7; refine ⟨?_, ?_, ?_⟩ <;> omega)
      · refine Sx.wc_skip ?_
        refine Sx.qn_then ?_
        refine Sx.wc_seq ?_
        refine Sx.wc_region ?_
        refine Sx.wl_v rfl rfl (Sx.ov_move _ rfl) ?_
        refine Sx.wl_v rfl rfl (Sx.ov_move _ rfl) ?_
        refine Sx.wl_call _ rfl rfl rfl ent19 (rFind_calls (R := [Sx.blk b3 [.int .i64 ((overI (ixOf s) a b).1.1), .int .i64 ((overI (ixOf s) a b).1.2.1), .int .i64 ((overI (ixOf s) a b).1.2.2)] 41, ixB g2 (ixOf s)] ++ R) s a (by omega) (by omega) (by omega) h) ?_
        rintro e_ w_ ⟨rfl, h⟩
        refine ⟨_, rfl, ?_⟩
        refine Sx.wl_v rfl rfl (Sx.ov_move _ rfl) ?_
        refine Sx.wl_v rfl rfl (Sx.ov_move _ rfl) ?_
        refine Sx.wl_v rfl rfl (Sx.ov_bin _ rfl rfl (Sx.binR_sub (r := b - 1) (Sx.w64 (by omega)))) ?_
        refine Sx.wl_call _ rfl rfl rfl ent19 (rFind_calls (R := [Sx.blk b3 [.int .i64 ((overI (ixOf s) a b).1.1), .int .i64 ((overI (ixOf s) a b).1.2.1), .int .i64 ((overI (ixOf s) a b).1.2.2)] 41, ixB g2 (ixOf s)] ++ R) s (b - 1) (by omega) (by omega) (by omega) h) ?_
        rintro e_ w_ ⟨rfl, h⟩
        refine ⟨_, rfl, ?_⟩
        refine Sx.wl_v rfl rfl (Sx.ov_assign _ rfl) ?_
        refine Sx.wl_v rfl rfl (Sx.ov_assign _ rfl) ?_
        refine Sx.wl_nil ?_
        refine Sx.qn_then ?_
        refine Sx.wc_seq ?_
        refine Sx.wc_region ?_
        refine Sx.wl_v rfl rfl (Sx.ov_move _ rfl) ?_
        refine Sx.wl_v rfl rfl (Sx.ov_bin _ rfl rfl (Sx.binR_eql)) ?_
        refine Sx.wl_v rfl rfl (Sx.ov_move _ rfl) ?_
        refine Sx.wl_split 57 rfl (fun c8 => ?_) (fun c8 => ?_)
        · refine Sx.wl_v rfl rfl (Sx.ov_loadbN 0 [.int .i64 ((overI (ixOf s) a b).1.1), .int .i64 ((overI (ixOf s) a b).1.2.1), .int .i64 ((overI (ixOf s) a b).1.2.2)] h rfl rfl sh41 rfl) ?_
          refine Sx.wl_v rfl rfl (Sx.ov_move _ rfl) ?_
          refine Sx.wl_v rfl rfl (Sx.ov_move _ rfl) ?_
          refine Sx.wl_v rfl rfl (Sx.ov_move _ rfl) ?_
          refine Sx.wl_v rfl rfl (Sx.ov_bin _ rfl rfl (Sx.binR_sub (r := (((nlc s ((b - 1) : Int).toNat) : Int)) - (((nlc s (a : Int).toNat) : Int))) (Sx.w64 (by omega)))) ?_
          refine Sx.wl_v rfl rfl (Sx.ov_bin _ rfl rfl (Sx.binR_add (r := ((((nlc s ((b - 1) : Int).toNat) : Int)) - (((nlc s (a : Int).toNat) : Int))) + 1) (Sx.w64 (by omega)))) ?_
          refine Sx.wl_v rfl rfl (Sx.ov_move _ rfl) ?_
          refine Sx.wl_v rfl rfl (Sx.ov_move _ rfl) ?_
          refine Sx.wl_v rfl rfl (Sx.ov_bin _ rfl rfl (Sx.binR_sub (r := (((nlc s ((b - 1) : Int).toNat) : Int)) - (((nlc s (a : Int).toNat) : Int))) (Sx.w64 (by omega)))) ?_
          refine Sx.wl_v rfl rfl (Sx.ov_bin _ rfl rfl (Sx.binR_add (r := ((((nlc s ((b - 1) : Int).toNat) : Int)) - (((nlc s (a : Int).toNat) : Int))) + 1) (Sx.w64 (by omega)))) ?_
          refine Sx.wl_v rfl rfl (Sx.ov_build [(0, .int .i64 (((nlc s (a : Int).toNat) : Int))), (1, .int .i64 (((((nlc s ((b - 1) : Int).toNat) : Int)) - (((nlc s (a : Int).toNat) : Int))) + 1)), (2, .int .i64 (((((nlc s ((b - 1) : Int).toNat) : Int)) - (((nlc s (a : Int).toNat) : Int))) + 1))] [.int .i64 (((nlc s (a : Int).toNat) : Int)), .int .i64 (((((nlc s ((b - 1) : Int).toNat) : Int)) - (((nlc s (a : Int).toNat) : Int))) + 1), .int .i64 (((((nlc s ((b - 1) : Int).toNat) : Int)) - (((nlc s (a : Int).toNat) : Int))) + 1)] rfl rfl (by kernel_rfl)) ?_
          refine Sx.wl_v rfl rfl (Sx.ov_bin _ rfl rfl (Sx.binR_eqS (((((overI (ixOf s) a b).1.1 : Int) == (((nlc s (a : Int).toNat) : Int))) && ((((overI (ixOf s) a b).1.2.1 : Int) == (((((nlc s ((b - 1) : Int).toNat) : Int)) - (((nlc s (a : Int).toNat) : Int))) + 1)) && ((((overI (ixOf s) a b).1.2.2 : Int) == (((((nlc s ((b - 1) : Int).toNat) : Int)) - (((nlc s (a : Int).toNat) : Int))) + 1)) && true)))) (((overI (ixOf s) a b).1.1 : Int) = (((nlc s (a : Int).toNat) : Int)) ∧ ((overI (ixOf s) a b).1.2.1 : Int) = (((((nlc s ((b - 1) : Int).toNat) : Int)) - (((nlc s (a : Int).toNat) : Int))) + 1) ∧ ((overI (ixOf s) a b).1.2.2 : Int) = (((((nlc s ((b - 1) : Int).toNat) : Int)) - (((nlc s (a : Int).toNat) : Int))) + 1)) eqf41 eqs41 (by kernel_rfl) (by rw [Bool.eq_iff_iff]; simp))) ?_
          refine Sx.wl_v rfl rfl (Sx.ov_pick_true _ rfl rfl) ?_
          refine Sx.wl_v rfl rfl (Sx.ov_move _ rfl) ?_
          refine Sx.wl_split 71 rfl (fun c9 => ?_) (fun c9 => ?_)
          · refine Sx.wl_v rfl rfl (Sx.ov_move _ rfl) ?_
            refine Sx.wl_v rfl rfl (Sx.ov_move _ rfl) ?_
            replace h := Sx.st_front 1 h
            refine Sx.wl_call _ rfl rfl rfl ent23 (is_calls (R := [Sx.blk b3 [.int .i64 ((overI (ixOf s) a b).1.1), .int .i64 ((overI (ixOf s) a b).1.2.1), .int .i64 ((overI (ixOf s) a b).1.2.2)] 41] ++ R) g2 s (by omega) h) ?_
            rintro e_ w_ ⟨rfl, h⟩
            refine ⟨_, rfl, ?_⟩
            refine Sx.wl_v rfl rfl (Sx.ov_pick_true _ rfl rfl) ?_
            refine Sx.wl_v rfl rfl (Sx.ov_assign _ rfl) ?_
            refine Sx.wl_nil ?_
            refine Sx.qn_then ?_
            refine Sx.wc_ret ?_
            replace h := Sx.st_selT [false, false] h
            refine Sx.qn_ret [_] ⟨rfl, trivial⟩ ?_
            exact ⟨rfl, h⟩
          · exfalso
            first | omega | (apply c9; refine ⟨?_, ?_, ?_⟩ <;> omega)
        · exfalso
          first | omega | (apply c8; refine ⟨?_, ?_, ?_⟩ <;> omega)
end Go.Proofs.Yteancplgfjhagaa.Paras.L
