/- The walk of ParasKeeps. -/
import Derived.Test.YteancplgfjhagaaProg
import Derived.Test.YteancplgfjhagaaSxGlue
import Derived.Test.YteancplgfjhagaaSxKinds
import Derived.Test.YteancplgfjhagaaParasTh
import Derived.Test.YteancplgfjhagaaSxParas
import Derived.Test.YteancplgfjhagaaSxParasB
import Derived.Test.YteancplgfjhagaaSxPlain
import Derived.Test.YteancplgfjhagaaParasIns
import Derived.Test.YteancplgfjhagaaParasDel
import Derived.Test.YteancplgfjhagaaSxEdit
import Derived.Test.YteancplgfjhagaaSxEditB
import Derived.Test.YteancplgfjhagaaSxStep
import Derived.Test.YteancplgfjhagaaSxCopy
import Derived.Test.YteancplgfjhagaaParasKeep
namespace Go.Proofs.Yteancplgfjhagaa.Paras.L
open Go Go.RowKit Go.Proofs.YteancplgfjhagaaW.PrintWords Go.Proofs.Yteancplgfjhagaa.Kinds Go.Proofs.Yteancplgfjhagaa.Paras Go.Proofs.Yteancplgfjhagaa.Paras.B Go.Proofs.Yteancplgfjhagaa.Paras.C Go.Proofs.Yteancplgfjhagaa.Paras.D Go.Proofs.Yteancplgfjhagaa.Paras.E Go.Proofs.Yteancplgfjhagaa.Paras.F Go.Proofs.Yteancplgfjhagaa.Paras.G
set_option linter.unusedVariables false
set_option linter.unusedSimpArgs false
theorem ent11 : Sx.Ent Try.prog 11 := ⟨Try.f11, Try.func11, by kernel_rfl, by kernel_rfl⟩
theorem fo49_3 : Sx.fieldOff Try.prog 49 3 = some 3 := by kernel_rfl
theorem sh9 : Sx.shapeOf Try.prog 9 = some (false, 1) := by kernel_rfl
theorem ent15 : Sx.Ent Try.prog 15 := ⟨Try.f15, Try.func15, by kernel_rfl, by kernel_rfl⟩
theorem sh49 : Sx.shapeOf Try.prog 49 = some (true, 4) := by kernel_rfl
theorem ent24 : Sx.Ent Try.prog 24 := ⟨Try.f24, Try.func24, by kernel_rfl, by kernel_rfl⟩
theorem zo41 : Sx.zeroOf Try.prog 41 = some (.agg #[.int .i64 (0), .int .i64 (0), .int .i64 (0)]) := by kernel_rfl
theorem sh41 : Sx.shapeOf Try.prog 41 = some (true, 3) := by kernel_rfl
theorem fo49_0 : Sx.fieldOff Try.prog 49 0 = some 0 := by kernel_rfl
theorem sh4 : Sx.shapeOf Try.prog 4 = some (false, 1) := by kernel_rfl
theorem fo49_1 : Sx.fieldOff Try.prog 49 1 = some 1 := by kernel_rfl
theorem sh3 : Sx.shapeOf Try.prog 3 = some (false, 1) := by kernel_rfl
theorem fo49_2 : Sx.fieldOff Try.prog 49 2 = some 2 := by kernel_rfl
theorem ent25 : Sx.Ent Try.prog 25 := ⟨Try.f25, Try.func25, by kernel_rfl, by kernel_rfl⟩
theorem fo41_1 : Sx.fieldOff Try.prog 41 1 = some 1 := by kernel_rfl
theorem fo41_2 : Sx.fieldOff Try.prog 41 2 = some 2 := by kernel_rfl
theorem ent13 : Sx.Ent Try.prog 13 := ⟨Try.f13, Try.func13, by kernel_rfl, by kernel_rfl⟩
theorem fo41_0 : Sx.fieldOff Try.prog 41 0 = some 0 := by kernel_rfl
theorem es23 : Sx.elemSz Try.prog 23 = some (3, 1) := by kernel_rfl
theorem ent26 : Sx.Ent Try.prog 26 := ⟨Try.f26, Try.func26, by kernel_rfl, by kernel_rfl⟩

theorem del_bnd {s : ByteArray} {a b : Int} : 0 ≤ (delI (ixOf s) a b).2.1.2.1 ∧ (delI (ixOf s) a b).2.1.2.1 ≤ (lensOf s).length + 2 ∧ 0 ≤ (delI (ixOf s) a b).2.1.2.2 ∧ (delI (ixOf s) a b).2.1.2.2 ≤ 1 := by
  have hbad := del_bad (s := s) (a := a) (b := b)
  by_cases he : errI (ixOf s) a b ≠ 0
  · have h := hbad.1 he; omega
  · by_cases hab : a = b
    · have h := hbad.2 he hab; omega
    · have hiv := del_iv he hab
      rcases hiv.2.2.2.2.2.2.2.2.2 with h | h <;> omega
theorem ins_bnd {s t : ByteArray} {a : Int} (hs : s.size ≤ 3000) (ht : t.size ≤ 3000) (h0 : (insI (ixOf s) a t).2.2 = 0) : 0 ≤ (insI (ixOf s) a t).2.1.2.1 ∧ (insI (ixOf s) a t).2.1.2.1 ≤ 1 ∧ 0 ≤ (insI (ixOf s) a t).2.1.2.2 ∧ (insI (ixOf s) a t).2.1.2.2 ≤ 20000 := by
  have hbad := ins_bad (s := s) (t := t) (a := a)
  by_cases h1 : a < 0 ∨ (s.size : Int) < a
  · have h := hbad.1 h1; omega
  · by_cases h2 : t = ByteArray.mk #[]
    · have h := hbad.2.1 h1 h2; omega
    · by_cases h3 : 65536 - (s.size : Int) < t.size
      · have h := hbad.2.2 h1 h2 h3; omega
      · have hiv := ins_iv (s := s) (t := t) (a := a) (by omega) (by omega) h2 h3
        have hn : 0 ≤ (insI (ixOf s) a t).2.1.2.2 := by
          have hiv2 : (insI (ixOf s) a t).2.1.2.2 = ((newLI (ixOf s) a t).length : Int) := by unfold insI; rw [if_neg (by rw [ix_size]; omega), if_neg h2, if_neg (by rw [ix_size]; exact h3)]
          omega
        have hlo := lensOf_ok (s.extract 0 a.toNat ++ t ++ s.extract a.toNat s.size)
        have hx1 := ext_le s 0 a.toNat
        have hx2 := ext_le s a.toNat s.size
        have hsz : (s.extract 0 a.toNat ++ t ++ s.extract a.toNat s.size).size ≤ 9000 := by rw [size_app, size_app]; omega
        rcases hiv.2.2.2 with h | h | h <;> omega

set_option maxRecDepth 100000 in
theorem ParasKeeps_calls {w0 w : World} {F0 : Nat → Prop} {R : List Sx.HP} {v0 : World} (s : ByteArray) (o : S49) (hv : Sx.RO v0 w0 F0) (hzs : s.size ≤ 9223372036854775807) (h : Sx.St w0 F0 ([] ++ R) w) : Calls Try.prog 7 #[.string (s), .agg #[.bool ((o).f0), .int .i64 ((o).f1), .int .i64 ((o).f2), .string ((o).f3)]] w (fun e w1 => e = .returned (.bool true) ∧ Sx.St w0 F0 R w1) := by
 have hlo := lensOf_ok s
 have hxs := ix_size s
 have hxl := congrArg List.length (ix_lens s)
 refine Sx.calls_fn (vs := [.string (s), .agg #[.bool ((o).f0), .int .i64 ((o).f1), .int .i64 ((o).f2), .string ((o).f3)]]) Try.func7 rfl Try.ntmps7 rfl ?_
 refine Sx.wc_seq ?_
 refine Sx.wc_region ?_
 refine Sx.wl_box _ h rfl rfl rfl (fun b1 _ h => ?_)
 replace h : Sx.St _ _ (Sx.blk b1 [.bool ((o).f0), .int .i64 ((o).f1), .int .i64 ((o).f2), .string ((o).f3)] 49 :: _) _ := h
 refine Sx.wl_v rfl rfl (Sx.ov_assign _ rfl) ?_
 refine Sx.wl_nil ?_
 refine Sx.qn_then ?_
 refine Sx.wc_seq ?_
 refine Sx.wc_seq ?_
 refine Sx.wc_region ?_
 refine Sx.wl_call _ rfl rfl rfl ent11 (awake_calls (R := [Sx.blk b1 [.bool ((o).f0), .int .i64 ((o).f1), .int .i64 ((o).f2), .string ((o).f3)] 49] ++ R) h) ?_
 rintro e_ w_ ⟨rfl, h⟩
 refine ⟨_, rfl, ?_⟩
 refine Sx.wl_v rfl rfl (Sx.ov_notb _ rfl) ?_
 refine Sx.wl_nil ?_
 refine Sx.qn_then ?_
 refine Sx.wc_cond_false rfl ?_
 refine Sx.wc_skip ?_
 refine Sx.qn_then ?_
 refine Sx.wc_seq ?_
 refine Sx.wc_seq ?_
 refine Sx.wc_region ?_
 refine Sx.wl_v rfl rfl (Sx.ov_move _ rfl) ?_
 refine Sx.wl_v rfl rfl (Sx.ov_lens _ rfl Try.underlying9) ?_
 refine Sx.wl_v rfl rfl (Sx.ov_bin _ rfl rfl (Sx.binR_gtr)) ?_
 refine Sx.wl_v rfl rfl (Sx.ov_move _ rfl) ?_
 refine Sx.wl_split 19 rfl (fun c2 => ?_) (fun c2 => ?_)
 ·
  refine Sx.wl_skip rfl rfl ?_
  refine Sx.wl_skip rfl rfl ?_
  refine Sx.wl_skip rfl rfl ?_
  refine Sx.wl_skip rfl rfl ?_
  refine Sx.wl_v rfl rfl (Sx.ov_pick_true _ rfl rfl) ?_
  refine Sx.wl_nil ?_
  refine Sx.qn_then ?_
  refine Sx.wc_cond_true rfl ?_
  refine Sx.wc_seq ?_
  refine Sx.wc_region ?_
  refine Sx.wl_v rfl rfl (Sx.ov_assign _ rfl) ?_
  refine Sx.wl_nil ?_
  refine Sx.qn_then ?_
  refine Sx.wc_ret ?_
  refine Sx.qn_then_ret ?_
  replace h := Sx.st_selT [false] h
  refine Sx.qn_ret [_] ⟨rfl, trivial⟩ ?_
  exact ⟨rfl, h⟩
 ·
  refine Sx.wl_v rfl rfl (Sx.ov_fieldAddr _ ⟨b1, 3, none⟩ _ rfl fo49_3 rfl) ?_
  refine Sx.wl_v rfl rfl (Sx.ov_loadb 0 _ h rfl rfl sh9 rfl) ?_
  refine Sx.wl_v rfl rfl (Sx.ov_lens _ rfl Try.underlying9) ?_
  refine Sx.wl_v rfl rfl (Sx.ov_bin _ rfl rfl (Sx.binR_gtr)) ?_
  refine Sx.wl_v rfl rfl (Sx.ov_pick_false _ rfl rfl) ?_
  refine Sx.wl_nil ?_
  refine Sx.qn_then ?_
  refine Sx.wc_cond (by rfl) (fun c3 => ?_) (fun c3 => ?_)
  ·
   refine Sx.wc_seq ?_
   refine Sx.wc_region ?_
   refine Sx.wl_v rfl rfl (Sx.ov_assign _ rfl) ?_
   refine Sx.wl_nil ?_
   refine Sx.qn_then ?_
   refine Sx.wc_ret ?_
   refine Sx.qn_then_ret ?_
   replace h := Sx.st_selT [false] h
   refine Sx.qn_ret [_] ⟨rfl, trivial⟩ ?_
   exact ⟨rfl, h⟩
  ·
   have hso := step_size s o
   refine Sx.wc_skip ?_
   refine Sx.qn_then ?_
   refine Sx.wc_seq ?_
   refine Sx.wc_region ?_
   refine Sx.wl_v rfl rfl (Sx.ov_move _ rfl) ?_
   refine Sx.wl_call _ rfl rfl rfl ent15 (New_calls (R := [Sx.blk b1 [.bool ((o).f0), .int .i64 ((o).f1), .int .i64 ((o).f2), .string ((o).f3)] 49] ++ R) s (by omega) h) ?_
   rintro e_ w_ ⟨g4, rfl, h⟩
   refine ⟨_, rfl, ?_⟩
   refine Sx.wl_v rfl rfl (Sx.ov_assign _ rfl) ?_
   refine Sx.wl_nil ?_
   refine Sx.qn_then ?_
   refine Sx.wc_seq ?_
   refine Sx.wc_seq ?_
   refine Sx.wc_region ?_
   refine Sx.wl_v rfl rfl (Sx.ov_move _ rfl) ?_
   refine Sx.wl_v rfl rfl (Sx.ov_bin (.bool false) rfl rfl (Sx.binR_eqnil Try.underlying28)) ?_
   refine Sx.wl_nil ?_
   refine Sx.qn_then ?_
   refine Sx.wc_cond_false rfl ?_
   refine Sx.wc_skip ?_
   refine Sx.qn_then ?_
   refine Sx.wc_seq ?_
   refine Sx.wc_region ?_
   refine Sx.wl_v rfl rfl (Sx.ov_move _ rfl) ?_
   refine Sx.wl_v rfl rfl (Sx.ov_move _ rfl) ?_
   refine Sx.wl_v rfl rfl (Sx.ov_loadbN 1 [.bool ((o).f0), .int .i64 ((o).f1), .int .i64 ((o).f2), .string ((o).f3)] h rfl rfl sh49 rfl) ?_
   refine Sx.wl_call _ rfl rfl rfl ent24 (step_calls (R := [Sx.blk b1 [.bool ((o).f0), .int .i64 ((o).f1), .int .i64 ((o).f2), .string ((o).f3)] 49] ++ R) g4 s o (by omega) (by omega) h) ?_
   rintro e_ w_ ⟨rfl, h⟩
   refine ⟨_, rfl, ?_⟩
   refine Sx.wl_v rfl rfl (Sx.ov_move _ rfl) ?_
   refine Sx.wl_v rfl rfl (Sx.ov_extract [.string (stepS s o), .agg #[.int .i64 ((stepI s o).1), .int .i64 ((stepI s o).2.1), .int .i64 ((stepI s o).2.2)], .bool true] _ rfl rfl) ?_
   refine Sx.wl_v rfl rfl (Sx.ov_extract [.string (stepS s o), .agg #[.int .i64 ((stepI s o).1), .int .i64 ((stepI s o).2.1), .int .i64 ((stepI s o).2.2)], .bool true] _ rfl rfl) ?_
   refine Sx.wl_v rfl rfl (Sx.ov_extract [.string (stepS s o), .agg #[.int .i64 ((stepI s o).1), .int .i64 ((stepI s o).2.1), .int .i64 ((stepI s o).2.2)], .bool true] _ rfl rfl) ?_
   refine Sx.wl_alloc _ h rfl rfl zo41 (fun b5 _ h => ?_)
   replace h : Sx.St _ _ (Sx.blk b5 [.int .i64 (0), .int .i64 (0), .int .i64 (0)] 41 :: _) _ := h
   refine Sx.wl_v rfl rfl (Sx.ov_assign _ rfl) ?_
   refine Sx.wl_storebN 0 [.int .i64 ((stepI s o).1), .int .i64 ((stepI s o).2.1), .int .i64 ((stepI s o).2.2)] [.int .i64 ((stepI s o).1), .int .i64 ((stepI s o).2.1), .int .i64 ((stepI s o).2.2)] h rfl rfl rfl rfl (by simp [Value.oneCell']) sh41 rfl rfl (fun _ h => ?_)
   refine Sx.wl_v rfl rfl (Sx.ov_assign _ rfl) ?_
   refine Sx.wl_nil ?_
   refine Sx.qn_then ?_
   refine Sx.wc_seq ?_
   refine Sx.wc_seq ?_
   refine Sx.wc_region ?_
   refine Sx.wl_v rfl rfl (Sx.ov_move _ rfl) ?_
   refine Sx.wl_v rfl rfl (Sx.ov_notb _ rfl) ?_
   refine Sx.wl_nil ?_
   refine Sx.qn_then ?_
   refine Sx.wc_cond_false rfl ?_
   refine Sx.wc_skip ?_
   refine Sx.qn_then ?_
   refine Sx.wc_seq ?_
   refine Sx.wc_region ?_
   refine Sx.wl_v rfl rfl (Sx.ov_move _ rfl) ?_
   refine Sx.wl_call _ rfl rfl rfl ent15 (New_calls (R := [Sx.blk b5 [.int .i64 ((stepI s o).1), .int .i64 ((stepI s o).2.1), .int .i64 ((stepI s o).2.2)] 41, ixB g4 (ixOf (stepS s o)), Sx.blk b1 [.bool ((o).f0), .int .i64 ((o).f1), .int .i64 ((o).f2), .string ((o).f3)] 49] ++ R) s (by omega) h) ?_
   rintro e_ w_ ⟨g6, rfl, h⟩
   refine ⟨_, rfl, ?_⟩
   refine Sx.wl_v rfl rfl (Sx.ov_assign _ rfl) ?_
   refine Sx.wl_nil ?_
   refine Sx.qn_then ?_
   refine Sx.wc_seq ?_
   refine Sx.wc_region ?_
   refine Sx.wl_alloc _ h rfl rfl zo41 (fun b7 _ h => ?_)
   replace h : Sx.St _ _ (Sx.blk b7 [.int .i64 (0), .int .i64 (0), .int .i64 (0)] 41 :: _) _ := h
   refine Sx.wl_nil ?_
   refine Sx.qn_then ?_
   refine Sx.wc_seq ?_
   refine Sx.wc_region ?_
   refine Sx.wl_v rfl rfl (Sx.ov_assign _ rfl) ?_
   refine Sx.wl_nil ?_
   refine Sx.qn_then ?_
   refine Sx.wc_seq ?_
   refine Sx.wc_seq ?_
   refine Sx.wc_region ?_
   refine Sx.wl_v rfl rfl (Sx.ov_fieldAddr _ ⟨b1, 0, none⟩ _ rfl fo49_0 rfl) ?_
   refine Sx.wl_v rfl rfl (Sx.ov_loadb 4 _ h rfl rfl sh4 rfl) ?_
   refine Sx.wl_nil ?_
   refine Sx.qn_then ?_
   refine Sx.wc_condb (by rfl) (fun c8 => ?_) (fun c8 => ?_)
   ·
    refine Sx.wc_region ?_
    refine Sx.wl_v rfl rfl (Sx.ov_move _ rfl) ?_
    refine Sx.wl_v rfl rfl (Sx.ov_fieldAddr _ ⟨b1, 1, none⟩ _ rfl fo49_1 rfl) ?_
    refine Sx.wl_v rfl rfl (Sx.ov_loadb 4 _ h rfl rfl sh3 rfl) ?_
    refine Sx.wl_v rfl rfl (Sx.ov_fieldAddr _ ⟨b1, 2, none⟩ _ rfl fo49_2 rfl) ?_
    refine Sx.wl_v rfl rfl (Sx.ov_loadb 4 _ h rfl rfl sh3 rfl) ?_
    replace h := Sx.st_front 1 h
    refine Sx.wl_call _ rfl rfl rfl ent25 (Delete_calls (R := [Sx.blk b7 [.int .i64 (0), .int .i64 (0), .int .i64 (0)] 41, Sx.blk b5 [.int .i64 ((stepI s o).1), .int .i64 ((stepI s o).2.1), .int .i64 ((stepI s o).2.2)] 41, ixB g4 (ixOf (stepS s o)), Sx.blk b1 [.bool ((o).f0), .int .i64 ((o).f1), .int .i64 ((o).f2), .string ((o).f3)] 49] ++ R) g6 (ixOf s) ((o).f1) ((o).f2) (by exact ixOf_ok _ (by omega)) h) ?_
    rintro e_ w_ ⟨rfl, h⟩
    refine ⟨_, rfl, ?_⟩
    refine Sx.wl_v rfl rfl (Sx.ov_move _ rfl) ?_
    refine Sx.wl_v rfl rfl (Sx.ov_extract [.agg #[.int .i64 ((delI (ixOf s) ((o).f1) ((o).f2)).2.1.1), .int .i64 ((delI (ixOf s) ((o).f1) ((o).f2)).2.1.2.1), .int .i64 ((delI (ixOf s) ((o).f1) ((o).f2)).2.1.2.2)], .int .i64 ((delI (ixOf s) ((o).f1) ((o).f2)).2.2)] _ rfl rfl) ?_
    refine Sx.wl_v rfl rfl (Sx.ov_extract [.agg #[.int .i64 ((delI (ixOf s) ((o).f1) ((o).f2)).2.1.1), .int .i64 ((delI (ixOf s) ((o).f1) ((o).f2)).2.1.2.1), .int .i64 ((delI (ixOf s) ((o).f1) ((o).f2)).2.1.2.2)], .int .i64 ((delI (ixOf s) ((o).f1) ((o).f2)).2.2)] _ rfl rfl) ?_
    refine Sx.wl_storebN 1 [.int .i64 ((delI (ixOf s) ((o).f1) ((o).f2)).2.1.1), .int .i64 ((delI (ixOf s) ((o).f1) ((o).f2)).2.1.2.1), .int .i64 ((delI (ixOf s) ((o).f1) ((o).f2)).2.1.2.2)] [.int .i64 ((delI (ixOf s) ((o).f1) ((o).f2)).2.1.1), .int .i64 ((delI (ixOf s) ((o).f1) ((o).f2)).2.1.2.1), .int .i64 ((delI (ixOf s) ((o).f1) ((o).f2)).2.1.2.2)] h rfl rfl rfl rfl (by simp [Value.oneCell']) sh41 rfl rfl (fun _ h => ?_)
    refine Sx.wl_v rfl rfl (Sx.ov_assign _ rfl) ?_
    refine Sx.wl_nil ?_
    refine Sx.qn_then ?_
    refine Sx.wc_seq ?_
    refine Sx.wc_seq ?_
    refine Sx.wc_region ?_
    refine Sx.wl_v rfl rfl (Sx.ov_move _ rfl) ?_
    refine Sx.wl_v rfl rfl (Sx.ov_bin _ rfl rfl (Sx.binR_neq)) ?_
    refine Sx.wl_v rfl rfl (Sx.ov_move _ rfl) ?_
    refine Sx.wl_split 63 rfl (fun c9 => ?_) (fun c9 => ?_)
    ·
     have hw_ : stepS s o = s := by unfold stepS; rw [if_pos c8]; exact (del_keeps (s := s) (a := o.f1) (b := o.f2)).1 c9
     refine Sx.wl_skip rfl rfl ?_
     refine Sx.wl_skip rfl rfl ?_
     refine Sx.wl_skip rfl rfl ?_
     refine Sx.wl_skip rfl rfl ?_
     refine Sx.wl_skip rfl rfl ?_
     refine Sx.wl_skip rfl rfl ?_
     refine Sx.wl_v rfl rfl (Sx.ov_pick_true _ rfl rfl) ?_
     refine Sx.wl_nil ?_
     refine Sx.qn_then ?_
     refine Sx.wc_cond_true rfl ?_
     refine Sx.wc_seq ?_
     refine Sx.wc_region ?_
     refine Sx.wl_v rfl rfl (Sx.ov_move _ rfl) ?_
     refine Sx.wl_v rfl rfl (Sx.ov_move _ rfl) ?_
     refine Sx.wl_v rfl rfl (Sx.ov_bin _ rfl rfl (Sx.binR_eqs)) ?_
     refine Sx.wl_v rfl rfl (Sx.ov_assign _ rfl) ?_
     refine Sx.wl_nil ?_
     refine Sx.qn_then ?_
     refine Sx.wc_ret ?_
     refine Sx.qn_then_ret ?_
     replace h := Sx.st_selT [false, false, false, false, false] h
     refine Sx.qn_ret [_] ⟨rfl, trivial⟩ ?_
     have b_ : (decide ((stepS s o) = (s))) = true := by first | exact decide_eq_true hw_ | exact decide_eq_true hk17
     exact ⟨congrArg (fun z => Ending.returned (Value.bool z)) b_, h⟩
    ·
     have hbn := del_bnd (s := s) (a := o.f1) (b := o.f2)
     refine Sx.wl_v rfl rfl (Sx.ov_fieldAddr _ ⟨b7, 1, none⟩ _ rfl fo41_1 rfl) ?_
     refine Sx.wl_v rfl rfl (Sx.ov_loadb 1 _ h rfl rfl sh3 rfl) ?_
     refine Sx.wl_v rfl rfl (Sx.ov_fieldAddr _ ⟨b7, 2, none⟩ _ rfl fo41_2 rfl) ?_
     refine Sx.wl_v rfl rfl (Sx.ov_loadb 1 _ h rfl rfl sh3 rfl) ?_
     refine Sx.wl_v rfl rfl (Sx.ov_bin _ rfl rfl (Sx.binR_add (r := ((delI (ixOf s) ((o).f1) ((o).f2)).2.1.2.1) + ((delI (ixOf s) ((o).f1) ((o).f2)).2.1.2.2)) (Sx.w64 (by omega)))) ?_
     refine Sx.wl_v rfl rfl (Sx.ov_bin _ rfl rfl (Sx.binR_eql)) ?_
     refine Sx.wl_v rfl rfl (Sx.ov_pick_false _ rfl rfl) ?_
     refine Sx.wl_nil ?_
     refine Sx.qn_then ?_
     refine Sx.wc_cond (by rfl) (fun c10 => ?_) (fun c10 => ?_)
     ·
      have hw_ : stepS s o = s := by unfold stepS; rw [if_pos c8]; exact (del_keeps (s := s) (a := o.f1) (b := o.f2)).2.1 (by omega) (by omega)
      refine Sx.wc_seq ?_
      refine Sx.wc_region ?_
      refine Sx.wl_v rfl rfl (Sx.ov_move _ rfl) ?_
      refine Sx.wl_v rfl rfl (Sx.ov_move _ rfl) ?_
      refine Sx.wl_v rfl rfl (Sx.ov_bin _ rfl rfl (Sx.binR_eqs)) ?_
      refine Sx.wl_v rfl rfl (Sx.ov_assign _ rfl) ?_
      refine Sx.wl_nil ?_
      refine Sx.qn_then ?_
      refine Sx.wc_ret ?_
      refine Sx.qn_then_ret ?_
      replace h := Sx.st_selT [false, false, false, false, false] h
      refine Sx.qn_ret [_] ⟨rfl, trivial⟩ ?_
      have b_ : (decide ((stepS s o) = (s))) = true := by first | exact decide_eq_true hw_ | exact decide_eq_true hk17
      exact ⟨congrArg (fun z => Ending.returned (Value.bool z)) b_, h⟩
     ·
      have hK_ : K s (stepS s o) (delI (ixOf s) o.f1 o.f2).2.1 := by unfold stepS; rw [if_pos c8]; exact (del_keeps (s := s) (a := o.f1) (b := o.f2)).2.2 (by omega) (by omega)
      unfold K at hK_
      obtain ⟨hk1, hk2, hk3, hk4, hk5, hk6, hk7, hk8, hk9, hk10, hk11, hk12, hk13, hk14, hk15, hk16, hk17⟩ := hK_
      have hsl1 := starts_len s
      have hsl2 := starts_len (stepS s o)
      have hlo2 := lensOf_ok (stepS s o)
      refine Sx.wc_skip ?_
      refine Sx.qn_then ?_
      refine Sx.wc_seq ?_
      refine Sx.wc_region ?_
      refine Sx.wl_v rfl rfl (Sx.ov_move _ rfl) ?_
      refine Sx.wl_call _ rfl rfl rfl ent13 (Starts_calls (R := [ixB g6 ((delI (ixOf s) ((o).f1) ((o).f2)).1), Sx.blk b7 [.int .i64 ((delI (ixOf s) ((o).f1) ((o).f2)).2.1.1), .int .i64 ((delI (ixOf s) ((o).f1) ((o).f2)).2.1.2.1), .int .i64 ((delI (ixOf s) ((o).f1) ((o).f2)).2.1.2.2)] 41, Sx.blk b5 [.int .i64 ((stepI s o).1), .int .i64 ((stepI s o).2.1), .int .i64 ((stepI s o).2.2)] 41, ixB g4 (ixOf (stepS s o)), Sx.blk b1 [.bool ((o).f0), .int .i64 ((o).f1), .int .i64 ((o).f2), .string ((o).f3)] 49] ++ R) s (by omega) h) ?_
      rintro e_ w_ ⟨A11, cp12, rfl, h⟩
      refine ⟨_, rfl, ?_⟩
      refine Sx.wl_v rfl rfl (Sx.ov_move _ rfl) ?_
      refine Sx.wl_call _ rfl rfl rfl ent13 (Starts_calls (R := [Sx.row (Kd.int .i64) 3 (A11) (cp12) (startsOf s), ixB g6 ((delI (ixOf s) ((o).f1) ((o).f2)).1), Sx.blk b7 [.int .i64 ((delI (ixOf s) ((o).f1) ((o).f2)).2.1.1), .int .i64 ((delI (ixOf s) ((o).f1) ((o).f2)).2.1.2.1), .int .i64 ((delI (ixOf s) ((o).f1) ((o).f2)).2.1.2.2)] 41, Sx.blk b5 [.int .i64 ((stepI s o).1), .int .i64 ((stepI s o).2.1), .int .i64 ((stepI s o).2.2)] 41, ixB g4 (ixOf (stepS s o)), Sx.blk b1 [.bool ((o).f0), .int .i64 ((o).f1), .int .i64 ((o).f2), .string ((o).f3)] 49] ++ R) (stepS s o) (by omega) h) ?_
      rintro e_ w_ ⟨A13, cp14, rfl, h⟩
      refine ⟨_, rfl, ?_⟩
      refine Sx.wl_v rfl rfl (Sx.ov_assign _ rfl) ?_
      refine Sx.wl_v rfl rfl (Sx.ov_assign _ rfl) ?_
      refine Sx.wl_nil ?_
      refine Sx.qn_then ?_
      refine Sx.wc_seq ?_
      refine Sx.wc_seq ?_
      refine Sx.wc_region ?_
      refine Sx.wl_v rfl rfl (Sx.ov_fieldAddr _ ⟨b7, 0, none⟩ _ rfl fo41_0 rfl) ?_
      refine Sx.wl_v rfl rfl (Sx.ov_loadb 3 _ h rfl rfl sh3 rfl) ?_
      refine Sx.wl_v rfl rfl (Sx.ov_bin _ rfl rfl (Sx.binR_lss)) ?_
      refine Sx.wl_v rfl rfl (Sx.ov_move _ rfl) ?_
      refine Sx.wl_split 81 rfl (fun c15 => ?_) (fun c15 => ?_)
      ·
       omega
      ·
       refine Sx.wl_v rfl rfl (Sx.ov_fieldAddr _ ⟨b7, 0, none⟩ _ rfl fo41_0 rfl) ?_
       refine Sx.wl_v rfl rfl (Sx.ov_loadb 3 _ h rfl rfl sh3 rfl) ?_
       refine Sx.wl_v rfl rfl (Sx.ov_fieldAddr _ ⟨b7, 1, none⟩ _ rfl fo41_1 rfl) ?_
       refine Sx.wl_v rfl rfl (Sx.ov_loadb 3 _ h rfl rfl sh3 rfl) ?_
       refine Sx.wl_v rfl rfl (Sx.ov_bin _ rfl rfl (Sx.binR_add (r := ((delI (ixOf s) ((o).f1) ((o).f2)).2.1.1) + ((delI (ixOf s) ((o).f1) ((o).f2)).2.1.2.1)) (Sx.w64 (by omega)))) ?_
       refine Sx.wl_v rfl rfl (Sx.ov_move _ rfl) ?_
       refine Sx.wl_v rfl rfl (Sx.ov_len _ _ _ _ _ rfl es23) ?_
       refine Sx.wl_v rfl rfl (Sx.ov_bin _ rfl rfl (Sx.binR_geq)) ?_
       refine Sx.wl_v rfl rfl (Sx.ov_pick_false _ rfl rfl) ?_
       refine Sx.wl_v rfl rfl (Sx.ov_move _ rfl) ?_
       refine Sx.wl_split 91 rfl (fun c16 => ?_) (fun c16 => ?_)
       ·
        omega
       ·
        refine Sx.wl_v rfl rfl (Sx.ov_fieldAddr _ ⟨b7, 0, none⟩ _ rfl fo41_0 rfl) ?_
        refine Sx.wl_v rfl rfl (Sx.ov_loadb 3 _ h rfl rfl sh3 rfl) ?_
        refine Sx.wl_v rfl rfl (Sx.ov_fieldAddr _ ⟨b7, 2, none⟩ _ rfl fo41_2 rfl) ?_
        refine Sx.wl_v rfl rfl (Sx.ov_loadb 3 _ h rfl rfl sh3 rfl) ?_
        refine Sx.wl_v rfl rfl (Sx.ov_bin _ rfl rfl (Sx.binR_add (r := ((delI (ixOf s) ((o).f1) ((o).f2)).2.1.1) + ((delI (ixOf s) ((o).f1) ((o).f2)).2.1.2.2)) (Sx.w64 (by omega)))) ?_
        refine Sx.wl_v rfl rfl (Sx.ov_move _ rfl) ?_
        refine Sx.wl_v rfl rfl (Sx.ov_len _ _ _ _ _ rfl es23) ?_
        refine Sx.wl_v rfl rfl (Sx.ov_bin _ rfl rfl (Sx.binR_geq)) ?_
        refine Sx.wl_v rfl rfl (Sx.ov_pick_false _ rfl rfl) ?_
        refine Sx.wl_v rfl rfl (Sx.ov_move _ rfl) ?_
        refine Sx.wl_split 101 rfl (fun c17 => ?_) (fun c17 => ?_)
        ·
         omega
        ·
         refine Sx.wl_v rfl rfl (Sx.ov_move _ rfl) ?_
         refine Sx.wl_v rfl rfl (Sx.ov_len _ _ _ _ _ rfl es23) ?_
         refine Sx.wl_v rfl rfl (Sx.ov_fieldAddr _ ⟨b7, 1, none⟩ _ rfl fo41_1 rfl) ?_
         refine Sx.wl_v rfl rfl (Sx.ov_loadb 3 _ h rfl rfl sh3 rfl) ?_
         refine Sx.wl_v rfl rfl (Sx.ov_bin _ rfl rfl (Sx.binR_sub (r := ((((startsOf s).length : Nat) : Int)) - ((delI (ixOf s) ((o).f1) ((o).f2)).2.1.2.1)) (Sx.w64 (by omega)))) ?_
         refine Sx.wl_v rfl rfl (Sx.ov_move _ rfl) ?_
         refine Sx.wl_v rfl rfl (Sx.ov_len _ _ _ _ _ rfl es23) ?_
         refine Sx.wl_v rfl rfl (Sx.ov_fieldAddr _ ⟨b7, 2, none⟩ _ rfl fo41_2 rfl) ?_
         refine Sx.wl_v rfl rfl (Sx.ov_loadb 3 _ h rfl rfl sh3 rfl) ?_
         refine Sx.wl_v rfl rfl (Sx.ov_bin _ rfl rfl (Sx.binR_sub (r := ((((startsOf (stepS s o)).length : Nat) : Int)) - ((delI (ixOf s) ((o).f1) ((o).f2)).2.1.2.2)) (Sx.w64 (by omega)))) ?_
         refine Sx.wl_v rfl rfl (Sx.ov_bin _ rfl rfl (Sx.binR_neq)) ?_
         refine Sx.wl_v rfl rfl (Sx.ov_pick_false _ rfl rfl) ?_
         refine Sx.wl_nil ?_
         refine Sx.qn_then ?_
         refine Sx.wc_cond (by rfl) (fun c18 => ?_) (fun c18 => ?_)
         ·
          omega
         ·
          refine Sx.wc_skip ?_
          refine Sx.qn_then ?_
          refine Sx.wc_seq ?_
          refine Sx.wc_draw (fun w => Sx.St w0 F0 ([Sx.row (Kd.int .i64) 3 (A13) (cp14) (startsOf (stepS s o)), Sx.row (Kd.int .i64) 3 (A11) (cp12) (startsOf s), ixB g6 ((delI (ixOf s) ((o).f1) ((o).f2)).1), Sx.blk b7 [.int .i64 ((delI (ixOf s) ((o).f1) ((o).f2)).2.1.1), .int .i64 ((delI (ixOf s) ((o).f1) ((o).f2)).2.1.2.1), .int .i64 ((delI (ixOf s) ((o).f1) ((o).f2)).2.1.2.2)] 41, Sx.blk b5 [.int .i64 ((stepI s o).1), .int .i64 ((stepI s o).2.1), .int .i64 ((stepI s o).2.2)] 41, ixB g4 (ixOf (stepS s o)), Sx.blk b1 [.bool ((o).f0), .int .i64 ((o).f1), .int .i64 ((o).f2), .string ((o).f3)] 49] ++ R) w) (by kernel_rfl) ?_
          replace h := Sx.st_drew h
          refine Sx.wa_take 0 rfl (by kernel_rfl) (by kernel_rfl) (by kernel_rfl) (fun _ _ _ h => h) rfl rfl (Sx.st_selT [true, true, true, true, true, true, true] h) (fun w_ hS => Sx.ov_move _ rfl) ?_
          refine Sx.wa_take 1 rfl (by kernel_rfl) (by kernel_rfl) (by kernel_rfl) (fun _ _ _ h => h) rfl rfl (Sx.st_selT [true, true, true, true, true, true, true] h) (fun w_ hS => Sx.ov_move _ rfl) ?_
          refine Sx.wa_take 2 rfl (by kernel_rfl) (by kernel_rfl) (by kernel_rfl) (fun _ _ _ h => h) rfl rfl (Sx.st_selT [true, true, true, true, true, true, true] h) (fun w_ hS => Sx.ov_fieldAddr _ ⟨b7, 0, none⟩ _ rfl fo41_0 rfl) ?_
          refine Sx.wa_take 3 rfl (by kernel_rfl) (by kernel_rfl) (by kernel_rfl) (fun _ _ _ h => h) rfl rfl (Sx.st_selT [true, true, true, true, true, true, true] h) (fun w_ hS => Sx.ov_loadb 3 _ hS rfl rfl sh3 rfl) ?_
          obtain ⟨ad19, rfl⟩ := Sx.C_some ((Sx.row_reads h (i := 1) rfl).2) (k := ((delI (ixOf s) ((o).f1) ((o).f2)).2.1.1 : Int).toNat) (by first | assumption | omega)
          refine Sx.wa_take 4 rfl (by kernel_rfl) (by kernel_rfl) (by kernel_rfl) (fun _ _ _ h => h) rfl rfl (Sx.st_selT [true, true, true, true, true, true, true] h) (fun w_ hS => Sx.ov_indexAddrN _ _ _ _ _ ((delI (ixOf s) ((o).f1) ((o).f2)).2.1.1 : Int).toNat rfl rfl es23 (by omega) (by first | assumption | omega | (simp only [List.length_take, List.length_drop, List.length_set]; omega))) ?_
          refine Sx.wa_take 5 rfl (by kernel_rfl) (by kernel_rfl) (by kernel_rfl) (fun _ _ _ h => h) rfl rfl (Sx.st_selT [true, true, true, true, true, true, true] h) (fun w_ hS => by
              obtain ⟨cl22, _, hk21, hc20⟩ := Sx.C_cells ((Sx.row_reads hS (i := 1) rfl).2) (z := (0 : Int)) (k := ((delI (ixOf s) ((o).f1) ((o).f2)).2.1.1 : Int).toNat) (by first | assumption | omega)
              obtain rfl : cl22 = [.int .i64 _] := hk21
              exact Sx.ov_load1 _ _ rfl sh3 ((hc20 0 _ rfl))) ?_
          refine Sx.wa_take 6 rfl (by kernel_rfl) (by kernel_rfl) (by kernel_rfl) (fun _ _ _ h => h) rfl rfl (Sx.st_selT [true, true, true, true, true, true, true] h) (fun w_ hS => by exact Sx.ov_slices _ 0 (((startsOf s).getD ((delI (ixOf s) ((o).f1) ((o).f2)).2.1.1 : Int).toNat (0 : Int) : Int).toNat) (by rfl) (by exact rfl) (by exact ⟨_, _, rfl, (by omega)⟩) Try.underlying9 (by omega) (by omega)) ?_
          refine Sx.wa_take 7 rfl (by kernel_rfl) (by kernel_rfl) (by kernel_rfl) (fun _ _ _ h => h) rfl rfl (Sx.st_selT [true, true, true, true, true, true, true] h) (fun w_ hS => Sx.ov_move _ rfl) ?_
          refine Sx.wa_take 8 rfl (by kernel_rfl) (by kernel_rfl) (by kernel_rfl) (fun _ _ _ h => h) rfl rfl (Sx.st_selT [true, true, true, true, true, true, true] h) (fun w_ hS => Sx.ov_move _ rfl) ?_
          refine Sx.wa_take 9 rfl (by kernel_rfl) (by kernel_rfl) (by kernel_rfl) (fun _ _ _ h => h) rfl rfl (Sx.st_selT [true, true, true, true, true, true, true] h) (fun w_ hS => Sx.ov_fieldAddr _ ⟨b7, 0, none⟩ _ rfl fo41_0 rfl) ?_
          refine Sx.wa_take 10 rfl (by kernel_rfl) (by kernel_rfl) (by kernel_rfl) (fun _ _ _ h => h) rfl rfl (Sx.st_selT [true, true, true, true, true, true, true] h) (fun w_ hS => Sx.ov_loadb 3 _ hS rfl rfl sh3 rfl) ?_
          obtain ⟨ad23, rfl⟩ := Sx.C_some ((Sx.row_reads h (i := 0) rfl).2) (k := ((delI (ixOf s) ((o).f1) ((o).f2)).2.1.1 : Int).toNat) (by first | assumption | omega)
          refine Sx.wa_take 11 rfl (by kernel_rfl) (by kernel_rfl) (by kernel_rfl) (fun _ _ _ h => h) rfl rfl (Sx.st_selT [true, true, true, true, true, true, true] h) (fun w_ hS => Sx.ov_indexAddrN _ _ _ _ _ ((delI (ixOf s) ((o).f1) ((o).f2)).2.1.1 : Int).toNat rfl rfl es23 (by omega) (by first | assumption | omega | (simp only [List.length_take, List.length_drop, List.length_set]; omega))) ?_
          refine Sx.wa_take 12 rfl (by kernel_rfl) (by kernel_rfl) (by kernel_rfl) (fun _ _ _ h => h) rfl rfl (Sx.st_selT [true, true, true, true, true, true, true] h) (fun w_ hS => by
              obtain ⟨cl26, _, hk25, hc24⟩ := Sx.C_cells ((Sx.row_reads hS (i := 0) rfl).2) (z := (0 : Int)) (k := ((delI (ixOf s) ((o).f1) ((o).f2)).2.1.1 : Int).toNat) (by first | assumption | omega)
              obtain rfl : cl26 = [.int .i64 _] := hk25
              exact Sx.ov_load1 _ _ rfl sh3 ((hc24 0 _ rfl))) ?_
          refine Sx.wa_take 13 rfl (by kernel_rfl) (by kernel_rfl) (by kernel_rfl) (fun _ _ _ h => h) rfl rfl (Sx.st_selT [true, true, true, true, true, true, true] h) (fun w_ hS => by exact Sx.ov_slices _ 0 (((startsOf (stepS s o)).getD ((delI (ixOf s) ((o).f1) ((o).f2)).2.1.1 : Int).toNat (0 : Int) : Int).toNat) (by rfl) (by exact rfl) (by exact ⟨_, _, rfl, (by omega)⟩) Try.underlying9 (by omega) (by omega)) ?_
          refine Sx.wa_take 14 rfl (by kernel_rfl) (by kernel_rfl) (by kernel_rfl) (fun _ _ _ h => h) rfl rfl (Sx.st_selT [true, true, true, true, true, true, true] h) (fun w_ hS => Sx.ov_bin _ rfl rfl (Sx.binR_eqs)) ?_
          refine Sx.wa_take 15 rfl (by kernel_rfl) (by kernel_rfl) (by kernel_rfl) (fun _ _ _ h => h) rfl rfl (Sx.st_selT [true, true, true, true, true, true, true] h) (fun w_ hS => Sx.ov_move _ rfl) ?_
          refine Sx.wa_split 129 rfl (fun c27 => ?_) (fun c27 => ?_)
          ·
           refine Sx.wa_take 16 rfl (by kernel_rfl) (by kernel_rfl) (by kernel_rfl) (fun _ _ _ h => h) rfl rfl (Sx.st_selT [true, true, true, true, true, true, true] h) (fun w_ hS => Sx.ov_move _ rfl) ?_
           refine Sx.wa_take 17 rfl (by kernel_rfl) (by kernel_rfl) (by kernel_rfl) (fun _ _ _ h => h) rfl rfl (Sx.st_selT [true, true, true, true, true, true, true] h) (fun w_ hS => Sx.ov_move _ rfl) ?_
           refine Sx.wa_take 18 rfl (by kernel_rfl) (by kernel_rfl) (by kernel_rfl) (fun _ _ _ h => h) rfl rfl (Sx.st_selT [true, true, true, true, true, true, true] h) (fun w_ hS => Sx.ov_fieldAddr _ ⟨b7, 0, none⟩ _ rfl fo41_0 rfl) ?_
           refine Sx.wa_take 19 rfl (by kernel_rfl) (by kernel_rfl) (by kernel_rfl) (fun _ _ _ h => h) rfl rfl (Sx.st_selT [true, true, true, true, true, true, true] h) (fun w_ hS => Sx.ov_loadb 3 _ hS rfl rfl sh3 rfl) ?_
           refine Sx.wa_take 20 rfl (by kernel_rfl) (by kernel_rfl) (by kernel_rfl) (fun _ _ _ h => h) rfl rfl (Sx.st_selT [true, true, true, true, true, true, true] h) (fun w_ hS => Sx.ov_fieldAddr _ ⟨b7, 1, none⟩ _ rfl fo41_1 rfl) ?_
           refine Sx.wa_take 21 rfl (by kernel_rfl) (by kernel_rfl) (by kernel_rfl) (fun _ _ _ h => h) rfl rfl (Sx.st_selT [true, true, true, true, true, true, true] h) (fun w_ hS => Sx.ov_loadb 3 _ hS rfl rfl sh3 rfl) ?_
           refine Sx.wa_take 22 rfl (by kernel_rfl) (by kernel_rfl) (by kernel_rfl) (fun _ _ _ h => h) rfl rfl (Sx.st_selT [true, true, true, true, true, true, true] h) (fun w_ hS => Sx.ov_bin _ rfl rfl (Sx.binR_add (r := ((delI (ixOf s) ((o).f1) ((o).f2)).2.1.1) + ((delI (ixOf s) ((o).f1) ((o).f2)).2.1.2.1)) (Sx.w64 (by omega)))) ?_
           refine Sx.wa_take 23 rfl (by kernel_rfl) (by kernel_rfl) (by kernel_rfl) (fun _ _ _ h => h) rfl rfl (Sx.st_selT [true, true, true, true, true, true, true] h) (fun w_ hS => Sx.ov_indexAddrN _ _ _ _ _ (((delI (ixOf s) ((o).f1) ((o).f2)).2.1.1) + ((delI (ixOf s) ((o).f1) ((o).f2)).2.1.2.1) : Int).toNat rfl rfl es23 (by omega) (by first | assumption | omega | (simp only [List.length_take, List.length_drop, List.length_set]; omega))) ?_
           refine Sx.wa_take 24 rfl (by kernel_rfl) (by kernel_rfl) (by kernel_rfl) (fun _ _ _ h => h) rfl rfl (Sx.st_selT [true, true, true, true, true, true, true] h) (fun w_ hS => by
               obtain ⟨cl30, _, hk29, hc28⟩ := Sx.C_cells ((Sx.row_reads hS (i := 1) rfl).2) (z := (0 : Int)) (k := (((delI (ixOf s) ((o).f1) ((o).f2)).2.1.1) + ((delI (ixOf s) ((o).f1) ((o).f2)).2.1.2.1) : Int).toNat) (by first | assumption | omega)
               obtain rfl : cl30 = [.int .i64 _] := hk29
               exact Sx.ov_load1 _ _ rfl sh3 ((hc28 0 _ rfl))) ?_
           refine Sx.wa_take 25 rfl (by kernel_rfl) (by kernel_rfl) (by kernel_rfl) (fun _ _ _ h => h) rfl rfl (Sx.st_selT [true, true, true, true, true, true, true] h) (fun w_ hS => by exact Sx.ov_slices _ (((startsOf s).getD (((delI (ixOf s) ((o).f1) ((o).f2)).2.1.1) + ((delI (ixOf s) ((o).f1) ((o).f2)).2.1.2.1) : Int).toNat (0 : Int) : Int).toNat) ((s).size) (by rfl) (by exact ⟨_, _, rfl, (by omega)⟩) (by exact rfl) Try.underlying9 (by omega) (by omega)) ?_
           refine Sx.wa_take 26 rfl (by kernel_rfl) (by kernel_rfl) (by kernel_rfl) (fun _ _ _ h => h) rfl rfl (Sx.st_selT [true, true, true, true, true, true, true] h) (fun w_ hS => Sx.ov_move _ rfl) ?_
           refine Sx.wa_take 27 rfl (by kernel_rfl) (by kernel_rfl) (by kernel_rfl) (fun _ _ _ h => h) rfl rfl (Sx.st_selT [true, true, true, true, true, true, true] h) (fun w_ hS => Sx.ov_move _ rfl) ?_
           refine Sx.wa_take 28 rfl (by kernel_rfl) (by kernel_rfl) (by kernel_rfl) (fun _ _ _ h => h) rfl rfl (Sx.st_selT [true, true, true, true, true, true, true] h) (fun w_ hS => Sx.ov_fieldAddr _ ⟨b7, 0, none⟩ _ rfl fo41_0 rfl) ?_
           refine Sx.wa_take 29 rfl (by kernel_rfl) (by kernel_rfl) (by kernel_rfl) (fun _ _ _ h => h) rfl rfl (Sx.st_selT [true, true, true, true, true, true, true] h) (fun w_ hS => Sx.ov_loadb 3 _ hS rfl rfl sh3 rfl) ?_
           refine Sx.wa_take 30 rfl (by kernel_rfl) (by kernel_rfl) (by kernel_rfl) (fun _ _ _ h => h) rfl rfl (Sx.st_selT [true, true, true, true, true, true, true] h) (fun w_ hS => Sx.ov_fieldAddr _ ⟨b7, 2, none⟩ _ rfl fo41_2 rfl) ?_
           refine Sx.wa_take 31 rfl (by kernel_rfl) (by kernel_rfl) (by kernel_rfl) (fun _ _ _ h => h) rfl rfl (Sx.st_selT [true, true, true, true, true, true, true] h) (fun w_ hS => Sx.ov_loadb 3 _ hS rfl rfl sh3 rfl) ?_
           refine Sx.wa_take 32 rfl (by kernel_rfl) (by kernel_rfl) (by kernel_rfl) (fun _ _ _ h => h) rfl rfl (Sx.st_selT [true, true, true, true, true, true, true] h) (fun w_ hS => Sx.ov_bin _ rfl rfl (Sx.binR_add (r := ((delI (ixOf s) ((o).f1) ((o).f2)).2.1.1) + ((delI (ixOf s) ((o).f1) ((o).f2)).2.1.2.2)) (Sx.w64 (by omega)))) ?_
           refine Sx.wa_take 33 rfl (by kernel_rfl) (by kernel_rfl) (by kernel_rfl) (fun _ _ _ h => h) rfl rfl (Sx.st_selT [true, true, true, true, true, true, true] h) (fun w_ hS => Sx.ov_indexAddrN _ _ _ _ _ (((delI (ixOf s) ((o).f1) ((o).f2)).2.1.1) + ((delI (ixOf s) ((o).f1) ((o).f2)).2.1.2.2) : Int).toNat rfl rfl es23 (by omega) (by first | assumption | omega | (simp only [List.length_take, List.length_drop, List.length_set]; omega))) ?_
           refine Sx.wa_take 34 rfl (by kernel_rfl) (by kernel_rfl) (by kernel_rfl) (fun _ _ _ h => h) rfl rfl (Sx.st_selT [true, true, true, true, true, true, true] h) (fun w_ hS => by
               obtain ⟨cl33, _, hk32, hc31⟩ := Sx.C_cells ((Sx.row_reads hS (i := 0) rfl).2) (z := (0 : Int)) (k := (((delI (ixOf s) ((o).f1) ((o).f2)).2.1.1) + ((delI (ixOf s) ((o).f1) ((o).f2)).2.1.2.2) : Int).toNat) (by first | assumption | omega)
               obtain rfl : cl33 = [.int .i64 _] := hk32
               exact Sx.ov_load1 _ _ rfl sh3 ((hc31 0 _ rfl))) ?_
           refine Sx.wa_take 35 rfl (by kernel_rfl) (by kernel_rfl) (by kernel_rfl) (fun _ _ _ h => h) rfl rfl (Sx.st_selT [true, true, true, true, true, true, true] h) (fun w_ hS => by exact Sx.ov_slices _ (((startsOf (stepS s o)).getD (((delI (ixOf s) ((o).f1) ((o).f2)).2.1.1) + ((delI (ixOf s) ((o).f1) ((o).f2)).2.1.2.2) : Int).toNat (0 : Int) : Int).toNat) ((stepS s o).size) (by rfl) (by exact ⟨_, _, rfl, (by omega)⟩) (by exact rfl) Try.underlying9 (by omega) (by omega)) ?_
           refine Sx.wa_take 36 rfl (by kernel_rfl) (by kernel_rfl) (by kernel_rfl) (fun _ _ _ h => h) rfl rfl (Sx.st_selT [true, true, true, true, true, true, true] h) (fun w_ hS => Sx.ov_bin _ rfl rfl (Sx.binR_eqs)) ?_
           refine Sx.wa_take 37 rfl (by kernel_rfl) (by kernel_rfl) (by kernel_rfl) (fun _ _ _ h => h) rfl rfl (Sx.st_selT [true, true, true, true, true, true, true] h) (fun w_ hS => Sx.ov_pick_true _ rfl rfl) ?_
           refine Sx.wa_take 38 rfl (by kernel_rfl) (by kernel_rfl) (by kernel_rfl) (fun _ _ _ h => h) rfl rfl (Sx.st_selT [true, true, true, true, true, true, true] h) (fun w_ hS => Sx.ov_assign _ rfl) ?_
           refine Sx.wa_done (by kernel_rfl) ?_
           refine Sx.qn_then ?_
           refine Sx.wc_ret ?_
           replace h := Sx.st_selT [false, false, false, false, false, false, false] h
           refine Sx.qn_ret [_] ⟨rfl, trivial⟩ ?_
           have b_ : (decide (((s).extract (((startsOf s).getD (((delI (ixOf s) ((o).f1) ((o).f2)).2.1.1) + ((delI (ixOf s) ((o).f1) ((o).f2)).2.1.2.1) : Int).toNat (0 : Int) : Int).toNat) ((s).size)) = ((stepS s o).extract (((startsOf (stepS s o)).getD (((delI (ixOf s) ((o).f1) ((o).f2)).2.1.1) + ((delI (ixOf s) ((o).f1) ((o).f2)).2.1.2.2) : Int).toNat (0 : Int) : Int).toNat) ((stepS s o).size)))) = true := by first | exact decide_eq_true hw_ | exact decide_eq_true hk17
           exact ⟨congrArg (fun z => Ending.returned (Value.bool z)) b_, h⟩
          ·
           exact absurd hk16 c27
   ·
    refine Sx.wc_region ?_
    refine Sx.wl_v rfl rfl (Sx.ov_move _ rfl) ?_
    refine Sx.wl_v rfl rfl (Sx.ov_fieldAddr _ ⟨b1, 1, none⟩ _ rfl fo49_1 rfl) ?_
    refine Sx.wl_v rfl rfl (Sx.ov_loadb 4 _ h rfl rfl sh3 rfl) ?_
    refine Sx.wl_v rfl rfl (Sx.ov_fieldAddr _ ⟨b1, 3, none⟩ _ rfl fo49_3 rfl) ?_
    refine Sx.wl_v rfl rfl (Sx.ov_loadb 4 _ h rfl rfl sh9 rfl) ?_
    replace h := Sx.st_front 1 h
    refine Sx.wl_call _ rfl rfl rfl ent26 (Insert_calls (R := [Sx.blk b7 [.int .i64 (0), .int .i64 (0), .int .i64 (0)] 41, Sx.blk b5 [.int .i64 ((stepI s o).1), .int .i64 ((stepI s o).2.1), .int .i64 ((stepI s o).2.2)] 41, ixB g4 (ixOf (stepS s o)), Sx.blk b1 [.bool ((o).f0), .int .i64 ((o).f1), .int .i64 ((o).f2), .string ((o).f3)] 49] ++ R) g6 (ixOf s) ((o).f1) ((o).f3) (by exact ixOf_ok _ (by omega)) (by omega) (by exact ix_hop s) h) ?_
    rintro e_ w_ ⟨rfl, h⟩
    refine ⟨_, rfl, ?_⟩
    refine Sx.wl_v rfl rfl (Sx.ov_move _ rfl) ?_
    refine Sx.wl_v rfl rfl (Sx.ov_extract [.agg #[.int .i64 ((insI (ixOf s) ((o).f1) ((o).f3)).2.1.1), .int .i64 ((insI (ixOf s) ((o).f1) ((o).f3)).2.1.2.1), .int .i64 ((insI (ixOf s) ((o).f1) ((o).f3)).2.1.2.2)], .int .i64 ((insI (ixOf s) ((o).f1) ((o).f3)).2.2)] _ rfl rfl) ?_
    refine Sx.wl_v rfl rfl (Sx.ov_extract [.agg #[.int .i64 ((insI (ixOf s) ((o).f1) ((o).f3)).2.1.1), .int .i64 ((insI (ixOf s) ((o).f1) ((o).f3)).2.1.2.1), .int .i64 ((insI (ixOf s) ((o).f1) ((o).f3)).2.1.2.2)], .int .i64 ((insI (ixOf s) ((o).f1) ((o).f3)).2.2)] _ rfl rfl) ?_
    refine Sx.wl_storebN 1 [.int .i64 ((insI (ixOf s) ((o).f1) ((o).f3)).2.1.1), .int .i64 ((insI (ixOf s) ((o).f1) ((o).f3)).2.1.2.1), .int .i64 ((insI (ixOf s) ((o).f1) ((o).f3)).2.1.2.2)] [.int .i64 ((insI (ixOf s) ((o).f1) ((o).f3)).2.1.1), .int .i64 ((insI (ixOf s) ((o).f1) ((o).f3)).2.1.2.1), .int .i64 ((insI (ixOf s) ((o).f1) ((o).f3)).2.1.2.2)] h rfl rfl rfl rfl (by simp [Value.oneCell']) sh41 rfl rfl (fun _ h => ?_)
    refine Sx.wl_v rfl rfl (Sx.ov_assign _ rfl) ?_
    refine Sx.wl_nil ?_
    refine Sx.qn_then ?_
    refine Sx.wc_seq ?_
    refine Sx.wc_seq ?_
    refine Sx.wc_region ?_
    refine Sx.wl_v rfl rfl (Sx.ov_move _ rfl) ?_
    refine Sx.wl_v rfl rfl (Sx.ov_bin _ rfl rfl (Sx.binR_neq)) ?_
    refine Sx.wl_v rfl rfl (Sx.ov_move _ rfl) ?_
    refine Sx.wl_split 63 rfl (fun c34 => ?_) (fun c34 => ?_)
    ·
     have hw_ : stepS s o = s := by unfold stepS; rw [if_neg (by rw [c8]; decide)]; exact (ins_keeps (s := s) (t := o.f3) (a := o.f1)).1 c34
     refine Sx.wl_skip rfl rfl ?_
     refine Sx.wl_skip rfl rfl ?_
     refine Sx.wl_skip rfl rfl ?_
     refine Sx.wl_skip rfl rfl ?_
     refine Sx.wl_skip rfl rfl ?_
     refine Sx.wl_skip rfl rfl ?_
     refine Sx.wl_v rfl rfl (Sx.ov_pick_true _ rfl rfl) ?_
     refine Sx.wl_nil ?_
     refine Sx.qn_then ?_
     refine Sx.wc_cond_true rfl ?_
     refine Sx.wc_seq ?_
     refine Sx.wc_region ?_
     refine Sx.wl_v rfl rfl (Sx.ov_move _ rfl) ?_
     refine Sx.wl_v rfl rfl (Sx.ov_move _ rfl) ?_
     refine Sx.wl_v rfl rfl (Sx.ov_bin _ rfl rfl (Sx.binR_eqs)) ?_
     refine Sx.wl_v rfl rfl (Sx.ov_assign _ rfl) ?_
     refine Sx.wl_nil ?_
     refine Sx.qn_then ?_
     refine Sx.wc_ret ?_
     refine Sx.qn_then_ret ?_
     replace h := Sx.st_selT [false, false, false, false, false] h
     refine Sx.qn_ret [_] ⟨rfl, trivial⟩ ?_
     have b_ : (decide ((stepS s o) = (s))) = true := by first | exact decide_eq_true hw_ | exact decide_eq_true hk17
     exact ⟨congrArg (fun z => Ending.returned (Value.bool z)) b_, h⟩
    ·
     have hbn := ins_bnd (s := s) (t := o.f3) (a := o.f1) (by omega) (by omega) (by omega)
     refine Sx.wl_v rfl rfl (Sx.ov_fieldAddr _ ⟨b7, 1, none⟩ _ rfl fo41_1 rfl) ?_
     refine Sx.wl_v rfl rfl (Sx.ov_loadb 1 _ h rfl rfl sh3 rfl) ?_
     refine Sx.wl_v rfl rfl (Sx.ov_fieldAddr _ ⟨b7, 2, none⟩ _ rfl fo41_2 rfl) ?_
     refine Sx.wl_v rfl rfl (Sx.ov_loadb 1 _ h rfl rfl sh3 rfl) ?_
     refine Sx.wl_v rfl rfl (Sx.ov_bin _ rfl rfl (Sx.binR_add (r := ((insI (ixOf s) ((o).f1) ((o).f3)).2.1.2.1) + ((insI (ixOf s) ((o).f1) ((o).f3)).2.1.2.2)) (Sx.w64 (by omega)))) ?_
     refine Sx.wl_v rfl rfl (Sx.ov_bin _ rfl rfl (Sx.binR_eql)) ?_
     refine Sx.wl_v rfl rfl (Sx.ov_pick_false _ rfl rfl) ?_
     refine Sx.wl_nil ?_
     refine Sx.qn_then ?_
     refine Sx.wc_cond (by rfl) (fun c35 => ?_) (fun c35 => ?_)
     ·
      have hw_ : stepS s o = s := by unfold stepS; rw [if_neg (by rw [c8]; decide)]; exact (ins_keeps (s := s) (t := o.f3) (a := o.f1)).2.1 (by omega) (by omega)
      refine Sx.wc_seq ?_
      refine Sx.wc_region ?_
      refine Sx.wl_v rfl rfl (Sx.ov_move _ rfl) ?_
      refine Sx.wl_v rfl rfl (Sx.ov_move _ rfl) ?_
      refine Sx.wl_v rfl rfl (Sx.ov_bin _ rfl rfl (Sx.binR_eqs)) ?_
      refine Sx.wl_v rfl rfl (Sx.ov_assign _ rfl) ?_
      refine Sx.wl_nil ?_
      refine Sx.qn_then ?_
      refine Sx.wc_ret ?_
      refine Sx.qn_then_ret ?_
      replace h := Sx.st_selT [false, false, false, false, false] h
      refine Sx.qn_ret [_] ⟨rfl, trivial⟩ ?_
      have b_ : (decide ((stepS s o) = (s))) = true := by first | exact decide_eq_true hw_ | exact decide_eq_true hk17
      exact ⟨congrArg (fun z => Ending.returned (Value.bool z)) b_, h⟩
     ·
      have hK_ : K s (stepS s o) (insI (ixOf s) o.f1 o.f3).2.1 := by unfold stepS; rw [if_neg (by rw [c8]; decide)]; exact (ins_keeps (s := s) (t := o.f3) (a := o.f1)).2.2 (by omega) (by omega)
      unfold K at hK_
      obtain ⟨hk1, hk2, hk3, hk4, hk5, hk6, hk7, hk8, hk9, hk10, hk11, hk12, hk13, hk14, hk15, hk16, hk17⟩ := hK_
      have hsl1 := starts_len s
      have hsl2 := starts_len (stepS s o)
      have hlo2 := lensOf_ok (stepS s o)
      refine Sx.wc_skip ?_
      refine Sx.qn_then ?_
      refine Sx.wc_seq ?_
      refine Sx.wc_region ?_
      refine Sx.wl_v rfl rfl (Sx.ov_move _ rfl) ?_
      refine Sx.wl_call _ rfl rfl rfl ent13 (Starts_calls (R := [ixB g6 ((insI (ixOf s) ((o).f1) ((o).f3)).1), Sx.blk b7 [.int .i64 ((insI (ixOf s) ((o).f1) ((o).f3)).2.1.1), .int .i64 ((insI (ixOf s) ((o).f1) ((o).f3)).2.1.2.1), .int .i64 ((insI (ixOf s) ((o).f1) ((o).f3)).2.1.2.2)] 41, Sx.blk b5 [.int .i64 ((stepI s o).1), .int .i64 ((stepI s o).2.1), .int .i64 ((stepI s o).2.2)] 41, ixB g4 (ixOf (stepS s o)), Sx.blk b1 [.bool ((o).f0), .int .i64 ((o).f1), .int .i64 ((o).f2), .string ((o).f3)] 49] ++ R) s (by omega) h) ?_
      rintro e_ w_ ⟨A36, cp37, rfl, h⟩
      refine ⟨_, rfl, ?_⟩
      refine Sx.wl_v rfl rfl (Sx.ov_move _ rfl) ?_
      refine Sx.wl_call _ rfl rfl rfl ent13 (Starts_calls (R := [Sx.row (Kd.int .i64) 3 (A36) (cp37) (startsOf s), ixB g6 ((insI (ixOf s) ((o).f1) ((o).f3)).1), Sx.blk b7 [.int .i64 ((insI (ixOf s) ((o).f1) ((o).f3)).2.1.1), .int .i64 ((insI (ixOf s) ((o).f1) ((o).f3)).2.1.2.1), .int .i64 ((insI (ixOf s) ((o).f1) ((o).f3)).2.1.2.2)] 41, Sx.blk b5 [.int .i64 ((stepI s o).1), .int .i64 ((stepI s o).2.1), .int .i64 ((stepI s o).2.2)] 41, ixB g4 (ixOf (stepS s o)), Sx.blk b1 [.bool ((o).f0), .int .i64 ((o).f1), .int .i64 ((o).f2), .string ((o).f3)] 49] ++ R) (stepS s o) (by omega) h) ?_
      rintro e_ w_ ⟨A38, cp39, rfl, h⟩
      refine ⟨_, rfl, ?_⟩
      refine Sx.wl_v rfl rfl (Sx.ov_assign _ rfl) ?_
      refine Sx.wl_v rfl rfl (Sx.ov_assign _ rfl) ?_
      refine Sx.wl_nil ?_
      refine Sx.qn_then ?_
      refine Sx.wc_seq ?_
      refine Sx.wc_seq ?_
      refine Sx.wc_region ?_
      refine Sx.wl_v rfl rfl (Sx.ov_fieldAddr _ ⟨b7, 0, none⟩ _ rfl fo41_0 rfl) ?_
      refine Sx.wl_v rfl rfl (Sx.ov_loadb 3 _ h rfl rfl sh3 rfl) ?_
      refine Sx.wl_v rfl rfl (Sx.ov_bin _ rfl rfl (Sx.binR_lss)) ?_
      refine Sx.wl_v rfl rfl (Sx.ov_move _ rfl) ?_
      refine Sx.wl_split 81 rfl (fun c40 => ?_) (fun c40 => ?_)
      ·
       omega
      ·
       refine Sx.wl_v rfl rfl (Sx.ov_fieldAddr _ ⟨b7, 0, none⟩ _ rfl fo41_0 rfl) ?_
       refine Sx.wl_v rfl rfl (Sx.ov_loadb 3 _ h rfl rfl sh3 rfl) ?_
       refine Sx.wl_v rfl rfl (Sx.ov_fieldAddr _ ⟨b7, 1, none⟩ _ rfl fo41_1 rfl) ?_
       refine Sx.wl_v rfl rfl (Sx.ov_loadb 3 _ h rfl rfl sh3 rfl) ?_
       refine Sx.wl_v rfl rfl (Sx.ov_bin _ rfl rfl (Sx.binR_add (r := ((insI (ixOf s) ((o).f1) ((o).f3)).2.1.1) + ((insI (ixOf s) ((o).f1) ((o).f3)).2.1.2.1)) (Sx.w64 (by omega)))) ?_
       refine Sx.wl_v rfl rfl (Sx.ov_move _ rfl) ?_
       refine Sx.wl_v rfl rfl (Sx.ov_len _ _ _ _ _ rfl es23) ?_
       refine Sx.wl_v rfl rfl (Sx.ov_bin _ rfl rfl (Sx.binR_geq)) ?_
       refine Sx.wl_v rfl rfl (Sx.ov_pick_false _ rfl rfl) ?_
       refine Sx.wl_v rfl rfl (Sx.ov_move _ rfl) ?_
       refine Sx.wl_split 91 rfl (fun c41 => ?_) (fun c41 => ?_)
       ·
        omega
       ·
        refine Sx.wl_v rfl rfl (Sx.ov_fieldAddr _ ⟨b7, 0, none⟩ _ rfl fo41_0 rfl) ?_
        refine Sx.wl_v rfl rfl (Sx.ov_loadb 3 _ h rfl rfl sh3 rfl) ?_
        refine Sx.wl_v rfl rfl (Sx.ov_fieldAddr _ ⟨b7, 2, none⟩ _ rfl fo41_2 rfl) ?_
        refine Sx.wl_v rfl rfl (Sx.ov_loadb 3 _ h rfl rfl sh3 rfl) ?_
        refine Sx.wl_v rfl rfl (Sx.ov_bin _ rfl rfl (Sx.binR_add (r := ((insI (ixOf s) ((o).f1) ((o).f3)).2.1.1) + ((insI (ixOf s) ((o).f1) ((o).f3)).2.1.2.2)) (Sx.w64 (by omega)))) ?_
        refine Sx.wl_v rfl rfl (Sx.ov_move _ rfl) ?_
        refine Sx.wl_v rfl rfl (Sx.ov_len _ _ _ _ _ rfl es23) ?_
        refine Sx.wl_v rfl rfl (Sx.ov_bin _ rfl rfl (Sx.binR_geq)) ?_
        refine Sx.wl_v rfl rfl (Sx.ov_pick_false _ rfl rfl) ?_
        refine Sx.wl_v rfl rfl (Sx.ov_move _ rfl) ?_
        refine Sx.wl_split 101 rfl (fun c42 => ?_) (fun c42 => ?_)
        ·
         omega
        ·
         refine Sx.wl_v rfl rfl (Sx.ov_move _ rfl) ?_
         refine Sx.wl_v rfl rfl (Sx.ov_len _ _ _ _ _ rfl es23) ?_
         refine Sx.wl_v rfl rfl (Sx.ov_fieldAddr _ ⟨b7, 1, none⟩ _ rfl fo41_1 rfl) ?_
         refine Sx.wl_v rfl rfl (Sx.ov_loadb 3 _ h rfl rfl sh3 rfl) ?_
         refine Sx.wl_v rfl rfl (Sx.ov_bin _ rfl rfl (Sx.binR_sub (r := ((((startsOf s).length : Nat) : Int)) - ((insI (ixOf s) ((o).f1) ((o).f3)).2.1.2.1)) (Sx.w64 (by omega)))) ?_
         refine Sx.wl_v rfl rfl (Sx.ov_move _ rfl) ?_
         refine Sx.wl_v rfl rfl (Sx.ov_len _ _ _ _ _ rfl es23) ?_
         refine Sx.wl_v rfl rfl (Sx.ov_fieldAddr _ ⟨b7, 2, none⟩ _ rfl fo41_2 rfl) ?_
         refine Sx.wl_v rfl rfl (Sx.ov_loadb 3 _ h rfl rfl sh3 rfl) ?_
         refine Sx.wl_v rfl rfl (Sx.ov_bin _ rfl rfl (Sx.binR_sub (r := ((((startsOf (stepS s o)).length : Nat) : Int)) - ((insI (ixOf s) ((o).f1) ((o).f3)).2.1.2.2)) (Sx.w64 (by omega)))) ?_
         refine Sx.wl_v rfl rfl (Sx.ov_bin _ rfl rfl (Sx.binR_neq)) ?_
         refine Sx.wl_v rfl rfl (Sx.ov_pick_false _ rfl rfl) ?_
         refine Sx.wl_nil ?_
         refine Sx.qn_then ?_
         refine Sx.wc_cond (by rfl) (fun c43 => ?_) (fun c43 => ?_)
         ·
          omega
         ·
          refine Sx.wc_skip ?_
          refine Sx.qn_then ?_
          refine Sx.wc_seq ?_
          refine Sx.wc_draw (fun w => Sx.St w0 F0 ([Sx.row (Kd.int .i64) 3 (A38) (cp39) (startsOf (stepS s o)), Sx.row (Kd.int .i64) 3 (A36) (cp37) (startsOf s), ixB g6 ((insI (ixOf s) ((o).f1) ((o).f3)).1), Sx.blk b7 [.int .i64 ((insI (ixOf s) ((o).f1) ((o).f3)).2.1.1), .int .i64 ((insI (ixOf s) ((o).f1) ((o).f3)).2.1.2.1), .int .i64 ((insI (ixOf s) ((o).f1) ((o).f3)).2.1.2.2)] 41, Sx.blk b5 [.int .i64 ((stepI s o).1), .int .i64 ((stepI s o).2.1), .int .i64 ((stepI s o).2.2)] 41, ixB g4 (ixOf (stepS s o)), Sx.blk b1 [.bool ((o).f0), .int .i64 ((o).f1), .int .i64 ((o).f2), .string ((o).f3)] 49] ++ R) w) (by kernel_rfl) ?_
          replace h := Sx.st_drew h
          refine Sx.wa_take 0 rfl (by kernel_rfl) (by kernel_rfl) (by kernel_rfl) (fun _ _ _ h => h) rfl rfl (Sx.st_selT [true, true, true, true, true, true, true] h) (fun w_ hS => Sx.ov_move _ rfl) ?_
          refine Sx.wa_take 1 rfl (by kernel_rfl) (by kernel_rfl) (by kernel_rfl) (fun _ _ _ h => h) rfl rfl (Sx.st_selT [true, true, true, true, true, true, true] h) (fun w_ hS => Sx.ov_move _ rfl) ?_
          refine Sx.wa_take 2 rfl (by kernel_rfl) (by kernel_rfl) (by kernel_rfl) (fun _ _ _ h => h) rfl rfl (Sx.st_selT [true, true, true, true, true, true, true] h) (fun w_ hS => Sx.ov_fieldAddr _ ⟨b7, 0, none⟩ _ rfl fo41_0 rfl) ?_
          refine Sx.wa_take 3 rfl (by kernel_rfl) (by kernel_rfl) (by kernel_rfl) (fun _ _ _ h => h) rfl rfl (Sx.st_selT [true, true, true, true, true, true, true] h) (fun w_ hS => Sx.ov_loadb 3 _ hS rfl rfl sh3 rfl) ?_
          obtain ⟨ad44, rfl⟩ := Sx.C_some ((Sx.row_reads h (i := 1) rfl).2) (k := ((insI (ixOf s) ((o).f1) ((o).f3)).2.1.1 : Int).toNat) (by first | assumption | omega)
          refine Sx.wa_take 4 rfl (by kernel_rfl) (by kernel_rfl) (by kernel_rfl) (fun _ _ _ h => h) rfl rfl (Sx.st_selT [true, true, true, true, true, true, true] h) (fun w_ hS => Sx.ov_indexAddrN _ _ _ _ _ ((insI (ixOf s) ((o).f1) ((o).f3)).2.1.1 : Int).toNat rfl rfl es23 (by omega) (by first | assumption | omega | (simp only [List.length_take, List.length_drop, List.length_set]; omega))) ?_
          refine Sx.wa_take 5 rfl (by kernel_rfl) (by kernel_rfl) (by kernel_rfl) (fun _ _ _ h => h) rfl rfl (Sx.st_selT [true, true, true, true, true, true, true] h) (fun w_ hS => by
              obtain ⟨cl47, _, hk46, hc45⟩ := Sx.C_cells ((Sx.row_reads hS (i := 1) rfl).2) (z := (0 : Int)) (k := ((insI (ixOf s) ((o).f1) ((o).f3)).2.1.1 : Int).toNat) (by first | assumption | omega)
              obtain rfl : cl47 = [.int .i64 _] := hk46
              exact Sx.ov_load1 _ _ rfl sh3 ((hc45 0 _ rfl))) ?_
          refine Sx.wa_take 6 rfl (by kernel_rfl) (by kernel_rfl) (by kernel_rfl) (fun _ _ _ h => h) rfl rfl (Sx.st_selT [true, true, true, true, true, true, true] h) (fun w_ hS => by exact Sx.ov_slices _ 0 (((startsOf s).getD ((insI (ixOf s) ((o).f1) ((o).f3)).2.1.1 : Int).toNat (0 : Int) : Int).toNat) (by rfl) (by exact rfl) (by exact ⟨_, _, rfl, (by omega)⟩) Try.underlying9 (by omega) (by omega)) ?_
          refine Sx.wa_take 7 rfl (by kernel_rfl) (by kernel_rfl) (by kernel_rfl) (fun _ _ _ h => h) rfl rfl (Sx.st_selT [true, true, true, true, true, true, true] h) (fun w_ hS => Sx.ov_move _ rfl) ?_
          refine Sx.wa_take 8 rfl (by kernel_rfl) (by kernel_rfl) (by kernel_rfl) (fun _ _ _ h => h) rfl rfl (Sx.st_selT [true, true, true, true, true, true, true] h) (fun w_ hS => Sx.ov_move _ rfl) ?_
          refine Sx.wa_take 9 rfl (by kernel_rfl) (by kernel_rfl) (by kernel_rfl) (fun _ _ _ h => h) rfl rfl (Sx.st_selT [true, true, true, true, true, true, true] h) (fun w_ hS => Sx.ov_fieldAddr _ ⟨b7, 0, none⟩ _ rfl fo41_0 rfl) ?_
          refine Sx.wa_take 10 rfl (by kernel_rfl) (by kernel_rfl) (by kernel_rfl) (fun _ _ _ h => h) rfl rfl (Sx.st_selT [true, true, true, true, true, true, true] h) (fun w_ hS => Sx.ov_loadb 3 _ hS rfl rfl sh3 rfl) ?_
          obtain ⟨ad48, rfl⟩ := Sx.C_some ((Sx.row_reads h (i := 0) rfl).2) (k := ((insI (ixOf s) ((o).f1) ((o).f3)).2.1.1 : Int).toNat) (by first | assumption | omega)
          refine Sx.wa_take 11 rfl (by kernel_rfl) (by kernel_rfl) (by kernel_rfl) (fun _ _ _ h => h) rfl rfl (Sx.st_selT [true, true, true, true, true, true, true] h) (fun w_ hS => Sx.ov_indexAddrN _ _ _ _ _ ((insI (ixOf s) ((o).f1) ((o).f3)).2.1.1 : Int).toNat rfl rfl es23 (by omega) (by first | assumption | omega | (simp only [List.length_take, List.length_drop, List.length_set]; omega))) ?_
          refine Sx.wa_take 12 rfl (by kernel_rfl) (by kernel_rfl) (by kernel_rfl) (fun _ _ _ h => h) rfl rfl (Sx.st_selT [true, true, true, true, true, true, true] h) (fun w_ hS => by
              obtain ⟨cl51, _, hk50, hc49⟩ := Sx.C_cells ((Sx.row_reads hS (i := 0) rfl).2) (z := (0 : Int)) (k := ((insI (ixOf s) ((o).f1) ((o).f3)).2.1.1 : Int).toNat) (by first | assumption | omega)
              obtain rfl : cl51 = [.int .i64 _] := hk50
              exact Sx.ov_load1 _ _ rfl sh3 ((hc49 0 _ rfl))) ?_
          refine Sx.wa_take 13 rfl (by kernel_rfl) (by kernel_rfl) (by kernel_rfl) (fun _ _ _ h => h) rfl rfl (Sx.st_selT [true, true, true, true, true, true, true] h) (fun w_ hS => by exact Sx.ov_slices _ 0 (((startsOf (stepS s o)).getD ((insI (ixOf s) ((o).f1) ((o).f3)).2.1.1 : Int).toNat (0 : Int) : Int).toNat) (by rfl) (by exact rfl) (by exact ⟨_, _, rfl, (by omega)⟩) Try.underlying9 (by omega) (by omega)) ?_
          refine Sx.wa_take 14 rfl (by kernel_rfl) (by kernel_rfl) (by kernel_rfl) (fun _ _ _ h => h) rfl rfl (Sx.st_selT [true, true, true, true, true, true, true] h) (fun w_ hS => Sx.ov_bin _ rfl rfl (Sx.binR_eqs)) ?_
          refine Sx.wa_take 15 rfl (by kernel_rfl) (by kernel_rfl) (by kernel_rfl) (fun _ _ _ h => h) rfl rfl (Sx.st_selT [true, true, true, true, true, true, true] h) (fun w_ hS => Sx.ov_move _ rfl) ?_
          refine Sx.wa_split 129 rfl (fun c52 => ?_) (fun c52 => ?_)
          ·
           refine Sx.wa_take 16 rfl (by kernel_rfl) (by kernel_rfl) (by kernel_rfl) (fun _ _ _ h => h) rfl rfl (Sx.st_selT [true, true, true, true, true, true, true] h) (fun w_ hS => Sx.ov_move _ rfl) ?_
           refine Sx.wa_take 17 rfl (by kernel_rfl) (by kernel_rfl) (by kernel_rfl) (fun _ _ _ h => h) rfl rfl (Sx.st_selT [true, true, true, true, true, true, true] h) (fun w_ hS => Sx.ov_move _ rfl) ?_
           refine Sx.wa_take 18 rfl (by kernel_rfl) (by kernel_rfl) (by kernel_rfl) (fun _ _ _ h => h) rfl rfl (Sx.st_selT [true, true, true, true, true, true, true] h) (fun w_ hS => Sx.ov_fieldAddr _ ⟨b7, 0, none⟩ _ rfl fo41_0 rfl) ?_
           refine Sx.wa_take 19 rfl (by kernel_rfl) (by kernel_rfl) (by kernel_rfl) (fun _ _ _ h => h) rfl rfl (Sx.st_selT [true, true, true, true, true, true, true] h) (fun w_ hS => Sx.ov_loadb 3 _ hS rfl rfl sh3 rfl) ?_
           refine Sx.wa_take 20 rfl (by kernel_rfl) (by kernel_rfl) (by kernel_rfl) (fun _ _ _ h => h) rfl rfl (Sx.st_selT [true, true, true, true, true, true, true] h) (fun w_ hS => Sx.ov_fieldAddr _ ⟨b7, 1, none⟩ _ rfl fo41_1 rfl) ?_
           refine Sx.wa_take 21 rfl (by kernel_rfl) (by kernel_rfl) (by kernel_rfl) (fun _ _ _ h => h) rfl rfl (Sx.st_selT [true, true, true, true, true, true, true] h) (fun w_ hS => Sx.ov_loadb 3 _ hS rfl rfl sh3 rfl) ?_
           refine Sx.wa_take 22 rfl (by kernel_rfl) (by kernel_rfl) (by kernel_rfl) (fun _ _ _ h => h) rfl rfl (Sx.st_selT [true, true, true, true, true, true, true] h) (fun w_ hS => Sx.ov_bin _ rfl rfl (Sx.binR_add (r := ((insI (ixOf s) ((o).f1) ((o).f3)).2.1.1) + ((insI (ixOf s) ((o).f1) ((o).f3)).2.1.2.1)) (Sx.w64 (by omega)))) ?_
           refine Sx.wa_take 23 rfl (by kernel_rfl) (by kernel_rfl) (by kernel_rfl) (fun _ _ _ h => h) rfl rfl (Sx.st_selT [true, true, true, true, true, true, true] h) (fun w_ hS => Sx.ov_indexAddrN _ _ _ _ _ (((insI (ixOf s) ((o).f1) ((o).f3)).2.1.1) + ((insI (ixOf s) ((o).f1) ((o).f3)).2.1.2.1) : Int).toNat rfl rfl es23 (by omega) (by first | assumption | omega | (simp only [List.length_take, List.length_drop, List.length_set]; omega))) ?_
           refine Sx.wa_take 24 rfl (by kernel_rfl) (by kernel_rfl) (by kernel_rfl) (fun _ _ _ h => h) rfl rfl (Sx.st_selT [true, true, true, true, true, true, true] h) (fun w_ hS => by
               obtain ⟨cl55, _, hk54, hc53⟩ := Sx.C_cells ((Sx.row_reads hS (i := 1) rfl).2) (z := (0 : Int)) (k := (((insI (ixOf s) ((o).f1) ((o).f3)).2.1.1) + ((insI (ixOf s) ((o).f1) ((o).f3)).2.1.2.1) : Int).toNat) (by first | assumption | omega)
               obtain rfl : cl55 = [.int .i64 _] := hk54
               exact Sx.ov_load1 _ _ rfl sh3 ((hc53 0 _ rfl))) ?_
           refine Sx.wa_take 25 rfl (by kernel_rfl) (by kernel_rfl) (by kernel_rfl) (fun _ _ _ h => h) rfl rfl (Sx.st_selT [true, true, true, true, true, true, true] h) (fun w_ hS => by exact Sx.ov_slices _ (((startsOf s).getD (((insI (ixOf s) ((o).f1) ((o).f3)).2.1.1) + ((insI (ixOf s) ((o).f1) ((o).f3)).2.1.2.1) : Int).toNat (0 : Int) : Int).toNat) ((s).size) (by rfl) (by exact ⟨_, _, rfl, (by omega)⟩) (by exact rfl) Try.underlying9 (by omega) (by omega)) ?_
           refine Sx.wa_take 26 rfl (by kernel_rfl) (by kernel_rfl) (by kernel_rfl) (fun _ _ _ h => h) rfl rfl (Sx.st_selT [true, true, true, true, true, true, true] h) (fun w_ hS => Sx.ov_move _ rfl) ?_
           refine Sx.wa_take 27 rfl (by kernel_rfl) (by kernel_rfl) (by kernel_rfl) (fun _ _ _ h => h) rfl rfl (Sx.st_selT [true, true, true, true, true, true, true] h) (fun w_ hS => Sx.ov_move _ rfl) ?_
           refine Sx.wa_take 28 rfl (by kernel_rfl) (by kernel_rfl) (by kernel_rfl) (fun _ _ _ h => h) rfl rfl (Sx.st_selT [true, true, true, true, true, true, true] h) (fun w_ hS => Sx.ov_fieldAddr _ ⟨b7, 0, none⟩ _ rfl fo41_0 rfl) ?_
           refine Sx.wa_take 29 rfl (by kernel_rfl) (by kernel_rfl) (by kernel_rfl) (fun _ _ _ h => h) rfl rfl (Sx.st_selT [true, true, true, true, true, true, true] h) (fun w_ hS => Sx.ov_loadb 3 _ hS rfl rfl sh3 rfl) ?_
           refine Sx.wa_take 30 rfl (by kernel_rfl) (by kernel_rfl) (by kernel_rfl) (fun _ _ _ h => h) rfl rfl (Sx.st_selT [true, true, true, true, true, true, true] h) (fun w_ hS => Sx.ov_fieldAddr _ ⟨b7, 2, none⟩ _ rfl fo41_2 rfl) ?_
           refine Sx.wa_take 31 rfl (by kernel_rfl) (by kernel_rfl) (by kernel_rfl) (fun _ _ _ h => h) rfl rfl (Sx.st_selT [true, true, true, true, true, true, true] h) (fun w_ hS => Sx.ov_loadb 3 _ hS rfl rfl sh3 rfl) ?_
           refine Sx.wa_take 32 rfl (by kernel_rfl) (by kernel_rfl) (by kernel_rfl) (fun _ _ _ h => h) rfl rfl (Sx.st_selT [true, true, true, true, true, true, true] h) (fun w_ hS => Sx.ov_bin _ rfl rfl (Sx.binR_add (r := ((insI (ixOf s) ((o).f1) ((o).f3)).2.1.1) + ((insI (ixOf s) ((o).f1) ((o).f3)).2.1.2.2)) (Sx.w64 (by omega)))) ?_
           refine Sx.wa_take 33 rfl (by kernel_rfl) (by kernel_rfl) (by kernel_rfl) (fun _ _ _ h => h) rfl rfl (Sx.st_selT [true, true, true, true, true, true, true] h) (fun w_ hS => Sx.ov_indexAddrN _ _ _ _ _ (((insI (ixOf s) ((o).f1) ((o).f3)).2.1.1) + ((insI (ixOf s) ((o).f1) ((o).f3)).2.1.2.2) : Int).toNat rfl rfl es23 (by omega) (by first | assumption | omega | (simp only [List.length_take, List.length_drop, List.length_set]; omega))) ?_
           refine Sx.wa_take 34 rfl (by kernel_rfl) (by kernel_rfl) (by kernel_rfl) (fun _ _ _ h => h) rfl rfl (Sx.st_selT [true, true, true, true, true, true, true] h) (fun w_ hS => by
               obtain ⟨cl58, _, hk57, hc56⟩ := Sx.C_cells ((Sx.row_reads hS (i := 0) rfl).2) (z := (0 : Int)) (k := (((insI (ixOf s) ((o).f1) ((o).f3)).2.1.1) + ((insI (ixOf s) ((o).f1) ((o).f3)).2.1.2.2) : Int).toNat) (by first | assumption | omega)
               obtain rfl : cl58 = [.int .i64 _] := hk57
               exact Sx.ov_load1 _ _ rfl sh3 ((hc56 0 _ rfl))) ?_
           refine Sx.wa_take 35 rfl (by kernel_rfl) (by kernel_rfl) (by kernel_rfl) (fun _ _ _ h => h) rfl rfl (Sx.st_selT [true, true, true, true, true, true, true] h) (fun w_ hS => by exact Sx.ov_slices _ (((startsOf (stepS s o)).getD (((insI (ixOf s) ((o).f1) ((o).f3)).2.1.1) + ((insI (ixOf s) ((o).f1) ((o).f3)).2.1.2.2) : Int).toNat (0 : Int) : Int).toNat) ((stepS s o).size) (by rfl) (by exact ⟨_, _, rfl, (by omega)⟩) (by exact rfl) Try.underlying9 (by omega) (by omega)) ?_
           refine Sx.wa_take 36 rfl (by kernel_rfl) (by kernel_rfl) (by kernel_rfl) (fun _ _ _ h => h) rfl rfl (Sx.st_selT [true, true, true, true, true, true, true] h) (fun w_ hS => Sx.ov_bin _ rfl rfl (Sx.binR_eqs)) ?_
           refine Sx.wa_take 37 rfl (by kernel_rfl) (by kernel_rfl) (by kernel_rfl) (fun _ _ _ h => h) rfl rfl (Sx.st_selT [true, true, true, true, true, true, true] h) (fun w_ hS => Sx.ov_pick_true _ rfl rfl) ?_
           refine Sx.wa_take 38 rfl (by kernel_rfl) (by kernel_rfl) (by kernel_rfl) (fun _ _ _ h => h) rfl rfl (Sx.st_selT [true, true, true, true, true, true, true] h) (fun w_ hS => Sx.ov_assign _ rfl) ?_
           refine Sx.wa_done (by kernel_rfl) ?_
           refine Sx.qn_then ?_
           refine Sx.wc_ret ?_
           replace h := Sx.st_selT [false, false, false, false, false, false, false] h
           refine Sx.qn_ret [_] ⟨rfl, trivial⟩ ?_
           have b_ : (decide (((s).extract (((startsOf s).getD (((insI (ixOf s) ((o).f1) ((o).f3)).2.1.1) + ((insI (ixOf s) ((o).f1) ((o).f3)).2.1.2.1) : Int).toNat (0 : Int) : Int).toNat) ((s).size)) = ((stepS s o).extract (((startsOf (stepS s o)).getD (((insI (ixOf s) ((o).f1) ((o).f3)).2.1.1) + ((insI (ixOf s) ((o).f1) ((o).f3)).2.1.2.2) : Int).toNat (0 : Int) : Int).toNat) ((stepS s o).size)))) = true := by first | exact decide_eq_true hw_ | exact decide_eq_true hk17
           exact ⟨congrArg (fun z => Ending.returned (Value.bool z)) b_, h⟩
          ·
           exact absurd hk16 c52
end Go.Proofs.Yteancplgfjhagaa.Paras.L
