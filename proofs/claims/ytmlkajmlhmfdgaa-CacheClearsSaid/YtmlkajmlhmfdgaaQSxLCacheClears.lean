/- Pruned by wip/prune.py. -/
import Derived.Test.YtmlkajmlhmfdgaaProg
import Derived.Test.YtmlkajmlhmfdgaaQSxGlue
import Derived.Test.YtmlkajmlhmfdgaaQSxArr
import Derived.Test.YtmlkajmlhmfdgaaQSxKinds
import Derived.Test.YtmlkajmlhmfdgaaQRunsTh
import Derived.Test.YtmlkajmlhmfdgaaQSxRunsR
import Derived.Test.YtmlkajmlhmfdgaaQCaP
import Derived.Test.YtmlkajmlhmfdgaaQCaRef
import Derived.Test.YtmlkajmlhmfdgaaQSxCKey
import Derived.Test.YtmlkajmlhmfdgaaQSxRowI
import Derived.Test.YtmlkajmlhmfdgaaQSxCaI
import Derived.Test.YtmlkajmlhmfdgaaQSxKeys
import Derived.Test.YtmlkajmlhmfdgaaQSxRefs
import Derived.Test.YtmlkajmlhmfdgaaQCaAwk
import Derived.Test.YtmlkajmlhmfdgaaQSxPlayed
import Derived.Test.YtmlkajmlhmfdgaaQSxAwake
import Derived.Test.YtmlkajmlhmfdgaaQSxRowS
import Derived.Test.YtmlkajmlhmfdgaaQSxCaS
namespace Go.Proofs.Ytmlkajmlhmfdgaa.L
open Go Go.RowKit Go.Proofs.YtmlkajmlhmfdgaaW.PrintWords Go.Proofs.Ytmlkajmlhmfdgaa.Kinds Go.Proofs.Ytmlkajmlhmfdgaa.Runs Go.Proofs.Ytmlkajmlhmfdgaa.RW Go.Proofs.Ytmlkajmlhmfdgaa.Ca Go.Proofs.Ytmlkajmlhmfdgaa.Sx Go.Proofs.Ytmlkajmlhmfdgaa.RI Go.Proofs.Ytmlkajmlhmfdgaa.CCI Go.Proofs.Ytmlkajmlhmfdgaa.Kinds 
set_option linter.unusedVariables false
set_option linter.unusedSimpArgs false
theorem ent9 : Sx.Ent Try.prog 9 := ⟨Try.f9, Try.func9, by kernel_rfl, by kernel_rfl⟩
theorem sh33 : Sx.shapeOf Try.prog 33 = some (true, 11) := by kernel_rfl
theorem ent15 : Sx.Ent Try.prog 15 := ⟨Try.f15, Try.func15, by kernel_rfl, by kernel_rfl⟩
theorem ent24 : Sx.Ent Try.prog 24 := ⟨Try.f24, Try.func24, by kernel_rfl, by kernel_rfl⟩
theorem zo58 : Sx.zeroOf Try.prog 58 = some (.agg #[.int .i64 (0), .slice (none) (0) (0), .int .i64 (0), .int .i64 (0)]) := by kernel_rfl
theorem sh58 : Sx.shapeOf Try.prog 58 = some (true, 4) := by kernel_rfl
theorem ent28 : Sx.Ent Try.prog 28 := ⟨Try.f28, Try.func28, by kernel_rfl, by kernel_rfl⟩
theorem ent23 : Sx.Ent Try.prog 23 := ⟨Try.f23, Try.func23, by kernel_rfl, by kernel_rfl⟩
theorem ent25 : Sx.Ent Try.prog 25 := ⟨Try.f25, Try.func25, by kernel_rfl, by kernel_rfl⟩
theorem es44 : Sx.elemSz Try.prog 44 = some (33, 11) := by kernel_rfl
theorem ent22 : Sx.Ent Try.prog 22 := ⟨Try.f22, Try.func22, by kernel_rfl, by kernel_rfl⟩
theorem ent21 : Sx.Ent Try.prog 21 := ⟨Try.f21, Try.func21, by kernel_rfl, by kernel_rfl⟩
theorem ent26 : Sx.Ent Try.prog 26 := ⟨Try.f26, Try.func26, by kernel_rfl, by kernel_rfl⟩
theorem fo58_2 : Sx.fieldOff Try.prog 58 2 = some 2 := by kernel_rfl
theorem sh3 : Sx.shapeOf Try.prog 3 = some (false, 1) := by kernel_rfl
theorem fo58_3 : Sx.fieldOff Try.prog 58 3 = some 3 := by kernel_rfl
set_option maxHeartbeats 400000 in
set_option maxRecDepth 100000 in
theorem CacheClears_calls {w0 w : World} {F0 : Nat → Prop} {R : List Sx.HP} {v0 : World} (room : Int) (script : List S69) (Ascript : Option Addr) (cscript : Nat) (k : S33) (Ak0 : Option Addr) (ck0 : Nat) (hv : Sx.RO v0 w0 F0) (hlscript : script.length ≤ cscript) (hCscript : k69.C v0 Ascript script.length script) (hmscript : script.length ≤ 9223372036854775807) (hlk0 : k.f1.length ≤ ck0) (hCk0 : k50.C v0 Ak0 k.f1.length k.f1) (h : Sx.St w0 F0 ([] ++ R) w) : Calls Try.prog 8 #[.int .i64 (room), .slice (Ascript) (script.length) (cscript), .agg #[.string ((k).f0), .slice (Ak0) (((k).f1).length) (ck0), .int .i64 ((k).f2), .int .i64 ((k).f3), .int .i64 (((k).f4).f0), .int .i64 (((k).f4).f1), .int .i64 (((k).f4).f2), .int .i64 (((k).f4).f3), .int .i64 (((k).f4).f4), .int .i64 (((k).f4).f5), .int .i64 (((k).f4).f6)]] w (fun e w1 => e = .returned (.bool true) ∧ Sx.St w0 F0 R w1) := by
 refine Sx.calls_fn (vs := [.int .i64 (room), .slice (Ascript) (script.length) (cscript), .agg #[.string ((k).f0), .slice (Ak0) (((k).f1).length) (ck0), .int .i64 ((k).f2), .int .i64 ((k).f3), .int .i64 (((k).f4).f0), .int .i64 (((k).f4).f1), .int .i64 (((k).f4).f2), .int .i64 (((k).f4).f3), .int .i64 (((k).f4).f4), .int .i64 (((k).f4).f5), .int .i64 (((k).f4).f6)]]) Try.func8 rfl Try.ntmps8 rfl ?_
 refine wc_seq ?_
 refine wc_region ?_
 refine wl_box _ h rfl rfl rfl (fun b1 _ h => ?_)
 replace h : Sx.St _ _ (Sx.blk b1 [.string ((k).f0), .slice (Ak0) (((k).f1).length) (ck0), .int .i64 ((k).f2), .int .i64 ((k).f3), .int .i64 (((k).f4).f0), .int .i64 (((k).f4).f1), .int .i64 (((k).f4).f2), .int .i64 (((k).f4).f3), .int .i64 (((k).f4).f4), .int .i64 (((k).f4).f5), .int .i64 (((k).f4).f6)] 33 :: _) _ := h
 refine wl_v rfl rfl (ov_assign _ rfl) ?_
 refine wl_nil ?_
 refine qn_then ?_
 refine wc_seq ?_
 refine wc_seq ?_
 refine wc_region ?_
 refine wl_call _ rfl rfl rfl ent9 (AW.awake_calls (R := [Sx.blk b1 [.string ((k).f0), .slice (Ak0) (((k).f1).length) (ck0), .int .i64 ((k).f2), .int .i64 ((k).f3), .int .i64 (((k).f4).f0), .int .i64 (((k).f4).f1), .int .i64 (((k).f4).f2), .int .i64 (((k).f4).f3), .int .i64 (((k).f4).f4), .int .i64 (((k).f4).f5), .int .i64 (((k).f4).f6)] 33] ++ R) h) ?_
 rintro e_ w_ ⟨rfl, h⟩
 refine ⟨_, rfl, ?_⟩
 refine wl_v rfl rfl (ov_notb _ rfl) ?_
 refine wl_nil ?_
 refine qn_then ?_
 refine wc_cond_false rfl ?_
 refine wc_skip ?_
 refine qn_then ?_
 refine wc_seq ?_
 refine wc_seq ?_
 refine wc_region ?_
 refine wl_v rfl rfl (ov_move _ rfl) ?_
 refine wl_v rfl rfl (ov_bin _ rfl rfl (binR_lss)) ?_
 refine wl_v rfl rfl (ov_move _ rfl) ?_
 refine wl_split 19 rfl (fun c2 => ?_) (fun c2 => ?_)
 ·
  refine wl_skip rfl rfl ?_
  refine wl_skip rfl rfl ?_
  refine wl_v rfl rfl (ov_pick_true _ rfl rfl) ?_
  refine wl_v rfl rfl (ov_move _ rfl) ?_
  refine wl_skip rfl rfl ?_
  refine wl_skip rfl rfl ?_
  refine wl_skip rfl rfl ?_
  refine wl_v rfl rfl (ov_pick_true _ rfl rfl) ?_
  refine wl_nil ?_
  refine qn_then ?_
  refine wc_cond_true rfl ?_
  refine wc_seq ?_
  refine wc_region ?_
  refine wl_v rfl rfl (ov_assign _ rfl) ?_
  refine wl_nil ?_
  refine qn_then ?_
  refine wc_ret ?_
  refine qn_then_ret ?_
  replace h := st_selT [false] h
  refine qn_ret [_] ⟨rfl, trivial⟩ ?_
  exact ⟨rfl, h⟩
 ·
  refine wl_v rfl rfl (ov_move _ rfl) ?_
  refine wl_v rfl rfl (ov_bin _ rfl rfl (binR_gtr)) ?_
  refine wl_v rfl rfl (ov_pick_false _ rfl rfl) ?_
  refine wl_v rfl rfl (ov_move _ rfl) ?_
  refine wl_split 23 rfl (fun c3 => ?_) (fun c3 => ?_)
  ·
   refine wl_skip rfl rfl ?_
   refine wl_skip rfl rfl ?_
   refine wl_skip rfl rfl ?_
   refine wl_v rfl rfl (ov_pick_true _ rfl rfl) ?_
   refine wl_nil ?_
   refine qn_then ?_
   refine wc_cond_true rfl ?_
   refine wc_seq ?_
   refine wc_region ?_
   refine wl_v rfl rfl (ov_assign _ rfl) ?_
   refine wl_nil ?_
   refine qn_then ?_
   refine wc_ret ?_
   refine qn_then_ret ?_
   replace h := st_selT [false] h
   refine qn_ret [_] ⟨rfl, trivial⟩ ?_
   exact ⟨rfl, h⟩
  ·
   refine wl_v rfl rfl (ov_loadbN 0 [.string ((k).f0), .slice (Ak0) (((k).f1).length) (ck0), .int .i64 ((k).f2), .int .i64 ((k).f3), .int .i64 (((k).f4).f0), .int .i64 (((k).f4).f1), .int .i64 (((k).f4).f2), .int .i64 (((k).f4).f3), .int .i64 (((k).f4).f4), .int .i64 (((k).f4).f5), .int .i64 (((k).f4).f6)] h rfl rfl sh33 rfl) ?_
   refine wl_call _ rfl rfl rfl ent15 (CK.fits_calls (R := [Sx.blk b1 [.string ((k).f0), .slice (Ak0) (((k).f1).length) (ck0), .int .i64 ((k).f2), .int .i64 ((k).f3), .int .i64 (((k).f4).f0), .int .i64 (((k).f4).f1), .int .i64 (((k).f4).f2), .int .i64 (((k).f4).f3), .int .i64 (((k).f4).f4), .int .i64 (((k).f4).f5), .int .i64 (((k).f4).f6)] 33] ++ R) (k) (Ak0) (ck0) (fun _ _ h_ => Sx.ro_C hv h_ hCk0) h) ?_
   rintro e_ w_ ⟨rfl, h⟩
   refine ⟨_, rfl, ?_⟩
   refine wl_v rfl rfl (ov_not _ (¬ (fitsP (k))) rfl (by first | exact decide_not.symm | simp)) ?_
   refine wl_v rfl rfl (ov_pick_false _ rfl rfl) ?_
   refine wl_nil ?_
   refine qn_then ?_
   refine wc_cond (by rfl) (fun c4 => ?_) (fun c4 => ?_)
   ·
    refine wc_seq ?_
    refine wc_region ?_
    refine wl_v rfl rfl (ov_assign _ rfl) ?_
    refine wl_nil ?_
    refine qn_then ?_
    refine wc_ret ?_
    refine qn_then_ret ?_
    replace h := st_selT [false] h
    refine qn_ret [_] ⟨rfl, trivial⟩ ?_
    exact ⟨rfl, h⟩
   ·
    have hfit_ : fitsP k := by simpa using c4
    have hsm_ := fits_small hfit_
    refine wc_skip ?_
    refine qn_then ?_
    refine wc_seq ?_
    refine wc_region ?_
    refine wl_v rfl rfl (ov_move _ rfl) ?_
    refine wl_v rfl rfl (ov_move _ rfl) ?_
    refine wl_call _ rfl rfl rfl ent24 (PL.played_calls (R := [Sx.blk b1 [.string ((k).f0), .slice (Ak0) (((k).f1).length) (ck0), .int .i64 ((k).f2), .int .i64 ((k).f3), .int .i64 (((k).f4).f0), .int .i64 (((k).f4).f1), .int .i64 (((k).f4).f2), .int .i64 (((k).f4).f3), .int .i64 (((k).f4).f4), .int .i64 (((k).f4).f5), .int .i64 (((k).f4).f6)] 33] ++ R) room (script) (Ascript) (cscript) hv (by omega) hlscript hCscript h) ?_
    rintro e_ w_ ⟨gp5, Ap5, cp5, Lp5, Hp5, Mp5, rfl, hpp5, hep5, h⟩
    refine ⟨_, rfl, ?_⟩
    have hbdp5 := play_bd (room := room) (by omega) (script) (min (script).length 60) (Nat.min_le_left _ _)
    rw [hpp5] at hbdp5
    obtain ⟨hb1p5, hb2p5, hb3p5, hb4p5, hb5p5, hb6p5⟩ := hbdp5
    replace hb1p5 : ((RMl Lp5).length : Int) ≤ room := hb1p5
    replace hb2p5 : (RMl Lp5).length ≤ min (script).length 60 := hb2p5
    replace hb3p5 : 0 ≤ Hp5 := hb3p5
    replace hb4p5 : Hp5 ≤ ((min (script).length 60 : Nat) : Int) := hb4p5
    replace hb5p5 : 0 ≤ Mp5 := hb5p5
    replace hb6p5 : Mp5 ≤ ((min (script).length 60 : Nat) : Int) := hb6p5
    have hrlp5 : (RMl Lp5).length = Lp5.length := List.length_map _
    replace h : Sx.St w0 F0 ([cacheP 87 90 85 (Value.int .i64) gp5 (room) (RMl Lp5) (Hp5) (Mp5), rlst (Ap5) (Lp5), Sx.blk b1 [.string ((k).f0), .slice (Ak0) (((k).f1).length) (ck0), .int .i64 ((k).f2), .int .i64 ((k).f3), .int .i64 (((k).f4).f0), .int .i64 (((k).f4).f1), .int .i64 (((k).f4).f2), .int .i64 (((k).f4).f3), .int .i64 (((k).f4).f4), .int .i64 (((k).f4).f5), .int .i64 (((k).f4).f6)] 33] ++ R) _ := h
    refine wl_v rfl rfl (ov_move _ rfl) ?_
    refine wl_v rfl rfl (ov_extract [.pointer (some ⟨gp5, 0, none⟩), .agg #[.int .i64 (room), .slice (Ap5) (Lp5.length) (cp5), .int .i64 (Hp5), .int .i64 (Mp5)]] _ rfl rfl) ?_
    refine wl_v rfl rfl (ov_extract [.pointer (some ⟨gp5, 0, none⟩), .agg #[.int .i64 (room), .slice (Ap5) (Lp5.length) (cp5), .int .i64 (Hp5), .int .i64 (Mp5)]] _ rfl rfl) ?_
    refine wl_alloc _ h rfl rfl zo58 (fun b6 _ h => ?_)
    replace h : Sx.St _ _ (Sx.blk b6 [.int .i64 (0), .slice (none) (0) (0), .int .i64 (0), .int .i64 (0)] 58 :: _) _ := h
    refine wl_v rfl rfl (ov_assign _ rfl) ?_
    refine wl_storebN 0 [.int .i64 (room), .slice (Ap5) (Lp5.length) (cp5), .int .i64 (Hp5), .int .i64 (Mp5)] [.int .i64 (room), .slice (Ap5) (Lp5.length) (cp5), .int .i64 (Hp5), .int .i64 (Mp5)] h rfl rfl rfl rfl (by simp [Value.oneCell']) sh58 rfl rfl (fun _ h => ?_)
    refine wl_nil ?_
    refine qn_then ?_
    refine wc_seq ?_
    refine wc_seq ?_
    refine wc_region ?_
    refine wl_v rfl rfl (ov_move _ rfl) ?_
    refine wl_v rfl rfl (ov_bin (.bool false) rfl rfl (binR_eqnil Try.underlying45)) ?_
    refine wl_nil ?_
    refine qn_then ?_
    refine wc_cond_false rfl ?_
    refine wc_skip ?_
    refine qn_then ?_
    refine wc_seq ?_
    refine wc_region ?_
    refine wl_v rfl rfl (ov_move _ rfl) ?_
    replace h := st_front 1 h
    refine wl_call _ rfl rfl rfl ent28 (CCI.Clear_calls (R := [Sx.blk b6 [.int .i64 (room), .slice (Ap5) (Lp5.length) (cp5), .int .i64 (Hp5), .int .i64 (Mp5)] 58, rlst (Ap5) (Lp5), Sx.blk b1 [.string ((k).f0), .slice (Ak0) (((k).f1).length) (ck0), .int .i64 ((k).f2), .int .i64 ((k).f3), .int .i64 (((k).f4).f0), .int .i64 (((k).f4).f1), .int .i64 (((k).f4).f2), .int .i64 (((k).f4).f3), .int .i64 (((k).f4).f4), .int .i64 (((k).f4).f5), .int .i64 (((k).f4).f6)] 33] ++ R) gp5 (room) (Hp5) (Mp5) (RMl Lp5) h) ?_
    rintro e_ w_ ⟨rfl, h⟩
    refine ⟨_, rfl, ?_⟩
    refine wl_nil ?_
    refine qn_then ?_
    refine wc_seq ?_
    refine wc_seq ?_
    refine wc_region ?_
    refine wl_v rfl rfl (ov_move _ rfl) ?_
    refine wl_call _ rfl rfl rfl ent23 (CCI.Len_calls (R := [Sx.blk b6 [.int .i64 (room), .slice (Ap5) (Lp5.length) (cp5), .int .i64 (Hp5), .int .i64 (Mp5)] 58, rlst (Ap5) (Lp5), Sx.blk b1 [.string ((k).f0), .slice (Ak0) (((k).f1).length) (ck0), .int .i64 ((k).f2), .int .i64 ((k).f3), .int .i64 (((k).f4).f0), .int .i64 (((k).f4).f1), .int .i64 (((k).f4).f2), .int .i64 (((k).f4).f3), .int .i64 (((k).f4).f4), .int .i64 (((k).f4).f5), .int .i64 (((k).f4).f6)] 33] ++ R) gp5 (room) (Hp5) (Mp5) ([] : LM Int) h) ?_
    rintro e_ w_ ⟨rfl, h⟩
    refine ⟨_, rfl, ?_⟩
    refine wl_v rfl rfl (ov_bin _ rfl rfl (binR_neq)) ?_
    refine wl_v rfl rfl (ov_move _ rfl) ?_
    refine wl_split 41 rfl (fun c7 => ?_) (fun c7 => ?_)
    ·
     exfalso
     first | exact absurd rfl c7 | (simp at *; omega) | omega
    ·
     refine wl_v rfl rfl (ov_move _ rfl) ?_
     refine wl_call _ rfl rfl rfl ent25 (KY.Keys_calls (R := [Sx.blk b6 [.int .i64 (room), .slice (Ap5) (Lp5.length) (cp5), .int .i64 (Hp5), .int .i64 (Mp5)] 58, rlst (Ap5) (Lp5), Sx.blk b1 [.string ((k).f0), .slice (Ak0) (((k).f1).length) (ck0), .int .i64 ((k).f2), .int .i64 ((k).f3), .int .i64 (((k).f4).f0), .int .i64 (((k).f4).f1), .int .i64 (((k).f4).f2), .int .i64 (((k).f4).f3), .int .i64 (((k).f4).f4), .int .i64 (((k).f4).f5), .int .i64 (((k).f4).f6)] 33] ++ R) gp5 (room) (Hp5) (Mp5) ([] : LM Int) (by first | omega | exact Nat.zero_le _ | (have z_ := putM_len room ([] : LM Int) (k) (5 : Int) (by omega) (by show ((0 : Nat) : Int) ≤ room; omega); exact Nat.le_trans z_.2.1 (by decide))) h) ?_
     rintro e_ w_ ⟨Ay8, cy8, Ky8, Hy8, rfl, hky8, hmy8, h⟩
     refine ⟨_, rfl, ?_⟩
     replace h : Sx.St w0 F0 ([Sx.row kKH 33 (Ay8) (cy8) (Ky8), rlib (Hy8), cacheP 87 90 85 (Value.int .i64) gp5 (room) ([] : LM Int) (Hp5) (Mp5), Sx.blk b6 [.int .i64 (room), .slice (Ap5) (Lp5.length) (cp5), .int .i64 (Hp5), .int .i64 (Mp5)] 58, rlst (Ap5) (Lp5), Sx.blk b1 [.string ((k).f0), .slice (Ak0) (((k).f1).length) (ck0), .int .i64 ((k).f2), .int .i64 ((k).f3), .int .i64 (((k).f4).f0), .int .i64 (((k).f4).f1), .int .i64 (((k).f4).f2), .int .i64 (((k).f4).f3), .int .i64 (((k).f4).f4), .int .i64 (((k).f4).f5), .int .i64 (((k).f4).f6)] 33] ++ R) _ := h
     have hkly8 : Ky8.length = ([] : LM Int).length := by have z_ := congrArg List.length hky8; simpa using z_
     refine wl_v rfl rfl (ov_len _ _ _ _ _ rfl es44) ?_
     refine wl_v rfl rfl (ov_bin _ rfl rfl (binR_neq)) ?_
     refine wl_v rfl rfl (ov_pick_false _ rfl rfl) ?_
     refine wl_nil ?_
     refine qn_then ?_
     refine wc_cond (by rfl) (fun c9 => ?_) (fun c9 => ?_)
     ·
      exfalso
      first | exact absurd rfl c9 | (simp at *; omega) | omega
     ·
      refine wc_skip ?_
      refine qn_then ?_
      refine wc_seq ?_
      refine wc_region ?_
      refine wl_v rfl rfl (ov_move _ rfl) ?_
      refine wl_v rfl rfl (ov_loadbN 5 [.string ((k).f0), .slice (Ak0) (((k).f1).length) (ck0), .int .i64 ((k).f2), .int .i64 ((k).f3), .int .i64 (((k).f4).f0), .int .i64 (((k).f4).f1), .int .i64 (((k).f4).f2), .int .i64 (((k).f4).f3), .int .i64 (((k).f4).f4), .int .i64 (((k).f4).f5), .int .i64 (((k).f4).f6)] h rfl rfl sh33 rfl) ?_
      replace h := st_front 2 h
      refine wl_call _ rfl rfl rfl ent22 (CCI.Get_calls (R := [Sx.row kKH 33 (Ay8) (cy8) (Ky8), rlib (Hy8), Sx.blk b6 [.int .i64 (room), .slice (Ap5) (Lp5.length) (cp5), .int .i64 (Hp5), .int .i64 (Mp5)] 58, rlst (Ap5) (Lp5), Sx.blk b1 [.string ((k).f0), .slice (Ak0) (((k).f1).length) (ck0), .int .i64 ((k).f2), .int .i64 ((k).f3), .int .i64 (((k).f4).f0), .int .i64 (((k).f4).f1), .int .i64 (((k).f4).f2), .int .i64 (((k).f4).f3), .int .i64 (((k).f4).f4), .int .i64 (((k).f4).f5), .int .i64 (((k).f4).f6)] 33] ++ R) gp5 (room) (Hp5) (Mp5) ([] : LM Int) (k) (Ak0) (ck0) (by first | omega | exact Nat.zero_le _ | (have z_ := putM_len room ([] : LM Int) (k) (5 : Int) (by omega) (by show ((0 : Nat) : Int) ≤ room; omega); exact Nat.le_trans z_.2.1 (by decide))) (by omega) hsm_ (by have z_ := hfit_.1; omega) (fun _ _ h_ => Sx.ro_C hv h_ hCk0) h) ?_
      rintro e_ w_ ⟨rfl, h⟩
      refine ⟨_, rfl, ?_⟩
      replace h : Sx.St w0 F0 ([cacheP 87 90 85 (Value.int .i64) gp5 (room) ((getM ([] : LM Int) (k)).1) ((if (getM ([] : LM Int) (k)).2.isSome then (Hp5) + 1 else (Hp5))) ((if (getM ([] : LM Int) (k)).2.isSome then (Mp5) else (Mp5) + 1)), Sx.row kKH 33 (Ay8) (cy8) (Ky8), rlib (Hy8), Sx.blk b6 [.int .i64 (room), .slice (Ap5) (Lp5.length) (cp5), .int .i64 (Hp5), .int .i64 (Mp5)] 58, rlst (Ap5) (Lp5), Sx.blk b1 [.string ((k).f0), .slice (Ak0) (((k).f1).length) (ck0), .int .i64 ((k).f2), .int .i64 ((k).f3), .int .i64 (((k).f4).f0), .int .i64 (((k).f4).f1), .int .i64 (((k).f4).f2), .int .i64 (((k).f4).f3), .int .i64 (((k).f4).f4), .int .i64 (((k).f4).f5), .int .i64 (((k).f4).f6)] 33] ++ R) _ := h
      rw [get_nil] at h ⊢
      replace h : Sx.St w0 F0 ([cacheP 87 90 85 (Value.int .i64) gp5 (room) ([] : LM Int) (Hp5) (Mp5 + 1), Sx.row kKH 33 (Ay8) (cy8) (Ky8), rlib (Hy8), Sx.blk b6 [.int .i64 (room), .slice (Ap5) (Lp5.length) (cp5), .int .i64 (Hp5), .int .i64 (Mp5)] 58, rlst (Ap5) (Lp5), Sx.blk b1 [.string ((k).f0), .slice (Ak0) (((k).f1).length) (ck0), .int .i64 ((k).f2), .int .i64 ((k).f3), .int .i64 (((k).f4).f0), .int .i64 (((k).f4).f1), .int .i64 (((k).f4).f2), .int .i64 (((k).f4).f3), .int .i64 (((k).f4).f4), .int .i64 (((k).f4).f5), .int .i64 (((k).f4).f6)] 33] ++ R) _ := h
      refine wl_v rfl rfl (ov_move _ rfl) ?_
      refine wl_v rfl rfl (ov_extract [.int .i64 (0), .bool false] _ rfl rfl) ?_
      refine wl_v rfl rfl (ov_extract [.int .i64 (0), .bool false] _ rfl rfl) ?_
      refine wl_v rfl rfl (ov_assign _ rfl) ?_
      refine wl_v rfl rfl (ov_assign _ rfl) ?_
      refine wl_nil ?_
      refine qn_then ?_
      refine wc_seq ?_
      refine wc_region ?_
      refine wl_v rfl rfl (ov_move _ rfl) ?_
      refine wl_v rfl rfl (ov_loadbN 5 [.string ((k).f0), .slice (Ak0) (((k).f1).length) (ck0), .int .i64 ((k).f2), .int .i64 ((k).f3), .int .i64 (((k).f4).f0), .int .i64 (((k).f4).f1), .int .i64 (((k).f4).f2), .int .i64 (((k).f4).f3), .int .i64 (((k).f4).f4), .int .i64 (((k).f4).f5), .int .i64 (((k).f4).f6)] h rfl rfl sh33 rfl) ?_
      refine wl_call _ rfl rfl rfl ent21 (CCI.Put_calls (R := [Sx.row kKH 33 (Ay8) (cy8) (Ky8), rlib (Hy8), Sx.blk b6 [.int .i64 (room), .slice (Ap5) (Lp5.length) (cp5), .int .i64 (Hp5), .int .i64 (Mp5)] 58, rlst (Ap5) (Lp5), Sx.blk b1 [.string ((k).f0), .slice (Ak0) (((k).f1).length) (ck0), .int .i64 ((k).f2), .int .i64 ((k).f3), .int .i64 (((k).f4).f0), .int .i64 (((k).f4).f1), .int .i64 (((k).f4).f2), .int .i64 (((k).f4).f3), .int .i64 (((k).f4).f4), .int .i64 (((k).f4).f5), .int .i64 (((k).f4).f6)] 33] ++ R) gp5 (room) (Hp5) (Mp5 + 1) ([] : LM Int) (k) (Ak0) (ck0) 5 (by first | omega | exact Nat.zero_le _ | (have z_ := putM_len room ([] : LM Int) (k) (5 : Int) (by omega) (by show ((0 : Nat) : Int) ≤ room; omega); exact Nat.le_trans z_.2.1 (by decide))) (by omega) hsm_ (by have z_ := hfit_.1; omega) (fun _ _ h_ => Sx.ro_C hv h_ hCk0) h) ?_
      rintro e_ w_ ⟨rfl, h⟩
      refine ⟨_, rfl, ?_⟩
      refine wl_nil ?_
      refine qn_then ?_
      refine wc_seq ?_
      refine wc_region ?_
      refine wl_v rfl rfl (ov_move _ rfl) ?_
      refine wl_v rfl rfl (ov_loadbN 5 [.string ((k).f0), .slice (Ak0) (((k).f1).length) (ck0), .int .i64 ((k).f2), .int .i64 ((k).f3), .int .i64 (((k).f4).f0), .int .i64 (((k).f4).f1), .int .i64 (((k).f4).f2), .int .i64 (((k).f4).f3), .int .i64 (((k).f4).f4), .int .i64 (((k).f4).f5), .int .i64 (((k).f4).f6)] h rfl rfl sh33 rfl) ?_
      refine wl_call _ rfl rfl rfl ent22 (CCI.Get_calls (R := [Sx.row kKH 33 (Ay8) (cy8) (Ky8), rlib (Hy8), Sx.blk b6 [.int .i64 (room), .slice (Ap5) (Lp5.length) (cp5), .int .i64 (Hp5), .int .i64 (Mp5)] 58, rlst (Ap5) (Lp5), Sx.blk b1 [.string ((k).f0), .slice (Ak0) (((k).f1).length) (ck0), .int .i64 ((k).f2), .int .i64 ((k).f3), .int .i64 (((k).f4).f0), .int .i64 (((k).f4).f1), .int .i64 (((k).f4).f2), .int .i64 (((k).f4).f3), .int .i64 (((k).f4).f4), .int .i64 (((k).f4).f5), .int .i64 (((k).f4).f6)] 33] ++ R) gp5 (room) (Hp5) (Mp5 + 1) (putM room ([] : LM Int) (k) 5) (k) (Ak0) (ck0) (by first | omega | exact Nat.zero_le _ | (have z_ := putM_len room ([] : LM Int) (k) (5 : Int) (by omega) (by show ((0 : Nat) : Int) ≤ room; omega); exact Nat.le_trans z_.2.1 (by decide))) (by omega) hsm_ (by have z_ := hfit_.1; omega) (fun _ _ h_ => Sx.ro_C hv h_ hCk0) h) ?_
      rintro e_ w_ ⟨rfl, h⟩
      refine ⟨_, rfl, ?_⟩
      replace h : Sx.St w0 F0 ([cacheP 87 90 85 (Value.int .i64) gp5 (room) ((getM (putM room ([] : LM Int) (k) 5) (k)).1) ((if (getM (putM room ([] : LM Int) (k) 5) (k)).2.isSome then (Hp5) + 1 else (Hp5))) ((if (getM (putM room ([] : LM Int) (k) 5) (k)).2.isSome then (Mp5 + 1) else (Mp5 + 1) + 1)), Sx.row kKH 33 (Ay8) (cy8) (Ky8), rlib (Hy8), Sx.blk b6 [.int .i64 (room), .slice (Ap5) (Lp5.length) (cp5), .int .i64 (Hp5), .int .i64 (Mp5)] 58, rlst (Ap5) (Lp5), Sx.blk b1 [.string ((k).f0), .slice (Ak0) (((k).f1).length) (ck0), .int .i64 ((k).f2), .int .i64 ((k).f3), .int .i64 (((k).f4).f0), .int .i64 (((k).f4).f1), .int .i64 (((k).f4).f2), .int .i64 (((k).f4).f3), .int .i64 (((k).f4).f4), .int .i64 (((k).f4).f5), .int .i64 (((k).f4).f6)] 33] ++ R) _ := h
      rcases put_one (room := room) (k) (5 : Int) (by omega) with ⟨q1_, _, _⟩ | ⟨q1_, q2_, q3_⟩
      · exfalso; omega
      rw [q3_] at h ⊢
      replace h : Sx.St w0 F0 ([cacheP 87 90 85 (Value.int .i64) gp5 (room) ([(k, 5)]) (Hp5 + 1) (Mp5 + 1), Sx.row kKH 33 (Ay8) (cy8) (Ky8), rlib (Hy8), Sx.blk b6 [.int .i64 (room), .slice (Ap5) (Lp5.length) (cp5), .int .i64 (Hp5), .int .i64 (Mp5)] 58, rlst (Ap5) (Lp5), Sx.blk b1 [.string ((k).f0), .slice (Ak0) (((k).f1).length) (ck0), .int .i64 ((k).f2), .int .i64 ((k).f3), .int .i64 (((k).f4).f0), .int .i64 (((k).f4).f1), .int .i64 (((k).f4).f2), .int .i64 (((k).f4).f3), .int .i64 (((k).f4).f4), .int .i64 (((k).f4).f5), .int .i64 (((k).f4).f6)] 33] ++ R) _ := h
      refine wl_v rfl rfl (ov_move _ rfl) ?_
      refine wl_v rfl rfl (ov_extract [.int .i64 (5), .bool true] _ rfl rfl) ?_
      refine wl_v rfl rfl (ov_extract [.int .i64 (5), .bool true] _ rfl rfl) ?_
      refine wl_v rfl rfl (ov_assign _ rfl) ?_
      refine wl_v rfl rfl (ov_assign _ rfl) ?_
      refine wl_nil ?_
      refine qn_then ?_
      refine wc_seq ?_
      refine wc_region ?_
      refine wl_v rfl rfl (ov_move _ rfl) ?_
      refine wl_call _ rfl rfl rfl ent26 (CCI.Asked_calls (R := [Sx.row kKH 33 (Ay8) (cy8) (Ky8), rlib (Hy8), Sx.blk b6 [.int .i64 (room), .slice (Ap5) (Lp5.length) (cp5), .int .i64 (Hp5), .int .i64 (Mp5)] 58, rlst (Ap5) (Lp5), Sx.blk b1 [.string ((k).f0), .slice (Ak0) (((k).f1).length) (ck0), .int .i64 ((k).f2), .int .i64 ((k).f3), .int .i64 (((k).f4).f0), .int .i64 (((k).f4).f1), .int .i64 (((k).f4).f2), .int .i64 (((k).f4).f3), .int .i64 (((k).f4).f4), .int .i64 (((k).f4).f5), .int .i64 (((k).f4).f6)] 33] ++ R) gp5 (room) (Hp5 + 1) (Mp5 + 1) ([(k, 5)]) h) ?_
      rintro e_ w_ ⟨rfl, h⟩
      refine ⟨_, rfl, ?_⟩
      refine wl_v rfl rfl (ov_move _ rfl) ?_
      refine wl_v rfl rfl (ov_extract [.int .i64 (Hp5 + 1), .int .i64 (Mp5 + 1)] _ rfl rfl) ?_
      refine wl_v rfl rfl (ov_extract [.int .i64 (Hp5 + 1), .int .i64 (Mp5 + 1)] _ rfl rfl) ?_
      refine wl_v rfl rfl (ov_assign _ rfl) ?_
      refine wl_v rfl rfl (ov_assign _ rfl) ?_
      refine wl_nil ?_
      refine qn_then ?_
      refine wc_seq ?_
      refine wc_region ?_
      refine wl_v rfl rfl (ov_move _ rfl) ?_
      refine wl_v rfl rfl (ov_notb _ rfl) ?_
      refine wl_v rfl rfl (ov_move _ rfl) ?_
      refine wl_v rfl rfl (ov_move _ rfl) ?_
      refine wl_v rfl rfl (ov_pick_true _ rfl rfl) ?_
      refine wl_v rfl rfl (ov_move _ rfl) ?_
      refine wl_v rfl rfl (ov_move _ rfl) ?_
      refine wl_v rfl rfl (ov_bin (.bool true) rfl rfl (binR_eql)) ?_
      refine wl_v rfl rfl (ov_pick_true _ rfl rfl) ?_
      refine wl_v rfl rfl (ov_move _ rfl) ?_
      refine wl_v rfl rfl (ov_move _ rfl) ?_
      refine wl_call _ rfl rfl rfl ent23 (CCI.Len_calls (R := [Sx.row kKH 33 (Ay8) (cy8) (Ky8), rlib (Hy8), Sx.blk b6 [.int .i64 (room), .slice (Ap5) (Lp5.length) (cp5), .int .i64 (Hp5), .int .i64 (Mp5)] 58, rlst (Ap5) (Lp5), Sx.blk b1 [.string ((k).f0), .slice (Ak0) (((k).f1).length) (ck0), .int .i64 ((k).f2), .int .i64 ((k).f3), .int .i64 (((k).f4).f0), .int .i64 (((k).f4).f1), .int .i64 (((k).f4).f2), .int .i64 (((k).f4).f3), .int .i64 (((k).f4).f4), .int .i64 (((k).f4).f5), .int .i64 (((k).f4).f6)] 33] ++ R) gp5 (room) (Hp5 + 1) (Mp5 + 1) ([(k, 5)]) h) ?_
      rintro e_ w_ ⟨rfl, h⟩
      refine ⟨_, rfl, ?_⟩
      refine wl_v rfl rfl (ov_bin _ rfl rfl (binR_eql)) ?_
      refine wl_v rfl rfl (ov_pick_true _ rfl rfl) ?_
      refine wl_v rfl rfl (ov_move _ rfl) ?_
      refine wl_split 81 rfl (fun c10 => ?_) (fun c10 => ?_)
      ·
       refine wl_v rfl rfl (ov_move _ rfl) ?_
       refine wl_v rfl rfl (ov_fieldAddr _ ⟨b6, 2, none⟩ _ rfl fo58_2 rfl) ?_
       refine wl_v rfl rfl (ov_loadb 3 _ h rfl rfl sh3 rfl) ?_
       refine wl_v rfl rfl (ov_bin _ rfl rfl (binR_add (r := Hp5 + 1) (Sx.w64 (by omega)))) ?_
       refine wl_v rfl rfl (ov_bin _ rfl rfl (binR_eql)) ?_
       refine wl_v rfl rfl (ov_pick_true _ rfl rfl) ?_
       refine wl_v rfl rfl (ov_move _ rfl) ?_
       refine wl_split 88 rfl (fun c11 => ?_) (fun c11 => ?_)
       ·
        refine wl_v rfl rfl (ov_move _ rfl) ?_
        refine wl_v rfl rfl (ov_fieldAddr _ ⟨b6, 3, none⟩ _ rfl fo58_3 rfl) ?_
        refine wl_v rfl rfl (ov_loadb 3 _ h rfl rfl sh3 rfl) ?_
        refine wl_v rfl rfl (ov_bin _ rfl rfl (binR_add (r := Mp5 + 1) (Sx.w64 (by omega)))) ?_
        refine wl_v rfl rfl (ov_bin _ rfl rfl (binR_eql)) ?_
        refine wl_v rfl rfl (ov_pick_true _ rfl rfl) ?_
        refine wl_v rfl rfl (ov_assign _ rfl) ?_
        refine wl_nil ?_
        refine qn_then ?_
        refine wc_ret ?_
        replace h := st_selT [false, false, false, false, false, false] h
        refine qn_ret [_] ⟨rfl, trivial⟩ ?_
        have b_ : (decide ((Mp5 + 1 : Int) = (Mp5 + 1))) = true := by apply decide_eq_true; first | rfl | omega
        exact ⟨congrArg (fun z => Ending.returned (Value.bool z)) b_, h⟩
       ·
        refine wl_skip rfl rfl ?_
        refine wl_skip rfl rfl ?_
        refine wl_skip rfl rfl ?_
        refine wl_skip rfl rfl ?_
        refine wl_skip rfl rfl ?_
        refine wl_v rfl rfl (ov_pick_false _ rfl rfl) ?_
        refine wl_v rfl rfl (ov_assign _ rfl) ?_
        refine wl_nil ?_
        refine qn_then ?_
        refine wc_ret ?_
        replace h := st_selT [false, false, false, false, false, false] h
        refine qn_ret [_] ⟨rfl, trivial⟩ ?_
        exfalso
        first | omega | contradiction | (simp at *; omega)
      ·
       refine wl_skip rfl rfl ?_
       refine wl_skip rfl rfl ?_
       refine wl_skip rfl rfl ?_
       refine wl_skip rfl rfl ?_
       refine wl_skip rfl rfl ?_
       refine wl_v rfl rfl (ov_pick_false _ rfl rfl) ?_
       refine wl_v rfl rfl (ov_move _ rfl) ?_
       refine wl_skip rfl rfl ?_
       refine wl_skip rfl rfl ?_
       refine wl_skip rfl rfl ?_
       refine wl_skip rfl rfl ?_
       refine wl_skip rfl rfl ?_
       refine wl_v rfl rfl (ov_pick_false _ rfl rfl) ?_
       refine wl_v rfl rfl (ov_assign _ rfl) ?_
       refine wl_nil ?_
       refine qn_then ?_
       refine wc_ret ?_
       replace h := st_selT [false, false, false, false, false, false] h
       refine qn_ret [_] ⟨rfl, trivial⟩ ?_
       exfalso
       first | omega | contradiction | (simp at *; omega)
end Go.Proofs.Ytmlkajmlhmfdgaa.L
