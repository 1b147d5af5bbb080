/- Pruned by wip/prune.py. -/
import Derived.Test.YtmlkajmlhmfdgaaProg
import Derived.Test.YtmlkajmlhmfdgaaQSxGlue
import Derived.Test.YtmlkajmlhmfdgaaQSxArr
import Derived.Test.YtmlkajmlhmfdgaaQSxKinds
import Derived.Test.YtmlkajmlhmfdgaaQRunsTh
import Derived.Test.YtmlkajmlhmfdgaaQSxRunsR
import Derived.Test.YtmlkajmlhmfdgaaQCaP
import Derived.Test.YtmlkajmlhmfdgaaQCaRef
import Derived.Test.YtmlkajmlhmfdgaaQSxCKey
import Derived.Test.YtmlkajmlhmfdgaaQSxRowI
import Derived.Test.YtmlkajmlhmfdgaaQSxCaI
import Derived.Test.YtmlkajmlhmfdgaaQSxKeys
import Derived.Test.YtmlkajmlhmfdgaaQSxRefs
import Derived.Test.YtmlkajmlhmfdgaaQCaAwk
import Derived.Test.YtmlkajmlhmfdgaaQSxPlayed
import Derived.Test.YtmlkajmlhmfdgaaQSxAwake
import Derived.Test.YtmlkajmlhmfdgaaQSxRowS
import Derived.Test.YtmlkajmlhmfdgaaQSxCaS
namespace Go.Proofs.Ytmlkajmlhmfdgaa.L
open Go Go.RowKit Go.Proofs.YtmlkajmlhmfdgaaW.PrintWords Go.Proofs.Ytmlkajmlhmfdgaa.Kinds Go.Proofs.Ytmlkajmlhmfdgaa.Runs Go.Proofs.Ytmlkajmlhmfdgaa.RW Go.Proofs.Ytmlkajmlhmfdgaa.Ca Go.Proofs.Ytmlkajmlhmfdgaa.Sx Go.Proofs.Ytmlkajmlhmfdgaa.RI Go.Proofs.Ytmlkajmlhmfdgaa.CCI Go.Proofs.Ytmlkajmlhmfdgaa.Kinds 
set_option linter.unusedVariables false
set_option linter.unusedSimpArgs false
theorem ent9 : Sx.Ent Try.prog 9 := ⟨Try.f9, Try.func9, by kernel_rfl, by kernel_rfl⟩
theorem sh33 : Sx.shapeOf Try.prog 33 = some (true, 11) := by kernel_rfl
theorem ent15 : Sx.Ent Try.prog 15 := ⟨Try.f15, Try.func15, by kernel_rfl, by kernel_rfl⟩
theorem es44 : Sx.elemSz Try.prog 44 = some (33, 11) := by kernel_rfl
theorem ent20 : Sx.Ent Try.prog 20 := ⟨Try.f20, Try.func20, by kernel_rfl, by kernel_rfl⟩
theorem zo33 : Sx.zeroOf Try.prog 33 = some (.agg #[.string (ByteArray.empty), .slice (none) (0) (0), .int .i64 (0), .int .i64 (0), .int .i64 (0), .int .i64 (0), .int .i64 (0), .int .i64 (0), .int .i64 (0), .int .i64 (0), .int .i64 (0)]) := by kernel_rfl
theorem infb50 : (Try.prog.info? 50).map (fun i => (i.zero, i.size)) = some (some (.agg #[.int .i64 (0), .int .i64 (0)]), 2) := by kernel_rfl
theorem fo33_1 : Sx.fieldOff Try.prog 33 1 = some 1 := by kernel_rfl
theorem sh29 : Sx.shapeOf Try.prog 29 = some (false, 1) := by kernel_rfl
theorem inf50 : (Try.prog.info? 50).map (fun i => (i.zero, i.size, i.bytes)) = some (some (.agg #[.int .i64 (0), .int .i64 (0)]), 2, 16) := by kernel_rfl
theorem ent21 : Sx.Ent Try.prog 21 := ⟨Try.f21, Try.func21, by kernel_rfl, by kernel_rfl⟩
theorem es29 : Sx.elemSz Try.prog 29 = some (50, 2) := by kernel_rfl
theorem fo50_1 : Sx.fieldOff Try.prog 50 1 = some 1 := by kernel_rfl
theorem sh3 : Sx.shapeOf Try.prog 3 = some (false, 1) := by kernel_rfl
theorem szf3 : (Try.prog.info? 3).map (·.size) = some 1 := by kernel_rfl
theorem ent18 : Sx.Ent Try.prog 18 := ⟨Try.f18, Try.func18, by kernel_rfl, by kernel_rfl⟩
theorem ent17 : Sx.Ent Try.prog 17 := ⟨Try.f17, Try.func17, by kernel_rfl, by kernel_rfl⟩
theorem ent22 : Sx.Ent Try.prog 22 := ⟨Try.f22, Try.func22, by kernel_rfl, by kernel_rfl⟩
theorem ent23 : Sx.Ent Try.prog 23 := ⟨Try.f23, Try.func23, by kernel_rfl, by kernel_rfl⟩
set_option maxHeartbeats 400000 in
set_option maxRecDepth 100000 in
theorem CacheKeeps_calls {w0 w : World} {F0 : Nat → Prop} {R : List Sx.HP} {v0 : World} (room : Int) (k : S33) (Ak0 : Option Addr) (ck0 : Nat) (others : List S33) (Aothers : Option Addr) (cothers : Nat) (hv : Sx.RO v0 w0 F0) (hlk0 : k.f1.length ≤ ck0) (hCk0 : k50.C v0 Ak0 k.f1.length k.f1) (hlothers : others.length ≤ cothers) (hCothers : k33.C v0 Aothers others.length others) (hmothers : others.length ≤ 9223372036854775807) (h : Sx.St w0 F0 ([] ++ R) w) : Calls Try.prog 5 #[.int .i64 (room), .agg #[.string ((k).f0), .slice (Ak0) (((k).f1).length) (ck0), .int .i64 ((k).f2), .int .i64 ((k).f3), .int .i64 (((k).f4).f0), .int .i64 (((k).f4).f1), .int .i64 (((k).f4).f2), .int .i64 (((k).f4).f3), .int .i64 (((k).f4).f4), .int .i64 (((k).f4).f5), .int .i64 (((k).f4).f6)], .slice (Aothers) (others.length) (cothers)] w (fun e w1 => e = .returned (.bool true) ∧ Sx.St w0 F0 R w1) := by
 refine Sx.calls_fn (vs := [.int .i64 (room), .agg #[.string ((k).f0), .slice (Ak0) (((k).f1).length) (ck0), .int .i64 ((k).f2), .int .i64 ((k).f3), .int .i64 (((k).f4).f0), .int .i64 (((k).f4).f1), .int .i64 (((k).f4).f2), .int .i64 (((k).f4).f3), .int .i64 (((k).f4).f4), .int .i64 (((k).f4).f5), .int .i64 (((k).f4).f6)], .slice (Aothers) (others.length) (cothers)]) Try.func5 rfl Try.ntmps5 rfl ?_
 refine wc_seq ?_
 refine wc_region ?_
 refine wl_box _ h rfl rfl rfl (fun b1 _ h => ?_)
 replace h : Sx.St _ _ (Sx.blk b1 [.string ((k).f0), .slice (Ak0) (((k).f1).length) (ck0), .int .i64 ((k).f2), .int .i64 ((k).f3), .int .i64 (((k).f4).f0), .int .i64 (((k).f4).f1), .int .i64 (((k).f4).f2), .int .i64 (((k).f4).f3), .int .i64 (((k).f4).f4), .int .i64 (((k).f4).f5), .int .i64 (((k).f4).f6)] 33 :: _) _ := h
 refine wl_v rfl rfl (ov_assign _ rfl) ?_
 refine wl_nil ?_
 refine qn_then ?_
 refine wc_seq ?_
 refine wc_seq ?_
 refine wc_region ?_
 refine wl_call _ rfl rfl rfl ent9 (AW.awake_calls (R := [Sx.blk b1 [.string ((k).f0), .slice (Ak0) (((k).f1).length) (ck0), .int .i64 ((k).f2), .int .i64 ((k).f3), .int .i64 (((k).f4).f0), .int .i64 (((k).f4).f1), .int .i64 (((k).f4).f2), .int .i64 (((k).f4).f3), .int .i64 (((k).f4).f4), .int .i64 (((k).f4).f5), .int .i64 (((k).f4).f6)] 33] ++ R) h) ?_
 rintro e_ w_ ⟨rfl, h⟩
 refine ⟨_, rfl, ?_⟩
 refine wl_v rfl rfl (ov_notb _ rfl) ?_
 refine wl_nil ?_
 refine qn_then ?_
 refine wc_cond_false rfl ?_
 refine wc_skip ?_
 refine qn_then ?_
 refine wc_seq ?_
 refine wc_seq ?_
 refine wc_region ?_
 refine wl_v rfl rfl (ov_move _ rfl) ?_
 refine wl_v rfl rfl (ov_bin _ rfl rfl (binR_lss)) ?_
 refine wl_v rfl rfl (ov_move _ rfl) ?_
 refine wl_split 19 rfl (fun c2 => ?_) (fun c2 => ?_)
 ·
  refine wl_skip rfl rfl ?_
  refine wl_skip rfl rfl ?_
  refine wl_v rfl rfl (ov_pick_true _ rfl rfl) ?_
  refine wl_v rfl rfl (ov_move _ rfl) ?_
  refine wl_skip rfl rfl ?_
  refine wl_skip rfl rfl ?_
  refine wl_skip rfl rfl ?_
  refine wl_v rfl rfl (ov_pick_true _ rfl rfl) ?_
  refine wl_v rfl rfl (ov_move _ rfl) ?_
  refine wl_skip rfl rfl ?_
  refine wl_skip rfl rfl ?_
  refine wl_skip rfl rfl ?_
  refine wl_v rfl rfl (ov_pick_true _ rfl rfl) ?_
  refine wl_nil ?_
  refine qn_then ?_
  refine wc_cond_true rfl ?_
  refine wc_seq ?_
  refine wc_region ?_
  refine wl_v rfl rfl (ov_assign _ rfl) ?_
  refine wl_nil ?_
  refine qn_then ?_
  refine wc_ret ?_
  refine qn_then_ret ?_
  replace h := st_selT [false] h
  refine qn_ret [_] ⟨rfl, trivial⟩ ?_
  exact ⟨rfl, h⟩
 ·
  refine wl_v rfl rfl (ov_move _ rfl) ?_
  refine wl_v rfl rfl (ov_bin _ rfl rfl (binR_gtr)) ?_
  refine wl_v rfl rfl (ov_pick_false _ rfl rfl) ?_
  refine wl_v rfl rfl (ov_move _ rfl) ?_
  refine wl_split 23 rfl (fun c3 => ?_) (fun c3 => ?_)
  ·
   refine wl_skip rfl rfl ?_
   refine wl_skip rfl rfl ?_
   refine wl_skip rfl rfl ?_
   refine wl_v rfl rfl (ov_pick_true _ rfl rfl) ?_
   refine wl_v rfl rfl (ov_move _ rfl) ?_
   refine wl_skip rfl rfl ?_
   refine wl_skip rfl rfl ?_
   refine wl_skip rfl rfl ?_
   refine wl_v rfl rfl (ov_pick_true _ rfl rfl) ?_
   refine wl_nil ?_
   refine qn_then ?_
   refine wc_cond_true rfl ?_
   refine wc_seq ?_
   refine wc_region ?_
   refine wl_v rfl rfl (ov_assign _ rfl) ?_
   refine wl_nil ?_
   refine qn_then ?_
   refine wc_ret ?_
   refine qn_then_ret ?_
   replace h := st_selT [false] h
   refine qn_ret [_] ⟨rfl, trivial⟩ ?_
   exact ⟨rfl, h⟩
  ·
   refine wl_v rfl rfl (ov_loadbN 0 [.string ((k).f0), .slice (Ak0) (((k).f1).length) (ck0), .int .i64 ((k).f2), .int .i64 ((k).f3), .int .i64 (((k).f4).f0), .int .i64 (((k).f4).f1), .int .i64 (((k).f4).f2), .int .i64 (((k).f4).f3), .int .i64 (((k).f4).f4), .int .i64 (((k).f4).f5), .int .i64 (((k).f4).f6)] h rfl rfl sh33 rfl) ?_
   refine wl_call _ rfl rfl rfl ent15 (CK.fits_calls (R := [Sx.blk b1 [.string ((k).f0), .slice (Ak0) (((k).f1).length) (ck0), .int .i64 ((k).f2), .int .i64 ((k).f3), .int .i64 (((k).f4).f0), .int .i64 (((k).f4).f1), .int .i64 (((k).f4).f2), .int .i64 (((k).f4).f3), .int .i64 (((k).f4).f4), .int .i64 (((k).f4).f5), .int .i64 (((k).f4).f6)] 33] ++ R) (k) (Ak0) (ck0) (fun _ _ h_ => Sx.ro_C hv h_ hCk0) h) ?_
   rintro e_ w_ ⟨rfl, h⟩
   refine ⟨_, rfl, ?_⟩
   refine wl_v rfl rfl (ov_not _ (¬ (fitsP (k))) rfl (by first | exact decide_not.symm | simp)) ?_
   refine wl_v rfl rfl (ov_pick_false _ rfl rfl) ?_
   refine wl_v rfl rfl (ov_move _ rfl) ?_
   refine wl_split 28 rfl (fun c4 => ?_) (fun c4 => ?_)
   ·
    refine wl_skip rfl rfl ?_
    refine wl_skip rfl rfl ?_
    refine wl_skip rfl rfl ?_
    refine wl_v rfl rfl (ov_pick_true _ rfl rfl) ?_
    refine wl_nil ?_
    refine qn_then ?_
    refine wc_cond_true rfl ?_
    refine wc_seq ?_
    refine wc_region ?_
    refine wl_v rfl rfl (ov_assign _ rfl) ?_
    refine wl_nil ?_
    refine qn_then ?_
    refine wc_ret ?_
    refine qn_then_ret ?_
    replace h := st_selT [false] h
    refine qn_ret [_] ⟨rfl, trivial⟩ ?_
    exact ⟨rfl, h⟩
   ·
    have hfk_ : fitsP k := by simpa using c4
    have hfk_s := fits_small hfk_
    refine wl_v rfl rfl (ov_move _ rfl) ?_
    refine wl_v rfl rfl (ov_len _ _ _ _ _ rfl es44) ?_
    refine wl_v rfl rfl (ov_bin _ rfl rfl (binR_gtr)) ?_
    refine wl_v rfl rfl (ov_pick_false _ rfl rfl) ?_
    refine wl_nil ?_
    refine qn_then ?_
    refine wc_cond (by rfl) (fun c5 => ?_) (fun c5 => ?_)
    ·
     refine wc_seq ?_
     refine wc_region ?_
     refine wl_v rfl rfl (ov_assign _ rfl) ?_
     refine wl_nil ?_
     refine qn_then ?_
     refine wc_ret ?_
     refine qn_then_ret ?_
     replace h := st_selT [false] h
     refine qn_ret [_] ⟨rfl, trivial⟩ ?_
     exact ⟨rfl, h⟩
    ·
     refine wc_skip ?_
     refine qn_then ?_
     refine wc_seq ?_
     refine wc_region ?_
     refine wl_v rfl rfl (ov_move _ rfl) ?_
     refine wl_call _ rfl rfl rfl ent20 (CCI.New_calls (R := [Sx.blk b1 [.string ((k).f0), .slice (Ak0) (((k).f1).length) (ck0), .int .i64 ((k).f2), .int .i64 ((k).f3), .int .i64 (((k).f4).f0), .int .i64 (((k).f4).f1), .int .i64 (((k).f4).f2), .int .i64 (((k).f4).f3), .int .i64 (((k).f4).f4), .int .i64 (((k).f4).f5), .int .i64 (((k).f4).f6)] 33] ++ R) room h) ?_
     rintro e_ w_ (⟨hny6, rfl, h⟩ | ⟨hry6, hqy6, gy6, rfl, h⟩)
     · exact absurd (by omega) hny6
     ·
      replace h : Sx.St w0 F0 ([cacheP 87 90 85 (Value.int .i64) gy6 (room) ([] : LM Int) (0) (0), Sx.blk b1 [.string ((k).f0), .slice (Ak0) (((k).f1).length) (ck0), .int .i64 ((k).f2), .int .i64 ((k).f3), .int .i64 (((k).f4).f0), .int .i64 (((k).f4).f1), .int .i64 (((k).f4).f2), .int .i64 (((k).f4).f3), .int .i64 (((k).f4).f4), .int .i64 (((k).f4).f5), .int .i64 (((k).f4).f6)] 33] ++ R) _ := h
      refine ⟨_, rfl, ?_⟩
      refine wl_v rfl rfl (ov_move _ rfl) ?_
      refine wl_v rfl rfl (ov_extract [.pointer (some ⟨gy6, 0, none⟩), .int .i64 (0)] _ rfl rfl) ?_
      refine wl_v rfl rfl (ov_extract [.pointer (some ⟨gy6, 0, none⟩), .int .i64 (0)] _ rfl rfl) ?_
      refine wl_v rfl rfl (ov_assign _ rfl) ?_
      refine wl_v rfl rfl (ov_assign _ rfl) ?_
      refine wl_nil ?_
      refine qn_then ?_
      refine wc_seq ?_
      refine wc_seq ?_
      refine wc_region ?_
      refine wl_v rfl rfl (ov_move _ rfl) ?_
      refine wl_v rfl rfl (ov_bin (.bool false) rfl rfl (binR_neq)) ?_
      refine wl_v rfl rfl (ov_move _ rfl) ?_
      refine wl_v rfl rfl (ov_move _ rfl) ?_
      refine wl_v rfl rfl (ov_bin (.bool false) rfl rfl (binR_eqnil Try.underlying45)) ?_
      refine wl_v rfl rfl (ov_pick_false _ rfl rfl) ?_
      refine wl_nil ?_
      refine qn_then ?_
      refine wc_cond_false rfl ?_
      refine wc_skip ?_
      refine qn_then ?_
      refine wc_seq ?_
      refine wc_region ?_
      refine wl_v rfl rfl (ov_loadbN 1 [.string ((k).f0), .slice (Ak0) (((k).f1).length) (ck0), .int .i64 ((k).f2), .int .i64 ((k).f3), .int .i64 (((k).f4).f0), .int .i64 (((k).f4).f1), .int .i64 (((k).f4).f2), .int .i64 (((k).f4).f3), .int .i64 (((k).f4).f4), .int .i64 (((k).f4).f5), .int .i64 (((k).f4).f6)] h rfl rfl sh33 rfl) ?_
      refine wl_alloc _ h rfl rfl zo33 (fun b7 _ h => ?_)
      replace h : Sx.St _ _ (Sx.blk b7 [.string (ByteArray.empty), .slice (none) (0) (0), .int .i64 (0), .int .i64 (0), .int .i64 (0), .int .i64 (0), .int .i64 (0), .int .i64 (0), .int .i64 (0), .int .i64 (0), .int .i64 (0)] 33 :: _) _ := h
      refine wl_storebN 0 [.string ((k).f0), .slice (Ak0) (((k).f1).length) (ck0), .int .i64 ((k).f2), .int .i64 ((k).f3), .int .i64 (((k).f4).f0), .int .i64 (((k).f4).f1), .int .i64 (((k).f4).f2), .int .i64 (((k).f4).f3), .int .i64 (((k).f4).f4), .int .i64 (((k).f4).f5), .int .i64 (((k).f4).f6)] [.string ((k).f0), .slice (Ak0) (((k).f1).length) (ck0), .int .i64 ((k).f2), .int .i64 ((k).f3), .int .i64 (((k).f4).f0), .int .i64 (((k).f4).f1), .int .i64 (((k).f4).f2), .int .i64 (((k).f4).f3), .int .i64 (((k).f4).f4), .int .i64 (((k).f4).f5), .int .i64 (((k).f4).f6)] h rfl rfl rfl rfl (by simp [Value.oneCell']) sh33 rfl rfl (fun _ h => ?_)
      refine wl_nil ?_
      refine qn_then ?_
      refine wc_seq ?_
      refine wc_region ?_
      refine wl_lit (d := k50) [] _ [] ([]) h rfl rfl rfl rfl Try.underlying29 infb50 rfl (by decide) (by kernel_rfl) rfl (fun _ _ _ => (Reps.none _ _)) (fun A8 cp9 _ h => ?_)
      refine wl_v rfl rfl (ov_fieldAddr _ ⟨b1, 1, none⟩ _ rfl fo33_1 rfl) ?_
      refine wl_v rfl rfl (ov_loadb 3 _ h rfl rfl sh29 rfl) ?_
      refine wl_append (d := k50) (L := []) 0 _ 16 _ _ _ ((k).f1) flat50 h rfl rfl rfl rfl rfl ((Sx.ro_C hv h hCk0)) Try.underlying29 inf50 rfl (by decide) (by decide) (by have z_ := hfk_.2.1; first | omega | (simp only [List.length_cons, List.length_nil, List.length_append]; omega)) (by first | rfl | simp) (fun A10 cp11 _ h => ?_)
      refine wl_v rfl rfl (ov_fieldAddr _ ⟨b7, 1, none⟩ _ rfl fo33_1 rfl) ?_
      refine wl_storeb 1 _ [.string ((k).f0), .slice (A10) ((([]) ++ ((k).f1)).length) (cp11), .int .i64 ((k).f2), .int .i64 ((k).f3), .int .i64 (((k).f4).f0), .int .i64 (((k).f4).f1), .int .i64 (((k).f4).f2), .int .i64 (((k).f4).f3), .int .i64 (((k).f4).f4), .int .i64 (((k).f4).f5), .int .i64 (((k).f4).f6)] h rfl rfl rfl rfl rfl rfl sh29 rfl rfl (fun _ h => ?_)
      refine wl_nil ?_
      refine qn_then ?_
      refine wc_seq ?_
      refine wc_region ?_
      refine wl_v rfl rfl (ov_move _ rfl) ?_
      refine wl_v rfl rfl (ov_loadbN 1 [.string ((k).f0), .slice (A10) ((([]) ++ ((k).f1)).length) (cp11), .int .i64 ((k).f2), .int .i64 ((k).f3), .int .i64 (((k).f4).f0), .int .i64 (((k).f4).f1), .int .i64 (((k).f4).f2), .int .i64 (((k).f4).f3), .int .i64 (((k).f4).f4), .int .i64 (((k).f4).f5), .int .i64 (((k).f4).f6)] h rfl rfl sh33 rfl) ?_
      have e_ : ([]) ++ ((k).f1) = (k).f1 := by rfl
      replace h := st_cast (congrArg (fun z_ => ([Sx.row k50 50 (A10) (cp11) (z_), Sx.blk b7 [.string ((k).f0), .slice (A10) ((([]) ++ ((k).f1)).length) (cp11), .int .i64 ((k).f2), .int .i64 ((k).f3), .int .i64 (((k).f4).f0), .int .i64 (((k).f4).f1), .int .i64 (((k).f4).f2), .int .i64 (((k).f4).f3), .int .i64 (((k).f4).f4), .int .i64 (((k).f4).f5), .int .i64 (((k).f4).f6)] 33, cacheP 87 90 85 (Value.int .i64) gy6 (room) ([] : LM Int) (0) (0), Sx.blk b1 [.string ((k).f0), .slice (Ak0) (((k).f1).length) (ck0), .int .i64 ((k).f2), .int .i64 ((k).f3), .int .i64 (((k).f4).f0), .int .i64 (((k).f4).f1), .int .i64 (((k).f4).f2), .int .i64 (((k).f4).f3), .int .i64 (((k).f4).f4), .int .i64 (((k).f4).f5), .int .i64 (((k).f4).f6)] 33] ++ R)) e_) h
      clear e_
      replace h : Sx.St w0 F0 ([Sx.row k50 50 (A10) (cp11) ((k).f1), Sx.blk b7 [.string ((k).f0), .slice (A10) ((k).f1.length) (cp11), .int .i64 ((k).f2), .int .i64 ((k).f3), .int .i64 (((k).f4).f0), .int .i64 (((k).f4).f1), .int .i64 (((k).f4).f2), .int .i64 (((k).f4).f3), .int .i64 (((k).f4).f4), .int .i64 (((k).f4).f5), .int .i64 (((k).f4).f6)] 33, cacheP 87 90 85 (Value.int .i64) gy6 (room) ([] : LM Int) (0) (0), Sx.blk b1 [.string ((k).f0), .slice (Ak0) (((k).f1).length) (ck0), .int .i64 ((k).f2), .int .i64 ((k).f3), .int .i64 (((k).f4).f0), .int .i64 (((k).f4).f1), .int .i64 (((k).f4).f2), .int .i64 (((k).f4).f3), .int .i64 (((k).f4).f4), .int .i64 (((k).f4).f5), .int .i64 (((k).f4).f6)] 33] ++ R) _ := h
      replace h := st_front 2 h
      refine wl_call _ rfl rfl rfl ent21 (CCI.Put_calls (R := [Sx.row k50 50 (A10) (cp11) ((k).f1), Sx.blk b7 [.string ((k).f0), .slice (A10) ((k).f1.length) (cp11), .int .i64 ((k).f2), .int .i64 ((k).f3), .int .i64 (((k).f4).f0), .int .i64 (((k).f4).f1), .int .i64 (((k).f4).f2), .int .i64 (((k).f4).f3), .int .i64 (((k).f4).f4), .int .i64 (((k).f4).f5), .int .i64 (((k).f4).f6)] 33, Sx.blk b1 [.string ((k).f0), .slice (Ak0) (((k).f1).length) (ck0), .int .i64 ((k).f2), .int .i64 ((k).f3), .int .i64 (((k).f4).f0), .int .i64 (((k).f4).f1), .int .i64 (((k).f4).f2), .int .i64 (((k).f4).f3), .int .i64 (((k).f4).f4), .int .i64 (((k).f4).f5), .int .i64 (((k).f4).f6)] 33] ++ R) gy6 (room) (0) (0) ([] : LM Int) (k) (A10) (cp11) 77 (by first | omega | exact Nat.zero_le _) (by decide) hfk_s (by have z_ := hfk_.1; omega) (Sx.row_reads_at (R := [Sx.row k50 50 (A10) (cp11) ((k).f1), Sx.blk b7 [.string ((k).f0), .slice (A10) ((k).f1.length) (cp11), .int .i64 ((k).f2), .int .i64 ((k).f3), .int .i64 (((k).f4).f0), .int .i64 (((k).f4).f1), .int .i64 (((k).f4).f2), .int .i64 (((k).f4).f3), .int .i64 (((k).f4).f4), .int .i64 (((k).f4).f5), .int .i64 (((k).f4).f6)] 33, Sx.blk b1 [.string ((k).f0), .slice (Ak0) (((k).f1).length) (ck0), .int .i64 ((k).f2), .int .i64 ((k).f3), .int .i64 (((k).f4).f0), .int .i64 (((k).f4).f1), .int .i64 (((k).f4).f2), .int .i64 (((k).f4).f3), .int .i64 (((k).f4).f4), .int .i64 (((k).f4).f5), .int .i64 (((k).f4).f6)] 33] ++ R) (j := 0) rfl) h) ?_
      rintro e_ w_ ⟨rfl, h⟩
      refine ⟨_, rfl, ?_⟩
      have hkp0_ : KeepP (putM room ([] : LM Int) (k) 77) k 77 0 := keep_first (show room ≠ 0 by omega) ([] : LM Int) k 77 rfl
      have hml0_ := (putM_len room ([] : LM Int) k 77 (by omega) (by show ((0 : Nat) : Int) ≤ room; omega)).1
      obtain ⟨M0, hM0⟩ : ∃ z_, z_ = (putM room ([] : LM Int) (k) 77) := ⟨_, rfl⟩
      replace hkp0_ : KeepP M0 k 77 0 := by rw [hM0]; exact hkp0_
      replace hml0_ : (M0.length : Int) ≤ room := by rw [hM0]; exact hml0_
      rw [← hM0] at h
      replace h : Sx.St w0 F0 ([cacheP 87 90 85 (Value.int .i64) gy6 (room) (M0) (0) (0), Sx.row k50 50 (A10) (cp11) ((k).f1), Sx.blk b7 [.string ((k).f0), .slice (A10) ((k).f1.length) (cp11), .int .i64 ((k).f2), .int .i64 ((k).f3), .int .i64 (((k).f4).f0), .int .i64 (((k).f4).f1), .int .i64 (((k).f4).f2), .int .i64 (((k).f4).f3), .int .i64 (((k).f4).f4), .int .i64 (((k).f4).f5), .int .i64 (((k).f4).f6)] 33, Sx.blk b1 [.string ((k).f0), .slice (Ak0) (((k).f1).length) (ck0), .int .i64 ((k).f2), .int .i64 ((k).f3), .int .i64 (((k).f4).f0), .int .i64 (((k).f4).f1), .int .i64 (((k).f4).f2), .int .i64 (((k).f4).f3), .int .i64 (((k).f4).f4), .int .i64 (((k).f4).f5), .int .i64 (((k).f4).f6)] 33] ++ R) _ := h
      refine wl_nil ?_
      refine qn_then ?_
      refine wc_seq ?_
      refine wc_seq ?_
      refine wc_region ?_
      refine wl_v rfl rfl (ov_assign _ rfl) ?_
      refine wl_nil ?_
      refine qn_then ?_
      refine wc_block ?_
      replace h := st_front 1 h
      replace h := st_front 2 h
      replace h := st_front 3 h
      replace h := st_front 3 h
      refine wc_loop (fun (x_ : Nat × (Option Addr) × (List Rn)) => [(0, .int .i64 (room)), (2, .slice (Aothers) (others.length) (cothers)), (4, .pointer (some ⟨b1, 0, none⟩)), (7, .pointer (some ⟨gy6, 0, none⟩)), (9, .pointer (some ⟨b7, 0, none⟩)), (10, .int .i64 (((x_.1 : Nat) : Int)))]) (fun (x_ : Nat × (Option Addr) × (List Rn)) (w : World) => (x_.1 ≤ (k).f1.length ∧ x_.2.2.length = (k).f1.length) ∧ Sx.St w0 F0 ([cacheP 87 90 85 (Value.int .i64) gy6 (room) (M0) (0) (0), Sx.blk b1 [.string ((k).f0), .slice (Ak0) (((k).f1).length) (ck0), .int .i64 ((k).f2), .int .i64 ((k).f3), .int .i64 (((k).f4).f0), .int .i64 (((k).f4).f1), .int .i64 (((k).f4).f2), .int .i64 (((k).f4).f3), .int .i64 (((k).f4).f4), .int .i64 (((k).f4).f5), .int .i64 (((k).f4).f6)] 33, Sx.blk b7 [.string ((k).f0), .slice (x_.2.1) ((k).f1.length) (cp11), .int .i64 ((k).f2), .int .i64 ((k).f3), .int .i64 (((k).f4).f0), .int .i64 (((k).f4).f1), .int .i64 (((k).f4).f2), .int .i64 (((k).f4).f3), .int .i64 (((k).f4).f4), .int .i64 (((k).f4).f5), .int .i64 (((k).f4).f6)] 33, Sx.row k50 50 (x_.2.1) (cp11) (x_.2.2)] ++ R) w) (fun (x_ : Nat × (Option Addr) × (List Rn)) => (k).f1.length - x_.1) (0, A10, (k).f1) ?_ ?_ ?_
      · exact ⟨rfl, rfl, rfl, rfl, rfl, (congrArg (fun z_ => some (Value.int .i64 z_)) (show (0 : Int) = ((0 : Nat) : Int) by omega)), trivial⟩
      · exact ⟨⟨Nat.zero_le _, rfl⟩, h⟩
      rintro ⟨q, Ar, Lr⟩ w h
      obtain ⟨hJ, h⟩ := h
      replace hJ : q ≤ (k).f1.length ∧ Lr.length = (k).f1.length := hJ
      replace h : Sx.St w0 F0 ([cacheP 87 90 85 (Value.int .i64) gy6 (room) (M0) (0) (0), Sx.blk b1 [.string ((k).f0), .slice (Ak0) (((k).f1).length) (ck0), .int .i64 ((k).f2), .int .i64 ((k).f3), .int .i64 (((k).f4).f0), .int .i64 (((k).f4).f1), .int .i64 (((k).f4).f2), .int .i64 (((k).f4).f3), .int .i64 (((k).f4).f4), .int .i64 (((k).f4).f5), .int .i64 (((k).f4).f6)] 33, Sx.blk b7 [.string ((k).f0), .slice (Ar) ((k).f1.length) (cp11), .int .i64 ((k).f2), .int .i64 ((k).f3), .int .i64 (((k).f4).f0), .int .i64 (((k).f4).f1), .int .i64 (((k).f4).f2), .int .i64 (((k).f4).f3), .int .i64 (((k).f4).f4), .int .i64 (((k).f4).f5), .int .i64 (((k).f4).f6)] 33, Sx.row k50 50 (Ar) (cp11) (Lr)] ++ R) w := h
      show Sx.WC _ _ _ _ [(0, .int .i64 (room)), (2, .slice (Aothers) (others.length) (cothers)), (4, .pointer (some ⟨b1, 0, none⟩)), (7, .pointer (some ⟨gy6, 0, none⟩)), (9, .pointer (some ⟨b7, 0, none⟩)), (10, .int .i64 (((q : Nat) : Int)))] _
      have hk20_ := hfk_.2.1
      refine wc_seq ?_
      refine wc_seq ?_
      refine wc_region ?_
      refine wl_v rfl rfl (ov_move _ rfl) ?_
      refine wl_v rfl rfl (ov_fieldAddr _ ⟨b7, 1, none⟩ _ rfl fo33_1 rfl) ?_
      refine wl_v rfl rfl (ov_loadb 2 _ h rfl rfl sh29 rfl) ?_
      refine wl_v rfl rfl (ov_len _ _ _ _ _ rfl es29) ?_
      refine wl_v rfl rfl (ov_bin _ rfl rfl (binR_lss)) ?_
      refine wl_nil ?_
      refine qn_then ?_
      refine wc_cond (by rfl) (fun c12 => ?_) (fun c12 => ?_)
      ·
       refine wc_skip ?_
       refine qn_then ?_
       refine wc_seq ?_
       refine wc_block ?_
       obtain ⟨ad13, rfl⟩ := Sx.C_some ((Sx.row_reads h (i := 3) rfl).2) (k := q) (by first | assumption | omega | (simp only [List.length_set, List.length_append, List.length_cons, List.length_nil]; omega))
       replace h : Sx.St w0 F0 ([cacheP 87 90 85 (Value.int .i64) gy6 (room) (M0) (0) (0), Sx.blk b1 [.string ((k).f0), .slice (Ak0) (((k).f1).length) (ck0), .int .i64 ((k).f2), .int .i64 ((k).f3), .int .i64 (((k).f4).f0), .int .i64 (((k).f4).f1), .int .i64 (((k).f4).f2), .int .i64 (((k).f4).f3), .int .i64 (((k).f4).f4), .int .i64 (((k).f4).f5), .int .i64 (((k).f4).f6)] 33, Sx.blk b7 [.string ((k).f0), .slice (some ad13) ((k).f1.length) (cp11), .int .i64 ((k).f2), .int .i64 ((k).f3), .int .i64 (((k).f4).f0), .int .i64 (((k).f4).f1), .int .i64 (((k).f4).f2), .int .i64 (((k).f4).f3), .int .i64 (((k).f4).f4), .int .i64 (((k).f4).f5), .int .i64 (((k).f4).f6)] 33, Sx.row k50 50 (some ad13) (cp11) (Lr)] ++ R) _ := h
       refine wc_draw (fun w => Sx.St w0 F0 ([cacheP 87 90 85 (Value.int .i64) gy6 (room) (M0) (0) (0), Sx.blk b1 [.string ((k).f0), .slice (Ak0) (((k).f1).length) (ck0), .int .i64 ((k).f2), .int .i64 ((k).f3), .int .i64 (((k).f4).f0), .int .i64 (((k).f4).f1), .int .i64 (((k).f4).f2), .int .i64 (((k).f4).f3), .int .i64 (((k).f4).f4), .int .i64 (((k).f4).f5), .int .i64 (((k).f4).f6)] 33, Sx.blk b7 [.string ((k).f0), .slice (some ad13) ((k).f1.length) (cp11), .int .i64 ((k).f2), .int .i64 ((k).f3), .int .i64 (((k).f4).f0), .int .i64 (((k).f4).f1), .int .i64 (((k).f4).f2), .int .i64 (((k).f4).f3), .int .i64 (((k).f4).f4), .int .i64 (((k).f4).f5), .int .i64 (((k).f4).f6)] 33] ++ R) w) (by kernel_rfl) ?_
       replace h := st_drew h
       refine wa_tk 0 rfl rfl rfl (st_selT [true, true, true, false] h) (fun w_ hS => ov_fieldAddr _ ⟨b7, 1, none⟩ _ rfl fo33_1 rfl) ?_
       refine wa_tk 1 rfl rfl rfl (st_selT [true, true, true, false] h) (fun w_ hS => ov_loadb 2 _ hS rfl rfl sh29 rfl) ?_
       refine wa_tk 2 rfl rfl rfl (st_selT [true, true, true, false] h) (fun w_ hS => ov_move _ rfl) ?_
       refine wa_tk 3 rfl rfl rfl (st_selT [true, true, true, false] h) (fun w_ hS => ov_fieldAddr _ ⟨b7, 1, none⟩ _ rfl fo33_1 rfl) ?_
       refine wa_tk 4 rfl rfl rfl (st_selT [true, true, true, false] h) (fun w_ hS => ov_loadb 2 _ hS rfl rfl sh29 rfl) ?_
       refine wa_tk 5 rfl rfl rfl (st_selT [true, true, true, false] h) (fun w_ hS => ov_move _ rfl) ?_
       refine wa_tk 6 rfl rfl rfl (st_selT [true, true, true, false] h) (fun w_ hS => ov_indexAddrN _ _ _ _ _ (q : Nat) rfl rfl es29 rfl (by first | assumption | omega | (simp only [List.length_take, List.length_drop, List.length_set, List.length_append, List.length_cons, List.length_nil]; omega))) ?_
       refine wa_tk 7 rfl rfl rfl (st_selT [true, true, true, false] h) (fun w_ hS => ov_fieldAddr _ ((ad13).add ((q : Nat) * 2 + 1)) _ rfl fo50_1 (by first | exact Deep.add_add _ _ _ | (rw [Deep.add_add]) | rfl)) ?_
       refine wa_one 8 rfl (by kernel_rfl) ?_
       obtain ⟨cl19, _, hk18, hc17⟩ := Sx.C_cells ((Sx.row_reads h (i := 3) rfl).2) (z := z50) (k := (q : Nat)) (by first | assumption | omega | (simp only [List.length_set, List.length_append, List.length_cons, List.length_nil]; omega))
       obtain rfl := k50_open hk18
       refine wl_v rfl rfl (ov_load1 _ _ rfl sh3 ((hc17 1 _ rfl))) ?_
       refine wl_nil ?_
       refine qn_wa (st_selT [true, true, true, false] h) ?_
       refine wa_tk 9 rfl rfl rfl (st_selT [true, true, true, false] h) (fun w_ hS => ov_bin _ rfl rfl (binR_xor rfl)) ?_
       refine wa_tk 10 rfl rfl rfl (st_selT [true, true, true, false] h) (fun w_ hS => ov_indexAddrN _ _ _ _ _ (q : Nat) rfl rfl es29 rfl (by first | assumption | omega | (simp only [List.length_take, List.length_drop, List.length_set, List.length_append, List.length_cons, List.length_nil]; omega))) ?_
       refine wa_tk 11 rfl rfl rfl (st_selT [true, true, true, false] h) (fun w_ hS => ov_fieldAddr _ ((ad13).add ((q : Nat) * 2 + 1)) _ rfl fo50_1 (by first | exact Deep.add_add _ _ _ | (rw [Deep.add_add]) | rfl)) ?_
       refine wa_one 12 rfl (by kernel_rfl) ?_
       refine wl_storeeN 3 (q : Nat) 1 (.int .i64 ((Go.bits .xor .i64 (((Lr).getD (q : Nat) z50).f1) 1))) [.int .i64 ((Go.bits .xor .i64 (((Lr).getD (q : Nat) z50).f1) 1))] z50 ((⟨((Lr).getD (q : Nat) z50).f0, (Go.bits .xor .i64 (((Lr).getD (q : Nat) z50).f1) 1)⟩ : Rn)) h rfl rfl rfl (by first | rfl | simp) rfl rfl (by simp [Value.oneCell']) szf3 (by first | assumption | omega | (simp only [List.length_set, List.length_append, List.length_cons, List.length_nil]; omega)) (Nat.le_of_ble_eq_true rfl) (by intro cl hcl hM; obtain ⟨_, _, _, hM⟩ := hM; obtain rfl := k50_openM hM; intro _ _ _; exact k50_mkM _ _ _ ((⟨((Lr).getD (q : Nat) z50).f0, (Go.bits .xor .i64 (((Lr).getD (q : Nat) z50).f1) 1)⟩ : Rn))) (fun _ h => ?_)
       refine wl_nil ?_
       refine qn_wa (st_selT [true, true, true, false] h) ?_
       refine wa_done (by kernel_rfl) ?_
       refine qn_block_normal ?_
       refine qn_then ?_
       refine wc_region ?_
       refine wl_v rfl rfl (ov_move _ rfl) ?_
       refine wl_v rfl rfl (ov_bin _ rfl rfl (binR_add (r := (((q : Nat) : Int)) + 1) (Sx.w64 (by omega)))) ?_
       refine wl_v rfl rfl (ov_assign _ rfl) ?_
       refine wl_nil ?_
       replace h := st_front 3 h
       replace h := st_front 3 h
       replace h := st_front 3 h
       replace h := st_front 3 h
       refine qn_next ((q + 1), some ad13, ((Lr).set (q : Nat) ((⟨((Lr).getD (q : Nat) z50).f0, (Go.bits .xor .i64 (((Lr).getD (q : Nat) z50).f1) 1)⟩ : Rn)))) (by show (k).f1.length - (q + 1) < (k).f1.length - q; omega) ⟨rfl, rfl, rfl, rfl, rfl, (congrArg (fun z_ => some (Value.int .i64 z_)) (show ((((q : Nat) : Int)) + 1 : Int) = (((q + 1) : Nat) : Int) by omega)), trivial⟩ ?_
       show ((q + 1) ≤ (k).f1.length ∧ ((Lr).set (q : Nat) ((⟨((Lr).getD (q : Nat) z50).f0, (Go.bits .xor .i64 (((Lr).getD (q : Nat) z50).f1) 1)⟩ : Rn))).length = (k).f1.length) ∧ _
       exact ⟨⟨by omega, by rw [List.length_set]; exact hJ.2⟩, h⟩
      ·
       refine wc_exit ?_
       refine qn_then_exit ?_
       refine qn_then_exit ?_
       refine qn_block_exit ?_
       refine qn_then ?_
       refine wc_seq ?_
       refine wc_region ?_
       refine wl_v rfl rfl (ov_assign _ rfl) ?_
       refine wl_nil ?_
       refine qn_then ?_
       refine wc_seq ?_
       refine wc_seq ?_
       refine wc_region ?_
       refine wl_v rfl rfl (ov_assign _ rfl) ?_
       refine wl_nil ?_
       refine qn_then ?_
       refine wc_block ?_
       replace h := st_front 1 h
       replace h := st_front 1 h
       replace h := st_selT [true, true, false, false] h
       refine wc_loop (fun (x_ : Nat × Nat × (LM Int)) => [(0, .int .i64 (room)), (2, .slice (Aothers) (others.length) (cothers)), (4, .pointer (some ⟨b1, 0, none⟩)), (7, .pointer (some ⟨gy6, 0, none⟩)), (11, .int .i64 (((x_.2.1 : Nat) : Int))), (12, .int .i64 (((x_.1 : Nat) : Int)))]) (fun (x_ : Nat × Nat × (LM Int)) (w : World) => (KeepP x_.2.2 k 77 x_.2.1 ∧ (x_.1 ≤ others.length ∧ x_.2.1 ≤ x_.1) ∧ (x_.2.2.length : Int) ≤ room) ∧ Sx.St w0 F0 ([cacheP 87 90 85 (Value.int .i64) gy6 (room) (x_.2.2) (0) (0), Sx.blk b1 [.string ((k).f0), .slice (Ak0) (((k).f1).length) (ck0), .int .i64 ((k).f2), .int .i64 ((k).f3), .int .i64 (((k).f4).f0), .int .i64 (((k).f4).f1), .int .i64 (((k).f4).f2), .int .i64 (((k).f4).f3), .int .i64 (((k).f4).f4), .int .i64 (((k).f4).f5), .int .i64 (((k).f4).f6)] 33] ++ R) w) (fun (x_ : Nat × Nat × (LM Int)) => others.length - x_.1) (0, 0, M0) ?_ ?_ ?_
       · exact ⟨rfl, rfl, rfl, rfl, (congrArg (fun z_ => some (Value.int .i64 z_)) (show (0 : Int) = ((0 : Nat) : Int) by omega)), (congrArg (fun z_ => some (Value.int .i64 z_)) (show (0 : Int) = ((0 : Nat) : Int) by omega)), trivial⟩
       · exact ⟨⟨hkp0_, ⟨Nat.zero_le _, Nat.le_refl _⟩, hml0_⟩, h⟩
       rintro ⟨i, u, Mx⟩ w h
       obtain ⟨hJ, h⟩ := h
       replace hJ : KeepP Mx k 77 u ∧ (i ≤ others.length ∧ u ≤ i) ∧ (Mx.length : Int) ≤ room := hJ
       replace h : Sx.St w0 F0 ([cacheP 87 90 85 (Value.int .i64) gy6 (room) (Mx) (0) (0), Sx.blk b1 [.string ((k).f0), .slice (Ak0) (((k).f1).length) (ck0), .int .i64 ((k).f2), .int .i64 ((k).f3), .int .i64 (((k).f4).f0), .int .i64 (((k).f4).f1), .int .i64 (((k).f4).f2), .int .i64 (((k).f4).f3), .int .i64 (((k).f4).f4), .int .i64 (((k).f4).f5), .int .i64 (((k).f4).f6)] 33] ++ R) w := h
       show Sx.WC _ _ _ _ [(0, .int .i64 (room)), (2, .slice (Aothers) (others.length) (cothers)), (4, .pointer (some ⟨b1, 0, none⟩)), (7, .pointer (some ⟨gy6, 0, none⟩)), (11, .int .i64 (((u : Nat) : Int))), (12, .int .i64 (((i : Nat) : Int)))] _
       refine wc_seq ?_
       refine wc_seq ?_
       refine wc_region ?_
       refine wl_v rfl rfl (ov_move _ rfl) ?_
       refine wl_v rfl rfl (ov_move _ rfl) ?_
       refine wl_v rfl rfl (ov_len _ _ _ _ _ rfl es44) ?_
       refine wl_v rfl rfl (ov_bin _ rfl rfl (binR_lss)) ?_
       refine wl_v rfl rfl (ov_move _ rfl) ?_
       refine wl_split 76 rfl (fun c20 => ?_) (fun c20 => ?_)
       ·
        refine wl_v rfl rfl (ov_move _ rfl) ?_
        refine wl_v rfl rfl (ov_move _ rfl) ?_
        refine wl_v rfl rfl (ov_bin _ rfl rfl (binR_sub (r := room - 1) (Sx.w64 (by omega)))) ?_
        refine wl_v rfl rfl (ov_bin _ rfl rfl (binR_lss)) ?_
        refine wl_v rfl rfl (ov_pick_true _ rfl rfl) ?_
        refine wl_nil ?_
        refine qn_then ?_
        refine wc_cond (by rfl) (fun c21 => ?_) (fun c21 => ?_)
        ·
         refine wc_skip ?_
         refine qn_then ?_
         refine wc_seq ?_
         refine wc_block ?_
         refine wc_seq ?_
         refine wc_seq ?_
         refine wc_region ?_
         refine wl_v rfl rfl (ov_move _ rfl) ?_
         refine wl_v rfl rfl (ov_move _ rfl) ?_
         obtain ⟨ad22, rfl⟩ := Sx.C_some ((Sx.ro_C hv h hCothers)) (k := (i : Nat)) (by first | assumption | omega | (simp only [List.length_set, List.length_append, List.length_cons, List.length_nil]; omega))
         refine wl_v rfl rfl (ov_indexAddrN _ _ _ _ _ (i : Nat) rfl rfl es44 rfl (by first | assumption | omega | (simp only [List.length_take, List.length_drop, List.length_set, List.length_append, List.length_cons, List.length_nil]; omega))) ?_
         obtain ⟨cl25, _, hk24, hc23⟩ := Sx.C_cells (hCothers) (z := z33) (k := (i : Nat)) (by first | assumption | omega)
         obtain ⟨A26, cp27, rfl, hl28, hn29⟩ := k33_open hk24
         refine wl_v rfl rfl (ov_loadN _ [.string ((((others).getD (i : Nat) z33)).f0), .slice (A26) (((((others).getD (i : Nat) z33)).f1).length) (cp27), .int .i64 ((((others).getD (i : Nat) z33)).f2), .int .i64 ((((others).getD (i : Nat) z33)).f3), .int .i64 (((((others).getD (i : Nat) z33)).f4).f0), .int .i64 (((((others).getD (i : Nat) z33)).f4).f1), .int .i64 (((((others).getD (i : Nat) z33)).f4).f2), .int .i64 (((((others).getD (i : Nat) z33)).f4).f3), .int .i64 (((((others).getD (i : Nat) z33)).f4).f4), .int .i64 (((((others).getD (i : Nat) z33)).f4).f5), .int .i64 (((((others).getD (i : Nat) z33)).f4).f6)] rfl sh33 (by intro j u hu; rw [Deep.add_add]; exact Sx.ro_cell hv h (hc23 _ _ hu))) ?_
         refine wl_call _ rfl rfl rfl ent15 (CK.fits_calls (R := [cacheP 87 90 85 (Value.int .i64) gy6 (room) (Mx) (0) (0), Sx.blk b1 [.string ((k).f0), .slice (Ak0) (((k).f1).length) (ck0), .int .i64 ((k).f2), .int .i64 ((k).f3), .int .i64 (((k).f4).f0), .int .i64 (((k).f4).f1), .int .i64 (((k).f4).f2), .int .i64 (((k).f4).f3), .int .i64 (((k).f4).f4), .int .i64 (((k).f4).f5), .int .i64 (((k).f4).f6)] 33] ++ R) (((others).getD (i : Nat) z33)) (A26) (cp27) (fun _ _ h_ => Sx.ro_C hv h_ hn29) h) ?_
         rintro e_ w_ ⟨rfl, h⟩
         refine ⟨_, rfl, ?_⟩
         refine wl_v rfl rfl (ov_not _ (¬ (fitsP (((others).getD (i : Nat) z33)))) rfl (by first | exact decide_not.symm | simp)) ?_
         refine wl_nil ?_
         refine qn_then ?_
         refine wc_cond (by rfl) (fun c30 => ?_) (fun c30 => ?_)
         ·
          refine wc_exit ?_
          refine qn_then_exit ?_
          refine qn_block_exit ?_
          refine qn_then ?_
          refine wc_region ?_
          refine wl_v rfl rfl (ov_move _ rfl) ?_
          refine wl_v rfl rfl (ov_bin _ rfl rfl (binR_add (r := (((i : Nat) : Int)) + 1) (Sx.w64 (by omega)))) ?_
          refine wl_v rfl rfl (ov_assign _ rfl) ?_
          refine wl_nil ?_
          replace h := st_front 1 h
          replace h := st_front 1 h
          refine qn_next ((i + 1), u, Mx) (by show others.length - (i + 1) < others.length - i; omega) ⟨rfl, (congrArg (fun z_ => some (Value.slice (some ad22) z_ (cothers))) (show (others.length : Nat) = others.length by first | rfl | simp)), rfl, rfl, rfl, (congrArg (fun z_ => some (Value.int .i64 z_)) (show ((((i : Nat) : Int)) + 1 : Int) = (((i + 1) : Nat) : Int) by omega)), trivial⟩ ?_
          show (KeepP Mx k 77 u ∧ ((i + 1) ≤ others.length ∧ u ≤ (i + 1)) ∧ (Mx.length : Int) ≤ room) ∧ _
          exact ⟨⟨hJ.1, by omega, hJ.2.2⟩, h⟩
         ·
          have hfo_ : fitsP ((others).getD i z33) := by simpa using c30
          have hfo_s := fits_small hfo_
          refine wc_skip ?_
          refine qn_then ?_
          refine wc_seq ?_
          refine wc_seq ?_
          refine wc_draw (fun w => Sx.St w0 F0 ([cacheP 87 90 85 (Value.int .i64) gy6 (room) (Mx) (0) (0), Sx.blk b1 [.string ((k).f0), .slice (Ak0) (((k).f1).length) (ck0), .int .i64 ((k).f2), .int .i64 ((k).f3), .int .i64 (((k).f4).f0), .int .i64 (((k).f4).f1), .int .i64 (((k).f4).f2), .int .i64 (((k).f4).f3), .int .i64 (((k).f4).f4), .int .i64 (((k).f4).f5), .int .i64 (((k).f4).f6)] 33] ++ R) w) (by kernel_rfl) ?_
          replace h := st_drew h
          refine wa_tk 0 rfl rfl rfl (st_selT [true, true] h) (fun w_ hS => ov_move _ rfl) ?_
          refine wa_tk 1 rfl rfl rfl (st_selT [true, true] h) (fun w_ hS => ov_move _ rfl) ?_
          refine wa_tk 2 rfl rfl rfl (st_selT [true, true] h) (fun w_ hS => ov_indexAddrN _ _ _ _ _ (i : Nat) rfl rfl es44 rfl (by first | assumption | omega | (simp only [List.length_take, List.length_drop, List.length_set, List.length_append, List.length_cons, List.length_nil]; omega))) ?_
          refine wa_tk 3 rfl rfl rfl (st_selT [true, true] h) (fun w_ hS => ov_loadN _ [.string ((((others).getD (i : Nat) z33)).f0), .slice (A26) (((((others).getD (i : Nat) z33)).f1).length) (cp27), .int .i64 ((((others).getD (i : Nat) z33)).f2), .int .i64 ((((others).getD (i : Nat) z33)).f3), .int .i64 (((((others).getD (i : Nat) z33)).f4).f0), .int .i64 (((((others).getD (i : Nat) z33)).f4).f1), .int .i64 (((((others).getD (i : Nat) z33)).f4).f2), .int .i64 (((((others).getD (i : Nat) z33)).f4).f3), .int .i64 (((((others).getD (i : Nat) z33)).f4).f4), .int .i64 (((((others).getD (i : Nat) z33)).f4).f5), .int .i64 (((((others).getD (i : Nat) z33)).f4).f6)] rfl sh33 (by intro j u hu; rw [Deep.add_add]; exact Sx.ro_cell hv hS (hc23 _ _ hu))) ?_
          refine wa_tk 5 rfl rfl rfl (st_selT [true, true] h) (fun w_ hS => ov_loadbN 1 [.string ((k).f0), .slice (Ak0) (((k).f1).length) (ck0), .int .i64 ((k).f2), .int .i64 ((k).f3), .int .i64 (((k).f4).f0), .int .i64 (((k).f4).f1), .int .i64 (((k).f4).f2), .int .i64 (((k).f4).f3), .int .i64 (((k).f4).f4), .int .i64 (((k).f4).f5), .int .i64 (((k).f4).f6)] hS rfl rfl sh33 rfl) ?_
          refine wa_one 4 rfl (by kernel_rfl) ?_
          refine wl_call _ rfl rfl rfl ent18 (CK.ref_calls (R := [cacheP 87 90 85 (Value.int .i64) gy6 (room) (Mx) (0) (0), Sx.blk b1 [.string ((k).f0), .slice (Ak0) (((k).f1).length) (ck0), .int .i64 ((k).f2), .int .i64 ((k).f3), .int .i64 (((k).f4).f0), .int .i64 (((k).f4).f1), .int .i64 (((k).f4).f2), .int .i64 (((k).f4).f3), .int .i64 (((k).f4).f4), .int .i64 (((k).f4).f5), .int .i64 (((k).f4).f6)] 33] ++ R) (((others).getD (i : Nat) z33)) (A26) (cp27) h) ?_
          rintro e_ w_ ⟨rfl, h⟩
          refine ⟨_, rfl, ?_⟩
          refine wl_nil ?_
          refine qn_wa (st_selT [true, true] h) ?_
          refine wa_one 6 rfl (by kernel_rfl) ?_
          refine wl_call _ rfl rfl rfl ent18 (CK.ref_calls (R := [cacheP 87 90 85 (Value.int .i64) gy6 (room) (Mx) (0) (0), Sx.blk b1 [.string ((k).f0), .slice (Ak0) (((k).f1).length) (ck0), .int .i64 ((k).f2), .int .i64 ((k).f3), .int .i64 (((k).f4).f0), .int .i64 (((k).f4).f1), .int .i64 (((k).f4).f2), .int .i64 (((k).f4).f3), .int .i64 (((k).f4).f4), .int .i64 (((k).f4).f5), .int .i64 (((k).f4).f6)] 33] ++ R) (k) (Ak0) (ck0) h) ?_
          rintro e_ w_ ⟨rfl, h⟩
          refine ⟨_, rfl, ?_⟩
          refine wl_nil ?_
          refine qn_wa (st_selT [true, true] h) ?_
          refine wa_one 7 rfl (by kernel_rfl) ?_
          refine wl_call _ rfl rfl rfl ent17 (CK.rAlike_calls (R := [cacheP 87 90 85 (Value.int .i64) gy6 (room) (Mx) (0) (0), Sx.blk b1 [.string ((k).f0), .slice (Ak0) (((k).f1).length) (ck0), .int .i64 ((k).f2), .int .i64 ((k).f3), .int .i64 (((k).f4).f0), .int .i64 (((k).f4).f1), .int .i64 (((k).f4).f2), .int .i64 (((k).f4).f3), .int .i64 (((k).f4).f4), .int .i64 (((k).f4).f5), .int .i64 (((k).f4).f6)] 33] ++ R) (((others).getD (i : Nat) z33)) (k) (A26) (Ak0) (cp27) (ck0) hfo_s hfk_s (fun _ _ h_ => Sx.ro_C hv h_ hn29) (fun _ _ h_ => Sx.ro_C hv h_ hCk0) h) ?_
          rintro e_ w_ ⟨rfl, h⟩
          refine ⟨_, rfl, ?_⟩
          refine wl_nil ?_
          refine qn_wa (st_selT [true, true] h) ?_
          refine wa_done (by kernel_rfl) ?_
          refine qn_then ?_
          refine wc_condb (by rfl) (fun c31 => ?_) (fun c31 => ?_)
          ·
           refine wc_exit ?_
           refine qn_then_exit ?_
           refine qn_block_exit ?_
           refine qn_then ?_
           refine wc_region ?_
           refine wl_v rfl rfl (ov_move _ rfl) ?_
           refine wl_v rfl rfl (ov_bin _ rfl rfl (binR_add (r := (((i : Nat) : Int)) + 1) (Sx.w64 (by omega)))) ?_
           refine wl_v rfl rfl (ov_assign _ rfl) ?_
           refine wl_nil ?_
           replace h := st_front 1 h
           replace h := st_front 1 h
           refine qn_next ((i + 1), u, Mx) (by show others.length - (i + 1) < others.length - i; omega) ⟨rfl, (congrArg (fun z_ => some (Value.slice (some ad22) z_ (cothers))) (show (others.length : Nat) = others.length by first | rfl | simp)), rfl, rfl, rfl, (congrArg (fun z_ => some (Value.int .i64 z_)) (show ((((i : Nat) : Int)) + 1 : Int) = (((i + 1) : Nat) : Int) by omega)), trivial⟩ ?_
           show (KeepP Mx k 77 u ∧ ((i + 1) ≤ others.length ∧ u ≤ (i + 1)) ∧ (Mx.length : Int) ≤ room) ∧ _
           exact ⟨⟨hJ.1, by omega, hJ.2.2⟩, h⟩
          ·
           refine wc_skip ?_
           refine qn_then ?_
           refine wc_seq ?_
           refine wc_region ?_
           refine wl_v rfl rfl (ov_move _ rfl) ?_
           refine wl_v rfl rfl (ov_move _ rfl) ?_
           refine wl_v rfl rfl (ov_move _ rfl) ?_
           refine wl_v rfl rfl (ov_indexAddrN _ _ _ _ _ (i : Nat) rfl rfl es44 rfl (by first | assumption | omega | (simp only [List.length_take, List.length_drop, List.length_set, List.length_append, List.length_cons, List.length_nil]; omega))) ?_
           refine wl_v rfl rfl (ov_loadN _ [.string ((((others).getD (i : Nat) z33)).f0), .slice (A26) (((((others).getD (i : Nat) z33)).f1).length) (cp27), .int .i64 ((((others).getD (i : Nat) z33)).f2), .int .i64 ((((others).getD (i : Nat) z33)).f3), .int .i64 (((((others).getD (i : Nat) z33)).f4).f0), .int .i64 (((((others).getD (i : Nat) z33)).f4).f1), .int .i64 (((((others).getD (i : Nat) z33)).f4).f2), .int .i64 (((((others).getD (i : Nat) z33)).f4).f3), .int .i64 (((((others).getD (i : Nat) z33)).f4).f4), .int .i64 (((((others).getD (i : Nat) z33)).f4).f5), .int .i64 (((((others).getD (i : Nat) z33)).f4).f6)] rfl sh33 (by intro j u hu; rw [Deep.add_add]; exact Sx.ro_cell hv h (hc23 _ _ hu))) ?_
           refine wl_v rfl rfl (ov_move _ rfl) ?_
           refine wl_call _ rfl rfl rfl ent21 (CCI.Put_calls (R := [Sx.blk b1 [.string ((k).f0), .slice (Ak0) (((k).f1).length) (ck0), .int .i64 ((k).f2), .int .i64 ((k).f3), .int .i64 (((k).f4).f0), .int .i64 (((k).f4).f1), .int .i64 (((k).f4).f2), .int .i64 (((k).f4).f3), .int .i64 (((k).f4).f4), .int .i64 (((k).f4).f5), .int .i64 (((k).f4).f6)] 33] ++ R) gy6 (room) (0) (0) (Mx) (((others).getD (i : Nat) z33)) (A26) (cp27) (((i : Nat) : Int)) (by first | omega | exact Nat.zero_le _) (by decide) hfo_s (by have z_ := hfo_.1; omega) (fun _ _ h_ => Sx.ro_C hv h_ hn29) h) ?_
           rintro e_ w_ ⟨rfl, h⟩
           refine ⟨_, rfl, ?_⟩
           refine wl_nil ?_
           refine qn_then ?_
           refine wc_region ?_
           refine wl_v rfl rfl (ov_move _ rfl) ?_
           refine wl_v rfl rfl (ov_bin _ rfl rfl (binR_add (r := (((u : Nat) : Int)) + 1) (Sx.w64 (by omega)))) ?_
           refine wl_v rfl rfl (ov_assign _ rfl) ?_
           refine wl_nil ?_
           refine qn_block_normal ?_
           refine qn_then ?_
           refine wc_region ?_
           refine wl_v rfl rfl (ov_move _ rfl) ?_
           refine wl_v rfl rfl (ov_bin _ rfl rfl (binR_add (r := (((i : Nat) : Int)) + 1) (Sx.w64 (by omega)))) ?_
           refine wl_v rfl rfl (ov_assign _ rfl) ?_
           refine wl_nil ?_
           replace h := st_front 1 h
           replace h := st_front 1 h
           refine qn_next ((i + 1), (u + 1), (putM room (Mx) (((others).getD (i : Nat) z33)) (((i : Nat) : Int)))) (by show others.length - (i + 1) < others.length - i; omega) ⟨rfl, (congrArg (fun z_ => some (Value.slice (some ad22) z_ (cothers))) (show (others.length : Nat) = others.length by first | rfl | simp)), rfl, rfl, (congrArg (fun z_ => some (Value.int .i64 z_)) (show ((((u : Nat) : Int)) + 1 : Int) = (((u + 1) : Nat) : Int) by omega)), (congrArg (fun z_ => some (Value.int .i64 z_)) (show ((((i : Nat) : Int)) + 1 : Int) = (((i + 1) : Nat) : Int) by omega)), trivial⟩ ?_
           show (KeepP (putM room (Mx) (((others).getD (i : Nat) z33)) (((i : Nat) : Int))) k 77 (u + 1) ∧ ((i + 1) ≤ others.length ∧ (u + 1) ≤ (i + 1)) ∧ ((putM room (Mx) (((others).getD (i : Nat) z33)) (((i : Nat) : Int))).length : Int) ≤ room) ∧ _
           have hpl_ := putM_len room Mx ((others).getD i z33) ((i : Nat) : Int) (by omega) hJ.2.2
           exact ⟨⟨keep_put (by omega) hJ.1 (by assumption) (by omega), by omega, hpl_.1⟩, h⟩
        ·
         refine wc_exit ?_
         refine qn_then_exit ?_
         refine qn_then_exit ?_
         refine qn_block_exit ?_
         refine qn_then ?_
         refine wc_seq ?_
         refine wc_region ?_
         refine wl_v rfl rfl (ov_move _ rfl) ?_
         refine wl_v rfl rfl (ov_loadbN 1 [.string ((k).f0), .slice (Ak0) (((k).f1).length) (ck0), .int .i64 ((k).f2), .int .i64 ((k).f3), .int .i64 (((k).f4).f0), .int .i64 (((k).f4).f1), .int .i64 (((k).f4).f2), .int .i64 (((k).f4).f3), .int .i64 (((k).f4).f4), .int .i64 (((k).f4).f5), .int .i64 (((k).f4).f6)] h rfl rfl sh33 rfl) ?_
         have hun_ := cache_unlike h
         have hg_ := keep_get hun_ hJ.1
         have hgl_ := getM_len Mx k
         refine wl_call _ rfl rfl rfl ent22 (CCI.Get_calls (R := [Sx.blk b1 [.string ((k).f0), .slice (Ak0) (((k).f1).length) (ck0), .int .i64 ((k).f2), .int .i64 ((k).f3), .int .i64 (((k).f4).f0), .int .i64 (((k).f4).f1), .int .i64 (((k).f4).f2), .int .i64 (((k).f4).f3), .int .i64 (((k).f4).f4), .int .i64 (((k).f4).f5), .int .i64 (((k).f4).f6)] 33] ++ R) gy6 (room) (0) (0) (Mx) (k) (Ak0) (ck0) (by first | omega | exact Nat.zero_le _) (by decide) hfk_s (by have z_ := hfk_.1; omega) (fun _ _ h_ => Sx.ro_C hv h_ hCk0) h) ?_
         rintro e_ w_ ⟨rfl, h⟩
         refine ⟨_, rfl, ?_⟩
         replace h : Sx.St w0 F0 ([cacheP 87 90 85 (Value.int .i64) gy6 (room) ((getM (Mx) (k)).1) ((if (getM (Mx) (k)).2.isSome then (0) + 1 else (0))) ((if (getM (Mx) (k)).2.isSome then (0) else (0) + 1)), Sx.blk b1 [.string ((k).f0), .slice (Ak0) (((k).f1).length) (ck0), .int .i64 ((k).f2), .int .i64 ((k).f3), .int .i64 (((k).f4).f0), .int .i64 (((k).f4).f1), .int .i64 (((k).f4).f2), .int .i64 (((k).f4).f3), .int .i64 (((k).f4).f4), .int .i64 (((k).f4).f5), .int .i64 (((k).f4).f6)] 33] ++ R) _ := h
         rw [hg_] at h ⊢
         replace h : Sx.St w0 F0 ([cacheP 87 90 85 (Value.int .i64) gy6 (room) ((getM Mx (k)).1) (0 + 1) (0), Sx.blk b1 [.string ((k).f0), .slice (Ak0) (((k).f1).length) (ck0), .int .i64 ((k).f2), .int .i64 ((k).f3), .int .i64 (((k).f4).f0), .int .i64 (((k).f4).f1), .int .i64 (((k).f4).f2), .int .i64 (((k).f4).f3), .int .i64 (((k).f4).f4), .int .i64 (((k).f4).f5), .int .i64 (((k).f4).f6)] 33] ++ R) _ := h
         refine wl_v rfl rfl (ov_move _ rfl) ?_
         refine wl_v rfl rfl (ov_extract [.int .i64 (77), .bool true] _ rfl rfl) ?_
         refine wl_v rfl rfl (ov_extract [.int .i64 (77), .bool true] _ rfl rfl) ?_
         refine wl_v rfl rfl (ov_assign _ rfl) ?_
         refine wl_v rfl rfl (ov_assign _ rfl) ?_
         refine wl_nil ?_
         refine qn_then ?_
         refine wc_seq ?_
         refine wc_region ?_
         refine wl_v rfl rfl (ov_move _ rfl) ?_
         refine wl_v rfl rfl (ov_move _ rfl) ?_
         refine wl_v rfl rfl (ov_move _ rfl) ?_
         refine wl_v rfl rfl (ov_bin (.bool true) rfl rfl (binR_eql)) ?_
         refine wl_v rfl rfl (ov_pick_true _ rfl rfl) ?_
         refine wl_v rfl rfl (ov_move _ rfl) ?_
         refine wl_v rfl rfl (ov_move _ rfl) ?_
         refine wl_call _ rfl rfl rfl ent23 (CCI.Len_calls (R := [Sx.blk b1 [.string ((k).f0), .slice (Ak0) (((k).f1).length) (ck0), .int .i64 ((k).f2), .int .i64 ((k).f3), .int .i64 (((k).f4).f0), .int .i64 (((k).f4).f1), .int .i64 (((k).f4).f2), .int .i64 (((k).f4).f3), .int .i64 (((k).f4).f4), .int .i64 (((k).f4).f5), .int .i64 (((k).f4).f6)] 33] ++ R) gy6 (room) (0 + 1) (0) ((getM Mx (k)).1) h) ?_
         rintro e_ w_ ⟨rfl, h⟩
         refine ⟨_, rfl, ?_⟩
         refine wl_v rfl rfl (ov_move _ rfl) ?_
         refine wl_v rfl rfl (ov_bin _ rfl rfl (binR_leq)) ?_
         refine wl_v rfl rfl (ov_pick_true _ rfl rfl) ?_
         refine wl_v rfl rfl (ov_assign _ rfl) ?_
         refine wl_nil ?_
         refine qn_then ?_
         refine wc_ret ?_
         replace h := st_selT [false, false] h
         refine qn_ret [_] ⟨rfl, trivial⟩ ?_
         have b_ : (decide ((((((getM Mx (k)).1).length : Nat) : Int) : Int) ≤ room)) = true := by apply decide_eq_true; first | rfl | omega | (simp only [getM_len]; omega)
         exact ⟨congrArg (fun z => Ending.returned (Value.bool z)) b_, h⟩
       ·
        refine wl_skip rfl rfl ?_
        refine wl_skip rfl rfl ?_
        refine wl_skip rfl rfl ?_
        refine wl_skip rfl rfl ?_
        refine wl_v rfl rfl (ov_pick_false _ rfl rfl) ?_
        refine wl_nil ?_
        refine qn_then ?_
        refine wc_cond_false rfl ?_
        refine wc_exit ?_
        refine qn_then_exit ?_
        refine qn_then_exit ?_
        refine qn_block_exit ?_
        refine qn_then ?_
        refine wc_seq ?_
        refine wc_region ?_
        refine wl_v rfl rfl (ov_move _ rfl) ?_
        refine wl_v rfl rfl (ov_loadbN 1 [.string ((k).f0), .slice (Ak0) (((k).f1).length) (ck0), .int .i64 ((k).f2), .int .i64 ((k).f3), .int .i64 (((k).f4).f0), .int .i64 (((k).f4).f1), .int .i64 (((k).f4).f2), .int .i64 (((k).f4).f3), .int .i64 (((k).f4).f4), .int .i64 (((k).f4).f5), .int .i64 (((k).f4).f6)] h rfl rfl sh33 rfl) ?_
        have hun_ := cache_unlike h
        have hg_ := keep_get hun_ hJ.1
        have hgl_ := getM_len Mx k
        refine wl_call _ rfl rfl rfl ent22 (CCI.Get_calls (R := [Sx.blk b1 [.string ((k).f0), .slice (Ak0) (((k).f1).length) (ck0), .int .i64 ((k).f2), .int .i64 ((k).f3), .int .i64 (((k).f4).f0), .int .i64 (((k).f4).f1), .int .i64 (((k).f4).f2), .int .i64 (((k).f4).f3), .int .i64 (((k).f4).f4), .int .i64 (((k).f4).f5), .int .i64 (((k).f4).f6)] 33] ++ R) gy6 (room) (0) (0) (Mx) (k) (Ak0) (ck0) (by first | omega | exact Nat.zero_le _) (by decide) hfk_s (by have z_ := hfk_.1; omega) (fun _ _ h_ => Sx.ro_C hv h_ hCk0) h) ?_
        rintro e_ w_ ⟨rfl, h⟩
        refine ⟨_, rfl, ?_⟩
        replace h : Sx.St w0 F0 ([cacheP 87 90 85 (Value.int .i64) gy6 (room) ((getM (Mx) (k)).1) ((if (getM (Mx) (k)).2.isSome then (0) + 1 else (0))) ((if (getM (Mx) (k)).2.isSome then (0) else (0) + 1)), Sx.blk b1 [.string ((k).f0), .slice (Ak0) (((k).f1).length) (ck0), .int .i64 ((k).f2), .int .i64 ((k).f3), .int .i64 (((k).f4).f0), .int .i64 (((k).f4).f1), .int .i64 (((k).f4).f2), .int .i64 (((k).f4).f3), .int .i64 (((k).f4).f4), .int .i64 (((k).f4).f5), .int .i64 (((k).f4).f6)] 33] ++ R) _ := h
        rw [hg_] at h ⊢
        replace h : Sx.St w0 F0 ([cacheP 87 90 85 (Value.int .i64) gy6 (room) ((getM Mx (k)).1) (0 + 1) (0), Sx.blk b1 [.string ((k).f0), .slice (Ak0) (((k).f1).length) (ck0), .int .i64 ((k).f2), .int .i64 ((k).f3), .int .i64 (((k).f4).f0), .int .i64 (((k).f4).f1), .int .i64 (((k).f4).f2), .int .i64 (((k).f4).f3), .int .i64 (((k).f4).f4), .int .i64 (((k).f4).f5), .int .i64 (((k).f4).f6)] 33] ++ R) _ := h
        refine wl_v rfl rfl (ov_move _ rfl) ?_
        refine wl_v rfl rfl (ov_extract [.int .i64 (77), .bool true] _ rfl rfl) ?_
        refine wl_v rfl rfl (ov_extract [.int .i64 (77), .bool true] _ rfl rfl) ?_
        refine wl_v rfl rfl (ov_assign _ rfl) ?_
        refine wl_v rfl rfl (ov_assign _ rfl) ?_
        refine wl_nil ?_
        refine qn_then ?_
        refine wc_seq ?_
        refine wc_region ?_
        refine wl_v rfl rfl (ov_move _ rfl) ?_
        refine wl_v rfl rfl (ov_move _ rfl) ?_
        refine wl_v rfl rfl (ov_move _ rfl) ?_
        refine wl_v rfl rfl (ov_bin (.bool true) rfl rfl (binR_eql)) ?_
        refine wl_v rfl rfl (ov_pick_true _ rfl rfl) ?_
        refine wl_v rfl rfl (ov_move _ rfl) ?_
        refine wl_v rfl rfl (ov_move _ rfl) ?_
        refine wl_call _ rfl rfl rfl ent23 (CCI.Len_calls (R := [Sx.blk b1 [.string ((k).f0), .slice (Ak0) (((k).f1).length) (ck0), .int .i64 ((k).f2), .int .i64 ((k).f3), .int .i64 (((k).f4).f0), .int .i64 (((k).f4).f1), .int .i64 (((k).f4).f2), .int .i64 (((k).f4).f3), .int .i64 (((k).f4).f4), .int .i64 (((k).f4).f5), .int .i64 (((k).f4).f6)] 33] ++ R) gy6 (room) (0 + 1) (0) ((getM Mx (k)).1) h) ?_
        rintro e_ w_ ⟨rfl, h⟩
        refine ⟨_, rfl, ?_⟩
        refine wl_v rfl rfl (ov_move _ rfl) ?_
        refine wl_v rfl rfl (ov_bin _ rfl rfl (binR_leq)) ?_
        refine wl_v rfl rfl (ov_pick_true _ rfl rfl) ?_
        refine wl_v rfl rfl (ov_assign _ rfl) ?_
        refine wl_nil ?_
        refine qn_then ?_
        refine wc_ret ?_
        replace h := st_selT [false, false] h
        refine qn_ret [_] ⟨rfl, trivial⟩ ?_
        have b_ : (decide ((((((getM Mx (k)).1).length : Nat) : Int) : Int) ≤ room)) = true := by apply decide_eq_true; first | rfl | omega | (simp only [getM_len]; omega)
        exact ⟨congrArg (fun z => Ending.returned (Value.bool z)) b_, h⟩
end Go.Proofs.Ytmlkajmlhmfdgaa.L
