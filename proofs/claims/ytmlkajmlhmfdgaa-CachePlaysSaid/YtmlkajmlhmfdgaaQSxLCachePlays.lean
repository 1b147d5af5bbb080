/- Pruned by wip/prune.py. -/
import Derived.Test.YtmlkajmlhmfdgaaProg
import Derived.Test.YtmlkajmlhmfdgaaQSxGlue
import Derived.Test.YtmlkajmlhmfdgaaQSxArr
import Derived.Test.YtmlkajmlhmfdgaaQSxKinds
import Derived.Test.YtmlkajmlhmfdgaaQRunsTh
import Derived.Test.YtmlkajmlhmfdgaaQSxRunsR
import Derived.Test.YtmlkajmlhmfdgaaQCaP
import Derived.Test.YtmlkajmlhmfdgaaQCaRef
import Derived.Test.YtmlkajmlhmfdgaaQSxCKey
import Derived.Test.YtmlkajmlhmfdgaaQSxRowI
import Derived.Test.YtmlkajmlhmfdgaaQSxCaI
import Derived.Test.YtmlkajmlhmfdgaaQSxKeys
import Derived.Test.YtmlkajmlhmfdgaaQSxRefs
import Derived.Test.YtmlkajmlhmfdgaaQCaAwk
import Derived.Test.YtmlkajmlhmfdgaaQSxPlayed
import Derived.Test.YtmlkajmlhmfdgaaQSxAwake
import Derived.Test.YtmlkajmlhmfdgaaQSxRowS
import Derived.Test.YtmlkajmlhmfdgaaQSxCaS
namespace Go.Proofs.Ytmlkajmlhmfdgaa.L
open Go Go.RowKit Go.Proofs.YtmlkajmlhmfdgaaW.PrintWords Go.Proofs.Ytmlkajmlhmfdgaa.Kinds Go.Proofs.Ytmlkajmlhmfdgaa.Runs Go.Proofs.Ytmlkajmlhmfdgaa.RW Go.Proofs.Ytmlkajmlhmfdgaa.Ca Go.Proofs.Ytmlkajmlhmfdgaa.Sx Go.Proofs.Ytmlkajmlhmfdgaa.RI Go.Proofs.Ytmlkajmlhmfdgaa.CCI Go.Proofs.Ytmlkajmlhmfdgaa.Kinds 
set_option linter.unusedVariables false
set_option linter.unusedSimpArgs false
theorem ent9 : Sx.Ent Try.prog 9 := ⟨Try.f9, Try.func9, by kernel_rfl, by kernel_rfl⟩
theorem ent24 : Sx.Ent Try.prog 24 := ⟨Try.f24, Try.func24, by kernel_rfl, by kernel_rfl⟩
theorem zo58 : Sx.zeroOf Try.prog 58 = some (.agg #[.int .i64 (0), .slice (none) (0) (0), .int .i64 (0), .int .i64 (0)]) := by kernel_rfl
theorem sh58 : Sx.shapeOf Try.prog 58 = some (true, 4) := by kernel_rfl
theorem ent25 : Sx.Ent Try.prog 25 := ⟨Try.f25, Try.func25, by kernel_rfl, by kernel_rfl⟩
theorem ent26 : Sx.Ent Try.prog 26 := ⟨Try.f26, Try.func26, by kernel_rfl, by kernel_rfl⟩
theorem es44 : Sx.elemSz Try.prog 44 = some (33, 11) := by kernel_rfl
theorem fo58_1 : Sx.fieldOff Try.prog 58 1 = some 1 := by kernel_rfl
theorem sh56 : Sx.shapeOf Try.prog 56 = some (false, 1) := by kernel_rfl
theorem es56 : Sx.elemSz Try.prog 56 = some (65, 12) := by kernel_rfl
theorem fo58_2 : Sx.fieldOff Try.prog 58 2 = some 2 := by kernel_rfl
theorem sh3 : Sx.shapeOf Try.prog 3 = some (false, 1) := by kernel_rfl
theorem fo58_3 : Sx.fieldOff Try.prog 58 3 = some 3 := by kernel_rfl
theorem ent27 : Sx.Ent Try.prog 27 := ⟨Try.f27, Try.func27, by kernel_rfl, by kernel_rfl⟩
theorem sh33 : Sx.shapeOf Try.prog 33 = some (true, 11) := by kernel_rfl
theorem ent18 : Sx.Ent Try.prog 18 := ⟨Try.f18, Try.func18, by kernel_rfl, by kernel_rfl⟩
theorem fo65_0 : Sx.fieldOff Try.prog 65 0 = some 0 := by kernel_rfl
theorem sh40 : Sx.shapeOf Try.prog 40 = some (true, 11) := by kernel_rfl
theorem ent17 : Sx.Ent Try.prog 17 := ⟨Try.f17, Try.func17, by kernel_rfl, by kernel_rfl⟩
set_option maxHeartbeats 400000 in
set_option maxRecDepth 100000 in
theorem CachePlays_calls {w0 w : World} {F0 : Nat → Prop} {R : List Sx.HP} {v0 : World} (room : Int) (script : List S69) (Ascript : Option Addr) (cscript : Nat) (hv : Sx.RO v0 w0 F0) (hlscript : script.length ≤ cscript) (hCscript : k69.C v0 Ascript script.length script) (hmscript : script.length ≤ 9223372036854775807) (h : Sx.St w0 F0 ([] ++ R) w) : Calls Try.prog 7 #[.int .i64 (room), .slice (Ascript) (script.length) (cscript)] w (fun e w1 => e = .returned (.bool true) ∧ Sx.St w0 F0 R w1) := by
 refine Sx.calls_fn (vs := [.int .i64 (room), .slice (Ascript) (script.length) (cscript)]) Try.func7 rfl Try.ntmps7 rfl ?_
 refine wc_seq ?_
 refine wc_region ?_
 refine wl_v rfl rfl (ov_assign _ rfl) ?_
 refine wl_nil ?_
 refine qn_then ?_
 refine wc_seq ?_
 refine wc_seq ?_
 refine wc_region ?_
 refine wl_call _ rfl rfl rfl ent9 (AW.awake_calls (R := [] ++ R) h) ?_
 rintro e_ w_ ⟨rfl, h⟩
 refine ⟨_, rfl, ?_⟩
 refine wl_v rfl rfl (ov_notb _ rfl) ?_
 refine wl_nil ?_
 refine qn_then ?_
 refine wc_cond_false rfl ?_
 refine wc_skip ?_
 refine qn_then ?_
 refine wc_seq ?_
 refine wc_seq ?_
 refine wc_region ?_
 refine wl_v rfl rfl (ov_move _ rfl) ?_
 refine wl_v rfl rfl (ov_bin _ rfl rfl (binR_lss)) ?_
 refine wl_v rfl rfl (ov_move _ rfl) ?_
 refine wl_split 15 rfl (fun c1 => ?_) (fun c1 => ?_)
 ·
  refine wl_skip rfl rfl ?_
  refine wl_skip rfl rfl ?_
  refine wl_v rfl rfl (ov_pick_true _ rfl rfl) ?_
  refine wl_nil ?_
  refine qn_then ?_
  refine wc_cond_true rfl ?_
  refine wc_seq ?_
  refine wc_region ?_
  refine wl_v rfl rfl (ov_assign _ rfl) ?_
  refine wl_nil ?_
  refine qn_then ?_
  refine wc_ret ?_
  refine qn_then_ret ?_
  refine qn_ret [_] ⟨rfl, trivial⟩ ?_
  exact ⟨rfl, h⟩
 ·
  refine wl_v rfl rfl (ov_move _ rfl) ?_
  refine wl_v rfl rfl (ov_bin _ rfl rfl (binR_gtr)) ?_
  refine wl_v rfl rfl (ov_pick_false _ rfl rfl) ?_
  refine wl_nil ?_
  refine qn_then ?_
  refine wc_cond (by rfl) (fun c2 => ?_) (fun c2 => ?_)
  ·
   refine wc_seq ?_
   refine wc_region ?_
   refine wl_v rfl rfl (ov_assign _ rfl) ?_
   refine wl_nil ?_
   refine qn_then ?_
   refine wc_ret ?_
   refine qn_then_ret ?_
   refine qn_ret [_] ⟨rfl, trivial⟩ ?_
   exact ⟨rfl, h⟩
  ·
   refine wc_skip ?_
   refine qn_then ?_
   refine wc_seq ?_
   refine wc_region ?_
   refine wl_v rfl rfl (ov_move _ rfl) ?_
   refine wl_v rfl rfl (ov_move _ rfl) ?_
   refine wl_call _ rfl rfl rfl ent24 (PL.played_calls (R := [] ++ R) room (script) (Ascript) (cscript) hv (by omega) hlscript hCscript h) ?_
   rintro e_ w_ ⟨gp3, Ap3, cp3, Lp3, Hp3, Mp3, rfl, hpp3, hep3, h⟩
   refine ⟨_, rfl, ?_⟩
   have hbdp3 := play_bd (room := room) (by omega) (script) (min (script).length 60) (Nat.min_le_left _ _)
   rw [hpp3] at hbdp3
   obtain ⟨hb1p3, hb2p3, hb3p3, hb4p3, hb5p3, hb6p3⟩ := hbdp3
   replace hb1p3 : ((RMl Lp3).length : Int) ≤ room := hb1p3
   replace hb2p3 : (RMl Lp3).length ≤ min (script).length 60 := hb2p3
   replace hb3p3 : 0 ≤ Hp3 := hb3p3
   replace hb4p3 : Hp3 ≤ ((min (script).length 60 : Nat) : Int) := hb4p3
   replace hb5p3 : 0 ≤ Mp3 := hb5p3
   replace hb6p3 : Mp3 ≤ ((min (script).length 60 : Nat) : Int) := hb6p3
   have hrlp3 : (RMl Lp3).length = Lp3.length := List.length_map _
   replace h : Sx.St w0 F0 ([cacheP 87 90 85 (Value.int .i64) gp3 (room) (RMl Lp3) (Hp3) (Mp3), rlst (Ap3) (Lp3)] ++ R) _ := h
   refine wl_v rfl rfl (ov_move _ rfl) ?_
   refine wl_v rfl rfl (ov_extract [.pointer (some ⟨gp3, 0, none⟩), .agg #[.int .i64 (room), .slice (Ap3) (Lp3.length) (cp3), .int .i64 (Hp3), .int .i64 (Mp3)]] _ rfl rfl) ?_
   refine wl_v rfl rfl (ov_extract [.pointer (some ⟨gp3, 0, none⟩), .agg #[.int .i64 (room), .slice (Ap3) (Lp3.length) (cp3), .int .i64 (Hp3), .int .i64 (Mp3)]] _ rfl rfl) ?_
   refine wl_alloc _ h rfl rfl zo58 (fun b4 _ h => ?_)
   replace h : Sx.St _ _ (Sx.blk b4 [.int .i64 (0), .slice (none) (0) (0), .int .i64 (0), .int .i64 (0)] 58 :: _) _ := h
   refine wl_v rfl rfl (ov_assign _ rfl) ?_
   refine wl_storebN 0 [.int .i64 (room), .slice (Ap3) (Lp3.length) (cp3), .int .i64 (Hp3), .int .i64 (Mp3)] [.int .i64 (room), .slice (Ap3) (Lp3.length) (cp3), .int .i64 (Hp3), .int .i64 (Mp3)] h rfl rfl rfl rfl (by simp [Value.oneCell']) sh58 rfl rfl (fun _ h => ?_)
   refine wl_nil ?_
   refine qn_then ?_
   refine wc_seq ?_
   refine wc_seq ?_
   refine wc_region ?_
   refine wl_v rfl rfl (ov_move _ rfl) ?_
   refine wl_v rfl rfl (ov_bin (.bool false) rfl rfl (binR_eqnil Try.underlying45)) ?_
   refine wl_nil ?_
   refine qn_then ?_
   refine wc_cond_false rfl ?_
   refine wc_skip ?_
   refine qn_then ?_
   refine wc_seq ?_
   refine wc_region ?_
   refine wl_v rfl rfl (ov_move _ rfl) ?_
   replace h := st_front 1 h
   refine wl_call _ rfl rfl rfl ent25 (KY.Keys_calls (R := [Sx.blk b4 [.int .i64 (room), .slice (Ap3) (Lp3.length) (cp3), .int .i64 (Hp3), .int .i64 (Mp3)] 58, rlst (Ap3) (Lp3)] ++ R) gp3 (room) (Hp3) (Mp3) (RMl Lp3) (by first | omega | exact Nat.zero_le _) h) ?_
   rintro e_ w_ ⟨Ay5, cy5, Ky5, Hy5, rfl, hky5, hmy5, h⟩
   refine ⟨_, rfl, ?_⟩
   replace h : Sx.St w0 F0 ([Sx.row kKH 33 (Ay5) (cy5) (Ky5), rlib (Hy5), cacheP 87 90 85 (Value.int .i64) gp3 (room) (RMl Lp3) (Hp3) (Mp3), Sx.blk b4 [.int .i64 (room), .slice (Ap3) (Lp3.length) (cp3), .int .i64 (Hp3), .int .i64 (Mp3)] 58, rlst (Ap3) (Lp3)] ++ R) _ := h
   have hkly5 : Ky5.length = (RMl Lp3).length := by have z_ := congrArg List.length hky5; simpa using z_
   refine wl_v rfl rfl (ov_assign _ rfl) ?_
   refine wl_nil ?_
   refine qn_then ?_
   refine wc_seq ?_
   refine wc_region ?_
   refine wl_v rfl rfl (ov_move _ rfl) ?_
   replace h := st_front 2 h
   refine wl_call _ rfl rfl rfl ent26 (CCI.Asked_calls (R := [Sx.row kKH 33 (Ay5) (cy5) (Ky5), rlib (Hy5), Sx.blk b4 [.int .i64 (room), .slice (Ap3) (Lp3.length) (cp3), .int .i64 (Hp3), .int .i64 (Mp3)] 58, rlst (Ap3) (Lp3)] ++ R) gp3 (room) (Hp3) (Mp3) (RMl Lp3) h) ?_
   rintro e_ w_ ⟨rfl, h⟩
   refine ⟨_, rfl, ?_⟩
   refine wl_v rfl rfl (ov_move _ rfl) ?_
   refine wl_v rfl rfl (ov_extract [.int .i64 (Hp3), .int .i64 (Mp3)] _ rfl rfl) ?_
   refine wl_v rfl rfl (ov_extract [.int .i64 (Hp3), .int .i64 (Mp3)] _ rfl rfl) ?_
   refine wl_v rfl rfl (ov_assign _ rfl) ?_
   refine wl_v rfl rfl (ov_assign _ rfl) ?_
   refine wl_nil ?_
   refine qn_then ?_
   refine wc_seq ?_
   refine wc_seq ?_
   refine wc_region ?_
   refine wl_v rfl rfl (ov_move _ rfl) ?_
   refine wl_v rfl rfl (ov_len _ _ _ _ _ rfl es44) ?_
   refine wl_v rfl rfl (ov_fieldAddr _ ⟨b4, 1, none⟩ _ rfl fo58_1 rfl) ?_
   refine wl_v rfl rfl (ov_loadb 3 _ h rfl rfl sh56 rfl) ?_
   refine wl_v rfl rfl (ov_len _ _ _ _ _ rfl es56) ?_
   refine wl_v rfl rfl (ov_bin _ rfl rfl (binR_neq)) ?_
   refine wl_v rfl rfl (ov_move _ rfl) ?_
   refine wl_split 40 rfl (fun c6 => ?_) (fun c6 => ?_)
   ·
    exfalso
    first | omega | exact absurd rfl c6 | (simp at c6; done)
   ·
    refine wl_v rfl rfl (ov_move _ rfl) ?_
    refine wl_v rfl rfl (ov_fieldAddr _ ⟨b4, 2, none⟩ _ rfl fo58_2 rfl) ?_
    refine wl_v rfl rfl (ov_loadb 3 _ h rfl rfl sh3 rfl) ?_
    refine wl_v rfl rfl (ov_bin _ rfl rfl (binR_neq)) ?_
    refine wl_v rfl rfl (ov_pick_false _ rfl rfl) ?_
    refine wl_v rfl rfl (ov_move _ rfl) ?_
    refine wl_split 46 rfl (fun c7 => ?_) (fun c7 => ?_)
    ·
     exact absurd rfl c7
    ·
     refine wl_v rfl rfl (ov_move _ rfl) ?_
     refine wl_v rfl rfl (ov_fieldAddr _ ⟨b4, 3, none⟩ _ rfl fo58_3 rfl) ?_
     refine wl_v rfl rfl (ov_loadb 3 _ h rfl rfl sh3 rfl) ?_
     refine wl_v rfl rfl (ov_bin _ rfl rfl (binR_neq)) ?_
     refine wl_v rfl rfl (ov_pick_false _ rfl rfl) ?_
     refine wl_v rfl rfl (ov_move _ rfl) ?_
     refine wl_split 52 rfl (fun c8 => ?_) (fun c8 => ?_)
     ·
      exact absurd rfl c8
     ·
      refine wl_v rfl rfl (ov_move _ rfl) ?_
      refine wl_call _ rfl rfl rfl ent27 (CCI.Room_calls (R := [Sx.row kKH 33 (Ay5) (cy5) (Ky5), rlib (Hy5), Sx.blk b4 [.int .i64 (room), .slice (Ap3) (Lp3.length) (cp3), .int .i64 (Hp3), .int .i64 (Mp3)] 58, rlst (Ap3) (Lp3)] ++ R) gp3 (room) (Hp3) (Mp3) (RMl Lp3) h) ?_
      rintro e_ w_ ⟨rfl, h⟩
      refine ⟨_, rfl, ?_⟩
      refine wl_v rfl rfl (ov_move _ rfl) ?_
      refine wl_v rfl rfl (ov_bin _ rfl rfl (binR_neq)) ?_
      refine wl_v rfl rfl (ov_pick_false _ rfl rfl) ?_
      refine wl_nil ?_
      refine qn_then ?_
      refine wc_cond (by rfl) (fun c9 => ?_) (fun c9 => ?_)
      ·
       exact absurd rfl c9
      ·
       refine wc_skip ?_
       refine qn_then ?_
       refine wc_seq ?_
       refine wc_seq ?_
       refine wc_region ?_
       refine wl_v rfl rfl (ov_assign _ rfl) ?_
       refine wl_nil ?_
       refine qn_then ?_
       refine wc_block ?_
       replace h := st_front 2 h
       replace h := st_front 2 h
       replace h := st_front 4 h
       replace h := st_front 4 h
       replace h := st_front 4 h
       refine wc_loop (fun (x_ : Nat) => [(6, .pointer (some ⟨b4, 0, none⟩)), (7, .slice (Ay5) (Ky5.length) (cy5)), (10, .int .i64 (((x_ : Nat) : Int)))]) (fun (x_ : Nat) (w : World) => (x_ ≤ Ky5.length) ∧ Sx.St w0 F0 ([cacheP 87 90 85 (Value.int .i64) gp3 (room) (RMl Lp3) (Hp3) (Mp3), Sx.blk b4 [.int .i64 (room), .slice (Ap3) (Lp3.length) (cp3), .int .i64 (Hp3), .int .i64 (Mp3)] 58, rlst (Ap3) (Lp3), Sx.row kKH 33 (Ay5) (cy5) (Ky5), rlib (Hy5)] ++ R) w) (fun (x_ : Nat) => Ky5.length - x_) (0) ?_ ?_ ?_
       · exact ⟨rfl, rfl, (congrArg (fun z_ => some (Value.int .i64 z_)) (show (0 : Int) = ((0 : Nat) : Int) by omega)), trivial⟩
       · exact ⟨by first | omega | simp, h⟩
       intro i w h
       obtain ⟨hJ, h⟩ := h
       replace hJ : i ≤ Ky5.length := hJ
       replace h : Sx.St w0 F0 ([cacheP 87 90 85 (Value.int .i64) gp3 (room) (RMl Lp3) (Hp3) (Mp3), Sx.blk b4 [.int .i64 (room), .slice (Ap3) (Lp3.length) (cp3), .int .i64 (Hp3), .int .i64 (Mp3)] 58, rlst (Ap3) (Lp3), Sx.row kKH 33 (Ay5) (cy5) (Ky5), rlib (Hy5)] ++ R) w := h
       show Sx.WC _ _ _ _ [(6, .pointer (some ⟨b4, 0, none⟩)), (7, .slice (Ay5) (Ky5.length) (cy5)), (10, .int .i64 (((i : Nat) : Int)))] _
       refine wc_seq ?_
       refine wc_seq ?_
       refine wc_region ?_
       refine wl_v rfl rfl (ov_move _ rfl) ?_
       refine wl_v rfl rfl (ov_move _ rfl) ?_
       refine wl_v rfl rfl (ov_len _ _ _ _ _ rfl es44) ?_
       refine wl_v rfl rfl (ov_bin _ rfl rfl (binR_lss)) ?_
       refine wl_nil ?_
       refine qn_then ?_
       refine wc_cond (by rfl) (fun c10 => ?_) (fun c10 => ?_)
       ·
        have hik_ : i < Ky5.length := by omega
        have hil_ : i < Lp3.length := by omega
        have hkey_ : (Ky5.getD i zKH).key = (Lp3.getD i zRH).key := by rw [getD_key hik_, getD_ref hil_, hky5]
        refine wc_skip ?_
        refine qn_then ?_
        refine wc_seq ?_
        refine wc_block ?_
        refine wc_seq ?_
        refine wc_draw (fun w => Sx.St w0 F0 ([cacheP 87 90 85 (Value.int .i64) gp3 (room) (RMl Lp3) (Hp3) (Mp3), Sx.blk b4 [.int .i64 (room), .slice (Ap3) (Lp3.length) (cp3), .int .i64 (Hp3), .int .i64 (Mp3)] 58, rlst (Ap3) (Lp3), Sx.row kKH 33 (Ay5) (cy5) (Ky5), rlib (Hy5)] ++ R) w) (by kernel_rfl) ?_
        replace h := st_drew h
        refine wa_tk 0 rfl rfl rfl (st_selT [true, true, true, true, true] h) (fun w_ hS => ov_move _ rfl) ?_
        refine wa_tk 1 rfl rfl rfl (st_selT [true, true, true, true, true] h) (fun w_ hS => ov_move _ rfl) ?_
        obtain ⟨ad11, rfl⟩ := Sx.C_some ((Sx.row_reads h (i := 3) rfl).2) (k := (i : Nat)) (by first | assumption | omega | (simp only [List.length_set, List.length_append, List.length_cons, List.length_nil]; omega))
        refine wa_tk 2 rfl rfl rfl (st_selT [true, true, true, true, true] h) (fun w_ hS => ov_indexAddrN _ _ _ _ _ (i : Nat) rfl rfl es44 rfl (by first | assumption | omega | (simp only [List.length_take, List.length_drop, List.length_set, List.length_append, List.length_cons, List.length_nil]; omega))) ?_
        refine wa_tk 3 rfl rfl rfl (st_selT [true, true, true, true, true] h) (fun w_ hS => by
            obtain ⟨cl14, _, hk13, hc12⟩ := Sx.C_cells ((Sx.row_reads hS (i := 3) rfl).2) (z := zKH) (k := (i : Nat)) (by first | assumption | omega | (simp only [List.length_set, List.length_append, List.length_cons, List.length_nil]; omega))
            obtain rfl := kKH_open hk13
            exact ov_loadN _ [.string ((((Ky5).getD (i : Nat) zKH).key).f0), .slice (((Ky5).getD (i : Nat) zKH).A) (((((Ky5).getD (i : Nat) zKH).key).f1).length) (((Ky5).getD (i : Nat) zKH).c), .int .i64 ((((Ky5).getD (i : Nat) zKH).key).f2), .int .i64 ((((Ky5).getD (i : Nat) zKH).key).f3), .int .i64 (((((Ky5).getD (i : Nat) zKH).key).f4).f0), .int .i64 (((((Ky5).getD (i : Nat) zKH).key).f4).f1), .int .i64 (((((Ky5).getD (i : Nat) zKH).key).f4).f2), .int .i64 (((((Ky5).getD (i : Nat) zKH).key).f4).f3), .int .i64 (((((Ky5).getD (i : Nat) zKH).key).f4).f4), .int .i64 (((((Ky5).getD (i : Nat) zKH).key).f4).f5), .int .i64 (((((Ky5).getD (i : Nat) zKH).key).f4).f6)] rfl sh33 (by intro j u hu; rw [Deep.add_add]; exact (hc12 _ _ hu))) ?_
        refine wa_tk 5 rfl rfl rfl (st_selT [true, true, true, true, true] h) (fun w_ hS => ov_fieldAddr _ ⟨b4, 1, none⟩ _ rfl fo58_1 rfl) ?_
        refine wa_tk 6 rfl rfl rfl (st_selT [true, true, true, true, true] h) (fun w_ hS => ov_loadb 1 _ hS rfl rfl sh56 rfl) ?_
        refine wa_tk 7 rfl rfl rfl (st_selT [true, true, true, true, true] h) (fun w_ hS => ov_move _ rfl) ?_
        obtain ⟨ad15, rfl⟩ := Sx.C_some ((rlst_now h (i := 2) rfl)) (k := (i : Nat)) (by first | assumption | omega | (simp only [List.length_set, List.length_append, List.length_cons, List.length_nil]; omega))
        refine wa_tk 8 rfl rfl rfl (st_selT [true, true, true, true, true] h) (fun w_ hS => ov_indexAddrN _ _ _ _ _ (i : Nat) rfl rfl es56 rfl (by first | assumption | omega | (simp only [List.length_take, List.length_drop, List.length_set, List.length_append, List.length_cons, List.length_nil]; omega))) ?_
        refine wa_tk 9 rfl rfl rfl (st_selT [true, true, true, true, true] h) (fun w_ hS => ov_fieldAddr _ ((ad15).add ((i : Nat) * 12 + 0)) _ rfl fo65_0 (by first | exact Deep.add_add _ _ _ | (rw [Deep.add_add]) | rfl)) ?_
        refine wa_tk 10 rfl rfl rfl (st_selT [true, true, true, true, true] h) (fun w_ hS => by
            obtain ⟨cl18, _, hk17, hc16⟩ := Sx.C_cells ((rlst_now hS (i := 2) rfl)) (z := zRH) (k := (i : Nat)) (by first | assumption | omega | (simp only [List.length_set, List.length_append, List.length_cons, List.length_nil]; omega))
            obtain rfl := kRH_open hk17
            exact ov_loadN _ [.string ((((Lp3).getD (i : Nat) zRH).key).f0), .slice (((Lp3).getD (i : Nat) zRH).A) (((((Lp3).getD (i : Nat) zRH).key).f1).length) (((Lp3).getD (i : Nat) zRH).c), .int .i64 ((((Lp3).getD (i : Nat) zRH).key).f2), .int .i64 ((((Lp3).getD (i : Nat) zRH).key).f3), .int .i64 (((((Lp3).getD (i : Nat) zRH).key).f4).f0), .int .i64 (((((Lp3).getD (i : Nat) zRH).key).f4).f1), .int .i64 (((((Lp3).getD (i : Nat) zRH).key).f4).f2), .int .i64 (((((Lp3).getD (i : Nat) zRH).key).f4).f3), .int .i64 (((((Lp3).getD (i : Nat) zRH).key).f4).f4), .int .i64 (((((Lp3).getD (i : Nat) zRH).key).f4).f5), .int .i64 (((((Lp3).getD (i : Nat) zRH).key).f4).f6)] rfl sh40 (by intro j u hu; rw [Deep.add_add, Nat.add_assoc]; exact (hc16 _ _ (Sx.part_get 0 rfl hu)))) ?_
        refine wa_one 4 rfl (by kernel_rfl) ?_
        refine wl_call _ rfl rfl rfl ent18 (CK.ref_calls (R := [cacheP 87 90 85 (Value.int .i64) gp3 (room) (RMl Lp3) (Hp3) (Mp3), Sx.blk b4 [.int .i64 (room), .slice (some ad15) (Lp3.length) (cp3), .int .i64 (Hp3), .int .i64 (Mp3)] 58, rlst (some ad15) (Lp3), Sx.row kKH 33 (some ad11) (cy5) (Ky5), rlib (Hy5)] ++ R) (((Ky5).getD (i : Nat) zKH).key) (((Ky5).getD (i : Nat) zKH).A) (((Ky5).getD (i : Nat) zKH).c) h) ?_
        rintro e_ w_ ⟨rfl, h⟩
        refine ⟨_, rfl, ?_⟩
        refine wl_nil ?_
        refine qn_wa (st_selT [true, true, true, true, true] h) ?_
        refine wa_one 11 rfl (by kernel_rfl) ?_
        refine wl_call _ rfl rfl rfl ent17 (CK.rAlike_calls (R := [cacheP 87 90 85 (Value.int .i64) gp3 (room) (RMl Lp3) (Hp3) (Mp3), Sx.blk b4 [.int .i64 (room), .slice (some ad15) (Lp3.length) (cp3), .int .i64 (Hp3), .int .i64 (Mp3)] 58, rlst (some ad15) (Lp3), Sx.row kKH 33 (some ad11) (cy5) (Ky5), rlib (Hy5)] ++ R) (((Ky5).getD (i : Nat) zKH).key) (((Lp3).getD (i : Nat) zRH).key) (((Ky5).getD (i : Nat) zKH).A) (((Lp3).getD (i : Nat) zRH).A) (((Ky5).getD (i : Nat) zKH).c) (((Lp3).getD (i : Nat) zRH).c) (by rw [hkey_]; exact (hep3 _ (RF.getD_mem3 hil_)).2) (hep3 _ (RF.getD_mem3 hil_)).2 (fun cs_ w_ h_ => ra_C (rlib_at (R := [cacheP 87 90 85 (Value.int .i64) gp3 (room) (RMl Lp3) (Hp3) (Mp3), Sx.blk b4 [.int .i64 (room), .slice (some ad15) (Lp3.length) (cp3), .int .i64 (Hp3), .int .i64 (Mp3)] 58, rlst (some ad15) (Lp3), Sx.row kKH 33 (some ad11) (cy5) (Ky5), rlib (Hy5)] ++ R) (j := 4) rfl cs_ w_ h_) (hmy5 _ (getD_inK hik_))) (fun _ _ h_ => Sx.ro_C hv h_ (hep3 _ (RF.getD_mem3 hil_)).1) h) ?_
        rintro e_ w_ ⟨rfl, h⟩
        refine ⟨_, rfl, ?_⟩
        refine wl_nil ?_
        refine qn_wa (st_selT [true, true, true, true, true] h) ?_
        refine wa_tk 12 rfl rfl rfl (st_selT [true, true, true, true, true] h) (fun w_ hS => ov_notb _ rfl) ?_
        refine wa_done (by kernel_rfl) ?_
        refine qn_then ?_
        refine wc_condb (by rfl) (fun c19 => ?_) (fun c19 => ?_)
        ·
         exfalso
         rw [hkey_, alike_refl] at c19
         exact absurd c19 (by decide)
        ·
         refine wc_skip ?_
         refine qn_block_normal ?_
         refine qn_then ?_
         refine wc_region ?_
         refine wl_v rfl rfl (ov_move _ rfl) ?_
         refine wl_v rfl rfl (ov_bin _ rfl rfl (binR_add (r := (((i : Nat) : Int)) + 1) (Sx.w64 (by omega)))) ?_
         refine wl_v rfl rfl (ov_assign _ rfl) ?_
         refine wl_nil ?_
         replace h := st_front 4 h
         replace h := st_front 4 h
         replace h := st_front 4 h
         replace h := st_front 4 h
         replace h := st_front 4 h
         refine qn_next ((i + 1)) (by show Ky5.length - (i + 1) < Ky5.length - i; omega) ⟨rfl, (congrArg (fun z_ => some (Value.slice (some ad11) z_ (cy5))) (show (Ky5.length : Nat) = Ky5.length by first | rfl | simp)), (congrArg (fun z_ => some (Value.int .i64 z_)) (show ((((i : Nat) : Int)) + 1 : Int) = (((i + 1) : Nat) : Int) by omega)), trivial⟩ ?_
         show ((i + 1) ≤ Ky5.length) ∧ _
         exact ⟨by first | omega | simp, h⟩
       ·
        refine wc_exit ?_
        refine qn_then_exit ?_
        refine qn_then_exit ?_
        refine qn_block_exit ?_
        refine qn_then ?_
        refine wc_seq ?_
        refine wc_region ?_
        refine wl_v rfl rfl (ov_assign _ rfl) ?_
        refine wl_nil ?_
        refine qn_then ?_
        refine wc_ret ?_
        replace h := st_selT [false, false, false, false, false] h
        refine qn_ret [_] ⟨rfl, trivial⟩ ?_
        exact ⟨rfl, h⟩
end Go.Proofs.Ytmlkajmlhmfdgaa.L
