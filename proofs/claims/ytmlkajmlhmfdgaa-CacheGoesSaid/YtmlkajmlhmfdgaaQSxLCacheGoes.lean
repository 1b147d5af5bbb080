/- Pruned by wip/prune.py. -/
import Derived.Test.YtmlkajmlhmfdgaaProg
import Derived.Test.YtmlkajmlhmfdgaaQSxGlue
import Derived.Test.YtmlkajmlhmfdgaaQSxArr
import Derived.Test.YtmlkajmlhmfdgaaQSxKinds
import Derived.Test.YtmlkajmlhmfdgaaQRunsTh
import Derived.Test.YtmlkajmlhmfdgaaQSxRunsR
import Derived.Test.YtmlkajmlhmfdgaaQCaP
import Derived.Test.YtmlkajmlhmfdgaaQCaRef
import Derived.Test.YtmlkajmlhmfdgaaQSxCKey
import Derived.Test.YtmlkajmlhmfdgaaQSxRowI
import Derived.Test.YtmlkajmlhmfdgaaQSxCaI
import Derived.Test.YtmlkajmlhmfdgaaQSxKeys
import Derived.Test.YtmlkajmlhmfdgaaQSxRefs
import Derived.Test.YtmlkajmlhmfdgaaQCaAwk
import Derived.Test.YtmlkajmlhmfdgaaQSxPlayed
import Derived.Test.YtmlkajmlhmfdgaaQSxAwake
import Derived.Test.YtmlkajmlhmfdgaaQSxRowS
import Derived.Test.YtmlkajmlhmfdgaaQSxCaS
namespace Go.Proofs.Ytmlkajmlhmfdgaa.L
open Go Go.RowKit Go.Proofs.YtmlkajmlhmfdgaaW.PrintWords Go.Proofs.Ytmlkajmlhmfdgaa.Kinds Go.Proofs.Ytmlkajmlhmfdgaa.Runs Go.Proofs.Ytmlkajmlhmfdgaa.RW Go.Proofs.Ytmlkajmlhmfdgaa.Ca Go.Proofs.Ytmlkajmlhmfdgaa.Sx Go.Proofs.Ytmlkajmlhmfdgaa.RI Go.Proofs.Ytmlkajmlhmfdgaa.CCI Go.Proofs.Ytmlkajmlhmfdgaa.Kinds 
set_option linter.unusedVariables false
set_option linter.unusedSimpArgs false
theorem ent9 : Sx.Ent Try.prog 9 := ⟨Try.f9, Try.func9, by kernel_rfl, by kernel_rfl⟩
theorem ent20 : Sx.Ent Try.prog 20 := ⟨Try.f20, Try.func20, by kernel_rfl, by kernel_rfl⟩
theorem zo33 : Sx.zeroOf Try.prog 33 = some (.agg #[.string (ByteArray.empty), .slice (none) (0) (0), .int .i64 (0), .int .i64 (0), .int .i64 (0), .int .i64 (0), .int .i64 (0), .int .i64 (0), .int .i64 (0), .int .i64 (0), .int .i64 (0)]) := by kernel_rfl
theorem sh33 : Sx.shapeOf Try.prog 33 = some (true, 11) := by kernel_rfl
theorem ent21 : Sx.Ent Try.prog 21 := ⟨Try.f21, Try.func21, by kernel_rfl, by kernel_rfl⟩
theorem ent22 : Sx.Ent Try.prog 22 := ⟨Try.f22, Try.func22, by kernel_rfl, by kernel_rfl⟩
theorem ent23 : Sx.Ent Try.prog 23 := ⟨Try.f23, Try.func23, by kernel_rfl, by kernel_rfl⟩
set_option maxHeartbeats 400000 in
set_option maxRecDepth 100000 in
theorem CacheGoes_calls {w0 w : World} {F0 : Nat → Prop} {R : List Sx.HP} {v0 : World} (room : Int) (text : ByteArray) (hv : Sx.RO v0 w0 F0) (hztext : text.size ≤ 9223372036854775807) (h : Sx.St w0 F0 ([] ++ R) w) : Calls Try.prog 6 #[.int .i64 (room), .string (text)] w (fun e w1 => e = .returned (.bool true) ∧ Sx.St w0 F0 R w1) := by
 refine Sx.calls_fn (vs := [.int .i64 (room), .string (text)]) Try.func6 rfl Try.ntmps6 rfl ?_
 refine wc_seq ?_
 refine wc_region ?_
 refine wl_v rfl rfl (ov_assign _ rfl) ?_
 refine wl_nil ?_
 refine qn_then ?_
 refine wc_seq ?_
 refine wc_seq ?_
 refine wc_region ?_
 refine wl_call _ rfl rfl rfl ent9 (AW.awake_calls (R := [] ++ R) h) ?_
 rintro e_ w_ ⟨rfl, h⟩
 refine ⟨_, rfl, ?_⟩
 refine wl_v rfl rfl (ov_notb _ rfl) ?_
 refine wl_nil ?_
 refine qn_then ?_
 refine wc_cond_false rfl ?_
 refine wc_skip ?_
 refine qn_then ?_
 refine wc_seq ?_
 refine wc_seq ?_
 refine wc_region ?_
 refine wl_v rfl rfl (ov_move _ rfl) ?_
 refine wl_v rfl rfl (ov_bin _ rfl rfl (binR_lss)) ?_
 refine wl_v rfl rfl (ov_move _ rfl) ?_
 refine wl_split 15 rfl (fun c1 => ?_) (fun c1 => ?_)
 ·
  refine wl_skip rfl rfl ?_
  refine wl_skip rfl rfl ?_
  refine wl_v rfl rfl (ov_pick_true _ rfl rfl) ?_
  refine wl_v rfl rfl (ov_move _ rfl) ?_
  refine wl_skip rfl rfl ?_
  refine wl_skip rfl rfl ?_
  refine wl_skip rfl rfl ?_
  refine wl_v rfl rfl (ov_pick_true _ rfl rfl) ?_
  refine wl_nil ?_
  refine qn_then ?_
  refine wc_cond_true rfl ?_
  refine wc_seq ?_
  refine wc_region ?_
  refine wl_v rfl rfl (ov_assign _ rfl) ?_
  refine wl_nil ?_
  refine qn_then ?_
  refine wc_ret ?_
  refine qn_then_ret ?_
  refine qn_ret [_] ⟨rfl, trivial⟩ ?_
  exact ⟨rfl, h⟩
 ·
  refine wl_v rfl rfl (ov_move _ rfl) ?_
  refine wl_v rfl rfl (ov_bin _ rfl rfl (binR_gtr)) ?_
  refine wl_v rfl rfl (ov_pick_false _ rfl rfl) ?_
  refine wl_v rfl rfl (ov_move _ rfl) ?_
  refine wl_split 19 rfl (fun c2 => ?_) (fun c2 => ?_)
  ·
   refine wl_skip rfl rfl ?_
   refine wl_skip rfl rfl ?_
   refine wl_skip rfl rfl ?_
   refine wl_v rfl rfl (ov_pick_true _ rfl rfl) ?_
   refine wl_nil ?_
   refine qn_then ?_
   refine wc_cond_true rfl ?_
   refine wc_seq ?_
   refine wc_region ?_
   refine wl_v rfl rfl (ov_assign _ rfl) ?_
   refine wl_nil ?_
   refine qn_then ?_
   refine wc_ret ?_
   refine qn_then_ret ?_
   refine qn_ret [_] ⟨rfl, trivial⟩ ?_
   exact ⟨rfl, h⟩
  ·
   refine wl_v rfl rfl (ov_move _ rfl) ?_
   refine wl_v rfl rfl (ov_lens _ rfl Try.underlying9) ?_
   refine wl_v rfl rfl (ov_bin _ rfl rfl (binR_gtr)) ?_
   refine wl_v rfl rfl (ov_pick_false _ rfl rfl) ?_
   refine wl_nil ?_
   refine qn_then ?_
   refine wc_cond (by rfl) (fun c3 => ?_) (fun c3 => ?_)
   ·
    refine wc_seq ?_
    refine wc_region ?_
    refine wl_v rfl rfl (ov_assign _ rfl) ?_
    refine wl_nil ?_
    refine qn_then ?_
    refine wc_ret ?_
    refine qn_then_ret ?_
    refine qn_ret [_] ⟨rfl, trivial⟩ ?_
    exact ⟨rfl, h⟩
   ·
    refine wc_skip ?_
    refine qn_then ?_
    refine wc_seq ?_
    refine wc_region ?_
    refine wl_v rfl rfl (ov_move _ rfl) ?_
    refine wl_call _ rfl rfl rfl ent20 (CCI.New_calls (R := [] ++ R) room h) ?_
    rintro e_ w_ (⟨hny4, rfl, h⟩ | ⟨hry4, hqy4, gy4, rfl, h⟩)
    · exact absurd (by omega) hny4
    ·
     replace h : Sx.St w0 F0 ([cacheP 87 90 85 (Value.int .i64) gy4 (room) ([] : LM Int) (0) (0)] ++ R) _ := h
     refine ⟨_, rfl, ?_⟩
     refine wl_v rfl rfl (ov_move _ rfl) ?_
     refine wl_v rfl rfl (ov_extract [.pointer (some ⟨gy4, 0, none⟩), .int .i64 (0)] _ rfl rfl) ?_
     refine wl_v rfl rfl (ov_extract [.pointer (some ⟨gy4, 0, none⟩), .int .i64 (0)] _ rfl rfl) ?_
     refine wl_v rfl rfl (ov_assign _ rfl) ?_
     refine wl_v rfl rfl (ov_assign _ rfl) ?_
     refine wl_nil ?_
     refine qn_then ?_
     refine wc_seq ?_
     refine wc_seq ?_
     refine wc_region ?_
     refine wl_v rfl rfl (ov_move _ rfl) ?_
     refine wl_v rfl rfl (ov_bin (.bool false) rfl rfl (binR_neq)) ?_
     refine wl_v rfl rfl (ov_move _ rfl) ?_
     refine wl_v rfl rfl (ov_move _ rfl) ?_
     refine wl_v rfl rfl (ov_bin (.bool false) rfl rfl (binR_eqnil Try.underlying45)) ?_
     refine wl_v rfl rfl (ov_pick_false _ rfl rfl) ?_
     refine wl_nil ?_
     refine qn_then ?_
     refine wc_cond_false rfl ?_
     refine wc_skip ?_
     refine qn_then ?_
     refine wc_seq ?_
     refine wc_region ?_
     refine wl_v rfl rfl (ov_move _ rfl) ?_
     refine wl_v rfl rfl (ov_build [(0, .string (text))] [.string (text), .slice (none) (0) (0), .int .i64 (0), .int .i64 (0), .int .i64 (0), .int .i64 (0), .int .i64 (0), .int .i64 (0), .int .i64 (0), .int .i64 (0), .int .i64 (0)] rfl rfl (by kernel_rfl)) ?_
     refine wl_alloc _ h rfl rfl zo33 (fun b5 _ h => ?_)
     replace h : Sx.St _ _ (Sx.blk b5 [.string (ByteArray.empty), .slice (none) (0) (0), .int .i64 (0), .int .i64 (0), .int .i64 (0), .int .i64 (0), .int .i64 (0), .int .i64 (0), .int .i64 (0), .int .i64 (0), .int .i64 (0)] 33 :: _) _ := h
     refine wl_storebN 0 [.string (text), .slice (none) (0) (0), .int .i64 (0), .int .i64 (0), .int .i64 (0), .int .i64 (0), .int .i64 (0), .int .i64 (0), .int .i64 (0), .int .i64 (0), .int .i64 (0)] [.string (text), .slice (none) (0) (0), .int .i64 (0), .int .i64 (0), .int .i64 (0), .int .i64 (0), .int .i64 (0), .int .i64 (0), .int .i64 (0), .int .i64 (0), .int .i64 (0)] h rfl rfl rfl rfl (by simp [Value.oneCell']) sh33 rfl rfl (fun _ h => ?_)
     refine wl_nil ?_
     refine qn_then ?_
     refine wc_seq ?_
     refine wc_region ?_
     refine wl_v rfl rfl (ov_move _ rfl) ?_
     refine wl_v rfl rfl (ov_loadbN 0 [.string (text), .slice (none) (0) (0), .int .i64 (0), .int .i64 (0), .int .i64 (0), .int .i64 (0), .int .i64 (0), .int .i64 (0), .int .i64 (0), .int .i64 (0), .int .i64 (0)] h rfl rfl sh33 rfl) ?_
     replace h := st_front 1 h
     refine wl_call _ rfl rfl rfl ent21 (CCI.Put_calls (R := [Sx.blk b5 [.string (text), .slice (none) (0) (0), .int .i64 (0), .int .i64 (0), .int .i64 (0), .int .i64 (0), .int .i64 (0), .int .i64 (0), .int .i64 (0), .int .i64 (0), .int .i64 (0)] 33] ++ R) gy4 (room) (0) (0) ([] : LM Int) (⟨text, [], 0, 0, ⟨0, 0, 0, 0, 0, 0, 0⟩⟩ : KV) (none) (0) 1 (by first | exact hgl_ | omega | exact Nat.zero_le _) (by decide) ⟨Nat.zero_le _, fun r_ hr_ => by cases hr_⟩ (by show text.size ≤ _; omega) (fun _ _ _ => Kd.C_nil _ _) h) ?_
     rintro e_ w_ ⟨rfl, h⟩
     refine ⟨_, rfl, ?_⟩
     have e_ : putM room ([] : LM Int) (⟨text, [], 0, 0, ⟨0, 0, 0, 0, 0, 0, 0⟩⟩ : KV) 1 = goesM text room 0 := goes_zero text (by omega)
     rw [e_] at h
     clear e_
     replace h : Sx.St w0 F0 ([cacheP 87 90 85 (Value.int .i64) gy4 (room) (goesM text room 0) (0) (0), Sx.blk b5 [.string (text), .slice (none) (0) (0), .int .i64 (0), .int .i64 (0), .int .i64 (0), .int .i64 (0), .int .i64 (0), .int .i64 (0), .int .i64 (0), .int .i64 (0), .int .i64 (0)] 33] ++ R) _ := h
     refine wl_nil ?_
     refine qn_then ?_
     refine wc_seq ?_
     refine wc_seq ?_
     refine wc_region ?_
     refine wl_v rfl rfl (ov_assign _ rfl) ?_
     refine wl_nil ?_
     refine qn_then ?_
     refine wc_block ?_
     replace h := st_front 1 h
     replace h := st_front 1 h
     refine wc_loop (fun (x_ : Nat) => [(0, .int .i64 (room)), (1, .string (text)), (5, .pointer (some ⟨gy4, 0, none⟩)), (7, .pointer (some ⟨b5, 0, none⟩)), (8, .int .i64 (((x_ : Nat) : Int)))]) (fun (x_ : Nat) (w : World) => ((x_ : Int) ≤ room) ∧ Sx.St w0 F0 ([cacheP 87 90 85 (Value.int .i64) gy4 (room) (goesM text room x_) (0) (0), Sx.blk b5 [.string (text), .slice (none) (0) (0), .int .i64 (0), .int .i64 (0), .int .i64 (0), .int .i64 (0), .int .i64 (0), .int .i64 (0), .int .i64 (0), .int .i64 (0), .int .i64 (0)] 33] ++ R) w) (fun (x_ : Nat) => room.toNat - x_) (0) ?_ ?_ ?_
     · exact ⟨rfl, rfl, rfl, rfl, (congrArg (fun z_ => some (Value.int .i64 z_)) (show (0 : Int) = ((0 : Nat) : Int) by omega)), trivial⟩
     · exact ⟨by first | omega | simp, h⟩
     intro i w h
     obtain ⟨hJ, h⟩ := h
     replace hJ : (i : Int) ≤ room := hJ
     replace h : Sx.St w0 F0 ([cacheP 87 90 85 (Value.int .i64) gy4 (room) (goesM text room i) (0) (0), Sx.blk b5 [.string (text), .slice (none) (0) (0), .int .i64 (0), .int .i64 (0), .int .i64 (0), .int .i64 (0), .int .i64 (0), .int .i64 (0), .int .i64 (0), .int .i64 (0), .int .i64 (0)] 33] ++ R) w := h
     show Sx.WC _ _ _ _ [(0, .int .i64 (room)), (1, .string (text)), (5, .pointer (some ⟨gy4, 0, none⟩)), (7, .pointer (some ⟨b5, 0, none⟩)), (8, .int .i64 (((i : Nat) : Int)))] _
     have hgl_ : (goesM text room i).length ≤ 1048576 := by
       unfold goesM
       split
       · exact Nat.zero_le _
       · rw [List.length_append, goes_len]; split <;> simp <;> omega
     refine wc_seq ?_
     refine wc_seq ?_
     refine wc_region ?_
     refine wl_v rfl rfl (ov_move _ rfl) ?_
     refine wl_v rfl rfl (ov_move _ rfl) ?_
     refine wl_v rfl rfl (ov_bin _ rfl rfl (binR_lss)) ?_
     refine wl_nil ?_
     refine qn_then ?_
     refine wc_cond (by rfl) (fun c6 => ?_) (fun c6 => ?_)
     ·
      refine wc_skip ?_
      refine qn_then ?_
      refine wc_seq ?_
      refine wc_block ?_
      refine wc_region ?_
      refine wl_v rfl rfl (ov_move _ rfl) ?_
      refine wl_v rfl rfl (ov_move _ rfl) ?_
      refine wl_v rfl rfl (ov_move _ rfl) ?_
      refine wl_v rfl rfl (ov_bin _ rfl rfl (binR_add (r := (((i : Nat) : Int)) + 1) (Sx.w64 (by omega)))) ?_
      refine wl_v rfl rfl (ov_build [(0, .string (text)), (3, .int .i64 ((((i : Nat) : Int)) + 1))] [.string (text), .slice (none) (0) (0), .int .i64 (0), .int .i64 ((((i : Nat) : Int)) + 1), .int .i64 (0), .int .i64 (0), .int .i64 (0), .int .i64 (0), .int .i64 (0), .int .i64 (0), .int .i64 (0)] rfl rfl (by kernel_rfl)) ?_
      refine wl_v rfl rfl (ov_move _ rfl) ?_
      refine wl_call _ rfl rfl rfl ent21 (CCI.Put_calls (R := [Sx.blk b5 [.string (text), .slice (none) (0) (0), .int .i64 (0), .int .i64 (0), .int .i64 (0), .int .i64 (0), .int .i64 (0), .int .i64 (0), .int .i64 (0), .int .i64 (0), .int .i64 (0)] 33] ++ R) gy4 (room) (0) (0) (goesM text room i) (⟨text, [], 0, (((i : Nat) : Int)) + 1, ⟨0, 0, 0, 0, 0, 0, 0⟩⟩ : KV) (none) (0) (((i : Nat) : Int)) (by first | exact hgl_ | omega | exact Nat.zero_le _) (by decide) ⟨Nat.zero_le _, fun r_ hr_ => by cases hr_⟩ (by show text.size ≤ _; omega) (fun _ _ _ => Kd.C_nil _ _) h) ?_
      rintro e_ w_ ⟨rfl, h⟩
      refine ⟨_, rfl, ?_⟩
      have e_ : putM room (goesM text room i) (⟨text, [], 0, (((i : Nat) : Int)) + 1, ⟨0, 0, 0, 0, 0, 0, 0⟩⟩ : KV) (((i : Nat) : Int)) = goesM text room (i + 1) := goes_succ text (by omega)
      rw [e_] at h
      clear e_
      replace h : Sx.St w0 F0 ([cacheP 87 90 85 (Value.int .i64) gy4 (room) (goesM text room (i + 1)) (0) (0), Sx.blk b5 [.string (text), .slice (none) (0) (0), .int .i64 (0), .int .i64 (0), .int .i64 (0), .int .i64 (0), .int .i64 (0), .int .i64 (0), .int .i64 (0), .int .i64 (0), .int .i64 (0)] 33] ++ R) _ := h
      refine wl_nil ?_
      refine qn_block_normal ?_
      refine qn_then ?_
      refine wc_region ?_
      refine wl_v rfl rfl (ov_move _ rfl) ?_
      refine wl_v rfl rfl (ov_bin _ rfl rfl (binR_add (r := (((i : Nat) : Int)) + 1) (Sx.w64 (by omega)))) ?_
      refine wl_v rfl rfl (ov_assign _ rfl) ?_
      refine wl_nil ?_
      replace h := st_front 1 h
      replace h := st_front 1 h
      refine qn_next ((i + 1)) (by show room.toNat - (i + 1) < room.toNat - i; omega) ⟨rfl, rfl, rfl, rfl, (congrArg (fun z_ => some (Value.int .i64 z_)) (show ((((i : Nat) : Int)) + 1 : Int) = (((i + 1) : Nat) : Int) by omega)), trivial⟩ ?_
      show (((i + 1) : Int) ≤ room) ∧ _
      exact ⟨by omega, h⟩
     ·
      refine wc_exit ?_
      refine qn_then_exit ?_
      refine qn_then_exit ?_
      refine qn_block_exit ?_
      refine qn_then ?_
      refine wc_seq ?_
      refine wc_region ?_
      refine wl_v rfl rfl (ov_move _ rfl) ?_
      refine wl_v rfl rfl (ov_loadbN 1 [.string (text), .slice (none) (0) (0), .int .i64 (0), .int .i64 (0), .int .i64 (0), .int .i64 (0), .int .i64 (0), .int .i64 (0), .int .i64 (0), .int .i64 (0), .int .i64 (0)] h rfl rfl sh33 rfl) ?_
      refine wl_call _ rfl rfl rfl ent22 (CCI.Get_calls (R := [Sx.blk b5 [.string (text), .slice (none) (0) (0), .int .i64 (0), .int .i64 (0), .int .i64 (0), .int .i64 (0), .int .i64 (0), .int .i64 (0), .int .i64 (0), .int .i64 (0), .int .i64 (0)] 33] ++ R) gy4 (room) (0) (0) (goesM text room i) (⟨text, [], 0, 0, ⟨0, 0, 0, 0, 0, 0, 0⟩⟩ : KV) (none) (0) (by first | exact hgl_ | omega | exact Nat.zero_le _) (by decide) ⟨Nat.zero_le _, fun r_ hr_ => by cases hr_⟩ (by show text.size ≤ _; omega) (fun _ _ _ => Kd.C_nil _ _) h) ?_
      rintro e_ w_ ⟨rfl, h⟩
      refine ⟨_, rfl, ?_⟩
      replace h : Sx.St w0 F0 ([cacheP 87 90 85 (Value.int .i64) gy4 (room) ((getM (goesM text room i) (⟨text, [], 0, 0, ⟨0, 0, 0, 0, 0, 0, 0⟩⟩ : KV)).1) ((if (getM (goesM text room i) (⟨text, [], 0, 0, ⟨0, 0, 0, 0, 0, 0, 0⟩⟩ : KV)).2.isSome then (0) + 1 else (0))) ((if (getM (goesM text room i) (⟨text, [], 0, 0, ⟨0, 0, 0, 0, 0, 0, 0⟩⟩ : KV)).2.isSome then (0) else (0) + 1)), Sx.blk b5 [.string (text), .slice (none) (0) (0), .int .i64 (0), .int .i64 (0), .int .i64 (0), .int .i64 (0), .int .i64 (0), .int .i64 (0), .int .i64 (0), .int .i64 (0), .int .i64 (0)] 33] ++ R) _ := h
      obtain ⟨q1_, q2_, q3_⟩ := goes_end text (room := room) (i := i) (by omega) (by omega) (by omega)
      replace h : Sx.St w0 F0 ([cacheP 87 90 85 (Value.int .i64) gy4 room (getM (goesM text room i) (kw text 0)).1 (if (getM (goesM text room i) (kw text 0)).2.isSome then 0 + 1 else 0) (if (getM (goesM text room i) (kw text 0)).2.isSome then 0 else 0 + 1)] ++ ([Sx.blk b5 [.string (text), .slice (none) (0) (0), .int .i64 (0), .int .i64 (0), .int .i64 (0), .int .i64 (0), .int .i64 (0), .int .i64 (0), .int .i64 (0), .int .i64 (0), .int .i64 (0)] 33] ++ R)) _ := h
      show Sx.WL _ _ _ _ _ ((_, .tuple #[.int .i64 ((getM (goesM text room i) (kw text 0)).2.getD 0), .bool (getM (goesM text room i) (kw text 0)).2.isSome]) :: _) _
      rw [q1_] at h ⊢
      replace h : Sx.St w0 F0 ([cacheP 87 90 85 (Value.int .i64) gy4 (room) ((getM (goesM text room i) (kw text 0)).1) (0) (0 + 1), Sx.blk b5 [.string (text), .slice (none) (0) (0), .int .i64 (0), .int .i64 (0), .int .i64 (0), .int .i64 (0), .int .i64 (0), .int .i64 (0), .int .i64 (0), .int .i64 (0), .int .i64 (0)] 33] ++ R) _ := h
      refine wl_v rfl rfl (ov_move _ rfl) ?_
      refine wl_v rfl rfl (ov_extract [.int .i64 (0), .bool false] _ rfl rfl) ?_
      refine wl_v rfl rfl (ov_extract [.int .i64 (0), .bool false] _ rfl rfl) ?_
      refine wl_v rfl rfl (ov_assign _ rfl) ?_
      refine wl_v rfl rfl (ov_assign _ rfl) ?_
      refine wl_nil ?_
      refine qn_then ?_
      refine wc_seq ?_
      refine wc_region ?_
      refine wl_v rfl rfl (ov_move _ rfl) ?_
      refine wl_v rfl rfl (ov_notb _ rfl) ?_
      refine wl_v rfl rfl (ov_move _ rfl) ?_
      refine wl_v rfl rfl (ov_move _ rfl) ?_
      refine wl_call _ rfl rfl rfl ent23 (CCI.Len_calls (R := [Sx.blk b5 [.string (text), .slice (none) (0) (0), .int .i64 (0), .int .i64 (0), .int .i64 (0), .int .i64 (0), .int .i64 (0), .int .i64 (0), .int .i64 (0), .int .i64 (0), .int .i64 (0)] 33] ++ R) gy4 (room) (0) (0 + 1) ((getM (goesM text room i) (kw text 0)).1) h) ?_
      rintro e_ w_ ⟨rfl, h⟩
      refine ⟨_, rfl, ?_⟩
      refine wl_v rfl rfl (ov_move _ rfl) ?_
      refine wl_v rfl rfl (ov_bin _ rfl rfl (binR_eql)) ?_
      refine wl_v rfl rfl (ov_pick_true _ rfl rfl) ?_
      refine wl_v rfl rfl (ov_assign _ rfl) ?_
      refine wl_nil ?_
      refine qn_then ?_
      refine wc_ret ?_
      replace h := st_selT [false, false] h
      refine qn_ret [_] ⟨rfl, trivial⟩ ?_
      have b_ : (decide ((((((getM (goesM text room i) (kw text 0)).1).length : Nat) : Int) : Int) = room)) = true := by apply decide_eq_true; rw [q3_]; exact q2_
      exact ⟨congrArg (fun z => Ending.returned (Value.bool z)) b_, h⟩
end Go.Proofs.Ytmlkajmlhmfdgaa.L
