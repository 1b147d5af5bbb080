/- Pruned by wip/prune.py. -/
import Derived.Test.YtmlkajmlhmfdgaaProg
import Derived.Test.YtmlkajmlhmfdgaaQSxGlue
import Derived.Test.YtmlkajmlhmfdgaaQSxArr
import Derived.Test.YtmlkajmlhmfdgaaQSxKinds
import Derived.Test.YtmlkajmlhmfdgaaQRunsTh
import Derived.Test.YtmlkajmlhmfdgaaQSxRunsR
import Derived.Test.YtmlkajmlhmfdgaaQCaP
import Derived.Test.YtmlkajmlhmfdgaaQCaRef
import Derived.Test.YtmlkajmlhmfdgaaQSxCKey
import Derived.Test.YtmlkajmlhmfdgaaQSxRowI
import Derived.Test.YtmlkajmlhmfdgaaQSxCaI
import Derived.Test.YtmlkajmlhmfdgaaQSxKeys
import Derived.Test.YtmlkajmlhmfdgaaQSxRefs
import Derived.Test.YtmlkajmlhmfdgaaQCaAwk
namespace Go.Proofs.Ytmlkajmlhmfdgaa.PL
open Go Go.RowKit Go.Proofs.YtmlkajmlhmfdgaaW.PrintWords Go.Proofs.Ytmlkajmlhmfdgaa.Kinds Go.Proofs.Ytmlkajmlhmfdgaa.Runs Go.Proofs.Ytmlkajmlhmfdgaa.RW Go.Proofs.Ytmlkajmlhmfdgaa.Ca Go.Proofs.Ytmlkajmlhmfdgaa.Sx Go.Proofs.Ytmlkajmlhmfdgaa.RI Go.Proofs.Ytmlkajmlhmfdgaa.CCI 
set_option linter.unusedVariables false
set_option linter.unusedSimpArgs false
theorem zo58 : Sx.zeroOf Try.prog 58 = some (.agg #[.int .i64 (0), .slice (none) (0) (0), .int .i64 (0), .int .i64 (0)]) := by kernel_rfl
theorem sh58 : Sx.shapeOf Try.prog 58 = some (true, 4) := by kernel_rfl
theorem ent20 : Sx.Ent Try.prog 20 := ⟨Try.f20, Try.func20, by kernel_rfl, by kernel_rfl⟩
theorem es55 : Sx.elemSz Try.prog 55 = some (69, 13) := by kernel_rfl
theorem sh69 : Sx.shapeOf Try.prog 69 = some (true, 13) := by kernel_rfl
theorem zo69 : Sx.zeroOf Try.prog 69 = some (.agg #[.int .i64 (0), .string (ByteArray.empty), .slice (none) (0) (0), .int .i64 (0), .int .i64 (0), .int .i64 (0), .int .i64 (0), .int .i64 (0), .int .i64 (0), .int .i64 (0), .int .i64 (0), .int .i64 (0), .int .i64 (0)]) := by kernel_rfl
theorem fo69_1 : Sx.fieldOff Try.prog 69 1 = some 1 := by kernel_rfl
theorem sh33 : Sx.shapeOf Try.prog 33 = some (true, 11) := by kernel_rfl
theorem ent15 : Sx.Ent Try.prog 15 := ⟨Try.f15, Try.func15, by kernel_rfl, by kernel_rfl⟩
theorem fo69_0 : Sx.fieldOff Try.prog 69 0 = some 0 := by kernel_rfl
theorem sh3 : Sx.shapeOf Try.prog 3 = some (false, 1) := by kernel_rfl
theorem fo69_2 : Sx.fieldOff Try.prog 69 2 = some 12 := by kernel_rfl
theorem ent21 : Sx.Ent Try.prog 21 := ⟨Try.f21, Try.func21, by kernel_rfl, by kernel_rfl⟩
theorem ent18 : Sx.Ent Try.prog 18 := ⟨Try.f18, Try.func18, by kernel_rfl, by kernel_rfl⟩
theorem ent41 : Sx.Ent Try.prog 41 := ⟨Try.f41, Try.func41, by kernel_rfl, by kernel_rfl⟩
theorem ent23 : Sx.Ent Try.prog 23 := ⟨Try.f23, Try.func23, by kernel_rfl, by kernel_rfl⟩
theorem fo58_1 : Sx.fieldOff Try.prog 58 1 = some 1 := by kernel_rfl
theorem sh56 : Sx.shapeOf Try.prog 56 = some (false, 1) := by kernel_rfl
theorem es56 : Sx.elemSz Try.prog 56 = some (65, 12) := by kernel_rfl
theorem ent22 : Sx.Ent Try.prog 22 := ⟨Try.f22, Try.func22, by kernel_rfl, by kernel_rfl⟩
theorem ent42 : Sx.Ent Try.prog 42 := ⟨Try.f42, Try.func42, by kernel_rfl, by kernel_rfl⟩
theorem ent28 : Sx.Ent Try.prog 28 := ⟨Try.f28, Try.func28, by kernel_rfl, by kernel_rfl⟩
set_option maxHeartbeats 1000000 in
set_option maxRecDepth 100000 in
theorem played_calls {w0 w : World} {F0 : Nat → Prop} {R : List Sx.HP} {v0 : World} (room : Int) (script : List S69) (As : Option Addr) (cs : Nat) (hv : Sx.RO v0 w0 F0) (hr : 0 ≤ room ∧ room ≤ 64) (hls : script.length ≤ cs) (hC : k69.C v0 As script.length script) (h : Sx.St w0 F0 ([] ++ R) w) : Calls Try.prog 24 #[.int .i64 (room), .slice (As) (script.length) (cs)] w (fun e w1 => ∃ (g : Nat) (A : Option Addr) (c : Nat) (L : List RH) (H Ms : Int), e = .returned (.tuple #[.pointer (some ⟨g, 0, none⟩), .agg #[.int .i64 room, .slice A L.length c, .int .i64 H, .int .i64 Ms]]) ∧ playV room script (min script.length 60) = (RMl L, H, Ms) ∧ (∀ x ∈ L, k50.C v0 x.A x.key.f1.length x.key.f1 ∧ SmallK x.key) ∧ Sx.St w0 F0 ([cacheP 87 90 85 (Value.int .i64) g room (RMl L) H Ms, rlst A L] ++ R) w1) := by
 refine Sx.calls_fn (vs := [.int .i64 (room), .slice (As) (script.length) (cs)]) Try.func24 rfl Try.ntmps24 rfl ?_
 refine wc_seq ?_
 refine wc_region ?_
 refine wl_v rfl rfl (ov_assign _ rfl) ?_
 refine wl_alloc _ h rfl rfl zo58 (fun b1 _ h => ?_)
 replace h : Sx.St _ _ (Sx.blk b1 [.int .i64 (0), .slice (none) (0) (0), .int .i64 (0), .int .i64 (0)] 58 :: _) _ := h
 refine wl_nil ?_
 refine qn_then ?_
 refine wc_seq ?_
 refine wc_region ?_
 refine wl_v rfl rfl (ov_move _ rfl) ?_
 refine wl_v rfl rfl (ov_build [(0, .int .i64 (room))] [.int .i64 (room), .slice (none) (0) (0), .int .i64 (0), .int .i64 (0)] rfl rfl (by kernel_rfl)) ?_
 refine wl_alloc _ h rfl rfl zo58 (fun b2 _ h => ?_)
 replace h : Sx.St _ _ (Sx.blk b2 [.int .i64 (0), .slice (none) (0) (0), .int .i64 (0), .int .i64 (0)] 58 :: _) _ := h
 refine wl_storebN 0 [.int .i64 (room), .slice (none) (0) (0), .int .i64 (0), .int .i64 (0)] [.int .i64 (room), .slice (none) (0) (0), .int .i64 (0), .int .i64 (0)] h rfl rfl rfl rfl (by simp [Value.oneCell']) sh58 rfl rfl (fun _ h => ?_)
 refine wl_nil ?_
 refine qn_then ?_
 refine wc_seq ?_
 refine wc_region ?_
 refine wl_v rfl rfl (ov_move _ rfl) ?_
 refine wl_call _ rfl rfl rfl ent20 (CCI.New_calls (R := [Sx.blk b2 [.int .i64 (room), .slice (none) (0) (0), .int .i64 (0), .int .i64 (0)] 58, Sx.blk b1 [.int .i64 (0), .slice (none) (0) (0), .int .i64 (0), .int .i64 (0)] 58] ++ R) room h) ?_
 rintro e_ w_ (⟨hny3, rfl, h⟩ | ⟨hry3, hqy3, gy3, rfl, h⟩)
 · exact absurd (by omega) hny3
 ·
  replace h : Sx.St w0 F0 ([cacheP 87 90 85 (Value.int .i64) gy3 (room) ([] : LM Int) (0) (0), Sx.blk b2 [.int .i64 (room), .slice (none) (0) (0), .int .i64 (0), .int .i64 (0)] 58, Sx.blk b1 [.int .i64 (0), .slice (none) (0) (0), .int .i64 (0), .int .i64 (0)] 58] ++ R) _ := h
  refine ⟨_, rfl, ?_⟩
  refine wl_v rfl rfl (ov_move _ rfl) ?_
  refine wl_v rfl rfl (ov_extract [.pointer (some ⟨gy3, 0, none⟩), .int .i64 (0)] _ rfl rfl) ?_
  refine wl_v rfl rfl (ov_extract [.pointer (some ⟨gy3, 0, none⟩), .int .i64 (0)] _ rfl rfl) ?_
  refine wl_v rfl rfl (ov_assign _ rfl) ?_
  refine wl_v rfl rfl (ov_assign _ rfl) ?_
  refine wl_nil ?_
  refine qn_then ?_
  refine wc_seq ?_
  refine wc_seq ?_
  refine wc_region ?_
  refine wl_v rfl rfl (ov_move _ rfl) ?_
  refine wl_v rfl rfl (ov_bin (.bool false) rfl rfl (binR_neq)) ?_
  refine wl_v rfl rfl (ov_move _ rfl) ?_
  refine wl_v rfl rfl (ov_move _ rfl) ?_
  refine wl_v rfl rfl (ov_bin (.bool false) rfl rfl (binR_eqnil Try.underlying45)) ?_
  refine wl_v rfl rfl (ov_pick_false _ rfl rfl) ?_
  refine wl_nil ?_
  refine qn_then ?_
  refine wc_cond_false rfl ?_
  refine wc_skip ?_
  refine qn_then ?_
  refine wc_seq ?_
  refine wc_seq ?_
  refine wc_region ?_
  refine wl_v rfl rfl (ov_assign _ rfl) ?_
  refine wl_nil ?_
  refine qn_then ?_
  refine wc_block ?_
  replace h := rlst_nil h
  replace h := st_front 3 h
  replace h := st_front 3 h
  replace h := st_front 3 h
  refine wc_loop (fun (x_ : Nat × (Option Addr) × Nat × (List RH) × Int × Int) => [(0, .int .i64 (room)), (1, .slice (As) (script.length) (cs)), (5, .pointer (some ⟨b1, 0, none⟩)), (6, .pointer (some ⟨b2, 0, none⟩)), (7, .pointer (some ⟨gy3, 0, none⟩)), (9, .int .i64 (((x_.1 : Nat) : Int)))]) (fun (x_ : Nat × (Option Addr) × Nat × (List RH) × Int × Int) (w : World) => (playV room script x_.1 = (RMl x_.2.2.2.1, x_.2.2.2.2.1, x_.2.2.2.2.2) ∧ (x_.1 ≤ script.length ∧ x_.1 ≤ 60) ∧ (∀ x : RH, x ∈ x_.2.2.2.1 → k50.C v0 x.A x.key.f1.length x.key.f1 ∧ SmallK x.key)) ∧ Sx.St w0 F0 ([cacheP 87 90 85 (Value.int .i64) gy3 (room) (RMl x_.2.2.2.1) (x_.2.2.2.2.1) (x_.2.2.2.2.2), Sx.blk b2 [.int .i64 (room), .slice (x_.2.1) (x_.2.2.2.1.length) (x_.2.2.1), .int .i64 (x_.2.2.2.2.1), .int .i64 (x_.2.2.2.2.2)] 58, Sx.blk b1 [.int .i64 (0), .slice (none) (0) (0), .int .i64 (0), .int .i64 (0)] 58, rlst (x_.2.1) (x_.2.2.2.1)] ++ R) w) (fun (x_ : Nat × (Option Addr) × Nat × (List RH) × Int × Int) => script.length - x_.1) (0, none, 0, [], 0, 0) ?_ ?_ ?_
  · exact ⟨rfl, rfl, rfl, rfl, rfl, (congrArg (fun z_ => some (Value.int .i64 z_)) (show (0 : Int) = ((0 : Nat) : Int) by omega)), trivial⟩
  · exact ⟨⟨rfl, ⟨Nat.zero_le _, Nat.zero_le _⟩, fun x_ hx_ => by cases hx_⟩, h⟩
  rintro ⟨i, A, c, L, H, Ms⟩ w h
  obtain ⟨hJ, h⟩ := h
  replace hJ : playV room script i = (RMl L, H, Ms) ∧ (i ≤ script.length ∧ i ≤ 60) ∧ (∀ x : RH, x ∈ L → k50.C v0 x.A x.key.f1.length x.key.f1 ∧ SmallK x.key) := hJ
  replace h : Sx.St w0 F0 ([cacheP 87 90 85 (Value.int .i64) gy3 (room) (RMl L) (H) (Ms), Sx.blk b2 [.int .i64 (room), .slice (A) (L.length) (c), .int .i64 (H), .int .i64 (Ms)] 58, Sx.blk b1 [.int .i64 (0), .slice (none) (0) (0), .int .i64 (0), .int .i64 (0)] 58, rlst (A) (L)] ++ R) w := h
  show Sx.WC _ _ _ _ [(0, .int .i64 (room)), (1, .slice (As) (script.length) (cs)), (5, .pointer (some ⟨b1, 0, none⟩)), (6, .pointer (some ⟨b2, 0, none⟩)), (7, .pointer (some ⟨gy3, 0, none⟩)), (9, .int .i64 (((i : Nat) : Int)))] _
  have hb_ := play_bd hr.1 script i hJ.2.1.1
  rw [hJ.1] at hb_
  obtain ⟨hb1_, hb2_, hb3_, hb4_, hb5_, hb6_⟩ := hb_
  have hrl_ : (RMl L).length = L.length := List.length_map _
  replace hb1_ : ((RMl L).length : Int) ≤ room := hb1_
  replace hb2_ : (RMl L).length ≤ i := hb2_
  replace hb3_ : 0 ≤ H := hb3_
  replace hb4_ : H ≤ i := hb4_
  replace hb5_ : 0 ≤ Ms := hb5_
  replace hb6_ : Ms ≤ i := hb6_
  refine wc_seq ?_
  refine wc_seq ?_
  refine wc_region ?_
  refine wl_v rfl rfl (ov_move _ rfl) ?_
  refine wl_v rfl rfl (ov_move _ rfl) ?_
  refine wl_v rfl rfl (ov_len _ _ _ _ _ rfl es55) ?_
  refine wl_v rfl rfl (ov_bin _ rfl rfl (binR_lss)) ?_
  refine wl_v rfl rfl (ov_move _ rfl) ?_
  refine wl_split 34 rfl (fun c4 => ?_) (fun c4 => ?_)
  ·
   refine wl_v rfl rfl (ov_move _ rfl) ?_
   refine wl_v rfl rfl (ov_bin _ rfl rfl (binR_lss)) ?_
   refine wl_v rfl rfl (ov_pick_true _ rfl rfl) ?_
   refine wl_nil ?_
   refine qn_then ?_
   refine wc_cond (by rfl) (fun c5 => ?_) (fun c5 => ?_)
   ·
    refine wc_skip ?_
    refine qn_then ?_
    refine wc_seq ?_
    refine wc_block ?_
    refine wc_seq ?_
    refine wc_region ?_
    refine wl_v rfl rfl (ov_move _ rfl) ?_
    refine wl_v rfl rfl (ov_move _ rfl) ?_
    obtain ⟨ad6, rfl⟩ := Sx.C_some ((Sx.ro_C hv h hC)) (k := (i : Nat)) (by first | assumption | omega | (simp only [List.length_set, List.length_append, List.length_cons, List.length_nil]; omega))
    refine wl_v rfl rfl (ov_indexAddrN _ _ _ _ _ (i : Nat) rfl rfl es55 rfl (by first | assumption | omega | (simp only [List.length_take, List.length_drop, List.length_set, List.length_append, List.length_cons, List.length_nil]; omega))) ?_
    obtain ⟨cl9, _, hk8, hc7⟩ := Sx.C_cells (hC) (z := z69) (k := (i : Nat)) (by first | assumption | omega)
    obtain ⟨A10, cp11, rfl, hl12, hn13⟩ := k69_open hk8
    refine wl_v rfl rfl (ov_loadN _ [.int .i64 ((((script).getD (i : Nat) z69)).f0), .string (((((script).getD (i : Nat) z69)).f1).f0), .slice (A10) ((((((script).getD (i : Nat) z69)).f1).f1).length) (cp11), .int .i64 (((((script).getD (i : Nat) z69)).f1).f2), .int .i64 (((((script).getD (i : Nat) z69)).f1).f3), .int .i64 ((((((script).getD (i : Nat) z69)).f1).f4).f0), .int .i64 ((((((script).getD (i : Nat) z69)).f1).f4).f1), .int .i64 ((((((script).getD (i : Nat) z69)).f1).f4).f2), .int .i64 ((((((script).getD (i : Nat) z69)).f1).f4).f3), .int .i64 ((((((script).getD (i : Nat) z69)).f1).f4).f4), .int .i64 ((((((script).getD (i : Nat) z69)).f1).f4).f5), .int .i64 ((((((script).getD (i : Nat) z69)).f1).f4).f6), .int .i64 ((((script).getD (i : Nat) z69)).f2)] rfl sh69 (by intro j u hu; rw [Deep.add_add]; exact Sx.ro_cell hv h (hc7 _ _ hu))) ?_
    refine wl_alloc _ h rfl rfl zo69 (fun b14 _ h => ?_)
    replace h : Sx.St _ _ (Sx.blk b14 [.int .i64 (0), .string (ByteArray.empty), .slice (none) (0) (0), .int .i64 (0), .int .i64 (0), .int .i64 (0), .int .i64 (0), .int .i64 (0), .int .i64 (0), .int .i64 (0), .int .i64 (0), .int .i64 (0), .int .i64 (0)] 69 :: _) _ := h
    refine wl_storebN 0 [.int .i64 ((((script).getD (i : Nat) z69)).f0), .string (((((script).getD (i : Nat) z69)).f1).f0), .slice (A10) ((((((script).getD (i : Nat) z69)).f1).f1).length) (cp11), .int .i64 (((((script).getD (i : Nat) z69)).f1).f2), .int .i64 (((((script).getD (i : Nat) z69)).f1).f3), .int .i64 ((((((script).getD (i : Nat) z69)).f1).f4).f0), .int .i64 ((((((script).getD (i : Nat) z69)).f1).f4).f1), .int .i64 ((((((script).getD (i : Nat) z69)).f1).f4).f2), .int .i64 ((((((script).getD (i : Nat) z69)).f1).f4).f3), .int .i64 ((((((script).getD (i : Nat) z69)).f1).f4).f4), .int .i64 ((((((script).getD (i : Nat) z69)).f1).f4).f5), .int .i64 ((((((script).getD (i : Nat) z69)).f1).f4).f6), .int .i64 ((((script).getD (i : Nat) z69)).f2)] [.int .i64 ((((script).getD (i : Nat) z69)).f0), .string (((((script).getD (i : Nat) z69)).f1).f0), .slice (A10) ((((((script).getD (i : Nat) z69)).f1).f1).length) (cp11), .int .i64 (((((script).getD (i : Nat) z69)).f1).f2), .int .i64 (((((script).getD (i : Nat) z69)).f1).f3), .int .i64 ((((((script).getD (i : Nat) z69)).f1).f4).f0), .int .i64 ((((((script).getD (i : Nat) z69)).f1).f4).f1), .int .i64 ((((((script).getD (i : Nat) z69)).f1).f4).f2), .int .i64 ((((((script).getD (i : Nat) z69)).f1).f4).f3), .int .i64 ((((((script).getD (i : Nat) z69)).f1).f4).f4), .int .i64 ((((((script).getD (i : Nat) z69)).f1).f4).f5), .int .i64 ((((((script).getD (i : Nat) z69)).f1).f4).f6), .int .i64 ((((script).getD (i : Nat) z69)).f2)] h rfl rfl rfl rfl (by simp [Value.oneCell']) sh69 rfl rfl (fun _ h => ?_)
    refine wl_nil ?_
    refine qn_then ?_
    refine wc_seq ?_
    refine wc_seq ?_
    refine wc_region ?_
    refine wl_v rfl rfl (ov_fieldAddr _ ⟨b14, 1, none⟩ _ rfl fo69_1 rfl) ?_
    refine wl_v rfl rfl (ov_loadbN 0 [.string (((((script).getD (i : Nat) z69)).f1).f0), .slice (A10) ((((((script).getD (i : Nat) z69)).f1).f1).length) (cp11), .int .i64 (((((script).getD (i : Nat) z69)).f1).f2), .int .i64 (((((script).getD (i : Nat) z69)).f1).f3), .int .i64 ((((((script).getD (i : Nat) z69)).f1).f4).f0), .int .i64 ((((((script).getD (i : Nat) z69)).f1).f4).f1), .int .i64 ((((((script).getD (i : Nat) z69)).f1).f4).f2), .int .i64 ((((((script).getD (i : Nat) z69)).f1).f4).f3), .int .i64 ((((((script).getD (i : Nat) z69)).f1).f4).f4), .int .i64 ((((((script).getD (i : Nat) z69)).f1).f4).f5), .int .i64 ((((((script).getD (i : Nat) z69)).f1).f4).f6)] h rfl rfl sh33 rfl) ?_
    refine wl_call _ rfl rfl rfl ent15 (CK.fits_calls (R := [Sx.blk b14 [.int .i64 ((((script).getD (i : Nat) z69)).f0), .string (((((script).getD (i : Nat) z69)).f1).f0), .slice (A10) ((((((script).getD (i : Nat) z69)).f1).f1).length) (cp11), .int .i64 (((((script).getD (i : Nat) z69)).f1).f2), .int .i64 (((((script).getD (i : Nat) z69)).f1).f3), .int .i64 ((((((script).getD (i : Nat) z69)).f1).f4).f0), .int .i64 ((((((script).getD (i : Nat) z69)).f1).f4).f1), .int .i64 ((((((script).getD (i : Nat) z69)).f1).f4).f2), .int .i64 ((((((script).getD (i : Nat) z69)).f1).f4).f3), .int .i64 ((((((script).getD (i : Nat) z69)).f1).f4).f4), .int .i64 ((((((script).getD (i : Nat) z69)).f1).f4).f5), .int .i64 ((((((script).getD (i : Nat) z69)).f1).f4).f6), .int .i64 ((((script).getD (i : Nat) z69)).f2)] 69, cacheP 87 90 85 (Value.int .i64) gy3 (room) (RMl L) (H) (Ms), Sx.blk b2 [.int .i64 (room), .slice (A) (L.length) (c), .int .i64 (H), .int .i64 (Ms)] 58, Sx.blk b1 [.int .i64 (0), .slice (none) (0) (0), .int .i64 (0), .int .i64 (0)] 58, rlst (A) (L)] ++ R) ((((script).getD (i : Nat) z69)).f1) (A10) (cp11) (fun _ _ h_ => Sx.ro_C hv h_ hn13) h) ?_
    rintro e_ w_ ⟨rfl, h⟩
    refine ⟨_, rfl, ?_⟩
    refine wl_v rfl rfl (ov_not _ (¬ (fitsP ((((script).getD (i : Nat) z69)).f1))) rfl (by first | exact decide_not.symm | simp)) ?_
    refine wl_nil ?_
    refine qn_then ?_
    refine wc_cond (by rfl) (fun c15 => ?_) (fun c15 => ?_)
    ·
     have hfit_ : ¬ fitsP ((script).getD i z69).f1 := by simpa using c15
     refine wc_exit ?_
     refine qn_then_exit ?_
     refine qn_block_exit ?_
     refine qn_then ?_
     refine wc_region ?_
     refine wl_v rfl rfl (ov_move _ rfl) ?_
     refine wl_v rfl rfl (ov_bin _ rfl rfl (binR_add (r := (((i : Nat) : Int)) + 1) (Sx.w64 (by omega)))) ?_
     refine wl_v rfl rfl (ov_assign _ rfl) ?_
     refine wl_nil ?_
     replace h := st_front 4 h
     replace h := st_front 4 h
     replace h := st_front 4 h
     replace h := st_front 4 h
     replace h := st_selT [true, true, true, true, false] h
     refine qn_next ((i + 1), A, c, L, H, Ms) (by show script.length - (i + 1) < script.length - i; omega) ⟨rfl, (congrArg (fun z_ => some (Value.slice (some ad6) z_ (cs))) (show (script.length : Nat) = script.length by first | rfl | simp)), rfl, rfl, rfl, (congrArg (fun z_ => some (Value.int .i64 z_)) (show ((((i : Nat) : Int)) + 1 : Int) = (((i + 1) : Nat) : Int) by omega)), trivial⟩ ?_
     show (playV room script (i + 1) = (RMl L, H, Ms) ∧ ((i + 1) ≤ script.length ∧ (i + 1) ≤ 60) ∧ (∀ x : RH, x ∈ L → k50.C v0 x.A x.key.f1.length x.key.f1 ∧ SmallK x.key)) ∧ _
     refine ⟨⟨?_, by omega, ?_⟩, h⟩
     · rw [playV_succ (by omega), hJ.1]
       unfold stepV
       rw [if_neg hfit_]
     · exact hJ.2.2
    ·
     have hfit_ : fitsP ((script).getD i z69).f1 := by simpa using c15
     have hsm_ := fits_small hfit_
     refine wc_skip ?_
     refine qn_then ?_
     refine wc_seq ?_
     refine wc_seq ?_
     refine wc_region ?_
     refine wl_v rfl rfl (ov_fieldAddr _ ⟨b14, 0, none⟩ _ rfl fo69_0 rfl) ?_
     refine wl_v rfl rfl (ov_loadb 0 _ h rfl rfl sh3 rfl) ?_
     refine wl_nil ?_
     refine qn_then ?_
     refine wc_block ?_
     refine wc_seq ?_
     refine wc_region ?_
     refine wl_v rfl rfl (ov_bin _ rfl rfl (binR_eql)) ?_
     refine wl_v rfl rfl (ov_assign _ rfl) ?_
     refine wl_nil ?_
     refine qn_then ?_
     refine wc_cond (by rfl) (fun c16 => ?_) (fun c16 => ?_)
     ·
      refine wc_seq ?_
      refine wc_region ?_
      refine wl_v rfl rfl (ov_move _ rfl) ?_
      refine wl_v rfl rfl (ov_fieldAddr _ ⟨b14, 1, none⟩ _ rfl fo69_1 rfl) ?_
      refine wl_v rfl rfl (ov_loadbN 0 [.string (((((script).getD (i : Nat) z69)).f1).f0), .slice (A10) ((((((script).getD (i : Nat) z69)).f1).f1).length) (cp11), .int .i64 (((((script).getD (i : Nat) z69)).f1).f2), .int .i64 (((((script).getD (i : Nat) z69)).f1).f3), .int .i64 ((((((script).getD (i : Nat) z69)).f1).f4).f0), .int .i64 ((((((script).getD (i : Nat) z69)).f1).f4).f1), .int .i64 ((((((script).getD (i : Nat) z69)).f1).f4).f2), .int .i64 ((((((script).getD (i : Nat) z69)).f1).f4).f3), .int .i64 ((((((script).getD (i : Nat) z69)).f1).f4).f4), .int .i64 ((((((script).getD (i : Nat) z69)).f1).f4).f5), .int .i64 ((((((script).getD (i : Nat) z69)).f1).f4).f6)] h rfl rfl sh33 rfl) ?_
      refine wl_v rfl rfl (ov_fieldAddr _ ⟨b14, 12, none⟩ _ rfl fo69_2 rfl) ?_
      refine wl_v rfl rfl (ov_loadb 0 _ h rfl rfl sh3 rfl) ?_
      replace h := st_front 1 h
      refine wl_call _ rfl rfl rfl ent21 (CCI.Put_calls (R := [Sx.blk b14 [.int .i64 ((((script).getD (i : Nat) z69)).f0), .string (((((script).getD (i : Nat) z69)).f1).f0), .slice (A10) ((((((script).getD (i : Nat) z69)).f1).f1).length) (cp11), .int .i64 (((((script).getD (i : Nat) z69)).f1).f2), .int .i64 (((((script).getD (i : Nat) z69)).f1).f3), .int .i64 ((((((script).getD (i : Nat) z69)).f1).f4).f0), .int .i64 ((((((script).getD (i : Nat) z69)).f1).f4).f1), .int .i64 ((((((script).getD (i : Nat) z69)).f1).f4).f2), .int .i64 ((((((script).getD (i : Nat) z69)).f1).f4).f3), .int .i64 ((((((script).getD (i : Nat) z69)).f1).f4).f4), .int .i64 ((((((script).getD (i : Nat) z69)).f1).f4).f5), .int .i64 ((((((script).getD (i : Nat) z69)).f1).f4).f6), .int .i64 ((((script).getD (i : Nat) z69)).f2)] 69, Sx.blk b2 [.int .i64 (room), .slice (A) (L.length) (c), .int .i64 (H), .int .i64 (Ms)] 58, Sx.blk b1 [.int .i64 (0), .slice (none) (0) (0), .int .i64 (0), .int .i64 (0)] 58, rlst (A) (L)] ++ R) gy3 (room) (H) (Ms) (RMl L) ((((script).getD (i : Nat) z69)).f1) (A10) (cp11) ((((script).getD (i : Nat) z69)).f2) (by omega) (by omega) hsm_ (by have z_ := hfit_.1; omega) (fun _ _ h_ => Sx.ro_C hv h_ hn13) h) ?_
      rintro e_ w_ ⟨rfl, h⟩
      refine ⟨_, rfl, ?_⟩
      refine wl_nil ?_
      refine qn_then ?_
      refine wc_draw (fun w => Sx.St w0 F0 ([Sx.blk b14 [.int .i64 ((((script).getD (i : Nat) z69)).f0), .string (((((script).getD (i : Nat) z69)).f1).f0), .slice (A10) ((((((script).getD (i : Nat) z69)).f1).f1).length) (cp11), .int .i64 (((((script).getD (i : Nat) z69)).f1).f2), .int .i64 (((((script).getD (i : Nat) z69)).f1).f3), .int .i64 ((((((script).getD (i : Nat) z69)).f1).f4).f0), .int .i64 ((((((script).getD (i : Nat) z69)).f1).f4).f1), .int .i64 ((((((script).getD (i : Nat) z69)).f1).f4).f2), .int .i64 ((((((script).getD (i : Nat) z69)).f1).f4).f3), .int .i64 ((((((script).getD (i : Nat) z69)).f1).f4).f4), .int .i64 ((((((script).getD (i : Nat) z69)).f1).f4).f5), .int .i64 ((((((script).getD (i : Nat) z69)).f1).f4).f6), .int .i64 ((((script).getD (i : Nat) z69)).f2)] 69, Sx.blk b1 [.int .i64 (0), .slice (none) (0) (0), .int .i64 (0), .int .i64 (0)] 58] ++ R) w) (by kernel_rfl) ?_
      replace h := st_drew h
      refine wa_tk 1 rfl rfl rfl (st_selT [false, true, false, true, false] h) (fun w_ hS => ov_fieldAddr _ ⟨b14, 1, none⟩ _ rfl fo69_1 rfl) ?_
      refine wa_tk 2 rfl rfl rfl (st_selT [false, true, false, true, false] h) (fun w_ hS => ov_loadbN 0 [.string (((((script).getD (i : Nat) z69)).f1).f0), .slice (A10) ((((((script).getD (i : Nat) z69)).f1).f1).length) (cp11), .int .i64 (((((script).getD (i : Nat) z69)).f1).f2), .int .i64 (((((script).getD (i : Nat) z69)).f1).f3), .int .i64 ((((((script).getD (i : Nat) z69)).f1).f4).f0), .int .i64 ((((((script).getD (i : Nat) z69)).f1).f4).f1), .int .i64 ((((((script).getD (i : Nat) z69)).f1).f4).f2), .int .i64 ((((((script).getD (i : Nat) z69)).f1).f4).f3), .int .i64 ((((((script).getD (i : Nat) z69)).f1).f4).f4), .int .i64 ((((((script).getD (i : Nat) z69)).f1).f4).f5), .int .i64 ((((((script).getD (i : Nat) z69)).f1).f4).f6)] hS rfl rfl sh33 rfl) ?_
      refine wa_tk 4 rfl rfl rfl (st_selT [false, true, false, true, false] h) (fun w_ hS => ov_fieldAddr _ ⟨b14, 12, none⟩ _ rfl fo69_2 rfl) ?_
      refine wa_tk 5 rfl rfl rfl (st_selT [false, true, false, true, false] h) (fun w_ hS => ov_loadb 0 _ hS rfl rfl sh3 rfl) ?_
      refine wa_two 0 3 rfl rfl (by kernel_rfl) ?_ ?_
      ·
       refine wl_v rfl rfl (ov_loadbN 2 [.int .i64 (room), .slice (A) (L.length) (c), .int .i64 (H), .int .i64 (Ms)] h rfl rfl sh58 rfl) ?_
       refine wl_nil ?_
       refine qn_wa (st_selT [false, true, false, true, false] h) ?_
       refine wa_one 3 rfl (by kernel_rfl) ?_
       refine wl_call _ rfl rfl rfl ent18 (CK.ref_calls (R := [cacheP 87 90 85 (Value.int .i64) gy3 (room) (putM room (RMl L) ((((script).getD (i : Nat) z69)).f1) ((((script).getD (i : Nat) z69)).f2)) (H) (Ms), Sx.blk b14 [.int .i64 ((((script).getD (i : Nat) z69)).f0), .string (((((script).getD (i : Nat) z69)).f1).f0), .slice (A10) ((((((script).getD (i : Nat) z69)).f1).f1).length) (cp11), .int .i64 (((((script).getD (i : Nat) z69)).f1).f2), .int .i64 (((((script).getD (i : Nat) z69)).f1).f3), .int .i64 ((((((script).getD (i : Nat) z69)).f1).f4).f0), .int .i64 ((((((script).getD (i : Nat) z69)).f1).f4).f1), .int .i64 ((((((script).getD (i : Nat) z69)).f1).f4).f2), .int .i64 ((((((script).getD (i : Nat) z69)).f1).f4).f3), .int .i64 ((((((script).getD (i : Nat) z69)).f1).f4).f4), .int .i64 ((((((script).getD (i : Nat) z69)).f1).f4).f5), .int .i64 ((((((script).getD (i : Nat) z69)).f1).f4).f6), .int .i64 ((((script).getD (i : Nat) z69)).f2)] 69, Sx.blk b2 [.int .i64 (room), .slice (A) (L.length) (c), .int .i64 (H), .int .i64 (Ms)] 58, Sx.blk b1 [.int .i64 (0), .slice (none) (0) (0), .int .i64 (0), .int .i64 (0)] 58, rlst (A) (L)] ++ R) ((((script).getD (i : Nat) z69)).f1) (A10) (cp11) h) ?_
       rintro e_ w_ ⟨rfl, h⟩
       refine ⟨_, rfl, ?_⟩
       refine wl_nil ?_
       refine qn_wa (st_selT [false, true, false, true, false] h) ?_
       refine wa_one 6 rfl (by kernel_rfl) ?_
       replace h := st_front 4 h
       refine wl_call _ rfl rfl rfl ent41 (RF.rPut_calls (R := [cacheP 87 90 85 (Value.int .i64) gy3 (room) (putM room (RMl L) ((((script).getD (i : Nat) z69)).f1) ((((script).getD (i : Nat) z69)).f2)) (H) (Ms), Sx.blk b14 [.int .i64 ((((script).getD (i : Nat) z69)).f0), .string (((((script).getD (i : Nat) z69)).f1).f0), .slice (A10) ((((((script).getD (i : Nat) z69)).f1).f1).length) (cp11), .int .i64 (((((script).getD (i : Nat) z69)).f1).f2), .int .i64 (((((script).getD (i : Nat) z69)).f1).f3), .int .i64 ((((((script).getD (i : Nat) z69)).f1).f4).f0), .int .i64 ((((((script).getD (i : Nat) z69)).f1).f4).f1), .int .i64 ((((((script).getD (i : Nat) z69)).f1).f4).f2), .int .i64 ((((((script).getD (i : Nat) z69)).f1).f4).f3), .int .i64 ((((((script).getD (i : Nat) z69)).f1).f4).f4), .int .i64 ((((((script).getD (i : Nat) z69)).f1).f4).f5), .int .i64 ((((((script).getD (i : Nat) z69)).f1).f4).f6), .int .i64 ((((script).getD (i : Nat) z69)).f2)] 69, Sx.blk b2 [.int .i64 (room), .slice (A) (L.length) (c), .int .i64 (H), .int .i64 (Ms)] 58, Sx.blk b1 [.int .i64 (0), .slice (none) (0) (0), .int .i64 (0), .int .i64 (0)] 58] ++ R) (room) (H) (Ms) (L) (A) (c) ((((script).getD (i : Nat) z69)).f1) (A10) (cp11) ((((script).getD (i : Nat) z69)).f2) (by omega) (fun x_ hx_ _ _ h_ => Sx.ro_C hv h_ (hJ.2.2 x_ hx_).1) (fun x_ hx_ => (hJ.2.2 x_ hx_).2) hsm_ (fun _ _ h_ => Sx.ro_C hv h_ hn13) (by omega) h) ?_
       rintro e_ w_ ⟨As17, cs17, Ls17, rfl, hqs17, hus17, h⟩
       refine ⟨_, rfl, ?_⟩
       replace h := st_front 1 h
       rw [← hqs17] at h
       have hrls17 : (RMl Ls17).length = Ls17.length := List.length_map _
       have hpls17 := putM_len room (RMl L) ((script).getD i z69).f1 ((script).getD i z69).f2 hr.1 hb1_
       rw [← hqs17] at hpls17
       have hpl1s17 := hpls17.1
       refine wl_nil ?_
       refine qn_wa (st_selT [false, false, true, false, true] h) ?_
       refine wa_one 7 rfl (by kernel_rfl) ?_
       refine wl_storebN 3 [.int .i64 (room), .slice (As17) (Ls17.length) (cs17), .int .i64 (H), .int .i64 (Ms)] [.int .i64 (room), .slice (As17) (Ls17.length) (cs17), .int .i64 (H), .int .i64 (Ms)] h rfl rfl rfl rfl (by simp [Value.oneCell']) sh58 rfl rfl (fun _ h => ?_)
       refine wl_nil ?_
       refine qn_wa (st_selT [false, false, true, false, true] h) ?_
       refine wa_done (by kernel_rfl) ?_
       refine qn_block_normal ?_
       refine qn_then ?_
       refine wc_seq ?_
       refine wc_draw (fun w => Sx.St w0 F0 ([cacheP 87 90 85 (Value.int .i64) gy3 (room) (RMl Ls17) (H) (Ms), rlst (As17) (Ls17), Sx.blk b14 [.int .i64 ((((script).getD (i : Nat) z69)).f0), .string (((((script).getD (i : Nat) z69)).f1).f0), .slice (A10) ((((((script).getD (i : Nat) z69)).f1).f1).length) (cp11), .int .i64 (((((script).getD (i : Nat) z69)).f1).f2), .int .i64 (((((script).getD (i : Nat) z69)).f1).f3), .int .i64 ((((((script).getD (i : Nat) z69)).f1).f4).f0), .int .i64 ((((((script).getD (i : Nat) z69)).f1).f4).f1), .int .i64 ((((((script).getD (i : Nat) z69)).f1).f4).f2), .int .i64 ((((((script).getD (i : Nat) z69)).f1).f4).f3), .int .i64 ((((((script).getD (i : Nat) z69)).f1).f4).f4), .int .i64 ((((((script).getD (i : Nat) z69)).f1).f4).f5), .int .i64 ((((((script).getD (i : Nat) z69)).f1).f4).f6), .int .i64 ((((script).getD (i : Nat) z69)).f2)] 69, Sx.blk b2 [.int .i64 (room), .slice (As17) (Ls17.length) (cs17), .int .i64 (H), .int .i64 (Ms)] 58, Sx.blk b1 [.int .i64 (0), .slice (none) (0) (0), .int .i64 (0), .int .i64 (0)] 58] ++ R) w) (by kernel_rfl) ?_
       replace h := st_drew h
       refine wa_tk 0 rfl rfl rfl (st_selT [true, true, true, true, true] h) (fun w_ hS => ov_move _ rfl) ?_
       refine wa_tk 2 rfl rfl rfl (st_selT [true, true, true, true, true] h) (fun w_ hS => ov_fieldAddr _ ⟨b2, 1, none⟩ _ rfl fo58_1 rfl) ?_
       refine wa_tk 3 rfl rfl rfl (st_selT [true, true, true, true, true] h) (fun w_ hS => ov_loadb 3 _ hS rfl rfl sh56 rfl) ?_
       refine wa_tk 4 rfl rfl rfl (st_selT [true, true, true, true, true] h) (fun w_ hS => ov_len _ _ _ _ _ rfl es56) ?_
       refine wa_one 1 rfl (by kernel_rfl) ?_
       refine wl_call _ rfl rfl rfl ent23 (CCI.Len_calls (R := [rlst (As17) (Ls17), Sx.blk b14 [.int .i64 ((((script).getD (i : Nat) z69)).f0), .string (((((script).getD (i : Nat) z69)).f1).f0), .slice (A10) ((((((script).getD (i : Nat) z69)).f1).f1).length) (cp11), .int .i64 (((((script).getD (i : Nat) z69)).f1).f2), .int .i64 (((((script).getD (i : Nat) z69)).f1).f3), .int .i64 ((((((script).getD (i : Nat) z69)).f1).f4).f0), .int .i64 ((((((script).getD (i : Nat) z69)).f1).f4).f1), .int .i64 ((((((script).getD (i : Nat) z69)).f1).f4).f2), .int .i64 ((((((script).getD (i : Nat) z69)).f1).f4).f3), .int .i64 ((((((script).getD (i : Nat) z69)).f1).f4).f4), .int .i64 ((((((script).getD (i : Nat) z69)).f1).f4).f5), .int .i64 ((((((script).getD (i : Nat) z69)).f1).f4).f6), .int .i64 ((((script).getD (i : Nat) z69)).f2)] 69, Sx.blk b2 [.int .i64 (room), .slice (As17) (Ls17.length) (cs17), .int .i64 (H), .int .i64 (Ms)] 58, Sx.blk b1 [.int .i64 (0), .slice (none) (0) (0), .int .i64 (0), .int .i64 (0)] 58] ++ R) gy3 (room) (H) (Ms) (RMl Ls17) h) ?_
       rintro e_ w_ ⟨rfl, h⟩
       refine ⟨_, rfl, ?_⟩
       refine wl_nil ?_
       refine qn_wa (st_selT [true, true, true, true, true] h) ?_
       refine wa_tk 5 rfl rfl rfl (st_selT [true, true, true, true, true] h) (fun w_ hS => ov_bin _ rfl rfl (binR_neq)) ?_
       refine wa_tk 6 rfl rfl rfl (st_selT [true, true, true, true, true] h) (fun w_ hS => ov_move _ rfl) ?_
       refine wa_split 104 rfl (fun c18 => ?_) (fun c18 => ?_)
       ·
        exfalso
        first | omega | (simp at c18; done) | (simp only [List.length_map] at *; omega)
       ·
        refine wa_tk 7 rfl rfl rfl (st_selT [true, true, true, true, true] h) (fun w_ hS => ov_move _ rfl) ?_
        refine wa_tk 9 rfl rfl rfl (st_selT [true, true, true, true, true] h) (fun w_ hS => ov_move _ rfl) ?_
        refine wa_one 8 rfl (by kernel_rfl) ?_
        refine wl_call _ rfl rfl rfl ent23 (CCI.Len_calls (R := [rlst (As17) (Ls17), Sx.blk b14 [.int .i64 ((((script).getD (i : Nat) z69)).f0), .string (((((script).getD (i : Nat) z69)).f1).f0), .slice (A10) ((((((script).getD (i : Nat) z69)).f1).f1).length) (cp11), .int .i64 (((((script).getD (i : Nat) z69)).f1).f2), .int .i64 (((((script).getD (i : Nat) z69)).f1).f3), .int .i64 ((((((script).getD (i : Nat) z69)).f1).f4).f0), .int .i64 ((((((script).getD (i : Nat) z69)).f1).f4).f1), .int .i64 ((((((script).getD (i : Nat) z69)).f1).f4).f2), .int .i64 ((((((script).getD (i : Nat) z69)).f1).f4).f3), .int .i64 ((((((script).getD (i : Nat) z69)).f1).f4).f4), .int .i64 ((((((script).getD (i : Nat) z69)).f1).f4).f5), .int .i64 ((((((script).getD (i : Nat) z69)).f1).f4).f6), .int .i64 ((((script).getD (i : Nat) z69)).f2)] 69, Sx.blk b2 [.int .i64 (room), .slice (As17) (Ls17.length) (cs17), .int .i64 (H), .int .i64 (Ms)] 58, Sx.blk b1 [.int .i64 (0), .slice (none) (0) (0), .int .i64 (0), .int .i64 (0)] 58] ++ R) gy3 (room) (H) (Ms) (RMl Ls17) h) ?_
        rintro e_ w_ ⟨rfl, h⟩
        refine ⟨_, rfl, ?_⟩
        refine wl_nil ?_
        refine qn_wa (st_selT [true, true, true, true, true] h) ?_
        refine wa_tk 10 rfl rfl rfl (st_selT [true, true, true, true, true] h) (fun w_ hS => ov_bin _ rfl rfl (binR_gtr)) ?_
        refine wa_tk 11 rfl rfl rfl (st_selT [true, true, true, true, true] h) (fun w_ hS => ov_pick_false _ rfl rfl) ?_
        refine wa_done (by kernel_rfl) ?_
        refine qn_then ?_
        refine wc_cond (by rfl) (fun c19 => ?_) (fun c19 => ?_)
        ·
         exfalso
         first | omega | (simp at c19; done) | (simp only [List.length_map] at *; omega)
        ·
         refine wc_skip ?_
         refine qn_block_normal ?_
         refine qn_then ?_
         refine wc_region ?_
         refine wl_v rfl rfl (ov_move _ rfl) ?_
         refine wl_v rfl rfl (ov_bin _ rfl rfl (binR_add (r := (((i : Nat) : Int)) + 1) (Sx.w64 (by omega)))) ?_
         refine wl_v rfl rfl (ov_assign _ rfl) ?_
         refine wl_nil ?_
         replace h := st_front 1 h
         replace h := st_front 4 h
         replace h := st_front 4 h
         replace h := st_front 3 h
         replace h := st_selT [true, true, true, true, false] h
         refine qn_next ((i + 1), As17, cs17, Ls17, H, Ms) (by show script.length - (i + 1) < script.length - i; omega) ⟨rfl, (congrArg (fun z_ => some (Value.slice (some ad6) z_ (cs))) (show (script.length : Nat) = script.length by first | rfl | simp)), rfl, rfl, rfl, (congrArg (fun z_ => some (Value.int .i64 z_)) (show ((((i : Nat) : Int)) + 1 : Int) = (((i + 1) : Nat) : Int) by omega)), trivial⟩ ?_
         show (playV room script (i + 1) = (RMl Ls17, H, Ms) ∧ ((i + 1) ≤ script.length ∧ (i + 1) ≤ 60) ∧ (∀ x : RH, x ∈ Ls17 → k50.C v0 x.A x.key.f1.length x.key.f1 ∧ SmallK x.key)) ∧ _
         refine ⟨⟨?_, by omega, ?_⟩, h⟩
         · rw [playV_succ (by omega), hJ.1]
           unfold stepV
           rw [if_pos hfit_, if_pos c16, hqs17]
         · intro x_ hx_
           rcases hus17 x_ hx_ with ⟨y_, q1_, q2_, q3_⟩ | ⟨q2_, q3_⟩
           · rw [q2_, q3_]; exact hJ.2.2 y_ q1_
           · rw [q2_, q3_]; exact ⟨hn13, fits_small hfit_⟩
      ·
       refine wl_call _ rfl rfl rfl ent18 (CK.ref_calls (R := [cacheP 87 90 85 (Value.int .i64) gy3 (room) (putM room (RMl L) ((((script).getD (i : Nat) z69)).f1) ((((script).getD (i : Nat) z69)).f2)) (H) (Ms), Sx.blk b14 [.int .i64 ((((script).getD (i : Nat) z69)).f0), .string (((((script).getD (i : Nat) z69)).f1).f0), .slice (A10) ((((((script).getD (i : Nat) z69)).f1).f1).length) (cp11), .int .i64 (((((script).getD (i : Nat) z69)).f1).f2), .int .i64 (((((script).getD (i : Nat) z69)).f1).f3), .int .i64 ((((((script).getD (i : Nat) z69)).f1).f4).f0), .int .i64 ((((((script).getD (i : Nat) z69)).f1).f4).f1), .int .i64 ((((((script).getD (i : Nat) z69)).f1).f4).f2), .int .i64 ((((((script).getD (i : Nat) z69)).f1).f4).f3), .int .i64 ((((((script).getD (i : Nat) z69)).f1).f4).f4), .int .i64 ((((((script).getD (i : Nat) z69)).f1).f4).f5), .int .i64 ((((((script).getD (i : Nat) z69)).f1).f4).f6), .int .i64 ((((script).getD (i : Nat) z69)).f2)] 69, Sx.blk b2 [.int .i64 (room), .slice (A) (L.length) (c), .int .i64 (H), .int .i64 (Ms)] 58, Sx.blk b1 [.int .i64 (0), .slice (none) (0) (0), .int .i64 (0), .int .i64 (0)] 58, rlst (A) (L)] ++ R) ((((script).getD (i : Nat) z69)).f1) (A10) (cp11) h) ?_
       rintro e_ w_ ⟨rfl, h⟩
       refine ⟨_, rfl, ?_⟩
       refine wl_nil ?_
       refine qn_wa (st_selT [false, true, false, true, false] h) ?_
       refine wa_one 0 rfl (by kernel_rfl) ?_
       refine wl_v rfl rfl (ov_loadbN 2 [.int .i64 (room), .slice (A) (L.length) (c), .int .i64 (H), .int .i64 (Ms)] h rfl rfl sh58 rfl) ?_
       refine wl_nil ?_
       refine qn_wa (st_selT [false, true, false, true, false] h) ?_
       refine wa_one 6 rfl (by kernel_rfl) ?_
       replace h := st_front 4 h
       refine wl_call _ rfl rfl rfl ent41 (RF.rPut_calls (R := [cacheP 87 90 85 (Value.int .i64) gy3 (room) (putM room (RMl L) ((((script).getD (i : Nat) z69)).f1) ((((script).getD (i : Nat) z69)).f2)) (H) (Ms), Sx.blk b14 [.int .i64 ((((script).getD (i : Nat) z69)).f0), .string (((((script).getD (i : Nat) z69)).f1).f0), .slice (A10) ((((((script).getD (i : Nat) z69)).f1).f1).length) (cp11), .int .i64 (((((script).getD (i : Nat) z69)).f1).f2), .int .i64 (((((script).getD (i : Nat) z69)).f1).f3), .int .i64 ((((((script).getD (i : Nat) z69)).f1).f4).f0), .int .i64 ((((((script).getD (i : Nat) z69)).f1).f4).f1), .int .i64 ((((((script).getD (i : Nat) z69)).f1).f4).f2), .int .i64 ((((((script).getD (i : Nat) z69)).f1).f4).f3), .int .i64 ((((((script).getD (i : Nat) z69)).f1).f4).f4), .int .i64 ((((((script).getD (i : Nat) z69)).f1).f4).f5), .int .i64 ((((((script).getD (i : Nat) z69)).f1).f4).f6), .int .i64 ((((script).getD (i : Nat) z69)).f2)] 69, Sx.blk b2 [.int .i64 (room), .slice (A) (L.length) (c), .int .i64 (H), .int .i64 (Ms)] 58, Sx.blk b1 [.int .i64 (0), .slice (none) (0) (0), .int .i64 (0), .int .i64 (0)] 58] ++ R) (room) (H) (Ms) (L) (A) (c) ((((script).getD (i : Nat) z69)).f1) (A10) (cp11) ((((script).getD (i : Nat) z69)).f2) (by omega) (fun x_ hx_ _ _ h_ => Sx.ro_C hv h_ (hJ.2.2 x_ hx_).1) (fun x_ hx_ => (hJ.2.2 x_ hx_).2) hsm_ (fun _ _ h_ => Sx.ro_C hv h_ hn13) (by omega) h) ?_
       rintro e_ w_ ⟨As20, cs20, Ls20, rfl, hqs20, hus20, h⟩
       refine ⟨_, rfl, ?_⟩
       replace h := st_front 1 h
       rw [← hqs20] at h
       have hrls20 : (RMl Ls20).length = Ls20.length := List.length_map _
       have hpls20 := putM_len room (RMl L) ((script).getD i z69).f1 ((script).getD i z69).f2 hr.1 hb1_
       rw [← hqs20] at hpls20
       have hpl1s20 := hpls20.1
       refine wl_nil ?_
       refine qn_wa (st_selT [false, false, true, false, true] h) ?_
       refine wa_one 7 rfl (by kernel_rfl) ?_
       refine wl_storebN 3 [.int .i64 (room), .slice (As20) (Ls20.length) (cs20), .int .i64 (H), .int .i64 (Ms)] [.int .i64 (room), .slice (As20) (Ls20.length) (cs20), .int .i64 (H), .int .i64 (Ms)] h rfl rfl rfl rfl (by simp [Value.oneCell']) sh58 rfl rfl (fun _ h => ?_)
       refine wl_nil ?_
       refine qn_wa (st_selT [false, false, true, false, true] h) ?_
       refine wa_done (by kernel_rfl) ?_
       refine qn_block_normal ?_
       refine qn_then ?_
       refine wc_seq ?_
       refine wc_draw (fun w => Sx.St w0 F0 ([cacheP 87 90 85 (Value.int .i64) gy3 (room) (RMl Ls20) (H) (Ms), rlst (As20) (Ls20), Sx.blk b14 [.int .i64 ((((script).getD (i : Nat) z69)).f0), .string (((((script).getD (i : Nat) z69)).f1).f0), .slice (A10) ((((((script).getD (i : Nat) z69)).f1).f1).length) (cp11), .int .i64 (((((script).getD (i : Nat) z69)).f1).f2), .int .i64 (((((script).getD (i : Nat) z69)).f1).f3), .int .i64 ((((((script).getD (i : Nat) z69)).f1).f4).f0), .int .i64 ((((((script).getD (i : Nat) z69)).f1).f4).f1), .int .i64 ((((((script).getD (i : Nat) z69)).f1).f4).f2), .int .i64 ((((((script).getD (i : Nat) z69)).f1).f4).f3), .int .i64 ((((((script).getD (i : Nat) z69)).f1).f4).f4), .int .i64 ((((((script).getD (i : Nat) z69)).f1).f4).f5), .int .i64 ((((((script).getD (i : Nat) z69)).f1).f4).f6), .int .i64 ((((script).getD (i : Nat) z69)).f2)] 69, Sx.blk b2 [.int .i64 (room), .slice (As20) (Ls20.length) (cs20), .int .i64 (H), .int .i64 (Ms)] 58, Sx.blk b1 [.int .i64 (0), .slice (none) (0) (0), .int .i64 (0), .int .i64 (0)] 58] ++ R) w) (by kernel_rfl) ?_
       replace h := st_drew h
       refine wa_tk 0 rfl rfl rfl (st_selT [true, true, true, true, true] h) (fun w_ hS => ov_move _ rfl) ?_
       refine wa_tk 2 rfl rfl rfl (st_selT [true, true, true, true, true] h) (fun w_ hS => ov_fieldAddr _ ⟨b2, 1, none⟩ _ rfl fo58_1 rfl) ?_
       refine wa_tk 3 rfl rfl rfl (st_selT [true, true, true, true, true] h) (fun w_ hS => ov_loadb 3 _ hS rfl rfl sh56 rfl) ?_
       refine wa_tk 4 rfl rfl rfl (st_selT [true, true, true, true, true] h) (fun w_ hS => ov_len _ _ _ _ _ rfl es56) ?_
       refine wa_one 1 rfl (by kernel_rfl) ?_
       refine wl_call _ rfl rfl rfl ent23 (CCI.Len_calls (R := [rlst (As20) (Ls20), Sx.blk b14 [.int .i64 ((((script).getD (i : Nat) z69)).f0), .string (((((script).getD (i : Nat) z69)).f1).f0), .slice (A10) ((((((script).getD (i : Nat) z69)).f1).f1).length) (cp11), .int .i64 (((((script).getD (i : Nat) z69)).f1).f2), .int .i64 (((((script).getD (i : Nat) z69)).f1).f3), .int .i64 ((((((script).getD (i : Nat) z69)).f1).f4).f0), .int .i64 ((((((script).getD (i : Nat) z69)).f1).f4).f1), .int .i64 ((((((script).getD (i : Nat) z69)).f1).f4).f2), .int .i64 ((((((script).getD (i : Nat) z69)).f1).f4).f3), .int .i64 ((((((script).getD (i : Nat) z69)).f1).f4).f4), .int .i64 ((((((script).getD (i : Nat) z69)).f1).f4).f5), .int .i64 ((((((script).getD (i : Nat) z69)).f1).f4).f6), .int .i64 ((((script).getD (i : Nat) z69)).f2)] 69, Sx.blk b2 [.int .i64 (room), .slice (As20) (Ls20.length) (cs20), .int .i64 (H), .int .i64 (Ms)] 58, Sx.blk b1 [.int .i64 (0), .slice (none) (0) (0), .int .i64 (0), .int .i64 (0)] 58] ++ R) gy3 (room) (H) (Ms) (RMl Ls20) h) ?_
       rintro e_ w_ ⟨rfl, h⟩
       refine ⟨_, rfl, ?_⟩
       refine wl_nil ?_
       refine qn_wa (st_selT [true, true, true, true, true] h) ?_
       refine wa_tk 5 rfl rfl rfl (st_selT [true, true, true, true, true] h) (fun w_ hS => ov_bin _ rfl rfl (binR_neq)) ?_
       refine wa_tk 6 rfl rfl rfl (st_selT [true, true, true, true, true] h) (fun w_ hS => ov_move _ rfl) ?_
       refine wa_split 104 rfl (fun c21 => ?_) (fun c21 => ?_)
       ·
        exfalso
        first | omega | (simp at c21; done) | (simp only [List.length_map] at *; omega)
       ·
        refine wa_tk 7 rfl rfl rfl (st_selT [true, true, true, true, true] h) (fun w_ hS => ov_move _ rfl) ?_
        refine wa_tk 9 rfl rfl rfl (st_selT [true, true, true, true, true] h) (fun w_ hS => ov_move _ rfl) ?_
        refine wa_one 8 rfl (by kernel_rfl) ?_
        refine wl_call _ rfl rfl rfl ent23 (CCI.Len_calls (R := [rlst (As20) (Ls20), Sx.blk b14 [.int .i64 ((((script).getD (i : Nat) z69)).f0), .string (((((script).getD (i : Nat) z69)).f1).f0), .slice (A10) ((((((script).getD (i : Nat) z69)).f1).f1).length) (cp11), .int .i64 (((((script).getD (i : Nat) z69)).f1).f2), .int .i64 (((((script).getD (i : Nat) z69)).f1).f3), .int .i64 ((((((script).getD (i : Nat) z69)).f1).f4).f0), .int .i64 ((((((script).getD (i : Nat) z69)).f1).f4).f1), .int .i64 ((((((script).getD (i : Nat) z69)).f1).f4).f2), .int .i64 ((((((script).getD (i : Nat) z69)).f1).f4).f3), .int .i64 ((((((script).getD (i : Nat) z69)).f1).f4).f4), .int .i64 ((((((script).getD (i : Nat) z69)).f1).f4).f5), .int .i64 ((((((script).getD (i : Nat) z69)).f1).f4).f6), .int .i64 ((((script).getD (i : Nat) z69)).f2)] 69, Sx.blk b2 [.int .i64 (room), .slice (As20) (Ls20.length) (cs20), .int .i64 (H), .int .i64 (Ms)] 58, Sx.blk b1 [.int .i64 (0), .slice (none) (0) (0), .int .i64 (0), .int .i64 (0)] 58] ++ R) gy3 (room) (H) (Ms) (RMl Ls20) h) ?_
        rintro e_ w_ ⟨rfl, h⟩
        refine ⟨_, rfl, ?_⟩
        refine wl_nil ?_
        refine qn_wa (st_selT [true, true, true, true, true] h) ?_
        refine wa_tk 10 rfl rfl rfl (st_selT [true, true, true, true, true] h) (fun w_ hS => ov_bin _ rfl rfl (binR_gtr)) ?_
        refine wa_tk 11 rfl rfl rfl (st_selT [true, true, true, true, true] h) (fun w_ hS => ov_pick_false _ rfl rfl) ?_
        refine wa_done (by kernel_rfl) ?_
        refine qn_then ?_
        refine wc_cond (by rfl) (fun c22 => ?_) (fun c22 => ?_)
        ·
         exfalso
         first | omega | (simp at c22; done) | (simp only [List.length_map] at *; omega)
        ·
         refine wc_skip ?_
         refine qn_block_normal ?_
         refine qn_then ?_
         refine wc_region ?_
         refine wl_v rfl rfl (ov_move _ rfl) ?_
         refine wl_v rfl rfl (ov_bin _ rfl rfl (binR_add (r := (((i : Nat) : Int)) + 1) (Sx.w64 (by omega)))) ?_
         refine wl_v rfl rfl (ov_assign _ rfl) ?_
         refine wl_nil ?_
         replace h := st_front 1 h
         replace h := st_front 4 h
         replace h := st_front 4 h
         replace h := st_front 3 h
         replace h := st_selT [true, true, true, true, false] h
         refine qn_next ((i + 1), As20, cs20, Ls20, H, Ms) (by show script.length - (i + 1) < script.length - i; omega) ⟨rfl, (congrArg (fun z_ => some (Value.slice (some ad6) z_ (cs))) (show (script.length : Nat) = script.length by first | rfl | simp)), rfl, rfl, rfl, (congrArg (fun z_ => some (Value.int .i64 z_)) (show ((((i : Nat) : Int)) + 1 : Int) = (((i + 1) : Nat) : Int) by omega)), trivial⟩ ?_
         show (playV room script (i + 1) = (RMl Ls20, H, Ms) ∧ ((i + 1) ≤ script.length ∧ (i + 1) ≤ 60) ∧ (∀ x : RH, x ∈ Ls20 → k50.C v0 x.A x.key.f1.length x.key.f1 ∧ SmallK x.key)) ∧ _
         refine ⟨⟨?_, by omega, ?_⟩, h⟩
         · rw [playV_succ (by omega), hJ.1]
           unfold stepV
           rw [if_pos hfit_, if_pos c16, hqs20]
         · intro x_ hx_
           rcases hus20 x_ hx_ with ⟨y_, q1_, q2_, q3_⟩ | ⟨q2_, q3_⟩
           · rw [q2_, q3_]; exact hJ.2.2 y_ q1_
           · rw [q2_, q3_]; exact ⟨hn13, fits_small hfit_⟩
     ·
      refine wc_seq ?_
      refine wc_region ?_
      refine wl_v rfl rfl (ov_bin _ rfl rfl (binR_eql)) ?_
      refine wl_v rfl rfl (ov_assign _ rfl) ?_
      refine wl_nil ?_
      refine qn_then ?_
      refine wc_cond (by rfl) (fun c23 => ?_) (fun c23 => ?_)
      ·
       refine wc_seq ?_
       refine wc_region ?_
       refine wl_v rfl rfl (ov_move _ rfl) ?_
       refine wl_v rfl rfl (ov_fieldAddr _ ⟨b14, 1, none⟩ _ rfl fo69_1 rfl) ?_
       refine wl_v rfl rfl (ov_loadbN 0 [.string (((((script).getD (i : Nat) z69)).f1).f0), .slice (A10) ((((((script).getD (i : Nat) z69)).f1).f1).length) (cp11), .int .i64 (((((script).getD (i : Nat) z69)).f1).f2), .int .i64 (((((script).getD (i : Nat) z69)).f1).f3), .int .i64 ((((((script).getD (i : Nat) z69)).f1).f4).f0), .int .i64 ((((((script).getD (i : Nat) z69)).f1).f4).f1), .int .i64 ((((((script).getD (i : Nat) z69)).f1).f4).f2), .int .i64 ((((((script).getD (i : Nat) z69)).f1).f4).f3), .int .i64 ((((((script).getD (i : Nat) z69)).f1).f4).f4), .int .i64 ((((((script).getD (i : Nat) z69)).f1).f4).f5), .int .i64 ((((((script).getD (i : Nat) z69)).f1).f4).f6)] h rfl rfl sh33 rfl) ?_
       replace h := st_front 1 h
       refine wl_call _ rfl rfl rfl ent22 (CCI.Get_calls (R := [Sx.blk b14 [.int .i64 ((((script).getD (i : Nat) z69)).f0), .string (((((script).getD (i : Nat) z69)).f1).f0), .slice (A10) ((((((script).getD (i : Nat) z69)).f1).f1).length) (cp11), .int .i64 (((((script).getD (i : Nat) z69)).f1).f2), .int .i64 (((((script).getD (i : Nat) z69)).f1).f3), .int .i64 ((((((script).getD (i : Nat) z69)).f1).f4).f0), .int .i64 ((((((script).getD (i : Nat) z69)).f1).f4).f1), .int .i64 ((((((script).getD (i : Nat) z69)).f1).f4).f2), .int .i64 ((((((script).getD (i : Nat) z69)).f1).f4).f3), .int .i64 ((((((script).getD (i : Nat) z69)).f1).f4).f4), .int .i64 ((((((script).getD (i : Nat) z69)).f1).f4).f5), .int .i64 ((((((script).getD (i : Nat) z69)).f1).f4).f6), .int .i64 ((((script).getD (i : Nat) z69)).f2)] 69, Sx.blk b2 [.int .i64 (room), .slice (A) (L.length) (c), .int .i64 (H), .int .i64 (Ms)] 58, Sx.blk b1 [.int .i64 (0), .slice (none) (0) (0), .int .i64 (0), .int .i64 (0)] 58, rlst (A) (L)] ++ R) gy3 (room) (H) (Ms) (RMl L) ((((script).getD (i : Nat) z69)).f1) (A10) (cp11) (by omega) (by omega) hsm_ (by have z_ := hfit_.1; omega) (fun _ _ h_ => Sx.ro_C hv h_ hn13) h) ?_
       rintro e_ w_ ⟨rfl, h⟩
       refine ⟨_, rfl, ?_⟩
       replace h : Sx.St w0 F0 ([cacheP 87 90 85 (Value.int .i64) gy3 (room) ((getM (RMl L) ((((script).getD (i : Nat) z69)).f1)).1) ((if (getM (RMl L) ((((script).getD (i : Nat) z69)).f1)).2.isSome then (H) + 1 else (H))) ((if (getM (RMl L) ((((script).getD (i : Nat) z69)).f1)).2.isSome then (Ms) else (Ms) + 1)), Sx.blk b14 [.int .i64 ((((script).getD (i : Nat) z69)).f0), .string (((((script).getD (i : Nat) z69)).f1).f0), .slice (A10) ((((((script).getD (i : Nat) z69)).f1).f1).length) (cp11), .int .i64 (((((script).getD (i : Nat) z69)).f1).f2), .int .i64 (((((script).getD (i : Nat) z69)).f1).f3), .int .i64 ((((((script).getD (i : Nat) z69)).f1).f4).f0), .int .i64 ((((((script).getD (i : Nat) z69)).f1).f4).f1), .int .i64 ((((((script).getD (i : Nat) z69)).f1).f4).f2), .int .i64 ((((((script).getD (i : Nat) z69)).f1).f4).f3), .int .i64 ((((((script).getD (i : Nat) z69)).f1).f4).f4), .int .i64 ((((((script).getD (i : Nat) z69)).f1).f4).f5), .int .i64 ((((((script).getD (i : Nat) z69)).f1).f4).f6), .int .i64 ((((script).getD (i : Nat) z69)).f2)] 69, Sx.blk b2 [.int .i64 (room), .slice (A) (L.length) (c), .int .i64 (H), .int .i64 (Ms)] 58, Sx.blk b1 [.int .i64 (0), .slice (none) (0) (0), .int .i64 (0), .int .i64 (0)] 58, rlst (A) (L)] ++ R) _ := h
       refine wl_v rfl rfl (ov_move _ rfl) ?_
       refine wl_v rfl rfl (ov_extract [.int .i64 (((getM (RMl L) ((((script).getD (i : Nat) z69)).f1)).2.getD 0)), .bool ((getM (RMl L) ((((script).getD (i : Nat) z69)).f1)).2.isSome)] _ rfl rfl) ?_
       refine wl_v rfl rfl (ov_extract [.int .i64 (((getM (RMl L) ((((script).getD (i : Nat) z69)).f1)).2.getD 0)), .bool ((getM (RMl L) ((((script).getD (i : Nat) z69)).f1)).2.isSome)] _ rfl rfl) ?_
       refine wl_v rfl rfl (ov_assign _ rfl) ?_
       refine wl_v rfl rfl (ov_assign _ rfl) ?_
       refine wl_nil ?_
       refine qn_then ?_
       refine wc_seq ?_
       refine wc_draw (fun w => Sx.St w0 F0 ([Sx.blk b14 [.int .i64 ((((script).getD (i : Nat) z69)).f0), .string (((((script).getD (i : Nat) z69)).f1).f0), .slice (A10) ((((((script).getD (i : Nat) z69)).f1).f1).length) (cp11), .int .i64 (((((script).getD (i : Nat) z69)).f1).f2), .int .i64 (((((script).getD (i : Nat) z69)).f1).f3), .int .i64 ((((((script).getD (i : Nat) z69)).f1).f4).f0), .int .i64 ((((((script).getD (i : Nat) z69)).f1).f4).f1), .int .i64 ((((((script).getD (i : Nat) z69)).f1).f4).f2), .int .i64 ((((((script).getD (i : Nat) z69)).f1).f4).f3), .int .i64 ((((((script).getD (i : Nat) z69)).f1).f4).f4), .int .i64 ((((((script).getD (i : Nat) z69)).f1).f4).f5), .int .i64 ((((((script).getD (i : Nat) z69)).f1).f4).f6), .int .i64 ((((script).getD (i : Nat) z69)).f2)] 69, Sx.blk b2 [.int .i64 (room), .slice (A) (L.length) (c), .int .i64 (H), .int .i64 (Ms)] 58, Sx.blk b1 [.int .i64 (0), .slice (none) (0) (0), .int .i64 (0), .int .i64 (0)] 58] ++ R) w) (by kernel_rfl) ?_
       replace h := st_drew h
       refine wa_tk 0 rfl rfl rfl (st_selT [false, true, true, true, false] h) (fun w_ hS => ov_loadbN 1 [.int .i64 (room), .slice (A) (L.length) (c), .int .i64 (H), .int .i64 (Ms)] hS rfl rfl sh58 rfl) ?_
       refine wa_tk 1 rfl rfl rfl (st_selT [false, true, true, true, false] h) (fun w_ hS => ov_fieldAddr _ ⟨b14, 1, none⟩ _ rfl fo69_1 rfl) ?_
       refine wa_tk 2 rfl rfl rfl (st_selT [false, true, true, true, false] h) (fun w_ hS => ov_loadbN 0 [.string (((((script).getD (i : Nat) z69)).f1).f0), .slice (A10) ((((((script).getD (i : Nat) z69)).f1).f1).length) (cp11), .int .i64 (((((script).getD (i : Nat) z69)).f1).f2), .int .i64 (((((script).getD (i : Nat) z69)).f1).f3), .int .i64 ((((((script).getD (i : Nat) z69)).f1).f4).f0), .int .i64 ((((((script).getD (i : Nat) z69)).f1).f4).f1), .int .i64 ((((((script).getD (i : Nat) z69)).f1).f4).f2), .int .i64 ((((((script).getD (i : Nat) z69)).f1).f4).f3), .int .i64 ((((((script).getD (i : Nat) z69)).f1).f4).f4), .int .i64 ((((((script).getD (i : Nat) z69)).f1).f4).f5), .int .i64 ((((((script).getD (i : Nat) z69)).f1).f4).f6)] hS rfl rfl sh33 rfl) ?_
       refine wa_two 3 9 rfl rfl (by kernel_rfl) ?_ ?_
       ·
        refine wl_call _ rfl rfl rfl ent18 (CK.ref_calls (R := [cacheP 87 90 85 (Value.int .i64) gy3 (room) ((getM (RMl L) ((((script).getD (i : Nat) z69)).f1)).1) ((if (getM (RMl L) ((((script).getD (i : Nat) z69)).f1)).2.isSome then (H) + 1 else (H))) ((if (getM (RMl L) ((((script).getD (i : Nat) z69)).f1)).2.isSome then (Ms) else (Ms) + 1)), Sx.blk b14 [.int .i64 ((((script).getD (i : Nat) z69)).f0), .string (((((script).getD (i : Nat) z69)).f1).f0), .slice (A10) ((((((script).getD (i : Nat) z69)).f1).f1).length) (cp11), .int .i64 (((((script).getD (i : Nat) z69)).f1).f2), .int .i64 (((((script).getD (i : Nat) z69)).f1).f3), .int .i64 ((((((script).getD (i : Nat) z69)).f1).f4).f0), .int .i64 ((((((script).getD (i : Nat) z69)).f1).f4).f1), .int .i64 ((((((script).getD (i : Nat) z69)).f1).f4).f2), .int .i64 ((((((script).getD (i : Nat) z69)).f1).f4).f3), .int .i64 ((((((script).getD (i : Nat) z69)).f1).f4).f4), .int .i64 ((((((script).getD (i : Nat) z69)).f1).f4).f5), .int .i64 ((((((script).getD (i : Nat) z69)).f1).f4).f6), .int .i64 ((((script).getD (i : Nat) z69)).f2)] 69, Sx.blk b2 [.int .i64 (room), .slice (A) (L.length) (c), .int .i64 (H), .int .i64 (Ms)] 58, Sx.blk b1 [.int .i64 (0), .slice (none) (0) (0), .int .i64 (0), .int .i64 (0)] 58, rlst (A) (L)] ++ R) ((((script).getD (i : Nat) z69)).f1) (A10) (cp11) h) ?_
        rintro e_ w_ ⟨rfl, h⟩
        refine ⟨_, rfl, ?_⟩
        refine wl_nil ?_
        refine qn_wa (st_selT [false, true, true, true, false] h) ?_
        refine wa_two 4 9 rfl rfl (by kernel_rfl) ?_ ?_
        ·
         replace h := st_front 4 h
         refine wl_call _ rfl rfl rfl ent42 (RF.rGet_calls (R := [cacheP 87 90 85 (Value.int .i64) gy3 (room) ((getM (RMl L) ((((script).getD (i : Nat) z69)).f1)).1) ((if (getM (RMl L) ((((script).getD (i : Nat) z69)).f1)).2.isSome then (H) + 1 else (H))) ((if (getM (RMl L) ((((script).getD (i : Nat) z69)).f1)).2.isSome then (Ms) else (Ms) + 1)), Sx.blk b14 [.int .i64 ((((script).getD (i : Nat) z69)).f0), .string (((((script).getD (i : Nat) z69)).f1).f0), .slice (A10) ((((((script).getD (i : Nat) z69)).f1).f1).length) (cp11), .int .i64 (((((script).getD (i : Nat) z69)).f1).f2), .int .i64 (((((script).getD (i : Nat) z69)).f1).f3), .int .i64 ((((((script).getD (i : Nat) z69)).f1).f4).f0), .int .i64 ((((((script).getD (i : Nat) z69)).f1).f4).f1), .int .i64 ((((((script).getD (i : Nat) z69)).f1).f4).f2), .int .i64 ((((((script).getD (i : Nat) z69)).f1).f4).f3), .int .i64 ((((((script).getD (i : Nat) z69)).f1).f4).f4), .int .i64 ((((((script).getD (i : Nat) z69)).f1).f4).f5), .int .i64 ((((((script).getD (i : Nat) z69)).f1).f4).f6), .int .i64 ((((script).getD (i : Nat) z69)).f2)] 69, Sx.blk b2 [.int .i64 (room), .slice (A) (L.length) (c), .int .i64 (H), .int .i64 (Ms)] 58, Sx.blk b1 [.int .i64 (0), .slice (none) (0) (0), .int .i64 (0), .int .i64 (0)] 58] ++ R) (room) H Ms (L) (A) (c) ((((script).getD (i : Nat) z69)).f1) (A10) (cp11) (by omega) (fun x_ hx_ _ _ h_ => Sx.ro_C hv h_ (hJ.2.2 x_ hx_).1) (fun x_ hx_ => (hJ.2.2 x_ hx_).2) hsm_ (fun _ _ h_ => Sx.ro_C hv h_ hn13) (by omega) h) ?_
         rintro e_ w_ ⟨As24, cs24, Ls24, rfl, hqs24, hus24, h⟩
         refine ⟨_, rfl, ?_⟩
         replace h := st_front 1 h
         rw [← hqs24] at h
         have hrls24 : (RMl Ls24).length = Ls24.length := List.length_map _
         have hgls24 := getM_len (RMl L) ((script).getD i z69).f1
         rw [← hqs24] at hgls24
         refine wl_nil ?_
         refine qn_wa (st_selT [false, false, true, true, true] h) ?_
         refine wa_tk 5 rfl rfl rfl (st_selT [false, false, true, true, true] h) (fun w_ hS => ov_move _ rfl) ?_
         refine wa_tk 6 rfl rfl rfl (st_selT [false, false, true, true, true] h) (fun w_ hS => ov_extract [.agg #[.int .i64 (room), .slice (As24) (Ls24.length) (cs24), .int .i64 ((if (getM (RMl L) ((((script).getD (i : Nat) z69)).f1)).2.isSome then H + 1 else H)), .int .i64 ((if (getM (RMl L) ((((script).getD (i : Nat) z69)).f1)).2.isSome then Ms else Ms + 1))], .int .i64 (((getM (RMl L) ((((script).getD (i : Nat) z69)).f1)).2.getD 0)), .bool ((getM (RMl L) ((((script).getD (i : Nat) z69)).f1)).2.isSome)] _ rfl rfl) ?_
         refine wa_tk 7 rfl rfl rfl (st_selT [false, false, true, true, true] h) (fun w_ hS => ov_extract [.agg #[.int .i64 (room), .slice (As24) (Ls24.length) (cs24), .int .i64 ((if (getM (RMl L) ((((script).getD (i : Nat) z69)).f1)).2.isSome then H + 1 else H)), .int .i64 ((if (getM (RMl L) ((((script).getD (i : Nat) z69)).f1)).2.isSome then Ms else Ms + 1))], .int .i64 (((getM (RMl L) ((((script).getD (i : Nat) z69)).f1)).2.getD 0)), .bool ((getM (RMl L) ((((script).getD (i : Nat) z69)).f1)).2.isSome)] _ rfl rfl) ?_
         refine wa_tk 8 rfl rfl rfl (st_selT [false, false, true, true, true] h) (fun w_ hS => ov_extract [.agg #[.int .i64 (room), .slice (As24) (Ls24.length) (cs24), .int .i64 ((if (getM (RMl L) ((((script).getD (i : Nat) z69)).f1)).2.isSome then H + 1 else H)), .int .i64 ((if (getM (RMl L) ((((script).getD (i : Nat) z69)).f1)).2.isSome then Ms else Ms + 1))], .int .i64 (((getM (RMl L) ((((script).getD (i : Nat) z69)).f1)).2.getD 0)), .bool ((getM (RMl L) ((((script).getD (i : Nat) z69)).f1)).2.isSome)] _ rfl rfl) ?_
         refine wa_one 9 rfl (by kernel_rfl) ?_
         refine wl_alloc _ h rfl rfl zo58 (fun b25 _ h => ?_)
         replace h : Sx.St _ _ (Sx.blk b25 [.int .i64 (0), .slice (none) (0) (0), .int .i64 (0), .int .i64 (0)] 58 :: _) _ := h
         refine wl_nil ?_
         refine qn_wa (st_selT [false, false, false, true, true, true] h) ?_
         refine wa_one 10 rfl (by kernel_rfl) ?_
         refine wl_storebN 0 [.int .i64 (room), .slice (As24) (Ls24.length) (cs24), .int .i64 ((if (getM (RMl L) ((((script).getD (i : Nat) z69)).f1)).2.isSome then H + 1 else H)), .int .i64 ((if (getM (RMl L) ((((script).getD (i : Nat) z69)).f1)).2.isSome then Ms else Ms + 1))] [.int .i64 (room), .slice (As24) (Ls24.length) (cs24), .int .i64 ((if (getM (RMl L) ((((script).getD (i : Nat) z69)).f1)).2.isSome then H + 1 else H)), .int .i64 ((if (getM (RMl L) ((((script).getD (i : Nat) z69)).f1)).2.isSome then Ms else Ms + 1))] h rfl rfl rfl rfl (by simp [Value.oneCell']) sh58 rfl rfl (fun _ h => ?_)
         refine wl_nil ?_
         refine qn_wa (st_selT [false, false, false, true, true, true] h) ?_
         refine wa_tk 11 rfl rfl rfl (st_selT [false, false, false, true, true, true] h) (fun w_ hS => ov_assign _ rfl) ?_
         refine wa_tk 12 rfl rfl rfl (st_selT [false, false, false, true, true, true] h) (fun w_ hS => ov_assign _ rfl) ?_
         refine wa_done (by kernel_rfl) ?_
         refine qn_then ?_
         refine wc_seq ?_
         refine wc_seq ?_
         refine wc_region ?_
         refine wl_v rfl rfl (ov_move _ rfl) ?_
         refine wl_v rfl rfl (ov_move _ rfl) ?_
         refine wl_v rfl rfl (ov_bin _ rfl rfl (binR_neq)) ?_
         refine wl_v rfl rfl (ov_move _ rfl) ?_
         refine wl_split 86 rfl (fun c26 => ?_) (fun c26 => ?_)
         ·
          exact absurd rfl c26
         ·
          refine wl_v rfl rfl (ov_move _ rfl) ?_
          refine wl_v rfl rfl (ov_move _ rfl) ?_
          refine wl_v rfl rfl (ov_bin _ rfl rfl (binR_neb Try.underlying4)) ?_
          refine wl_v rfl rfl (ov_pick_false _ rfl rfl) ?_
          refine wl_nil ?_
          refine qn_then ?_
          refine wc_cond (by rfl) (fun c27 => ?_) (fun c27 => ?_)
          ·
           exact absurd rfl c27
          ·
           refine wc_skip ?_
           refine qn_then ?_
           refine wc_region ?_
           refine wl_v rfl rfl (ov_loadbN 0 [.int .i64 (room), .slice (As24) (Ls24.length) (cs24), .int .i64 ((if (getM (RMl L) ((((script).getD (i : Nat) z69)).f1)).2.isSome then H + 1 else H)), .int .i64 ((if (getM (RMl L) ((((script).getD (i : Nat) z69)).f1)).2.isSome then Ms else Ms + 1))] h rfl rfl sh58 rfl) ?_
           refine wl_storebN 4 [.int .i64 (room), .slice (As24) (Ls24.length) (cs24), .int .i64 ((if (getM (RMl L) ((((script).getD (i : Nat) z69)).f1)).2.isSome then H + 1 else H)), .int .i64 ((if (getM (RMl L) ((((script).getD (i : Nat) z69)).f1)).2.isSome then Ms else Ms + 1))] [.int .i64 (room), .slice (As24) (Ls24.length) (cs24), .int .i64 ((if (getM (RMl L) ((((script).getD (i : Nat) z69)).f1)).2.isSome then H + 1 else H)), .int .i64 ((if (getM (RMl L) ((((script).getD (i : Nat) z69)).f1)).2.isSome then Ms else Ms + 1))] h rfl rfl rfl rfl (by simp [Value.oneCell']) sh58 rfl rfl (fun _ h => ?_)
           refine wl_nil ?_
           refine qn_block_normal ?_
           refine qn_then ?_
           refine wc_seq ?_
           refine wc_draw (fun w => Sx.St w0 F0 ([Sx.blk b25 [.int .i64 (room), .slice (As24) (Ls24.length) (cs24), .int .i64 ((if (getM (RMl L) ((((script).getD (i : Nat) z69)).f1)).2.isSome then H + 1 else H)), .int .i64 ((if (getM (RMl L) ((((script).getD (i : Nat) z69)).f1)).2.isSome then Ms else Ms + 1))] 58, cacheP 87 90 85 (Value.int .i64) gy3 (room) (RMl Ls24) ((if (getM (RMl L) ((((script).getD (i : Nat) z69)).f1)).2.isSome then (H) + 1 else (H))) ((if (getM (RMl L) ((((script).getD (i : Nat) z69)).f1)).2.isSome then (Ms) else (Ms) + 1)), rlst (As24) (Ls24), Sx.blk b14 [.int .i64 ((((script).getD (i : Nat) z69)).f0), .string (((((script).getD (i : Nat) z69)).f1).f0), .slice (A10) ((((((script).getD (i : Nat) z69)).f1).f1).length) (cp11), .int .i64 (((((script).getD (i : Nat) z69)).f1).f2), .int .i64 (((((script).getD (i : Nat) z69)).f1).f3), .int .i64 ((((((script).getD (i : Nat) z69)).f1).f4).f0), .int .i64 ((((((script).getD (i : Nat) z69)).f1).f4).f1), .int .i64 ((((((script).getD (i : Nat) z69)).f1).f4).f2), .int .i64 ((((((script).getD (i : Nat) z69)).f1).f4).f3), .int .i64 ((((((script).getD (i : Nat) z69)).f1).f4).f4), .int .i64 ((((((script).getD (i : Nat) z69)).f1).f4).f5), .int .i64 ((((((script).getD (i : Nat) z69)).f1).f4).f6), .int .i64 ((((script).getD (i : Nat) z69)).f2)] 69, Sx.blk b2 [.int .i64 (room), .slice (As24) (Ls24.length) (cs24), .int .i64 ((if (getM (RMl L) ((((script).getD (i : Nat) z69)).f1)).2.isSome then H + 1 else H)), .int .i64 ((if (getM (RMl L) ((((script).getD (i : Nat) z69)).f1)).2.isSome then Ms else Ms + 1))] 58, Sx.blk b1 [.int .i64 (0), .slice (none) (0) (0), .int .i64 (0), .int .i64 (0)] 58] ++ R) w) (by kernel_rfl) ?_
           replace h := st_drew h
           refine wa_tk 0 rfl rfl rfl (st_selT [true, true, true, true, true, true] h) (fun w_ hS => ov_move _ rfl) ?_
           refine wa_tk 2 rfl rfl rfl (st_selT [true, true, true, true, true, true] h) (fun w_ hS => ov_fieldAddr _ ⟨b2, 1, none⟩ _ rfl fo58_1 rfl) ?_
           refine wa_tk 3 rfl rfl rfl (st_selT [true, true, true, true, true, true] h) (fun w_ hS => ov_loadb 4 _ hS rfl rfl sh56 rfl) ?_
           refine wa_tk 4 rfl rfl rfl (st_selT [true, true, true, true, true, true] h) (fun w_ hS => ov_len _ _ _ _ _ rfl es56) ?_
           refine wa_one 1 rfl (by kernel_rfl) ?_
           replace h := st_front 1 h
           refine wl_call _ rfl rfl rfl ent23 (CCI.Len_calls (R := [Sx.blk b25 [.int .i64 (room), .slice (As24) (Ls24.length) (cs24), .int .i64 ((if (getM (RMl L) ((((script).getD (i : Nat) z69)).f1)).2.isSome then H + 1 else H)), .int .i64 ((if (getM (RMl L) ((((script).getD (i : Nat) z69)).f1)).2.isSome then Ms else Ms + 1))] 58, rlst (As24) (Ls24), Sx.blk b14 [.int .i64 ((((script).getD (i : Nat) z69)).f0), .string (((((script).getD (i : Nat) z69)).f1).f0), .slice (A10) ((((((script).getD (i : Nat) z69)).f1).f1).length) (cp11), .int .i64 (((((script).getD (i : Nat) z69)).f1).f2), .int .i64 (((((script).getD (i : Nat) z69)).f1).f3), .int .i64 ((((((script).getD (i : Nat) z69)).f1).f4).f0), .int .i64 ((((((script).getD (i : Nat) z69)).f1).f4).f1), .int .i64 ((((((script).getD (i : Nat) z69)).f1).f4).f2), .int .i64 ((((((script).getD (i : Nat) z69)).f1).f4).f3), .int .i64 ((((((script).getD (i : Nat) z69)).f1).f4).f4), .int .i64 ((((((script).getD (i : Nat) z69)).f1).f4).f5), .int .i64 ((((((script).getD (i : Nat) z69)).f1).f4).f6), .int .i64 ((((script).getD (i : Nat) z69)).f2)] 69, Sx.blk b2 [.int .i64 (room), .slice (As24) (Ls24.length) (cs24), .int .i64 ((if (getM (RMl L) ((((script).getD (i : Nat) z69)).f1)).2.isSome then H + 1 else H)), .int .i64 ((if (getM (RMl L) ((((script).getD (i : Nat) z69)).f1)).2.isSome then Ms else Ms + 1))] 58, Sx.blk b1 [.int .i64 (0), .slice (none) (0) (0), .int .i64 (0), .int .i64 (0)] 58] ++ R) gy3 (room) ((if (getM (RMl L) ((((script).getD (i : Nat) z69)).f1)).2.isSome then (H) + 1 else (H))) ((if (getM (RMl L) ((((script).getD (i : Nat) z69)).f1)).2.isSome then (Ms) else (Ms) + 1)) (RMl Ls24) h) ?_
           rintro e_ w_ ⟨rfl, h⟩
           refine ⟨_, rfl, ?_⟩
           refine wl_nil ?_
           refine qn_wa (st_selT [true, true, true, true, true, true] (st_front 5 (st_front 4 (st_front 5 (st_front 5 (st_front 5 (st_front 5 h))))))) ?_
           refine wa_tk 5 rfl rfl rfl (st_selT [true, true, true, true, true, true] (st_front 5 (st_front 4 (st_front 5 (st_front 5 (st_front 5 (st_front 5 h))))))) (fun w_ hS => ov_bin _ rfl rfl (binR_neq)) ?_
           refine wa_tk 6 rfl rfl rfl (st_selT [true, true, true, true, true, true] (st_front 5 (st_front 4 (st_front 5 (st_front 5 (st_front 5 (st_front 5 h))))))) (fun w_ hS => ov_move _ rfl) ?_
           refine wa_split 104 rfl (fun c28 => ?_) (fun c28 => ?_)
           ·
            exfalso
            first | omega | (simp at c28; done) | (simp only [List.length_map] at *; omega)
           ·
            refine wa_tk 7 rfl rfl rfl (st_selT [true, true, true, true, true, true] (st_front 5 (st_front 4 (st_front 5 (st_front 5 (st_front 5 (st_front 5 h))))))) (fun w_ hS => ov_move _ rfl) ?_
            refine wa_tk 9 rfl rfl rfl (st_selT [true, true, true, true, true, true] (st_front 5 (st_front 4 (st_front 5 (st_front 5 (st_front 5 (st_front 5 h))))))) (fun w_ hS => ov_move _ rfl) ?_
            refine wa_one 8 rfl (by kernel_rfl) ?_
            refine wl_call _ rfl rfl rfl ent23 (CCI.Len_calls (R := [Sx.blk b25 [.int .i64 (room), .slice (As24) (Ls24.length) (cs24), .int .i64 ((if (getM (RMl L) ((((script).getD (i : Nat) z69)).f1)).2.isSome then H + 1 else H)), .int .i64 ((if (getM (RMl L) ((((script).getD (i : Nat) z69)).f1)).2.isSome then Ms else Ms + 1))] 58, rlst (As24) (Ls24), Sx.blk b14 [.int .i64 ((((script).getD (i : Nat) z69)).f0), .string (((((script).getD (i : Nat) z69)).f1).f0), .slice (A10) ((((((script).getD (i : Nat) z69)).f1).f1).length) (cp11), .int .i64 (((((script).getD (i : Nat) z69)).f1).f2), .int .i64 (((((script).getD (i : Nat) z69)).f1).f3), .int .i64 ((((((script).getD (i : Nat) z69)).f1).f4).f0), .int .i64 ((((((script).getD (i : Nat) z69)).f1).f4).f1), .int .i64 ((((((script).getD (i : Nat) z69)).f1).f4).f2), .int .i64 ((((((script).getD (i : Nat) z69)).f1).f4).f3), .int .i64 ((((((script).getD (i : Nat) z69)).f1).f4).f4), .int .i64 ((((((script).getD (i : Nat) z69)).f1).f4).f5), .int .i64 ((((((script).getD (i : Nat) z69)).f1).f4).f6), .int .i64 ((((script).getD (i : Nat) z69)).f2)] 69, Sx.blk b2 [.int .i64 (room), .slice (As24) (Ls24.length) (cs24), .int .i64 ((if (getM (RMl L) ((((script).getD (i : Nat) z69)).f1)).2.isSome then H + 1 else H)), .int .i64 ((if (getM (RMl L) ((((script).getD (i : Nat) z69)).f1)).2.isSome then Ms else Ms + 1))] 58, Sx.blk b1 [.int .i64 (0), .slice (none) (0) (0), .int .i64 (0), .int .i64 (0)] 58] ++ R) gy3 (room) ((if (getM (RMl L) ((((script).getD (i : Nat) z69)).f1)).2.isSome then (H) + 1 else (H))) ((if (getM (RMl L) ((((script).getD (i : Nat) z69)).f1)).2.isSome then (Ms) else (Ms) + 1)) (RMl Ls24) h) ?_
            rintro e_ w_ ⟨rfl, h⟩
            refine ⟨_, rfl, ?_⟩
            refine wl_nil ?_
            refine qn_wa (st_selT [true, true, true, true, true, true] (st_front 5 (st_front 4 (st_front 5 (st_front 5 (st_front 5 (st_front 5 h))))))) ?_
            refine wa_tk 10 rfl rfl rfl (st_selT [true, true, true, true, true, true] (st_front 5 (st_front 4 (st_front 5 (st_front 5 (st_front 5 (st_front 5 h))))))) (fun w_ hS => ov_bin _ rfl rfl (binR_gtr)) ?_
            refine wa_tk 11 rfl rfl rfl (st_selT [true, true, true, true, true, true] (st_front 5 (st_front 4 (st_front 5 (st_front 5 (st_front 5 (st_front 5 h))))))) (fun w_ hS => ov_pick_false _ rfl rfl) ?_
            refine wa_done (by kernel_rfl) ?_
            refine qn_then ?_
            refine wc_cond (by rfl) (fun c29 => ?_) (fun c29 => ?_)
            ·
             exfalso
             first | omega | (simp at c29; done) | (simp only [List.length_map] at *; omega)
            ·
             refine wc_skip ?_
             refine qn_block_normal ?_
             refine qn_then ?_
             refine wc_region ?_
             refine wl_v rfl rfl (ov_move _ rfl) ?_
             refine wl_v rfl rfl (ov_bin _ rfl rfl (binR_add (r := (((i : Nat) : Int)) + 1) (Sx.w64 (by omega)))) ?_
             refine wl_v rfl rfl (ov_assign _ rfl) ?_
             refine wl_nil ?_
             replace h := st_front 2 h
             replace h := st_front 5 h
             replace h := st_front 5 h
             replace h := st_front 3 h
             replace h := st_selT [true, true, true, true, false, false] h
             refine qn_next ((i + 1), As24, cs24, Ls24, ((if (getM (RMl L) ((((script).getD (i : Nat) z69)).f1)).2.isSome then H + 1 else H)), ((if (getM (RMl L) ((((script).getD (i : Nat) z69)).f1)).2.isSome then Ms else Ms + 1))) (by show script.length - (i + 1) < script.length - i; omega) ⟨rfl, (congrArg (fun z_ => some (Value.slice (some ad6) z_ (cs))) (show (script.length : Nat) = script.length by first | rfl | simp)), rfl, rfl, rfl, (congrArg (fun z_ => some (Value.int .i64 z_)) (show ((((i : Nat) : Int)) + 1 : Int) = (((i + 1) : Nat) : Int) by omega)), trivial⟩ ?_
             show (playV room script (i + 1) = (RMl Ls24, ((if (getM (RMl L) ((((script).getD (i : Nat) z69)).f1)).2.isSome then H + 1 else H)), ((if (getM (RMl L) ((((script).getD (i : Nat) z69)).f1)).2.isSome then Ms else Ms + 1))) ∧ ((i + 1) ≤ script.length ∧ (i + 1) ≤ 60) ∧ (∀ x : RH, x ∈ Ls24 → k50.C v0 x.A x.key.f1.length x.key.f1 ∧ SmallK x.key)) ∧ _
             refine ⟨⟨?_, by omega, ?_⟩, h⟩
             · rw [playV_succ (by omega), hJ.1]
               unfold stepV
               rw [if_pos hfit_, if_neg c16, if_pos c23, hqs24]
             · exact fun x_ hx_ => hJ.2.2 x_ (hus24 x_ hx_)
        ·
         refine wl_alloc _ h rfl rfl zo58 (fun b30 _ h => ?_)
         replace h : Sx.St _ _ (Sx.blk b30 [.int .i64 (0), .slice (none) (0) (0), .int .i64 (0), .int .i64 (0)] 58 :: _) _ := h
         refine wl_nil ?_
         refine qn_wa (st_selT [false, false, true, true, true, false] h) ?_
         refine wa_one 4 rfl (by kernel_rfl) ?_
         replace h := st_front 5 h
         refine wl_call _ rfl rfl rfl ent42 (RF.rGet_calls (R := [Sx.blk b30 [.int .i64 (0), .slice (none) (0) (0), .int .i64 (0), .int .i64 (0)] 58, cacheP 87 90 85 (Value.int .i64) gy3 (room) ((getM (RMl L) ((((script).getD (i : Nat) z69)).f1)).1) ((if (getM (RMl L) ((((script).getD (i : Nat) z69)).f1)).2.isSome then (H) + 1 else (H))) ((if (getM (RMl L) ((((script).getD (i : Nat) z69)).f1)).2.isSome then (Ms) else (Ms) + 1)), Sx.blk b14 [.int .i64 ((((script).getD (i : Nat) z69)).f0), .string (((((script).getD (i : Nat) z69)).f1).f0), .slice (A10) ((((((script).getD (i : Nat) z69)).f1).f1).length) (cp11), .int .i64 (((((script).getD (i : Nat) z69)).f1).f2), .int .i64 (((((script).getD (i : Nat) z69)).f1).f3), .int .i64 ((((((script).getD (i : Nat) z69)).f1).f4).f0), .int .i64 ((((((script).getD (i : Nat) z69)).f1).f4).f1), .int .i64 ((((((script).getD (i : Nat) z69)).f1).f4).f2), .int .i64 ((((((script).getD (i : Nat) z69)).f1).f4).f3), .int .i64 ((((((script).getD (i : Nat) z69)).f1).f4).f4), .int .i64 ((((((script).getD (i : Nat) z69)).f1).f4).f5), .int .i64 ((((((script).getD (i : Nat) z69)).f1).f4).f6), .int .i64 ((((script).getD (i : Nat) z69)).f2)] 69, Sx.blk b2 [.int .i64 (room), .slice (A) (L.length) (c), .int .i64 (H), .int .i64 (Ms)] 58, Sx.blk b1 [.int .i64 (0), .slice (none) (0) (0), .int .i64 (0), .int .i64 (0)] 58] ++ R) (room) H Ms (L) (A) (c) ((((script).getD (i : Nat) z69)).f1) (A10) (cp11) (by omega) (fun x_ hx_ _ _ h_ => Sx.ro_C hv h_ (hJ.2.2 x_ hx_).1) (fun x_ hx_ => (hJ.2.2 x_ hx_).2) hsm_ (fun _ _ h_ => Sx.ro_C hv h_ hn13) (by omega) h) ?_
         rintro e_ w_ ⟨As31, cs31, Ls31, rfl, hqs31, hus31, h⟩
         refine ⟨_, rfl, ?_⟩
         replace h := st_front 2 h
         rw [← hqs31] at h
         have hrls31 : (RMl Ls31).length = Ls31.length := List.length_map _
         have hgls31 := getM_len (RMl L) ((script).getD i z69).f1
         rw [← hqs31] at hgls31
         refine wl_nil ?_
         refine qn_wa (st_selT [false, false, false, true, true, true] h) ?_
         refine wa_tk 5 rfl rfl rfl (st_selT [false, false, false, true, true, true] h) (fun w_ hS => ov_move _ rfl) ?_
         refine wa_tk 6 rfl rfl rfl (st_selT [false, false, false, true, true, true] h) (fun w_ hS => ov_extract [.agg #[.int .i64 (room), .slice (As31) (Ls31.length) (cs31), .int .i64 ((if (getM (RMl L) ((((script).getD (i : Nat) z69)).f1)).2.isSome then H + 1 else H)), .int .i64 ((if (getM (RMl L) ((((script).getD (i : Nat) z69)).f1)).2.isSome then Ms else Ms + 1))], .int .i64 (((getM (RMl L) ((((script).getD (i : Nat) z69)).f1)).2.getD 0)), .bool ((getM (RMl L) ((((script).getD (i : Nat) z69)).f1)).2.isSome)] _ rfl rfl) ?_
         refine wa_tk 7 rfl rfl rfl (st_selT [false, false, false, true, true, true] h) (fun w_ hS => ov_extract [.agg #[.int .i64 (room), .slice (As31) (Ls31.length) (cs31), .int .i64 ((if (getM (RMl L) ((((script).getD (i : Nat) z69)).f1)).2.isSome then H + 1 else H)), .int .i64 ((if (getM (RMl L) ((((script).getD (i : Nat) z69)).f1)).2.isSome then Ms else Ms + 1))], .int .i64 (((getM (RMl L) ((((script).getD (i : Nat) z69)).f1)).2.getD 0)), .bool ((getM (RMl L) ((((script).getD (i : Nat) z69)).f1)).2.isSome)] _ rfl rfl) ?_
         refine wa_tk 8 rfl rfl rfl (st_selT [false, false, false, true, true, true] h) (fun w_ hS => ov_extract [.agg #[.int .i64 (room), .slice (As31) (Ls31.length) (cs31), .int .i64 ((if (getM (RMl L) ((((script).getD (i : Nat) z69)).f1)).2.isSome then H + 1 else H)), .int .i64 ((if (getM (RMl L) ((((script).getD (i : Nat) z69)).f1)).2.isSome then Ms else Ms + 1))], .int .i64 (((getM (RMl L) ((((script).getD (i : Nat) z69)).f1)).2.getD 0)), .bool ((getM (RMl L) ((((script).getD (i : Nat) z69)).f1)).2.isSome)] _ rfl rfl) ?_
         refine wa_one 10 rfl (by kernel_rfl) ?_
         refine wl_storebN 2 [.int .i64 (room), .slice (As31) (Ls31.length) (cs31), .int .i64 ((if (getM (RMl L) ((((script).getD (i : Nat) z69)).f1)).2.isSome then H + 1 else H)), .int .i64 ((if (getM (RMl L) ((((script).getD (i : Nat) z69)).f1)).2.isSome then Ms else Ms + 1))] [.int .i64 (room), .slice (As31) (Ls31.length) (cs31), .int .i64 ((if (getM (RMl L) ((((script).getD (i : Nat) z69)).f1)).2.isSome then H + 1 else H)), .int .i64 ((if (getM (RMl L) ((((script).getD (i : Nat) z69)).f1)).2.isSome then Ms else Ms + 1))] h rfl rfl rfl rfl (by simp [Value.oneCell']) sh58 rfl rfl (fun _ h => ?_)
         refine wl_nil ?_
         refine qn_wa (st_selT [false, false, false, true, true, true] h) ?_
         refine wa_tk 11 rfl rfl rfl (st_selT [false, false, false, true, true, true] h) (fun w_ hS => ov_assign _ rfl) ?_
         refine wa_tk 12 rfl rfl rfl (st_selT [false, false, false, true, true, true] h) (fun w_ hS => ov_assign _ rfl) ?_
         refine wa_done (by kernel_rfl) ?_
         refine qn_then ?_
         refine wc_seq ?_
         refine wc_seq ?_
         refine wc_region ?_
         refine wl_v rfl rfl (ov_move _ rfl) ?_
         refine wl_v rfl rfl (ov_move _ rfl) ?_
         refine wl_v rfl rfl (ov_bin _ rfl rfl (binR_neq)) ?_
         refine wl_v rfl rfl (ov_move _ rfl) ?_
         refine wl_split 86 rfl (fun c32 => ?_) (fun c32 => ?_)
         ·
          exact absurd rfl c32
         ·
          refine wl_v rfl rfl (ov_move _ rfl) ?_
          refine wl_v rfl rfl (ov_move _ rfl) ?_
          refine wl_v rfl rfl (ov_bin _ rfl rfl (binR_neb Try.underlying4)) ?_
          refine wl_v rfl rfl (ov_pick_false _ rfl rfl) ?_
          refine wl_nil ?_
          refine qn_then ?_
          refine wc_cond (by rfl) (fun c33 => ?_) (fun c33 => ?_)
          ·
           exact absurd rfl c33
          ·
           refine wc_skip ?_
           refine qn_then ?_
           refine wc_region ?_
           refine wl_v rfl rfl (ov_loadbN 2 [.int .i64 (room), .slice (As31) (Ls31.length) (cs31), .int .i64 ((if (getM (RMl L) ((((script).getD (i : Nat) z69)).f1)).2.isSome then H + 1 else H)), .int .i64 ((if (getM (RMl L) ((((script).getD (i : Nat) z69)).f1)).2.isSome then Ms else Ms + 1))] h rfl rfl sh58 rfl) ?_
           refine wl_storebN 4 [.int .i64 (room), .slice (As31) (Ls31.length) (cs31), .int .i64 ((if (getM (RMl L) ((((script).getD (i : Nat) z69)).f1)).2.isSome then H + 1 else H)), .int .i64 ((if (getM (RMl L) ((((script).getD (i : Nat) z69)).f1)).2.isSome then Ms else Ms + 1))] [.int .i64 (room), .slice (As31) (Ls31.length) (cs31), .int .i64 ((if (getM (RMl L) ((((script).getD (i : Nat) z69)).f1)).2.isSome then H + 1 else H)), .int .i64 ((if (getM (RMl L) ((((script).getD (i : Nat) z69)).f1)).2.isSome then Ms else Ms + 1))] h rfl rfl rfl rfl (by simp [Value.oneCell']) sh58 rfl rfl (fun _ h => ?_)
           refine wl_nil ?_
           refine qn_block_normal ?_
           refine qn_then ?_
           refine wc_seq ?_
           refine wc_draw (fun w => Sx.St w0 F0 ([cacheP 87 90 85 (Value.int .i64) gy3 (room) (RMl Ls31) ((if (getM (RMl L) ((((script).getD (i : Nat) z69)).f1)).2.isSome then (H) + 1 else (H))) ((if (getM (RMl L) ((((script).getD (i : Nat) z69)).f1)).2.isSome then (Ms) else (Ms) + 1)), rlst (As31) (Ls31), Sx.blk b30 [.int .i64 (room), .slice (As31) (Ls31.length) (cs31), .int .i64 ((if (getM (RMl L) ((((script).getD (i : Nat) z69)).f1)).2.isSome then H + 1 else H)), .int .i64 ((if (getM (RMl L) ((((script).getD (i : Nat) z69)).f1)).2.isSome then Ms else Ms + 1))] 58, Sx.blk b14 [.int .i64 ((((script).getD (i : Nat) z69)).f0), .string (((((script).getD (i : Nat) z69)).f1).f0), .slice (A10) ((((((script).getD (i : Nat) z69)).f1).f1).length) (cp11), .int .i64 (((((script).getD (i : Nat) z69)).f1).f2), .int .i64 (((((script).getD (i : Nat) z69)).f1).f3), .int .i64 ((((((script).getD (i : Nat) z69)).f1).f4).f0), .int .i64 ((((((script).getD (i : Nat) z69)).f1).f4).f1), .int .i64 ((((((script).getD (i : Nat) z69)).f1).f4).f2), .int .i64 ((((((script).getD (i : Nat) z69)).f1).f4).f3), .int .i64 ((((((script).getD (i : Nat) z69)).f1).f4).f4), .int .i64 ((((((script).getD (i : Nat) z69)).f1).f4).f5), .int .i64 ((((((script).getD (i : Nat) z69)).f1).f4).f6), .int .i64 ((((script).getD (i : Nat) z69)).f2)] 69, Sx.blk b2 [.int .i64 (room), .slice (As31) (Ls31.length) (cs31), .int .i64 ((if (getM (RMl L) ((((script).getD (i : Nat) z69)).f1)).2.isSome then H + 1 else H)), .int .i64 ((if (getM (RMl L) ((((script).getD (i : Nat) z69)).f1)).2.isSome then Ms else Ms + 1))] 58, Sx.blk b1 [.int .i64 (0), .slice (none) (0) (0), .int .i64 (0), .int .i64 (0)] 58] ++ R) w) (by kernel_rfl) ?_
           replace h := st_drew h
           refine wa_tk 0 rfl rfl rfl (st_selT [true, true, true, true, true, true] h) (fun w_ hS => ov_move _ rfl) ?_
           refine wa_tk 2 rfl rfl rfl (st_selT [true, true, true, true, true, true] h) (fun w_ hS => ov_fieldAddr _ ⟨b2, 1, none⟩ _ rfl fo58_1 rfl) ?_
           refine wa_tk 3 rfl rfl rfl (st_selT [true, true, true, true, true, true] h) (fun w_ hS => ov_loadb 4 _ hS rfl rfl sh56 rfl) ?_
           refine wa_tk 4 rfl rfl rfl (st_selT [true, true, true, true, true, true] h) (fun w_ hS => ov_len _ _ _ _ _ rfl es56) ?_
           refine wa_one 1 rfl (by kernel_rfl) ?_
           refine wl_call _ rfl rfl rfl ent23 (CCI.Len_calls (R := [rlst (As31) (Ls31), Sx.blk b30 [.int .i64 (room), .slice (As31) (Ls31.length) (cs31), .int .i64 ((if (getM (RMl L) ((((script).getD (i : Nat) z69)).f1)).2.isSome then H + 1 else H)), .int .i64 ((if (getM (RMl L) ((((script).getD (i : Nat) z69)).f1)).2.isSome then Ms else Ms + 1))] 58, Sx.blk b14 [.int .i64 ((((script).getD (i : Nat) z69)).f0), .string (((((script).getD (i : Nat) z69)).f1).f0), .slice (A10) ((((((script).getD (i : Nat) z69)).f1).f1).length) (cp11), .int .i64 (((((script).getD (i : Nat) z69)).f1).f2), .int .i64 (((((script).getD (i : Nat) z69)).f1).f3), .int .i64 ((((((script).getD (i : Nat) z69)).f1).f4).f0), .int .i64 ((((((script).getD (i : Nat) z69)).f1).f4).f1), .int .i64 ((((((script).getD (i : Nat) z69)).f1).f4).f2), .int .i64 ((((((script).getD (i : Nat) z69)).f1).f4).f3), .int .i64 ((((((script).getD (i : Nat) z69)).f1).f4).f4), .int .i64 ((((((script).getD (i : Nat) z69)).f1).f4).f5), .int .i64 ((((((script).getD (i : Nat) z69)).f1).f4).f6), .int .i64 ((((script).getD (i : Nat) z69)).f2)] 69, Sx.blk b2 [.int .i64 (room), .slice (As31) (Ls31.length) (cs31), .int .i64 ((if (getM (RMl L) ((((script).getD (i : Nat) z69)).f1)).2.isSome then H + 1 else H)), .int .i64 ((if (getM (RMl L) ((((script).getD (i : Nat) z69)).f1)).2.isSome then Ms else Ms + 1))] 58, Sx.blk b1 [.int .i64 (0), .slice (none) (0) (0), .int .i64 (0), .int .i64 (0)] 58] ++ R) gy3 (room) ((if (getM (RMl L) ((((script).getD (i : Nat) z69)).f1)).2.isSome then (H) + 1 else (H))) ((if (getM (RMl L) ((((script).getD (i : Nat) z69)).f1)).2.isSome then (Ms) else (Ms) + 1)) (RMl Ls31) h) ?_
           rintro e_ w_ ⟨rfl, h⟩
           refine ⟨_, rfl, ?_⟩
           refine wl_nil ?_
           refine qn_wa (st_selT [true, true, true, true, true, true] h) ?_
           refine wa_tk 5 rfl rfl rfl (st_selT [true, true, true, true, true, true] h) (fun w_ hS => ov_bin _ rfl rfl (binR_neq)) ?_
           refine wa_tk 6 rfl rfl rfl (st_selT [true, true, true, true, true, true] h) (fun w_ hS => ov_move _ rfl) ?_
           refine wa_split 104 rfl (fun c34 => ?_) (fun c34 => ?_)
           ·
            exfalso
            first | omega | (simp at c34; done) | (simp only [List.length_map] at *; omega)
           ·
            refine wa_tk 7 rfl rfl rfl (st_selT [true, true, true, true, true, true] h) (fun w_ hS => ov_move _ rfl) ?_
            refine wa_tk 9 rfl rfl rfl (st_selT [true, true, true, true, true, true] h) (fun w_ hS => ov_move _ rfl) ?_
            refine wa_one 8 rfl (by kernel_rfl) ?_
            refine wl_call _ rfl rfl rfl ent23 (CCI.Len_calls (R := [rlst (As31) (Ls31), Sx.blk b30 [.int .i64 (room), .slice (As31) (Ls31.length) (cs31), .int .i64 ((if (getM (RMl L) ((((script).getD (i : Nat) z69)).f1)).2.isSome then H + 1 else H)), .int .i64 ((if (getM (RMl L) ((((script).getD (i : Nat) z69)).f1)).2.isSome then Ms else Ms + 1))] 58, Sx.blk b14 [.int .i64 ((((script).getD (i : Nat) z69)).f0), .string (((((script).getD (i : Nat) z69)).f1).f0), .slice (A10) ((((((script).getD (i : Nat) z69)).f1).f1).length) (cp11), .int .i64 (((((script).getD (i : Nat) z69)).f1).f2), .int .i64 (((((script).getD (i : Nat) z69)).f1).f3), .int .i64 ((((((script).getD (i : Nat) z69)).f1).f4).f0), .int .i64 ((((((script).getD (i : Nat) z69)).f1).f4).f1), .int .i64 ((((((script).getD (i : Nat) z69)).f1).f4).f2), .int .i64 ((((((script).getD (i : Nat) z69)).f1).f4).f3), .int .i64 ((((((script).getD (i : Nat) z69)).f1).f4).f4), .int .i64 ((((((script).getD (i : Nat) z69)).f1).f4).f5), .int .i64 ((((((script).getD (i : Nat) z69)).f1).f4).f6), .int .i64 ((((script).getD (i : Nat) z69)).f2)] 69, Sx.blk b2 [.int .i64 (room), .slice (As31) (Ls31.length) (cs31), .int .i64 ((if (getM (RMl L) ((((script).getD (i : Nat) z69)).f1)).2.isSome then H + 1 else H)), .int .i64 ((if (getM (RMl L) ((((script).getD (i : Nat) z69)).f1)).2.isSome then Ms else Ms + 1))] 58, Sx.blk b1 [.int .i64 (0), .slice (none) (0) (0), .int .i64 (0), .int .i64 (0)] 58] ++ R) gy3 (room) ((if (getM (RMl L) ((((script).getD (i : Nat) z69)).f1)).2.isSome then (H) + 1 else (H))) ((if (getM (RMl L) ((((script).getD (i : Nat) z69)).f1)).2.isSome then (Ms) else (Ms) + 1)) (RMl Ls31) h) ?_
            rintro e_ w_ ⟨rfl, h⟩
            refine ⟨_, rfl, ?_⟩
            refine wl_nil ?_
            refine qn_wa (st_selT [true, true, true, true, true, true] h) ?_
            refine wa_tk 10 rfl rfl rfl (st_selT [true, true, true, true, true, true] h) (fun w_ hS => ov_bin _ rfl rfl (binR_gtr)) ?_
            refine wa_tk 11 rfl rfl rfl (st_selT [true, true, true, true, true, true] h) (fun w_ hS => ov_pick_false _ rfl rfl) ?_
            refine wa_done (by kernel_rfl) ?_
            refine qn_then ?_
            refine wc_cond (by rfl) (fun c35 => ?_) (fun c35 => ?_)
            ·
             exfalso
             first | omega | (simp at c35; done) | (simp only [List.length_map] at *; omega)
            ·
             refine wc_skip ?_
             refine qn_block_normal ?_
             refine qn_then ?_
             refine wc_region ?_
             refine wl_v rfl rfl (ov_move _ rfl) ?_
             refine wl_v rfl rfl (ov_bin _ rfl rfl (binR_add (r := (((i : Nat) : Int)) + 1) (Sx.w64 (by omega)))) ?_
             refine wl_v rfl rfl (ov_assign _ rfl) ?_
             refine wl_nil ?_
             replace h := st_front 1 h
             replace h := st_front 5 h
             replace h := st_front 5 h
             replace h := st_front 3 h
             replace h := st_selT [true, true, true, true, false, false] h
             refine qn_next ((i + 1), As31, cs31, Ls31, ((if (getM (RMl L) ((((script).getD (i : Nat) z69)).f1)).2.isSome then H + 1 else H)), ((if (getM (RMl L) ((((script).getD (i : Nat) z69)).f1)).2.isSome then Ms else Ms + 1))) (by show script.length - (i + 1) < script.length - i; omega) ⟨rfl, (congrArg (fun z_ => some (Value.slice (some ad6) z_ (cs))) (show (script.length : Nat) = script.length by first | rfl | simp)), rfl, rfl, rfl, (congrArg (fun z_ => some (Value.int .i64 z_)) (show ((((i : Nat) : Int)) + 1 : Int) = (((i + 1) : Nat) : Int) by omega)), trivial⟩ ?_
             show (playV room script (i + 1) = (RMl Ls31, ((if (getM (RMl L) ((((script).getD (i : Nat) z69)).f1)).2.isSome then H + 1 else H)), ((if (getM (RMl L) ((((script).getD (i : Nat) z69)).f1)).2.isSome then Ms else Ms + 1))) ∧ ((i + 1) ≤ script.length ∧ (i + 1) ≤ 60) ∧ (∀ x : RH, x ∈ Ls31 → k50.C v0 x.A x.key.f1.length x.key.f1 ∧ SmallK x.key)) ∧ _
             refine ⟨⟨?_, by omega, ?_⟩, h⟩
             · rw [playV_succ (by omega), hJ.1]
               unfold stepV
               rw [if_pos hfit_, if_neg c16, if_pos c23, hqs31]
             · exact fun x_ hx_ => hJ.2.2 x_ (hus31 x_ hx_)
       ·
        refine wl_alloc _ h rfl rfl zo58 (fun b36 _ h => ?_)
        replace h : Sx.St _ _ (Sx.blk b36 [.int .i64 (0), .slice (none) (0) (0), .int .i64 (0), .int .i64 (0)] 58 :: _) _ := h
        refine wl_nil ?_
        refine qn_wa (st_selT [false, false, true, true, true, false] h) ?_
        refine wa_one 3 rfl (by kernel_rfl) ?_
        refine wl_call _ rfl rfl rfl ent18 (CK.ref_calls (R := [Sx.blk b36 [.int .i64 (0), .slice (none) (0) (0), .int .i64 (0), .int .i64 (0)] 58, cacheP 87 90 85 (Value.int .i64) gy3 (room) ((getM (RMl L) ((((script).getD (i : Nat) z69)).f1)).1) ((if (getM (RMl L) ((((script).getD (i : Nat) z69)).f1)).2.isSome then (H) + 1 else (H))) ((if (getM (RMl L) ((((script).getD (i : Nat) z69)).f1)).2.isSome then (Ms) else (Ms) + 1)), Sx.blk b14 [.int .i64 ((((script).getD (i : Nat) z69)).f0), .string (((((script).getD (i : Nat) z69)).f1).f0), .slice (A10) ((((((script).getD (i : Nat) z69)).f1).f1).length) (cp11), .int .i64 (((((script).getD (i : Nat) z69)).f1).f2), .int .i64 (((((script).getD (i : Nat) z69)).f1).f3), .int .i64 ((((((script).getD (i : Nat) z69)).f1).f4).f0), .int .i64 ((((((script).getD (i : Nat) z69)).f1).f4).f1), .int .i64 ((((((script).getD (i : Nat) z69)).f1).f4).f2), .int .i64 ((((((script).getD (i : Nat) z69)).f1).f4).f3), .int .i64 ((((((script).getD (i : Nat) z69)).f1).f4).f4), .int .i64 ((((((script).getD (i : Nat) z69)).f1).f4).f5), .int .i64 ((((((script).getD (i : Nat) z69)).f1).f4).f6), .int .i64 ((((script).getD (i : Nat) z69)).f2)] 69, Sx.blk b2 [.int .i64 (room), .slice (A) (L.length) (c), .int .i64 (H), .int .i64 (Ms)] 58, Sx.blk b1 [.int .i64 (0), .slice (none) (0) (0), .int .i64 (0), .int .i64 (0)] 58, rlst (A) (L)] ++ R) ((((script).getD (i : Nat) z69)).f1) (A10) (cp11) h) ?_
        rintro e_ w_ ⟨rfl, h⟩
        refine ⟨_, rfl, ?_⟩
        refine wl_nil ?_
        refine qn_wa (st_selT [false, false, true, true, true, false] h) ?_
        refine wa_one 4 rfl (by kernel_rfl) ?_
        replace h := st_front 5 h
        refine wl_call _ rfl rfl rfl ent42 (RF.rGet_calls (R := [Sx.blk b36 [.int .i64 (0), .slice (none) (0) (0), .int .i64 (0), .int .i64 (0)] 58, cacheP 87 90 85 (Value.int .i64) gy3 (room) ((getM (RMl L) ((((script).getD (i : Nat) z69)).f1)).1) ((if (getM (RMl L) ((((script).getD (i : Nat) z69)).f1)).2.isSome then (H) + 1 else (H))) ((if (getM (RMl L) ((((script).getD (i : Nat) z69)).f1)).2.isSome then (Ms) else (Ms) + 1)), Sx.blk b14 [.int .i64 ((((script).getD (i : Nat) z69)).f0), .string (((((script).getD (i : Nat) z69)).f1).f0), .slice (A10) ((((((script).getD (i : Nat) z69)).f1).f1).length) (cp11), .int .i64 (((((script).getD (i : Nat) z69)).f1).f2), .int .i64 (((((script).getD (i : Nat) z69)).f1).f3), .int .i64 ((((((script).getD (i : Nat) z69)).f1).f4).f0), .int .i64 ((((((script).getD (i : Nat) z69)).f1).f4).f1), .int .i64 ((((((script).getD (i : Nat) z69)).f1).f4).f2), .int .i64 ((((((script).getD (i : Nat) z69)).f1).f4).f3), .int .i64 ((((((script).getD (i : Nat) z69)).f1).f4).f4), .int .i64 ((((((script).getD (i : Nat) z69)).f1).f4).f5), .int .i64 ((((((script).getD (i : Nat) z69)).f1).f4).f6), .int .i64 ((((script).getD (i : Nat) z69)).f2)] 69, Sx.blk b2 [.int .i64 (room), .slice (A) (L.length) (c), .int .i64 (H), .int .i64 (Ms)] 58, Sx.blk b1 [.int .i64 (0), .slice (none) (0) (0), .int .i64 (0), .int .i64 (0)] 58] ++ R) (room) H Ms (L) (A) (c) ((((script).getD (i : Nat) z69)).f1) (A10) (cp11) (by omega) (fun x_ hx_ _ _ h_ => Sx.ro_C hv h_ (hJ.2.2 x_ hx_).1) (fun x_ hx_ => (hJ.2.2 x_ hx_).2) hsm_ (fun _ _ h_ => Sx.ro_C hv h_ hn13) (by omega) h) ?_
        rintro e_ w_ ⟨As37, cs37, Ls37, rfl, hqs37, hus37, h⟩
        refine ⟨_, rfl, ?_⟩
        replace h := st_front 2 h
        rw [← hqs37] at h
        have hrls37 : (RMl Ls37).length = Ls37.length := List.length_map _
        have hgls37 := getM_len (RMl L) ((script).getD i z69).f1
        rw [← hqs37] at hgls37
        refine wl_nil ?_
        refine qn_wa (st_selT [false, false, false, true, true, true] h) ?_
        refine wa_tk 5 rfl rfl rfl (st_selT [false, false, false, true, true, true] h) (fun w_ hS => ov_move _ rfl) ?_
        refine wa_tk 6 rfl rfl rfl (st_selT [false, false, false, true, true, true] h) (fun w_ hS => ov_extract [.agg #[.int .i64 (room), .slice (As37) (Ls37.length) (cs37), .int .i64 ((if (getM (RMl L) ((((script).getD (i : Nat) z69)).f1)).2.isSome then H + 1 else H)), .int .i64 ((if (getM (RMl L) ((((script).getD (i : Nat) z69)).f1)).2.isSome then Ms else Ms + 1))], .int .i64 (((getM (RMl L) ((((script).getD (i : Nat) z69)).f1)).2.getD 0)), .bool ((getM (RMl L) ((((script).getD (i : Nat) z69)).f1)).2.isSome)] _ rfl rfl) ?_
        refine wa_tk 7 rfl rfl rfl (st_selT [false, false, false, true, true, true] h) (fun w_ hS => ov_extract [.agg #[.int .i64 (room), .slice (As37) (Ls37.length) (cs37), .int .i64 ((if (getM (RMl L) ((((script).getD (i : Nat) z69)).f1)).2.isSome then H + 1 else H)), .int .i64 ((if (getM (RMl L) ((((script).getD (i : Nat) z69)).f1)).2.isSome then Ms else Ms + 1))], .int .i64 (((getM (RMl L) ((((script).getD (i : Nat) z69)).f1)).2.getD 0)), .bool ((getM (RMl L) ((((script).getD (i : Nat) z69)).f1)).2.isSome)] _ rfl rfl) ?_
        refine wa_tk 8 rfl rfl rfl (st_selT [false, false, false, true, true, true] h) (fun w_ hS => ov_extract [.agg #[.int .i64 (room), .slice (As37) (Ls37.length) (cs37), .int .i64 ((if (getM (RMl L) ((((script).getD (i : Nat) z69)).f1)).2.isSome then H + 1 else H)), .int .i64 ((if (getM (RMl L) ((((script).getD (i : Nat) z69)).f1)).2.isSome then Ms else Ms + 1))], .int .i64 (((getM (RMl L) ((((script).getD (i : Nat) z69)).f1)).2.getD 0)), .bool ((getM (RMl L) ((((script).getD (i : Nat) z69)).f1)).2.isSome)] _ rfl rfl) ?_
        refine wa_one 10 rfl (by kernel_rfl) ?_
        refine wl_storebN 2 [.int .i64 (room), .slice (As37) (Ls37.length) (cs37), .int .i64 ((if (getM (RMl L) ((((script).getD (i : Nat) z69)).f1)).2.isSome then H + 1 else H)), .int .i64 ((if (getM (RMl L) ((((script).getD (i : Nat) z69)).f1)).2.isSome then Ms else Ms + 1))] [.int .i64 (room), .slice (As37) (Ls37.length) (cs37), .int .i64 ((if (getM (RMl L) ((((script).getD (i : Nat) z69)).f1)).2.isSome then H + 1 else H)), .int .i64 ((if (getM (RMl L) ((((script).getD (i : Nat) z69)).f1)).2.isSome then Ms else Ms + 1))] h rfl rfl rfl rfl (by simp [Value.oneCell']) sh58 rfl rfl (fun _ h => ?_)
        refine wl_nil ?_
        refine qn_wa (st_selT [false, false, false, true, true, true] h) ?_
        refine wa_tk 11 rfl rfl rfl (st_selT [false, false, false, true, true, true] h) (fun w_ hS => ov_assign _ rfl) ?_
        refine wa_tk 12 rfl rfl rfl (st_selT [false, false, false, true, true, true] h) (fun w_ hS => ov_assign _ rfl) ?_
        refine wa_done (by kernel_rfl) ?_
        refine qn_then ?_
        refine wc_seq ?_
        refine wc_seq ?_
        refine wc_region ?_
        refine wl_v rfl rfl (ov_move _ rfl) ?_
        refine wl_v rfl rfl (ov_move _ rfl) ?_
        refine wl_v rfl rfl (ov_bin _ rfl rfl (binR_neq)) ?_
        refine wl_v rfl rfl (ov_move _ rfl) ?_
        refine wl_split 86 rfl (fun c38 => ?_) (fun c38 => ?_)
        ·
         exact absurd rfl c38
        ·
         refine wl_v rfl rfl (ov_move _ rfl) ?_
         refine wl_v rfl rfl (ov_move _ rfl) ?_
         refine wl_v rfl rfl (ov_bin _ rfl rfl (binR_neb Try.underlying4)) ?_
         refine wl_v rfl rfl (ov_pick_false _ rfl rfl) ?_
         refine wl_nil ?_
         refine qn_then ?_
         refine wc_cond (by rfl) (fun c39 => ?_) (fun c39 => ?_)
         ·
          exact absurd rfl c39
         ·
          refine wc_skip ?_
          refine qn_then ?_
          refine wc_region ?_
          refine wl_v rfl rfl (ov_loadbN 2 [.int .i64 (room), .slice (As37) (Ls37.length) (cs37), .int .i64 ((if (getM (RMl L) ((((script).getD (i : Nat) z69)).f1)).2.isSome then H + 1 else H)), .int .i64 ((if (getM (RMl L) ((((script).getD (i : Nat) z69)).f1)).2.isSome then Ms else Ms + 1))] h rfl rfl sh58 rfl) ?_
          refine wl_storebN 4 [.int .i64 (room), .slice (As37) (Ls37.length) (cs37), .int .i64 ((if (getM (RMl L) ((((script).getD (i : Nat) z69)).f1)).2.isSome then H + 1 else H)), .int .i64 ((if (getM (RMl L) ((((script).getD (i : Nat) z69)).f1)).2.isSome then Ms else Ms + 1))] [.int .i64 (room), .slice (As37) (Ls37.length) (cs37), .int .i64 ((if (getM (RMl L) ((((script).getD (i : Nat) z69)).f1)).2.isSome then H + 1 else H)), .int .i64 ((if (getM (RMl L) ((((script).getD (i : Nat) z69)).f1)).2.isSome then Ms else Ms + 1))] h rfl rfl rfl rfl (by simp [Value.oneCell']) sh58 rfl rfl (fun _ h => ?_)
          refine wl_nil ?_
          refine qn_block_normal ?_
          refine qn_then ?_
          refine wc_seq ?_
          refine wc_draw (fun w => Sx.St w0 F0 ([cacheP 87 90 85 (Value.int .i64) gy3 (room) (RMl Ls37) ((if (getM (RMl L) ((((script).getD (i : Nat) z69)).f1)).2.isSome then (H) + 1 else (H))) ((if (getM (RMl L) ((((script).getD (i : Nat) z69)).f1)).2.isSome then (Ms) else (Ms) + 1)), rlst (As37) (Ls37), Sx.blk b36 [.int .i64 (room), .slice (As37) (Ls37.length) (cs37), .int .i64 ((if (getM (RMl L) ((((script).getD (i : Nat) z69)).f1)).2.isSome then H + 1 else H)), .int .i64 ((if (getM (RMl L) ((((script).getD (i : Nat) z69)).f1)).2.isSome then Ms else Ms + 1))] 58, Sx.blk b14 [.int .i64 ((((script).getD (i : Nat) z69)).f0), .string (((((script).getD (i : Nat) z69)).f1).f0), .slice (A10) ((((((script).getD (i : Nat) z69)).f1).f1).length) (cp11), .int .i64 (((((script).getD (i : Nat) z69)).f1).f2), .int .i64 (((((script).getD (i : Nat) z69)).f1).f3), .int .i64 ((((((script).getD (i : Nat) z69)).f1).f4).f0), .int .i64 ((((((script).getD (i : Nat) z69)).f1).f4).f1), .int .i64 ((((((script).getD (i : Nat) z69)).f1).f4).f2), .int .i64 ((((((script).getD (i : Nat) z69)).f1).f4).f3), .int .i64 ((((((script).getD (i : Nat) z69)).f1).f4).f4), .int .i64 ((((((script).getD (i : Nat) z69)).f1).f4).f5), .int .i64 ((((((script).getD (i : Nat) z69)).f1).f4).f6), .int .i64 ((((script).getD (i : Nat) z69)).f2)] 69, Sx.blk b2 [.int .i64 (room), .slice (As37) (Ls37.length) (cs37), .int .i64 ((if (getM (RMl L) ((((script).getD (i : Nat) z69)).f1)).2.isSome then H + 1 else H)), .int .i64 ((if (getM (RMl L) ((((script).getD (i : Nat) z69)).f1)).2.isSome then Ms else Ms + 1))] 58, Sx.blk b1 [.int .i64 (0), .slice (none) (0) (0), .int .i64 (0), .int .i64 (0)] 58] ++ R) w) (by kernel_rfl) ?_
          replace h := st_drew h
          refine wa_tk 0 rfl rfl rfl (st_selT [true, true, true, true, true, true] h) (fun w_ hS => ov_move _ rfl) ?_
          refine wa_tk 2 rfl rfl rfl (st_selT [true, true, true, true, true, true] h) (fun w_ hS => ov_fieldAddr _ ⟨b2, 1, none⟩ _ rfl fo58_1 rfl) ?_
          refine wa_tk 3 rfl rfl rfl (st_selT [true, true, true, true, true, true] h) (fun w_ hS => ov_loadb 4 _ hS rfl rfl sh56 rfl) ?_
          refine wa_tk 4 rfl rfl rfl (st_selT [true, true, true, true, true, true] h) (fun w_ hS => ov_len _ _ _ _ _ rfl es56) ?_
          refine wa_one 1 rfl (by kernel_rfl) ?_
          refine wl_call _ rfl rfl rfl ent23 (CCI.Len_calls (R := [rlst (As37) (Ls37), Sx.blk b36 [.int .i64 (room), .slice (As37) (Ls37.length) (cs37), .int .i64 ((if (getM (RMl L) ((((script).getD (i : Nat) z69)).f1)).2.isSome then H + 1 else H)), .int .i64 ((if (getM (RMl L) ((((script).getD (i : Nat) z69)).f1)).2.isSome then Ms else Ms + 1))] 58, Sx.blk b14 [.int .i64 ((((script).getD (i : Nat) z69)).f0), .string (((((script).getD (i : Nat) z69)).f1).f0), .slice (A10) ((((((script).getD (i : Nat) z69)).f1).f1).length) (cp11), .int .i64 (((((script).getD (i : Nat) z69)).f1).f2), .int .i64 (((((script).getD (i : Nat) z69)).f1).f3), .int .i64 ((((((script).getD (i : Nat) z69)).f1).f4).f0), .int .i64 ((((((script).getD (i : Nat) z69)).f1).f4).f1), .int .i64 ((((((script).getD (i : Nat) z69)).f1).f4).f2), .int .i64 ((((((script).getD (i : Nat) z69)).f1).f4).f3), .int .i64 ((((((script).getD (i : Nat) z69)).f1).f4).f4), .int .i64 ((((((script).getD (i : Nat) z69)).f1).f4).f5), .int .i64 ((((((script).getD (i : Nat) z69)).f1).f4).f6), .int .i64 ((((script).getD (i : Nat) z69)).f2)] 69, Sx.blk b2 [.int .i64 (room), .slice (As37) (Ls37.length) (cs37), .int .i64 ((if (getM (RMl L) ((((script).getD (i : Nat) z69)).f1)).2.isSome then H + 1 else H)), .int .i64 ((if (getM (RMl L) ((((script).getD (i : Nat) z69)).f1)).2.isSome then Ms else Ms + 1))] 58, Sx.blk b1 [.int .i64 (0), .slice (none) (0) (0), .int .i64 (0), .int .i64 (0)] 58] ++ R) gy3 (room) ((if (getM (RMl L) ((((script).getD (i : Nat) z69)).f1)).2.isSome then (H) + 1 else (H))) ((if (getM (RMl L) ((((script).getD (i : Nat) z69)).f1)).2.isSome then (Ms) else (Ms) + 1)) (RMl Ls37) h) ?_
          rintro e_ w_ ⟨rfl, h⟩
          refine ⟨_, rfl, ?_⟩
          refine wl_nil ?_
          refine qn_wa (st_selT [true, true, true, true, true, true] h) ?_
          refine wa_tk 5 rfl rfl rfl (st_selT [true, true, true, true, true, true] h) (fun w_ hS => ov_bin _ rfl rfl (binR_neq)) ?_
          refine wa_tk 6 rfl rfl rfl (st_selT [true, true, true, true, true, true] h) (fun w_ hS => ov_move _ rfl) ?_
          refine wa_split 104 rfl (fun c40 => ?_) (fun c40 => ?_)
          ·
           exfalso
           first | omega | (simp at c40; done) | (simp only [List.length_map] at *; omega)
          ·
           refine wa_tk 7 rfl rfl rfl (st_selT [true, true, true, true, true, true] h) (fun w_ hS => ov_move _ rfl) ?_
           refine wa_tk 9 rfl rfl rfl (st_selT [true, true, true, true, true, true] h) (fun w_ hS => ov_move _ rfl) ?_
           refine wa_one 8 rfl (by kernel_rfl) ?_
           refine wl_call _ rfl rfl rfl ent23 (CCI.Len_calls (R := [rlst (As37) (Ls37), Sx.blk b36 [.int .i64 (room), .slice (As37) (Ls37.length) (cs37), .int .i64 ((if (getM (RMl L) ((((script).getD (i : Nat) z69)).f1)).2.isSome then H + 1 else H)), .int .i64 ((if (getM (RMl L) ((((script).getD (i : Nat) z69)).f1)).2.isSome then Ms else Ms + 1))] 58, Sx.blk b14 [.int .i64 ((((script).getD (i : Nat) z69)).f0), .string (((((script).getD (i : Nat) z69)).f1).f0), .slice (A10) ((((((script).getD (i : Nat) z69)).f1).f1).length) (cp11), .int .i64 (((((script).getD (i : Nat) z69)).f1).f2), .int .i64 (((((script).getD (i : Nat) z69)).f1).f3), .int .i64 ((((((script).getD (i : Nat) z69)).f1).f4).f0), .int .i64 ((((((script).getD (i : Nat) z69)).f1).f4).f1), .int .i64 ((((((script).getD (i : Nat) z69)).f1).f4).f2), .int .i64 ((((((script).getD (i : Nat) z69)).f1).f4).f3), .int .i64 ((((((script).getD (i : Nat) z69)).f1).f4).f4), .int .i64 ((((((script).getD (i : Nat) z69)).f1).f4).f5), .int .i64 ((((((script).getD (i : Nat) z69)).f1).f4).f6), .int .i64 ((((script).getD (i : Nat) z69)).f2)] 69, Sx.blk b2 [.int .i64 (room), .slice (As37) (Ls37.length) (cs37), .int .i64 ((if (getM (RMl L) ((((script).getD (i : Nat) z69)).f1)).2.isSome then H + 1 else H)), .int .i64 ((if (getM (RMl L) ((((script).getD (i : Nat) z69)).f1)).2.isSome then Ms else Ms + 1))] 58, Sx.blk b1 [.int .i64 (0), .slice (none) (0) (0), .int .i64 (0), .int .i64 (0)] 58] ++ R) gy3 (room) ((if (getM (RMl L) ((((script).getD (i : Nat) z69)).f1)).2.isSome then (H) + 1 else (H))) ((if (getM (RMl L) ((((script).getD (i : Nat) z69)).f1)).2.isSome then (Ms) else (Ms) + 1)) (RMl Ls37) h) ?_
           rintro e_ w_ ⟨rfl, h⟩
           refine ⟨_, rfl, ?_⟩
           refine wl_nil ?_
           refine qn_wa (st_selT [true, true, true, true, true, true] h) ?_
           refine wa_tk 10 rfl rfl rfl (st_selT [true, true, true, true, true, true] h) (fun w_ hS => ov_bin _ rfl rfl (binR_gtr)) ?_
           refine wa_tk 11 rfl rfl rfl (st_selT [true, true, true, true, true, true] h) (fun w_ hS => ov_pick_false _ rfl rfl) ?_
           refine wa_done (by kernel_rfl) ?_
           refine qn_then ?_
           refine wc_cond (by rfl) (fun c41 => ?_) (fun c41 => ?_)
           ·
            exfalso
            first | omega | (simp at c41; done) | (simp only [List.length_map] at *; omega)
           ·
            refine wc_skip ?_
            refine qn_block_normal ?_
            refine qn_then ?_
            refine wc_region ?_
            refine wl_v rfl rfl (ov_move _ rfl) ?_
            refine wl_v rfl rfl (ov_bin _ rfl rfl (binR_add (r := (((i : Nat) : Int)) + 1) (Sx.w64 (by omega)))) ?_
            refine wl_v rfl rfl (ov_assign _ rfl) ?_
            refine wl_nil ?_
            replace h := st_front 1 h
            replace h := st_front 5 h
            replace h := st_front 5 h
            replace h := st_front 3 h
            replace h := st_selT [true, true, true, true, false, false] h
            refine qn_next ((i + 1), As37, cs37, Ls37, ((if (getM (RMl L) ((((script).getD (i : Nat) z69)).f1)).2.isSome then H + 1 else H)), ((if (getM (RMl L) ((((script).getD (i : Nat) z69)).f1)).2.isSome then Ms else Ms + 1))) (by show script.length - (i + 1) < script.length - i; omega) ⟨rfl, (congrArg (fun z_ => some (Value.slice (some ad6) z_ (cs))) (show (script.length : Nat) = script.length by first | rfl | simp)), rfl, rfl, rfl, (congrArg (fun z_ => some (Value.int .i64 z_)) (show ((((i : Nat) : Int)) + 1 : Int) = (((i + 1) : Nat) : Int) by omega)), trivial⟩ ?_
            show (playV room script (i + 1) = (RMl Ls37, ((if (getM (RMl L) ((((script).getD (i : Nat) z69)).f1)).2.isSome then H + 1 else H)), ((if (getM (RMl L) ((((script).getD (i : Nat) z69)).f1)).2.isSome then Ms else Ms + 1))) ∧ ((i + 1) ≤ script.length ∧ (i + 1) ≤ 60) ∧ (∀ x : RH, x ∈ Ls37 → k50.C v0 x.A x.key.f1.length x.key.f1 ∧ SmallK x.key)) ∧ _
            refine ⟨⟨?_, by omega, ?_⟩, h⟩
            · rw [playV_succ (by omega), hJ.1]
              unfold stepV
              rw [if_pos hfit_, if_neg c16, if_pos c23, hqs37]
            · exact fun x_ hx_ => hJ.2.2 x_ (hus37 x_ hx_)
      ·
       refine wc_seq ?_
       refine wc_region ?_
       refine wl_v rfl rfl (ov_bin _ rfl rfl (binR_eql)) ?_
       refine wl_v rfl rfl (ov_assign _ rfl) ?_
       refine wl_nil ?_
       refine qn_then ?_
       refine wc_cond (by rfl) (fun c42 => ?_) (fun c42 => ?_)
       ·
        refine wc_seq ?_
        refine wc_region ?_
        refine wl_v rfl rfl (ov_move _ rfl) ?_
        replace h := st_front 1 h
        refine wl_call _ rfl rfl rfl ent28 (CCI.Clear_calls (R := [Sx.blk b14 [.int .i64 ((((script).getD (i : Nat) z69)).f0), .string (((((script).getD (i : Nat) z69)).f1).f0), .slice (A10) ((((((script).getD (i : Nat) z69)).f1).f1).length) (cp11), .int .i64 (((((script).getD (i : Nat) z69)).f1).f2), .int .i64 (((((script).getD (i : Nat) z69)).f1).f3), .int .i64 ((((((script).getD (i : Nat) z69)).f1).f4).f0), .int .i64 ((((((script).getD (i : Nat) z69)).f1).f4).f1), .int .i64 ((((((script).getD (i : Nat) z69)).f1).f4).f2), .int .i64 ((((((script).getD (i : Nat) z69)).f1).f4).f3), .int .i64 ((((((script).getD (i : Nat) z69)).f1).f4).f4), .int .i64 ((((((script).getD (i : Nat) z69)).f1).f4).f5), .int .i64 ((((((script).getD (i : Nat) z69)).f1).f4).f6), .int .i64 ((((script).getD (i : Nat) z69)).f2)] 69, Sx.blk b2 [.int .i64 (room), .slice (A) (L.length) (c), .int .i64 (H), .int .i64 (Ms)] 58, Sx.blk b1 [.int .i64 (0), .slice (none) (0) (0), .int .i64 (0), .int .i64 (0)] 58, rlst (A) (L)] ++ R) gy3 (room) (H) (Ms) (RMl L) h) ?_
        rintro e_ w_ ⟨rfl, h⟩
        refine ⟨_, rfl, ?_⟩
        replace h := rlst_nil (st_selT [true, true, true, true, false] h)
        replace h : Sx.St w0 F0 ([rlst (none) ([]), cacheP 87 90 85 (Value.int .i64) gy3 (room) ([] : LM Int) (H) (Ms), Sx.blk b14 [.int .i64 ((((script).getD (i : Nat) z69)).f0), .string (((((script).getD (i : Nat) z69)).f1).f0), .slice (A10) ((((((script).getD (i : Nat) z69)).f1).f1).length) (cp11), .int .i64 (((((script).getD (i : Nat) z69)).f1).f2), .int .i64 (((((script).getD (i : Nat) z69)).f1).f3), .int .i64 ((((((script).getD (i : Nat) z69)).f1).f4).f0), .int .i64 ((((((script).getD (i : Nat) z69)).f1).f4).f1), .int .i64 ((((((script).getD (i : Nat) z69)).f1).f4).f2), .int .i64 ((((((script).getD (i : Nat) z69)).f1).f4).f3), .int .i64 ((((((script).getD (i : Nat) z69)).f1).f4).f4), .int .i64 ((((((script).getD (i : Nat) z69)).f1).f4).f5), .int .i64 ((((((script).getD (i : Nat) z69)).f1).f4).f6), .int .i64 ((((script).getD (i : Nat) z69)).f2)] 69, Sx.blk b2 [.int .i64 (room), .slice (A) (L.length) (c), .int .i64 (H), .int .i64 (Ms)] 58, Sx.blk b1 [.int .i64 (0), .slice (none) (0) (0), .int .i64 (0), .int .i64 (0)] 58] ++ R) _ := h
        replace h : Sx.St w0 F0 ([rlst (none) ([]), cacheP 87 90 85 (Value.int .i64) gy3 (room) (RMl []) (H) (Ms), Sx.blk b14 [.int .i64 ((((script).getD (i : Nat) z69)).f0), .string (((((script).getD (i : Nat) z69)).f1).f0), .slice (A10) ((((((script).getD (i : Nat) z69)).f1).f1).length) (cp11), .int .i64 (((((script).getD (i : Nat) z69)).f1).f2), .int .i64 (((((script).getD (i : Nat) z69)).f1).f3), .int .i64 ((((((script).getD (i : Nat) z69)).f1).f4).f0), .int .i64 ((((((script).getD (i : Nat) z69)).f1).f4).f1), .int .i64 ((((((script).getD (i : Nat) z69)).f1).f4).f2), .int .i64 ((((((script).getD (i : Nat) z69)).f1).f4).f3), .int .i64 ((((((script).getD (i : Nat) z69)).f1).f4).f4), .int .i64 ((((((script).getD (i : Nat) z69)).f1).f4).f5), .int .i64 ((((((script).getD (i : Nat) z69)).f1).f4).f6), .int .i64 ((((script).getD (i : Nat) z69)).f2)] 69, Sx.blk b2 [.int .i64 (room), .slice (A) (L.length) (c), .int .i64 (H), .int .i64 (Ms)] 58, Sx.blk b1 [.int .i64 (0), .slice (none) (0) (0), .int .i64 (0), .int .i64 (0)] 58] ++ R) _ := h
        refine wl_nil ?_
        refine qn_then ?_
        refine wc_region ?_
        refine wl_v rfl rfl (ov_fieldAddr _ ⟨b2, 1, none⟩ _ rfl fo58_1 rfl) ?_
        refine wl_storeb 3 _ [.int .i64 (room), .slice (none) (0) (0), .int .i64 (H), .int .i64 (Ms)] h rfl rfl rfl rfl rfl rfl sh56 rfl rfl (fun _ h => ?_)
        refine wl_nil ?_
        refine qn_block_normal ?_
        refine qn_then ?_
        refine wc_seq ?_
        refine wc_draw (fun w => Sx.St w0 F0 ([rlst (none) ([]), cacheP 87 90 85 (Value.int .i64) gy3 (room) (RMl []) (H) (Ms), Sx.blk b14 [.int .i64 ((((script).getD (i : Nat) z69)).f0), .string (((((script).getD (i : Nat) z69)).f1).f0), .slice (A10) ((((((script).getD (i : Nat) z69)).f1).f1).length) (cp11), .int .i64 (((((script).getD (i : Nat) z69)).f1).f2), .int .i64 (((((script).getD (i : Nat) z69)).f1).f3), .int .i64 ((((((script).getD (i : Nat) z69)).f1).f4).f0), .int .i64 ((((((script).getD (i : Nat) z69)).f1).f4).f1), .int .i64 ((((((script).getD (i : Nat) z69)).f1).f4).f2), .int .i64 ((((((script).getD (i : Nat) z69)).f1).f4).f3), .int .i64 ((((((script).getD (i : Nat) z69)).f1).f4).f4), .int .i64 ((((((script).getD (i : Nat) z69)).f1).f4).f5), .int .i64 ((((((script).getD (i : Nat) z69)).f1).f4).f6), .int .i64 ((((script).getD (i : Nat) z69)).f2)] 69, Sx.blk b2 [.int .i64 (room), .slice (none) (0) (0), .int .i64 (H), .int .i64 (Ms)] 58, Sx.blk b1 [.int .i64 (0), .slice (none) (0) (0), .int .i64 (0), .int .i64 (0)] 58] ++ R) w) (by kernel_rfl) ?_
        replace h := st_drew h
        refine wa_tk 0 rfl rfl rfl (st_selT [true, true, true, true, true] h) (fun w_ hS => ov_move _ rfl) ?_
        refine wa_tk 2 rfl rfl rfl (st_selT [true, true, true, true, true] h) (fun w_ hS => ov_fieldAddr _ ⟨b2, 1, none⟩ _ rfl fo58_1 rfl) ?_
        refine wa_tk 3 rfl rfl rfl (st_selT [true, true, true, true, true] h) (fun w_ hS => ov_loadb 3 _ hS rfl rfl sh56 rfl) ?_
        refine wa_tk 4 rfl rfl rfl (st_selT [true, true, true, true, true] h) (fun w_ hS => ov_len _ _ _ _ _ rfl es56) ?_
        refine wa_one 1 rfl (by kernel_rfl) ?_
        replace h := st_front 1 h
        refine wl_call _ rfl rfl rfl ent23 (CCI.Len_calls (R := [rlst (none) ([]), Sx.blk b14 [.int .i64 ((((script).getD (i : Nat) z69)).f0), .string (((((script).getD (i : Nat) z69)).f1).f0), .slice (A10) ((((((script).getD (i : Nat) z69)).f1).f1).length) (cp11), .int .i64 (((((script).getD (i : Nat) z69)).f1).f2), .int .i64 (((((script).getD (i : Nat) z69)).f1).f3), .int .i64 ((((((script).getD (i : Nat) z69)).f1).f4).f0), .int .i64 ((((((script).getD (i : Nat) z69)).f1).f4).f1), .int .i64 ((((((script).getD (i : Nat) z69)).f1).f4).f2), .int .i64 ((((((script).getD (i : Nat) z69)).f1).f4).f3), .int .i64 ((((((script).getD (i : Nat) z69)).f1).f4).f4), .int .i64 ((((((script).getD (i : Nat) z69)).f1).f4).f5), .int .i64 ((((((script).getD (i : Nat) z69)).f1).f4).f6), .int .i64 ((((script).getD (i : Nat) z69)).f2)] 69, Sx.blk b2 [.int .i64 (room), .slice (none) (0) (0), .int .i64 (H), .int .i64 (Ms)] 58, Sx.blk b1 [.int .i64 (0), .slice (none) (0) (0), .int .i64 (0), .int .i64 (0)] 58] ++ R) gy3 (room) (H) (Ms) (RMl []) h) ?_
        rintro e_ w_ ⟨rfl, h⟩
        refine ⟨_, rfl, ?_⟩
        refine wl_nil ?_
        refine qn_wa (st_selT [true, true, true, true, true] (st_front 4 (st_front 3 (st_front 4 (st_front 4 (st_front 4 h)))))) ?_
        refine wa_tk 5 rfl rfl rfl (st_selT [true, true, true, true, true] (st_front 4 (st_front 3 (st_front 4 (st_front 4 (st_front 4 h)))))) (fun w_ hS => ov_bin _ rfl rfl (binR_neq)) ?_
        refine wa_tk 6 rfl rfl rfl (st_selT [true, true, true, true, true] (st_front 4 (st_front 3 (st_front 4 (st_front 4 (st_front 4 h)))))) (fun w_ hS => ov_move _ rfl) ?_
        refine wa_split 104 rfl (fun c43 => ?_) (fun c43 => ?_)
        ·
         exfalso
         first | omega | (simp at c43; done) | (simp only [List.length_map] at *; omega)
        ·
         refine wa_tk 7 rfl rfl rfl (st_selT [true, true, true, true, true] (st_front 4 (st_front 3 (st_front 4 (st_front 4 (st_front 4 h)))))) (fun w_ hS => ov_move _ rfl) ?_
         refine wa_tk 9 rfl rfl rfl (st_selT [true, true, true, true, true] (st_front 4 (st_front 3 (st_front 4 (st_front 4 (st_front 4 h)))))) (fun w_ hS => ov_move _ rfl) ?_
         refine wa_one 8 rfl (by kernel_rfl) ?_
         refine wl_call _ rfl rfl rfl ent23 (CCI.Len_calls (R := [rlst (none) ([]), Sx.blk b14 [.int .i64 ((((script).getD (i : Nat) z69)).f0), .string (((((script).getD (i : Nat) z69)).f1).f0), .slice (A10) ((((((script).getD (i : Nat) z69)).f1).f1).length) (cp11), .int .i64 (((((script).getD (i : Nat) z69)).f1).f2), .int .i64 (((((script).getD (i : Nat) z69)).f1).f3), .int .i64 ((((((script).getD (i : Nat) z69)).f1).f4).f0), .int .i64 ((((((script).getD (i : Nat) z69)).f1).f4).f1), .int .i64 ((((((script).getD (i : Nat) z69)).f1).f4).f2), .int .i64 ((((((script).getD (i : Nat) z69)).f1).f4).f3), .int .i64 ((((((script).getD (i : Nat) z69)).f1).f4).f4), .int .i64 ((((((script).getD (i : Nat) z69)).f1).f4).f5), .int .i64 ((((((script).getD (i : Nat) z69)).f1).f4).f6), .int .i64 ((((script).getD (i : Nat) z69)).f2)] 69, Sx.blk b2 [.int .i64 (room), .slice (none) (0) (0), .int .i64 (H), .int .i64 (Ms)] 58, Sx.blk b1 [.int .i64 (0), .slice (none) (0) (0), .int .i64 (0), .int .i64 (0)] 58] ++ R) gy3 (room) (H) (Ms) (RMl []) h) ?_
         rintro e_ w_ ⟨rfl, h⟩
         refine ⟨_, rfl, ?_⟩
         refine wl_nil ?_
         refine qn_wa (st_selT [true, true, true, true, true] (st_front 4 (st_front 3 (st_front 4 (st_front 4 (st_front 4 h)))))) ?_
         refine wa_tk 10 rfl rfl rfl (st_selT [true, true, true, true, true] (st_front 4 (st_front 3 (st_front 4 (st_front 4 (st_front 4 h)))))) (fun w_ hS => ov_bin _ rfl rfl (binR_gtr)) ?_
         refine wa_tk 11 rfl rfl rfl (st_selT [true, true, true, true, true] (st_front 4 (st_front 3 (st_front 4 (st_front 4 (st_front 4 h)))))) (fun w_ hS => ov_pick_false _ rfl rfl) ?_
         refine wa_done (by kernel_rfl) ?_
         refine qn_then ?_
         refine wc_cond (by rfl) (fun c44 => ?_) (fun c44 => ?_)
         ·
          exfalso
          first | omega | (simp at c44; done) | (simp only [List.length_map] at *; omega)
         ·
          refine wc_skip ?_
          refine qn_block_normal ?_
          refine qn_then ?_
          refine wc_region ?_
          refine wl_v rfl rfl (ov_move _ rfl) ?_
          refine wl_v rfl rfl (ov_bin _ rfl rfl (binR_add (r := (((i : Nat) : Int)) + 1) (Sx.w64 (by omega)))) ?_
          refine wl_v rfl rfl (ov_assign _ rfl) ?_
          refine wl_nil ?_
          replace h := st_front 1 h
          replace h := st_front 4 h
          replace h := st_front 4 h
          replace h := st_front 3 h
          replace h := st_selT [true, true, true, true, false] h
          refine qn_next ((i + 1), none, 0, ([]), H, Ms) (by show script.length - (i + 1) < script.length - i; omega) ⟨rfl, (congrArg (fun z_ => some (Value.slice (some ad6) z_ (cs))) (show (script.length : Nat) = script.length by first | rfl | simp)), rfl, rfl, rfl, (congrArg (fun z_ => some (Value.int .i64 z_)) (show ((((i : Nat) : Int)) + 1 : Int) = (((i + 1) : Nat) : Int) by omega)), trivial⟩ ?_
          show (playV room script (i + 1) = (RMl ([]), H, Ms) ∧ ((i + 1) ≤ script.length ∧ (i + 1) ≤ 60) ∧ (∀ x : RH, x ∈ ([]) → k50.C v0 x.A x.key.f1.length x.key.f1 ∧ SmallK x.key)) ∧ _
          refine ⟨⟨?_, by omega, ?_⟩, h⟩
          · rw [playV_succ (by omega), hJ.1]
            unfold stepV
            rw [if_pos hfit_, if_neg c16, if_neg c23, if_pos c42]
            rfl
          · exact fun x_ hx_ => by cases hx_
       ·
        refine wc_skip ?_
        refine qn_block_normal ?_
        refine qn_then ?_
        refine wc_seq ?_
        refine wc_draw (fun w => Sx.St w0 F0 ([Sx.blk b14 [.int .i64 ((((script).getD (i : Nat) z69)).f0), .string (((((script).getD (i : Nat) z69)).f1).f0), .slice (A10) ((((((script).getD (i : Nat) z69)).f1).f1).length) (cp11), .int .i64 (((((script).getD (i : Nat) z69)).f1).f2), .int .i64 (((((script).getD (i : Nat) z69)).f1).f3), .int .i64 ((((((script).getD (i : Nat) z69)).f1).f4).f0), .int .i64 ((((((script).getD (i : Nat) z69)).f1).f4).f1), .int .i64 ((((((script).getD (i : Nat) z69)).f1).f4).f2), .int .i64 ((((((script).getD (i : Nat) z69)).f1).f4).f3), .int .i64 ((((((script).getD (i : Nat) z69)).f1).f4).f4), .int .i64 ((((((script).getD (i : Nat) z69)).f1).f4).f5), .int .i64 ((((((script).getD (i : Nat) z69)).f1).f4).f6), .int .i64 ((((script).getD (i : Nat) z69)).f2)] 69, cacheP 87 90 85 (Value.int .i64) gy3 (room) (RMl L) (H) (Ms), Sx.blk b2 [.int .i64 (room), .slice (A) (L.length) (c), .int .i64 (H), .int .i64 (Ms)] 58, Sx.blk b1 [.int .i64 (0), .slice (none) (0) (0), .int .i64 (0), .int .i64 (0)] 58, rlst (A) (L)] ++ R) w) (by kernel_rfl) ?_
        replace h := st_drew h
        refine wa_tk 0 rfl rfl rfl (st_selT [true, true, true, true, true] h) (fun w_ hS => ov_move _ rfl) ?_
        refine wa_tk 2 rfl rfl rfl (st_selT [true, true, true, true, true] h) (fun w_ hS => ov_fieldAddr _ ⟨b2, 1, none⟩ _ rfl fo58_1 rfl) ?_
        refine wa_tk 3 rfl rfl rfl (st_selT [true, true, true, true, true] h) (fun w_ hS => ov_loadb 2 _ hS rfl rfl sh56 rfl) ?_
        refine wa_tk 4 rfl rfl rfl (st_selT [true, true, true, true, true] h) (fun w_ hS => ov_len _ _ _ _ _ rfl es56) ?_
        refine wa_one 1 rfl (by kernel_rfl) ?_
        replace h := st_front 1 h
        refine wl_call _ rfl rfl rfl ent23 (CCI.Len_calls (R := [Sx.blk b14 [.int .i64 ((((script).getD (i : Nat) z69)).f0), .string (((((script).getD (i : Nat) z69)).f1).f0), .slice (A10) ((((((script).getD (i : Nat) z69)).f1).f1).length) (cp11), .int .i64 (((((script).getD (i : Nat) z69)).f1).f2), .int .i64 (((((script).getD (i : Nat) z69)).f1).f3), .int .i64 ((((((script).getD (i : Nat) z69)).f1).f4).f0), .int .i64 ((((((script).getD (i : Nat) z69)).f1).f4).f1), .int .i64 ((((((script).getD (i : Nat) z69)).f1).f4).f2), .int .i64 ((((((script).getD (i : Nat) z69)).f1).f4).f3), .int .i64 ((((((script).getD (i : Nat) z69)).f1).f4).f4), .int .i64 ((((((script).getD (i : Nat) z69)).f1).f4).f5), .int .i64 ((((((script).getD (i : Nat) z69)).f1).f4).f6), .int .i64 ((((script).getD (i : Nat) z69)).f2)] 69, Sx.blk b2 [.int .i64 (room), .slice (A) (L.length) (c), .int .i64 (H), .int .i64 (Ms)] 58, Sx.blk b1 [.int .i64 (0), .slice (none) (0) (0), .int .i64 (0), .int .i64 (0)] 58, rlst (A) (L)] ++ R) gy3 (room) (H) (Ms) (RMl L) h) ?_
        rintro e_ w_ ⟨rfl, h⟩
        refine ⟨_, rfl, ?_⟩
        refine wl_nil ?_
        refine qn_wa (st_selT [true, true, true, true, true] (st_front 4 (st_front 3 (st_front 4 (st_front 4 (st_front 4 h)))))) ?_
        refine wa_tk 5 rfl rfl rfl (st_selT [true, true, true, true, true] (st_front 4 (st_front 3 (st_front 4 (st_front 4 (st_front 4 h)))))) (fun w_ hS => ov_bin _ rfl rfl (binR_neq)) ?_
        refine wa_tk 6 rfl rfl rfl (st_selT [true, true, true, true, true] (st_front 4 (st_front 3 (st_front 4 (st_front 4 (st_front 4 h)))))) (fun w_ hS => ov_move _ rfl) ?_
        refine wa_split 104 rfl (fun c45 => ?_) (fun c45 => ?_)
        ·
         exfalso
         first | omega | (simp at c45; done) | (simp only [List.length_map] at *; omega)
        ·
         refine wa_tk 7 rfl rfl rfl (st_selT [true, true, true, true, true] (st_front 4 (st_front 3 (st_front 4 (st_front 4 (st_front 4 h)))))) (fun w_ hS => ov_move _ rfl) ?_
         refine wa_tk 9 rfl rfl rfl (st_selT [true, true, true, true, true] (st_front 4 (st_front 3 (st_front 4 (st_front 4 (st_front 4 h)))))) (fun w_ hS => ov_move _ rfl) ?_
         refine wa_one 8 rfl (by kernel_rfl) ?_
         refine wl_call _ rfl rfl rfl ent23 (CCI.Len_calls (R := [Sx.blk b14 [.int .i64 ((((script).getD (i : Nat) z69)).f0), .string (((((script).getD (i : Nat) z69)).f1).f0), .slice (A10) ((((((script).getD (i : Nat) z69)).f1).f1).length) (cp11), .int .i64 (((((script).getD (i : Nat) z69)).f1).f2), .int .i64 (((((script).getD (i : Nat) z69)).f1).f3), .int .i64 ((((((script).getD (i : Nat) z69)).f1).f4).f0), .int .i64 ((((((script).getD (i : Nat) z69)).f1).f4).f1), .int .i64 ((((((script).getD (i : Nat) z69)).f1).f4).f2), .int .i64 ((((((script).getD (i : Nat) z69)).f1).f4).f3), .int .i64 ((((((script).getD (i : Nat) z69)).f1).f4).f4), .int .i64 ((((((script).getD (i : Nat) z69)).f1).f4).f5), .int .i64 ((((((script).getD (i : Nat) z69)).f1).f4).f6), .int .i64 ((((script).getD (i : Nat) z69)).f2)] 69, Sx.blk b2 [.int .i64 (room), .slice (A) (L.length) (c), .int .i64 (H), .int .i64 (Ms)] 58, Sx.blk b1 [.int .i64 (0), .slice (none) (0) (0), .int .i64 (0), .int .i64 (0)] 58, rlst (A) (L)] ++ R) gy3 (room) (H) (Ms) (RMl L) h) ?_
         rintro e_ w_ ⟨rfl, h⟩
         refine ⟨_, rfl, ?_⟩
         refine wl_nil ?_
         refine qn_wa (st_selT [true, true, true, true, true] (st_front 4 (st_front 3 (st_front 4 (st_front 4 (st_front 4 h)))))) ?_
         refine wa_tk 10 rfl rfl rfl (st_selT [true, true, true, true, true] (st_front 4 (st_front 3 (st_front 4 (st_front 4 (st_front 4 h)))))) (fun w_ hS => ov_bin _ rfl rfl (binR_gtr)) ?_
         refine wa_tk 11 rfl rfl rfl (st_selT [true, true, true, true, true] (st_front 4 (st_front 3 (st_front 4 (st_front 4 (st_front 4 h)))))) (fun w_ hS => ov_pick_false _ rfl rfl) ?_
         refine wa_done (by kernel_rfl) ?_
         refine qn_then ?_
         refine wc_cond (by rfl) (fun c46 => ?_) (fun c46 => ?_)
         ·
          exfalso
          first | omega | (simp at c46; done) | (simp only [List.length_map] at *; omega)
         ·
          refine wc_skip ?_
          refine qn_block_normal ?_
          refine qn_then ?_
          refine wc_region ?_
          refine wl_v rfl rfl (ov_move _ rfl) ?_
          refine wl_v rfl rfl (ov_bin _ rfl rfl (binR_add (r := (((i : Nat) : Int)) + 1) (Sx.w64 (by omega)))) ?_
          refine wl_v rfl rfl (ov_assign _ rfl) ?_
          refine wl_nil ?_
          replace h := st_front 4 h
          replace h := st_front 4 h
          replace h := st_front 4 h
          replace h := st_front 3 h
          replace h := st_selT [true, true, true, true, false] h
          refine qn_next ((i + 1), A, c, L, H, Ms) (by show script.length - (i + 1) < script.length - i; omega) ⟨rfl, (congrArg (fun z_ => some (Value.slice (some ad6) z_ (cs))) (show (script.length : Nat) = script.length by first | rfl | simp)), rfl, rfl, rfl, (congrArg (fun z_ => some (Value.int .i64 z_)) (show ((((i : Nat) : Int)) + 1 : Int) = (((i + 1) : Nat) : Int) by omega)), trivial⟩ ?_
          show (playV room script (i + 1) = (RMl L, H, Ms) ∧ ((i + 1) ≤ script.length ∧ (i + 1) ≤ 60) ∧ (∀ x : RH, x ∈ L → k50.C v0 x.A x.key.f1.length x.key.f1 ∧ SmallK x.key)) ∧ _
          refine ⟨⟨?_, by omega, ?_⟩, h⟩
          · rw [playV_succ (by omega), hJ.1]
            unfold stepV
            rw [if_pos hfit_, if_neg c16, if_neg c23, if_neg c42]
          · exact hJ.2.2
   ·
    refine wc_exit ?_
    refine qn_then_exit ?_
    refine qn_then_exit ?_
    refine qn_block_exit ?_
    refine qn_then ?_
    refine wc_seq ?_
    refine wc_draw (fun w => Sx.St w0 F0 ([cacheP 87 90 85 (Value.int .i64) gy3 (room) (RMl L) (H) (Ms), Sx.blk b2 [.int .i64 (room), .slice (A) (L.length) (c), .int .i64 (H), .int .i64 (Ms)] 58, rlst (A) (L)] ++ R) w) (by kernel_rfl) ?_
    replace h := st_drew h
    refine wa_tk 0 rfl rfl rfl (st_selT [true, true, false, true] h) (fun w_ hS => ov_move _ rfl) ?_
    refine wa_tk 1 rfl rfl rfl (st_selT [true, true, false, true] h) (fun w_ hS => ov_loadbN 1 [.int .i64 (room), .slice (A) (L.length) (c), .int .i64 (H), .int .i64 (Ms)] hS rfl rfl sh58 rfl) ?_
    refine wa_tk 2 rfl rfl rfl (st_selT [true, true, false, true] h) (fun w_ hS => ov_assign _ rfl) ?_
    refine wa_one 3 rfl (by kernel_rfl) ?_
    refine wl_storebN 2 [.int .i64 (room), .slice (A) (L.length) (c), .int .i64 (H), .int .i64 (Ms)] [.int .i64 (room), .slice (A) (L.length) (c), .int .i64 (H), .int .i64 (Ms)] h rfl rfl rfl rfl (by simp [Value.oneCell']) sh58 rfl rfl (fun _ h => ?_)
    refine wl_nil ?_
    refine qn_wa (st_selT [true, true, false, true] h) ?_
    refine wa_done (by kernel_rfl) ?_
    refine qn_then ?_
    refine wc_ret ?_
    have hend_ := h
    refine qn_ret [_, _] ⟨rfl, ⟨_, rfl, Sx.loadVarN (vs := [.int .i64 (room), .slice (A) (L.length) (c), .int .i64 (H), .int .i64 (Ms)]) sh58 (Sx.blk_cells (cells := [.int .i64 (room), .slice (A) (L.length) (c), .int .i64 (H), .int .i64 (Ms)]) hend_ (i := 2) rfl 0 _ rfl)⟩, trivial⟩ ?_
    replace h := st_front 3 h
    replace h := st_front 1 h
    replace h := st_selT [true, true, false, false] h
    exact ⟨gy3, A, c, L, H, Ms, rfl, by rw [show min script.length 60 = i by omega]; exact hJ.1, hJ.2.2, h⟩
  ·
   refine wl_skip rfl rfl ?_
   refine wl_skip rfl rfl ?_
   refine wl_v rfl rfl (ov_pick_false _ rfl rfl) ?_
   refine wl_nil ?_
   refine qn_then ?_
   refine wc_cond_false rfl ?_
   refine wc_exit ?_
   refine qn_then_exit ?_
   refine qn_then_exit ?_
   refine qn_block_exit ?_
   refine qn_then ?_
   refine wc_seq ?_
   refine wc_draw (fun w => Sx.St w0 F0 ([cacheP 87 90 85 (Value.int .i64) gy3 (room) (RMl L) (H) (Ms), Sx.blk b2 [.int .i64 (room), .slice (A) (L.length) (c), .int .i64 (H), .int .i64 (Ms)] 58, rlst (A) (L)] ++ R) w) (by kernel_rfl) ?_
   replace h := st_drew h
   refine wa_tk 0 rfl rfl rfl (st_selT [true, true, false, true] h) (fun w_ hS => ov_move _ rfl) ?_
   refine wa_tk 1 rfl rfl rfl (st_selT [true, true, false, true] h) (fun w_ hS => ov_loadbN 1 [.int .i64 (room), .slice (A) (L.length) (c), .int .i64 (H), .int .i64 (Ms)] hS rfl rfl sh58 rfl) ?_
   refine wa_tk 2 rfl rfl rfl (st_selT [true, true, false, true] h) (fun w_ hS => ov_assign _ rfl) ?_
   refine wa_one 3 rfl (by kernel_rfl) ?_
   refine wl_storebN 2 [.int .i64 (room), .slice (A) (L.length) (c), .int .i64 (H), .int .i64 (Ms)] [.int .i64 (room), .slice (A) (L.length) (c), .int .i64 (H), .int .i64 (Ms)] h rfl rfl rfl rfl (by simp [Value.oneCell']) sh58 rfl rfl (fun _ h => ?_)
   refine wl_nil ?_
   refine qn_wa (st_selT [true, true, false, true] h) ?_
   refine wa_done (by kernel_rfl) ?_
   refine qn_then ?_
   refine wc_ret ?_
   have hend_ := h
   refine qn_ret [_, _] ⟨rfl, ⟨_, rfl, Sx.loadVarN (vs := [.int .i64 (room), .slice (A) (L.length) (c), .int .i64 (H), .int .i64 (Ms)]) sh58 (Sx.blk_cells (cells := [.int .i64 (room), .slice (A) (L.length) (c), .int .i64 (H), .int .i64 (Ms)]) hend_ (i := 2) rfl 0 _ rfl)⟩, trivial⟩ ?_
   replace h := st_front 3 h
   replace h := st_front 1 h
   replace h := st_selT [true, true, false, false] h
   exact ⟨gy3, A, c, L, H, Ms, rfl, by rw [show min script.length 60 = i by omega]; exact hJ.1, hJ.2.2, h⟩
end Go.Proofs.Ytmlkajmlhmfdgaa.PL
