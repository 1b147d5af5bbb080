/- Pruned by wip/prune.py. -/
import Derived.Test.YtmlkajmlhmfdgaaProg
import Derived.Test.YtmlkajmlhmfdgaaQSxGlue
import Derived.Test.YtmlkajmlhmfdgaaQSxArr
import Derived.Test.YtmlkajmlhmfdgaaQSxKinds
import Derived.Test.YtmlkajmlhmfdgaaQRunsTh
import Derived.Test.YtmlkajmlhmfdgaaQSxRunsR
import Derived.Test.YtmlkajmlhmfdgaaQCaP
import Derived.Test.YtmlkajmlhmfdgaaQCaRef
import Derived.Test.YtmlkajmlhmfdgaaQSxCKey
import Derived.Test.YtmlkajmlhmfdgaaQSxRowI
import Derived.Test.YtmlkajmlhmfdgaaQSxCaI
import Derived.Test.YtmlkajmlhmfdgaaQSxKeys
import Derived.Test.YtmlkajmlhmfdgaaQSxRefs
import Derived.Test.YtmlkajmlhmfdgaaQCaAwk
import Derived.Test.YtmlkajmlhmfdgaaQSxPlayed
namespace Go.Proofs.Ytmlkajmlhmfdgaa.AW
open Go Go.RowKit Go.Proofs.YtmlkajmlhmfdgaaW.PrintWords Go.Proofs.Ytmlkajmlhmfdgaa.Kinds Go.Proofs.Ytmlkajmlhmfdgaa.Runs Go.Proofs.Ytmlkajmlhmfdgaa.RW Go.Proofs.Ytmlkajmlhmfdgaa.Ca Go.Proofs.Ytmlkajmlhmfdgaa.Sx Go.Proofs.Ytmlkajmlhmfdgaa.RI Go.Proofs.Ytmlkajmlhmfdgaa.CCI 
set_option linter.unusedVariables false
set_option linter.unusedSimpArgs false
theorem zo33 : Sx.zeroOf Try.prog 33 = some (.agg #[.string (ByteArray.empty), .slice (none) (0) (0), .int .i64 (0), .int .i64 (0), .int .i64 (0), .int .i64 (0), .int .i64 (0), .int .i64 (0), .int .i64 (0), .int .i64 (0), .int .i64 (0)]) := by kernel_rfl
theorem sh33 : Sx.shapeOf Try.prog 33 = some (true, 11) := by kernel_rfl
theorem infb69 : (Try.prog.info? 69).map (fun i => (i.zero, i.size)) = some (some (.agg #[.int .i64 (0), .string (ByteArray.empty), .slice (none) (0) (0), .int .i64 (0), .int .i64 (0), .int .i64 (0), .int .i64 (0), .int .i64 (0), .int .i64 (0), .int .i64 (0), .int .i64 (0), .int .i64 (0), .int .i64 (0)]), 13) := by kernel_rfl
theorem ent24 : Sx.Ent Try.prog 24 := ⟨Try.f24, Try.func24, by kernel_rfl, by kernel_rfl⟩
theorem zo58 : Sx.zeroOf Try.prog 58 = some (.agg #[.int .i64 (0), .slice (none) (0) (0), .int .i64 (0), .int .i64 (0)]) := by kernel_rfl
theorem sh58 : Sx.shapeOf Try.prog 58 = some (true, 4) := by kernel_rfl
theorem fo58_1 : Sx.fieldOff Try.prog 58 1 = some 1 := by kernel_rfl
theorem sh56 : Sx.shapeOf Try.prog 56 = some (false, 1) := by kernel_rfl
theorem es56 : Sx.elemSz Try.prog 56 = some (65, 12) := by kernel_rfl
theorem ent27 : Sx.Ent Try.prog 27 := ⟨Try.f27, Try.func27, by kernel_rfl, by kernel_rfl⟩
theorem ent25 : Sx.Ent Try.prog 25 := ⟨Try.f25, Try.func25, by kernel_rfl, by kernel_rfl⟩
theorem es44 : Sx.elemSz Try.prog 44 = some (33, 11) := by kernel_rfl
theorem fo33_0 : Sx.fieldOff Try.prog 33 0 = some 0 := by kernel_rfl
theorem sh9 : Sx.shapeOf Try.prog 9 = some (false, 1) := by kernel_rfl
theorem played_fresh {w0 w : World} {F0 : Nat → Prop} {R : List Sx.HP} (room : Int) (SL : List OH) (As : Option Addr) (cs : Nat) (hr : 0 ≤ room ∧ room ≤ 64) (hS : ∀ x ∈ SL, x.A = none ∧ x.c = 0 ∧ x.op.f1.f1 = []) (h : Sx.St w0 F0 ([Sx.row kOH 69 As cs SL] ++ R) w) :
    Calls Try.prog 24 #[.int .i64 room, .slice As SL.length cs] w (fun e w1 => ∃ (g : Nat) (A : Option Addr) (c : Nat) (L : List RH) (H Ms : Int), e = .returned (.tuple #[.pointer (some ⟨g, 0, none⟩), .agg #[.int .i64 room, .slice A L.length c, .int .i64 H, .int .i64 Ms]]) ∧ playV room (SL.map OH.op) (min (SL.map OH.op).length 60) = (RMl L, H, Ms) ∧ Sx.St w0 F0 ([cacheP 87 90 85 (Value.int .i64) g room (RMl L) H Ms, rlst A L] ++ (Sx.row kOH 69 As cs SL :: R)) w1) := by
  obtain ⟨hl, hC⟩ := Sx.row_reads h (i := 0) rfl
  have hC2 := oh_C hC hS
  have e : SL.length = (SL.map OH.op).length := (List.length_map _).symm
  replace hC2 : k69.C w As (SL.map OH.op).length (SL.map OH.op) := e ▸ hC2
  rw [e]
  refine (PL.played_calls (R := []) room (SL.map OH.op) As cs (Sx.ro_self w) hr (e ▸ hl) hC2 (st_start w)).mono ?_
  rintro e w1 ⟨g, A, c, L, H, Ms, rfl, h1, _, h2⟩
  exact ⟨g, A, c, L, H, Ms, rfl, h1, st_glue h h2⟩
set_option maxHeartbeats 400000 in
set_option maxRecDepth 100000 in
theorem awake_calls {w0 w : World} {F0 : Nat → Prop} {R : List Sx.HP}   (h : Sx.St w0 F0 ([] ++ R) w) : Calls Try.prog 9 #[] w (fun e w1 => e = .returned (.bool true) ∧ Sx.St w0 F0 R w1) := by
 refine Sx.calls_fn (vs := []) Try.func9 rfl Try.ntmps9 rfl ?_
 refine wc_seq ?_
 refine wc_region ?_
 refine wl_v rfl rfl (ov_assign _ rfl) ?_
 refine wl_nil ?_
 refine qn_then ?_
 refine wc_seq ?_
 refine wc_region ?_
 refine wl_v rfl rfl (ov_build [(0, .string (ByteArray.mk #[97]))] [.string (ByteArray.mk #[97]), .slice (none) (0) (0), .int .i64 (0), .int .i64 (0), .int .i64 (0), .int .i64 (0), .int .i64 (0), .int .i64 (0), .int .i64 (0), .int .i64 (0), .int .i64 (0)] rfl rfl (by kernel_rfl)) ?_
 refine wl_v rfl rfl (ov_build [(0, .string (ByteArray.mk #[98]))] [.string (ByteArray.mk #[98]), .slice (none) (0) (0), .int .i64 (0), .int .i64 (0), .int .i64 (0), .int .i64 (0), .int .i64 (0), .int .i64 (0), .int .i64 (0), .int .i64 (0), .int .i64 (0)] rfl rfl (by kernel_rfl)) ?_
 refine wl_v rfl rfl (ov_build [(0, .string (ByteArray.mk #[99]))] [.string (ByteArray.mk #[99]), .slice (none) (0) (0), .int .i64 (0), .int .i64 (0), .int .i64 (0), .int .i64 (0), .int .i64 (0), .int .i64 (0), .int .i64 (0), .int .i64 (0), .int .i64 (0)] rfl rfl (by kernel_rfl)) ?_
 refine wl_alloc _ h rfl rfl zo33 (fun b1 _ h => ?_)
 replace h : Sx.St _ _ (Sx.blk b1 [.string (ByteArray.empty), .slice (none) (0) (0), .int .i64 (0), .int .i64 (0), .int .i64 (0), .int .i64 (0), .int .i64 (0), .int .i64 (0), .int .i64 (0), .int .i64 (0), .int .i64 (0)] 33 :: _) _ := h
 refine wl_alloc _ h rfl rfl zo33 (fun b2 _ h => ?_)
 replace h : Sx.St _ _ (Sx.blk b2 [.string (ByteArray.empty), .slice (none) (0) (0), .int .i64 (0), .int .i64 (0), .int .i64 (0), .int .i64 (0), .int .i64 (0), .int .i64 (0), .int .i64 (0), .int .i64 (0), .int .i64 (0)] 33 :: _) _ := h
 refine wl_alloc _ h rfl rfl zo33 (fun b3 _ h => ?_)
 replace h : Sx.St _ _ (Sx.blk b3 [.string (ByteArray.empty), .slice (none) (0) (0), .int .i64 (0), .int .i64 (0), .int .i64 (0), .int .i64 (0), .int .i64 (0), .int .i64 (0), .int .i64 (0), .int .i64 (0), .int .i64 (0)] 33 :: _) _ := h
 refine wl_storebN 2 [.string (ByteArray.mk #[97]), .slice (none) (0) (0), .int .i64 (0), .int .i64 (0), .int .i64 (0), .int .i64 (0), .int .i64 (0), .int .i64 (0), .int .i64 (0), .int .i64 (0), .int .i64 (0)] [.string (ByteArray.mk #[97]), .slice (none) (0) (0), .int .i64 (0), .int .i64 (0), .int .i64 (0), .int .i64 (0), .int .i64 (0), .int .i64 (0), .int .i64 (0), .int .i64 (0), .int .i64 (0)] h rfl rfl rfl rfl (by simp [Value.oneCell']) sh33 rfl rfl (fun _ h => ?_)
 refine wl_storebN 1 [.string (ByteArray.mk #[98]), .slice (none) (0) (0), .int .i64 (0), .int .i64 (0), .int .i64 (0), .int .i64 (0), .int .i64 (0), .int .i64 (0), .int .i64 (0), .int .i64 (0), .int .i64 (0)] [.string (ByteArray.mk #[98]), .slice (none) (0) (0), .int .i64 (0), .int .i64 (0), .int .i64 (0), .int .i64 (0), .int .i64 (0), .int .i64 (0), .int .i64 (0), .int .i64 (0), .int .i64 (0)] h rfl rfl rfl rfl (by simp [Value.oneCell']) sh33 rfl rfl (fun _ h => ?_)
 refine wl_storebN 0 [.string (ByteArray.mk #[99]), .slice (none) (0) (0), .int .i64 (0), .int .i64 (0), .int .i64 (0), .int .i64 (0), .int .i64 (0), .int .i64 (0), .int .i64 (0), .int .i64 (0), .int .i64 (0)] [.string (ByteArray.mk #[99]), .slice (none) (0) (0), .int .i64 (0), .int .i64 (0), .int .i64 (0), .int .i64 (0), .int .i64 (0), .int .i64 (0), .int .i64 (0), .int .i64 (0), .int .i64 (0)] h rfl rfl rfl rfl (by simp [Value.oneCell']) sh33 rfl rfl (fun _ h => ?_)
 refine wl_nil ?_
 refine qn_then ?_
 refine wc_seq ?_
 refine wc_region ?_
 refine wl_v rfl rfl (ov_loadbN 2 [.string (ByteArray.mk #[97]), .slice (none) (0) (0), .int .i64 (0), .int .i64 (0), .int .i64 (0), .int .i64 (0), .int .i64 (0), .int .i64 (0), .int .i64 (0), .int .i64 (0), .int .i64 (0)] h rfl rfl sh33 rfl) ?_
 refine wl_v rfl rfl (ov_build [(1, .agg #[.string (ByteArray.mk #[97]), .slice (none) (0) (0), .int .i64 (0), .int .i64 (0), .int .i64 (0), .int .i64 (0), .int .i64 (0), .int .i64 (0), .int .i64 (0), .int .i64 (0), .int .i64 (0)]), (2, .int .i64 (1))] [.int .i64 (0), .string (ByteArray.mk #[97]), .slice (none) (0) (0), .int .i64 (0), .int .i64 (0), .int .i64 (0), .int .i64 (0), .int .i64 (0), .int .i64 (0), .int .i64 (0), .int .i64 (0), .int .i64 (0), .int .i64 (1)] rfl rfl (by kernel_rfl)) ?_
 refine wl_v rfl rfl (ov_loadbN 1 [.string (ByteArray.mk #[98]), .slice (none) (0) (0), .int .i64 (0), .int .i64 (0), .int .i64 (0), .int .i64 (0), .int .i64 (0), .int .i64 (0), .int .i64 (0), .int .i64 (0), .int .i64 (0)] h rfl rfl sh33 rfl) ?_
 refine wl_v rfl rfl (ov_build [(1, .agg #[.string (ByteArray.mk #[98]), .slice (none) (0) (0), .int .i64 (0), .int .i64 (0), .int .i64 (0), .int .i64 (0), .int .i64 (0), .int .i64 (0), .int .i64 (0), .int .i64 (0), .int .i64 (0)]), (2, .int .i64 (2))] [.int .i64 (0), .string (ByteArray.mk #[98]), .slice (none) (0) (0), .int .i64 (0), .int .i64 (0), .int .i64 (0), .int .i64 (0), .int .i64 (0), .int .i64 (0), .int .i64 (0), .int .i64 (0), .int .i64 (0), .int .i64 (2)] rfl rfl (by kernel_rfl)) ?_
 refine wl_v rfl rfl (ov_loadbN 2 [.string (ByteArray.mk #[97]), .slice (none) (0) (0), .int .i64 (0), .int .i64 (0), .int .i64 (0), .int .i64 (0), .int .i64 (0), .int .i64 (0), .int .i64 (0), .int .i64 (0), .int .i64 (0)] h rfl rfl sh33 rfl) ?_
 refine wl_v rfl rfl (ov_build [(0, .int .i64 (1)), (1, .agg #[.string (ByteArray.mk #[97]), .slice (none) (0) (0), .int .i64 (0), .int .i64 (0), .int .i64 (0), .int .i64 (0), .int .i64 (0), .int .i64 (0), .int .i64 (0), .int .i64 (0), .int .i64 (0)])] [.int .i64 (1), .string (ByteArray.mk #[97]), .slice (none) (0) (0), .int .i64 (0), .int .i64 (0), .int .i64 (0), .int .i64 (0), .int .i64 (0), .int .i64 (0), .int .i64 (0), .int .i64 (0), .int .i64 (0), .int .i64 (0)] rfl rfl (by kernel_rfl)) ?_
 refine wl_v rfl rfl (ov_loadbN 0 [.string (ByteArray.mk #[99]), .slice (none) (0) (0), .int .i64 (0), .int .i64 (0), .int .i64 (0), .int .i64 (0), .int .i64 (0), .int .i64 (0), .int .i64 (0), .int .i64 (0), .int .i64 (0)] h rfl rfl sh33 rfl) ?_
 refine wl_v rfl rfl (ov_build [(1, .agg #[.string (ByteArray.mk #[99]), .slice (none) (0) (0), .int .i64 (0), .int .i64 (0), .int .i64 (0), .int .i64 (0), .int .i64 (0), .int .i64 (0), .int .i64 (0), .int .i64 (0), .int .i64 (0)]), (2, .int .i64 (3))] [.int .i64 (0), .string (ByteArray.mk #[99]), .slice (none) (0) (0), .int .i64 (0), .int .i64 (0), .int .i64 (0), .int .i64 (0), .int .i64 (0), .int .i64 (0), .int .i64 (0), .int .i64 (0), .int .i64 (0), .int .i64 (3)] rfl rfl (by kernel_rfl)) ?_
 refine wl_lit (d := kOH) [(0, .agg #[.int .i64 (0), .string (ByteArray.mk #[97]), .slice (none) (0) (0), .int .i64 (0), .int .i64 (0), .int .i64 (0), .int .i64 (0), .int .i64 (0), .int .i64 (0), .int .i64 (0), .int .i64 (0), .int .i64 (0), .int .i64 (1)]), (1, .agg #[.int .i64 (0), .string (ByteArray.mk #[98]), .slice (none) (0) (0), .int .i64 (0), .int .i64 (0), .int .i64 (0), .int .i64 (0), .int .i64 (0), .int .i64 (0), .int .i64 (0), .int .i64 (0), .int .i64 (0), .int .i64 (2)]), (2, .agg #[.int .i64 (1), .string (ByteArray.mk #[97]), .slice (none) (0) (0), .int .i64 (0), .int .i64 (0), .int .i64 (0), .int .i64 (0), .int .i64 (0), .int .i64 (0), .int .i64 (0), .int .i64 (0), .int .i64 (0), .int .i64 (0)]), (3, .agg #[.int .i64 (0), .string (ByteArray.mk #[99]), .slice (none) (0) (0), .int .i64 (0), .int .i64 (0), .int .i64 (0), .int .i64 (0), .int .i64 (0), .int .i64 (0), .int .i64 (0), .int .i64 (0), .int .i64 (0), .int .i64 (3)])] _ [.int .i64 (0), .string (ByteArray.mk #[97]), .slice (none) (0) (0), .int .i64 (0), .int .i64 (0), .int .i64 (0), .int .i64 (0), .int .i64 (0), .int .i64 (0), .int .i64 (0), .int .i64 (0), .int .i64 (0), .int .i64 (1), .int .i64 (0), .string (ByteArray.mk #[98]), .slice (none) (0) (0), .int .i64 (0), .int .i64 (0), .int .i64 (0), .int .i64 (0), .int .i64 (0), .int .i64 (0), .int .i64 (0), .int .i64 (0), .int .i64 (0), .int .i64 (2), .int .i64 (1), .string (ByteArray.mk #[97]), .slice (none) (0) (0), .int .i64 (0), .int .i64 (0), .int .i64 (0), .int .i64 (0), .int .i64 (0), .int .i64 (0), .int .i64 (0), .int .i64 (0), .int .i64 (0), .int .i64 (0), .int .i64 (0), .string (ByteArray.mk #[99]), .slice (none) (0) (0), .int .i64 (0), .int .i64 (0), .int .i64 (0), .int .i64 (0), .int .i64 (0), .int .i64 (0), .int .i64 (0), .int .i64 (0), .int .i64 (0), .int .i64 (3)] ([(⟨⟨0, ⟨ByteArray.mk #[97], [], 0, 0, ⟨0, 0, 0, 0, 0, 0, 0⟩⟩, 1⟩, none, 0⟩ : OH), (⟨⟨0, ⟨ByteArray.mk #[98], [], 0, 0, ⟨0, 0, 0, 0, 0, 0, 0⟩⟩, 2⟩, none, 0⟩ : OH), (⟨⟨1, ⟨ByteArray.mk #[97], [], 0, 0, ⟨0, 0, 0, 0, 0, 0, 0⟩⟩, 0⟩, none, 0⟩ : OH), (⟨⟨0, ⟨ByteArray.mk #[99], [], 0, 0, ⟨0, 0, 0, 0, 0, 0, 0⟩⟩, 3⟩, none, 0⟩ : OH)]) h rfl rfl rfl rfl Try.underlying55 infb69 rfl (by decide) (by kernel_rfl) rfl (fun _ _ _ => (((((Reps.none _ _).snoc (kOH_mkM _ _ _ ((⟨⟨0, ⟨ByteArray.mk #[97], [], 0, 0, ⟨0, 0, 0, 0, 0, 0, 0⟩⟩, 1⟩, none, 0⟩ : OH))) rfl).snoc (kOH_mkM _ _ _ ((⟨⟨0, ⟨ByteArray.mk #[98], [], 0, 0, ⟨0, 0, 0, 0, 0, 0, 0⟩⟩, 2⟩, none, 0⟩ : OH))) rfl).snoc (kOH_mkM _ _ _ ((⟨⟨1, ⟨ByteArray.mk #[97], [], 0, 0, ⟨0, 0, 0, 0, 0, 0, 0⟩⟩, 0⟩, none, 0⟩ : OH))) rfl).snoc (kOH_mkM _ _ _ ((⟨⟨0, ⟨ByteArray.mk #[99], [], 0, 0, ⟨0, 0, 0, 0, 0, 0, 0⟩⟩, 3⟩, none, 0⟩ : OH))) rfl)) (fun A4 cp5 _ h => ?_)
 refine wl_call _ rfl rfl rfl ent24 (AW.played_fresh (R := [Sx.blk b3 [.string (ByteArray.mk #[99]), .slice (none) (0) (0), .int .i64 (0), .int .i64 (0), .int .i64 (0), .int .i64 (0), .int .i64 (0), .int .i64 (0), .int .i64 (0), .int .i64 (0), .int .i64 (0)] 33, Sx.blk b2 [.string (ByteArray.mk #[98]), .slice (none) (0) (0), .int .i64 (0), .int .i64 (0), .int .i64 (0), .int .i64 (0), .int .i64 (0), .int .i64 (0), .int .i64 (0), .int .i64 (0), .int .i64 (0)] 33, Sx.blk b1 [.string (ByteArray.mk #[97]), .slice (none) (0) (0), .int .i64 (0), .int .i64 (0), .int .i64 (0), .int .i64 (0), .int .i64 (0), .int .i64 (0), .int .i64 (0), .int .i64 (0), .int .i64 (0)] 33] ++ R) 2 ([(⟨⟨0, ⟨ByteArray.mk #[97], [], 0, 0, ⟨0, 0, 0, 0, 0, 0, 0⟩⟩, 1⟩, none, 0⟩ : OH), (⟨⟨0, ⟨ByteArray.mk #[98], [], 0, 0, ⟨0, 0, 0, 0, 0, 0, 0⟩⟩, 2⟩, none, 0⟩ : OH), (⟨⟨1, ⟨ByteArray.mk #[97], [], 0, 0, ⟨0, 0, 0, 0, 0, 0, 0⟩⟩, 0⟩, none, 0⟩ : OH), (⟨⟨0, ⟨ByteArray.mk #[99], [], 0, 0, ⟨0, 0, 0, 0, 0, 0, 0⟩⟩, 3⟩, none, 0⟩ : OH)]) (A4) (cp5) (by omega) (by intro x_ hx_; simp only [List.mem_cons, List.not_mem_nil, or_false] at hx_; rcases hx_ with rfl | rfl | rfl | rfl <;> exact ⟨rfl, rfl, rfl⟩) h) ?_
 rintro e_ w_ ⟨gp6, Ap6, cp6, Lp6, Hp6, Mp6, rfl, hpp6, h⟩
 refine ⟨_, rfl, ?_⟩
 have hrlp6 : (RMl Lp6).length = Lp6.length := List.length_map _
 replace h : Sx.St w0 F0 ([cacheP 87 90 85 (Value.int .i64) gp6 (2) (RMl Lp6) (Hp6) (Mp6), rlst (Ap6) (Lp6), Sx.row kOH 69 (A4) (cp5) ([(⟨⟨0, ⟨ByteArray.mk #[97], [], 0, 0, ⟨0, 0, 0, 0, 0, 0, 0⟩⟩, 1⟩, none, 0⟩ : OH), (⟨⟨0, ⟨ByteArray.mk #[98], [], 0, 0, ⟨0, 0, 0, 0, 0, 0, 0⟩⟩, 2⟩, none, 0⟩ : OH), (⟨⟨1, ⟨ByteArray.mk #[97], [], 0, 0, ⟨0, 0, 0, 0, 0, 0, 0⟩⟩, 0⟩, none, 0⟩ : OH), (⟨⟨0, ⟨ByteArray.mk #[99], [], 0, 0, ⟨0, 0, 0, 0, 0, 0, 0⟩⟩, 3⟩, none, 0⟩ : OH)]), Sx.blk b3 [.string (ByteArray.mk #[99]), .slice (none) (0) (0), .int .i64 (0), .int .i64 (0), .int .i64 (0), .int .i64 (0), .int .i64 (0), .int .i64 (0), .int .i64 (0), .int .i64 (0), .int .i64 (0)] 33, Sx.blk b2 [.string (ByteArray.mk #[98]), .slice (none) (0) (0), .int .i64 (0), .int .i64 (0), .int .i64 (0), .int .i64 (0), .int .i64 (0), .int .i64 (0), .int .i64 (0), .int .i64 (0), .int .i64 (0)] 33, Sx.blk b1 [.string (ByteArray.mk #[97]), .slice (none) (0) (0), .int .i64 (0), .int .i64 (0), .int .i64 (0), .int .i64 (0), .int .i64 (0), .int .i64 (0), .int .i64 (0), .int .i64 (0), .int .i64 (0)] 33] ++ R) _ := h
 have hx_ : (RMl Lp6, Hp6, Mp6) = ([(kt 99, 3), (kt 97, 1)], 1, 0) := hpp6.symm.trans ex_play
 injection hx_ with hx_ _
 have hxl_ : Lp6.length = 2 := by have q_ := congrArg List.length hx_; simpa using q_
 refine wl_v rfl rfl (ov_move _ rfl) ?_
 refine wl_v rfl rfl (ov_extract [.pointer (some ⟨gp6, 0, none⟩), .agg #[.int .i64 (2), .slice (Ap6) (Lp6.length) (cp6), .int .i64 (Hp6), .int .i64 (Mp6)]] _ rfl rfl) ?_
 refine wl_v rfl rfl (ov_extract [.pointer (some ⟨gp6, 0, none⟩), .agg #[.int .i64 (2), .slice (Ap6) (Lp6.length) (cp6), .int .i64 (Hp6), .int .i64 (Mp6)]] _ rfl rfl) ?_
 refine wl_alloc _ h rfl rfl zo58 (fun b7 _ h => ?_)
 replace h : Sx.St _ _ (Sx.blk b7 [.int .i64 (0), .slice (none) (0) (0), .int .i64 (0), .int .i64 (0)] 58 :: _) _ := h
 refine wl_v rfl rfl (ov_assign _ rfl) ?_
 refine wl_storebN 0 [.int .i64 (2), .slice (Ap6) (Lp6.length) (cp6), .int .i64 (Hp6), .int .i64 (Mp6)] [.int .i64 (2), .slice (Ap6) (Lp6.length) (cp6), .int .i64 (Hp6), .int .i64 (Mp6)] h rfl rfl rfl rfl (by simp [Value.oneCell']) sh58 rfl rfl (fun _ h => ?_)
 refine wl_nil ?_
 refine qn_then ?_
 refine wc_seq ?_
 refine wc_seq ?_
 refine wc_region ?_
 refine wl_v rfl rfl (ov_move _ rfl) ?_
 refine wl_v rfl rfl (ov_bin (.bool false) rfl rfl (binR_eqnil Try.underlying45)) ?_
 refine wl_v rfl rfl (ov_move _ rfl) ?_
 refine wl_v rfl rfl (ov_fieldAddr _ ⟨b7, 1, none⟩ _ rfl fo58_1 rfl) ?_
 refine wl_v rfl rfl (ov_loadb 0 _ h rfl rfl sh56 rfl) ?_
 refine wl_v rfl rfl (ov_len _ _ _ _ _ rfl es56) ?_
 refine wl_v rfl rfl (ov_bin _ rfl rfl (binR_neq)) ?_
 refine wl_v rfl rfl (ov_pick_false _ rfl rfl) ?_
 refine wl_v rfl rfl (ov_move _ rfl) ?_
 refine wl_split 31 rfl (fun c8 => ?_) (fun c8 => ?_)
 ·
  exfalso
  omega
 ·
  refine wl_v rfl rfl (ov_move _ rfl) ?_
  replace h := st_front 1 h
  refine wl_call _ rfl rfl rfl ent27 (CCI.Room_calls (R := [Sx.blk b7 [.int .i64 (2), .slice (Ap6) (Lp6.length) (cp6), .int .i64 (Hp6), .int .i64 (Mp6)] 58, rlst (Ap6) (Lp6), Sx.row kOH 69 (A4) (cp5) ([(⟨⟨0, ⟨ByteArray.mk #[97], [], 0, 0, ⟨0, 0, 0, 0, 0, 0, 0⟩⟩, 1⟩, none, 0⟩ : OH), (⟨⟨0, ⟨ByteArray.mk #[98], [], 0, 0, ⟨0, 0, 0, 0, 0, 0, 0⟩⟩, 2⟩, none, 0⟩ : OH), (⟨⟨1, ⟨ByteArray.mk #[97], [], 0, 0, ⟨0, 0, 0, 0, 0, 0, 0⟩⟩, 0⟩, none, 0⟩ : OH), (⟨⟨0, ⟨ByteArray.mk #[99], [], 0, 0, ⟨0, 0, 0, 0, 0, 0, 0⟩⟩, 3⟩, none, 0⟩ : OH)]), Sx.blk b3 [.string (ByteArray.mk #[99]), .slice (none) (0) (0), .int .i64 (0), .int .i64 (0), .int .i64 (0), .int .i64 (0), .int .i64 (0), .int .i64 (0), .int .i64 (0), .int .i64 (0), .int .i64 (0)] 33, Sx.blk b2 [.string (ByteArray.mk #[98]), .slice (none) (0) (0), .int .i64 (0), .int .i64 (0), .int .i64 (0), .int .i64 (0), .int .i64 (0), .int .i64 (0), .int .i64 (0), .int .i64 (0), .int .i64 (0)] 33, Sx.blk b1 [.string (ByteArray.mk #[97]), .slice (none) (0) (0), .int .i64 (0), .int .i64 (0), .int .i64 (0), .int .i64 (0), .int .i64 (0), .int .i64 (0), .int .i64 (0), .int .i64 (0), .int .i64 (0)] 33] ++ R) gp6 (2) (Hp6) (Mp6) (RMl Lp6) h) ?_
  rintro e_ w_ ⟨rfl, h⟩
  refine ⟨_, rfl, ?_⟩
  refine wl_v rfl rfl (ov_bin (.bool false) rfl rfl (binR_neq)) ?_
  refine wl_v rfl rfl (ov_pick_false _ rfl rfl) ?_
  refine wl_nil ?_
  refine qn_then ?_
  refine wc_cond_false rfl ?_
  refine wc_skip ?_
  refine qn_then ?_
  refine wc_seq ?_
  refine wc_region ?_
  refine wl_v rfl rfl (ov_move _ rfl) ?_
  refine wl_call _ rfl rfl rfl ent25 (KY.Keys_calls (R := [Sx.blk b7 [.int .i64 (2), .slice (Ap6) (Lp6.length) (cp6), .int .i64 (Hp6), .int .i64 (Mp6)] 58, rlst (Ap6) (Lp6), Sx.row kOH 69 (A4) (cp5) ([(⟨⟨0, ⟨ByteArray.mk #[97], [], 0, 0, ⟨0, 0, 0, 0, 0, 0, 0⟩⟩, 1⟩, none, 0⟩ : OH), (⟨⟨0, ⟨ByteArray.mk #[98], [], 0, 0, ⟨0, 0, 0, 0, 0, 0, 0⟩⟩, 2⟩, none, 0⟩ : OH), (⟨⟨1, ⟨ByteArray.mk #[97], [], 0, 0, ⟨0, 0, 0, 0, 0, 0, 0⟩⟩, 0⟩, none, 0⟩ : OH), (⟨⟨0, ⟨ByteArray.mk #[99], [], 0, 0, ⟨0, 0, 0, 0, 0, 0, 0⟩⟩, 3⟩, none, 0⟩ : OH)]), Sx.blk b3 [.string (ByteArray.mk #[99]), .slice (none) (0) (0), .int .i64 (0), .int .i64 (0), .int .i64 (0), .int .i64 (0), .int .i64 (0), .int .i64 (0), .int .i64 (0), .int .i64 (0), .int .i64 (0)] 33, Sx.blk b2 [.string (ByteArray.mk #[98]), .slice (none) (0) (0), .int .i64 (0), .int .i64 (0), .int .i64 (0), .int .i64 (0), .int .i64 (0), .int .i64 (0), .int .i64 (0), .int .i64 (0), .int .i64 (0)] 33, Sx.blk b1 [.string (ByteArray.mk #[97]), .slice (none) (0) (0), .int .i64 (0), .int .i64 (0), .int .i64 (0), .int .i64 (0), .int .i64 (0), .int .i64 (0), .int .i64 (0), .int .i64 (0), .int .i64 (0)] 33] ++ R) gp6 (2) (Hp6) (Mp6) (RMl Lp6) (by omega) h) ?_
  rintro e_ w_ ⟨Ay9, cy9, Ky9, Hy9, rfl, hky9, hmy9, h⟩
  refine ⟨_, rfl, ?_⟩
  replace h : Sx.St w0 F0 ([Sx.row kKH 33 (Ay9) (cy9) (Ky9), rlib (Hy9), cacheP 87 90 85 (Value.int .i64) gp6 (2) (RMl Lp6) (Hp6) (Mp6), Sx.blk b7 [.int .i64 (2), .slice (Ap6) (Lp6.length) (cp6), .int .i64 (Hp6), .int .i64 (Mp6)] 58, rlst (Ap6) (Lp6), Sx.row kOH 69 (A4) (cp5) ([(⟨⟨0, ⟨ByteArray.mk #[97], [], 0, 0, ⟨0, 0, 0, 0, 0, 0, 0⟩⟩, 1⟩, none, 0⟩ : OH), (⟨⟨0, ⟨ByteArray.mk #[98], [], 0, 0, ⟨0, 0, 0, 0, 0, 0, 0⟩⟩, 2⟩, none, 0⟩ : OH), (⟨⟨1, ⟨ByteArray.mk #[97], [], 0, 0, ⟨0, 0, 0, 0, 0, 0, 0⟩⟩, 0⟩, none, 0⟩ : OH), (⟨⟨0, ⟨ByteArray.mk #[99], [], 0, 0, ⟨0, 0, 0, 0, 0, 0, 0⟩⟩, 3⟩, none, 0⟩ : OH)]), Sx.blk b3 [.string (ByteArray.mk #[99]), .slice (none) (0) (0), .int .i64 (0), .int .i64 (0), .int .i64 (0), .int .i64 (0), .int .i64 (0), .int .i64 (0), .int .i64 (0), .int .i64 (0), .int .i64 (0)] 33, Sx.blk b2 [.string (ByteArray.mk #[98]), .slice (none) (0) (0), .int .i64 (0), .int .i64 (0), .int .i64 (0), .int .i64 (0), .int .i64 (0), .int .i64 (0), .int .i64 (0), .int .i64 (0), .int .i64 (0)] 33, Sx.blk b1 [.string (ByteArray.mk #[97]), .slice (none) (0) (0), .int .i64 (0), .int .i64 (0), .int .i64 (0), .int .i64 (0), .int .i64 (0), .int .i64 (0), .int .i64 (0), .int .i64 (0), .int .i64 (0)] 33] ++ R) _ := h
  have hkly9 : Ky9.length = (RMl Lp6).length := by have z_ := congrArg List.length hky9; simpa using z_
  rw [hx_] at hky9
  have hkl2_ : Ky9.length = 2 := by have q_ := congrArg List.length hky9; simpa using q_
  have hk0_ : (Ky9.getD 0 zKH).key = kt 99 := by rw [getD_key (by omega), hky9]; rfl
  have hk1_ : (Ky9.getD 1 zKH).key = kt 97 := by rw [getD_key (by omega), hky9]; rfl
  refine wl_v rfl rfl (ov_assign _ rfl) ?_
  refine wl_nil ?_
  refine qn_then ?_
  refine wc_seq ?_
  refine wc_region ?_
  refine wl_v rfl rfl (ov_move _ rfl) ?_
  refine wl_v rfl rfl (ov_len _ _ _ _ _ rfl es44) ?_
  refine wl_v rfl rfl (ov_bin _ rfl rfl (binR_eql)) ?_
  refine wl_v rfl rfl (ov_move _ rfl) ?_
  refine wl_split 41 rfl (fun c10 => ?_) (fun c10 => ?_)
  ·
   refine wl_v rfl rfl (ov_move _ rfl) ?_
   obtain ⟨ad11, rfl⟩ := Sx.C_some ((Sx.row_reads h (i := 0) rfl).2) (k := 0) (by first | assumption | omega | (simp only [List.length_set, List.length_append, List.length_cons, List.length_nil]; omega))
   refine wl_v rfl rfl (ov_indexAddrN _ _ _ _ _ 0 rfl rfl es44 rfl (by first | assumption | omega | (simp only [List.length_take, List.length_drop, List.length_set, List.length_append, List.length_cons, List.length_nil]; omega))) ?_
   refine wl_v rfl rfl (ov_fieldAddr _ ((ad11).add (0 * 11 + 0)) _ rfl fo33_0 (by first | exact Deep.add_add _ _ _ | (rw [Deep.add_add]) | rfl)) ?_
   obtain ⟨cl14, _, hk13, hc12⟩ := Sx.C_cells ((Sx.row_reads h (i := 0) rfl).2) (z := zKH) (k := 0) (by first | assumption | omega | (simp only [List.length_set, List.length_append, List.length_cons, List.length_nil]; omega))
   obtain rfl := kKH_open hk13
   refine wl_v rfl rfl (ov_load1 _ _ rfl sh9 ((hc12 0 _ rfl))) ?_
   refine wl_v rfl rfl (ov_bin _ rfl rfl (binR_eqs)) ?_
   refine wl_v rfl rfl (ov_pick_true _ rfl rfl) ?_
   refine wl_v rfl rfl (ov_move _ rfl) ?_
   refine wl_split 48 rfl (fun c15 => ?_) (fun c15 => ?_)
   ·
    refine wl_v rfl rfl (ov_move _ rfl) ?_
    refine wl_v rfl rfl (ov_indexAddrN _ _ _ _ _ 1 rfl rfl es44 rfl (by first | assumption | omega | (simp only [List.length_take, List.length_drop, List.length_set, List.length_append, List.length_cons, List.length_nil]; omega))) ?_
    refine wl_v rfl rfl (ov_fieldAddr _ ((ad11).add (1 * 11 + 0)) _ rfl fo33_0 (by first | exact Deep.add_add _ _ _ | (rw [Deep.add_add]) | rfl)) ?_
    obtain ⟨cl18, _, hk17, hc16⟩ := Sx.C_cells ((Sx.row_reads h (i := 0) rfl).2) (z := zKH) (k := 1) (by first | assumption | omega | (simp only [List.length_set, List.length_append, List.length_cons, List.length_nil]; omega))
    obtain rfl := kKH_open hk17
    refine wl_v rfl rfl (ov_load1 _ _ rfl sh9 ((hc16 0 _ rfl))) ?_
    refine wl_v rfl rfl (ov_bin _ rfl rfl (binR_eqs)) ?_
    refine wl_v rfl rfl (ov_pick_true _ rfl rfl) ?_
    refine wl_v rfl rfl (ov_assign _ rfl) ?_
    refine wl_nil ?_
    refine qn_then ?_
    refine wc_ret ?_
    replace h := st_selT [false, false, false, false, false, false, false, false, false] h
    refine qn_ret [_] ⟨rfl, trivial⟩ ?_
    have b_ : (decide (((((Ky9).getD 1 zKH).key).f0) = (ByteArray.mk #[97]))) = true := by
      apply decide_eq_true
      first | omega | (rw [hk0_]; rfl) | (rw [hk1_]; rfl)
    exact ⟨congrArg (fun z => Ending.returned (Value.bool z)) b_, h⟩
   ·
    refine wl_skip rfl rfl ?_
    refine wl_skip rfl rfl ?_
    refine wl_skip rfl rfl ?_
    refine wl_skip rfl rfl ?_
    refine wl_skip rfl rfl ?_
    refine wl_v rfl rfl (ov_pick_false _ rfl rfl) ?_
    refine wl_v rfl rfl (ov_assign _ rfl) ?_
    refine wl_nil ?_
    refine qn_then ?_
    refine wc_ret ?_
    replace h := st_selT [false, false, false, false, false, false, false, false, false] h
    refine qn_ret [_] ⟨rfl, trivial⟩ ?_
    exfalso
    first | omega | exact c15 (by rw [hk0_]; rfl) | exact c15 (by rw [hk1_]; rfl)
  ·
   exfalso
   omega
end Go.Proofs.Ytmlkajmlhmfdgaa.AW
