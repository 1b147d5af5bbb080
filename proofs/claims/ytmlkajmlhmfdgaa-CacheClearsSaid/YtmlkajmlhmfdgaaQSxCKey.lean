/- Pruned by wip/prune.py. -/
import Derived.Test.YtmlkajmlhmfdgaaProg
import Derived.Test.YtmlkajmlhmfdgaaQSxGlue
import Derived.Test.YtmlkajmlhmfdgaaQSxArr
import Derived.Test.YtmlkajmlhmfdgaaQSxKinds
import Derived.Test.YtmlkajmlhmfdgaaQRunsTh
import Derived.Test.YtmlkajmlhmfdgaaQSxRunsR
import Derived.Test.YtmlkajmlhmfdgaaQCaP
import Derived.Test.YtmlkajmlhmfdgaaQCaRef
namespace Go.Proofs.Ytmlkajmlhmfdgaa.CK
open Go Go.RowKit Go.Proofs.YtmlkajmlhmfdgaaW.PrintWords Go.Proofs.Ytmlkajmlhmfdgaa.Kinds Go.Proofs.Ytmlkajmlhmfdgaa.Runs Go.Proofs.Ytmlkajmlhmfdgaa.RW Go.Proofs.Ytmlkajmlhmfdgaa.Ca Go.Proofs.Ytmlkajmlhmfdgaa.Sx 
set_option linter.unusedVariables false
set_option linter.unusedSimpArgs false
theorem sh81 : Sx.shapeOf Try.prog 81 = some (false, 1) := by kernel_rfl
theorem zo81 : Sx.zeroOf Try.prog 81 = some (.int .u64 (0)) := by kernel_rfl
theorem fo33_0 : Sx.fieldOff Try.prog 33 0 = some 0 := by kernel_rfl
theorem sh9 : Sx.shapeOf Try.prog 9 = some (false, 1) := by kernel_rfl
theorem ent36 : Sx.Ent Try.prog 36 := ⟨Try.f36, Try.func36, by kernel_rfl, by kernel_rfl⟩
theorem fo33_1 : Sx.fieldOff Try.prog 33 1 = some 1 := by kernel_rfl
theorem sh29 : Sx.shapeOf Try.prog 29 = some (false, 1) := by kernel_rfl
theorem es29 : Sx.elemSz Try.prog 29 = some (50, 2) := by kernel_rfl
theorem sh50 : Sx.shapeOf Try.prog 50 = some (true, 2) := by kernel_rfl
theorem zo50 : Sx.zeroOf Try.prog 50 = some (.agg #[.int .i64 (0), .int .i64 (0)]) := by kernel_rfl
theorem fo50_0 : Sx.fieldOff Try.prog 50 0 = some 0 := by kernel_rfl
theorem sh3 : Sx.shapeOf Try.prog 3 = some (false, 1) := by kernel_rfl
theorem fo50_1 : Sx.fieldOff Try.prog 50 1 = some 1 := by kernel_rfl
theorem fo33_2 : Sx.fieldOff Try.prog 33 2 = some 2 := by kernel_rfl
theorem fo33_3 : Sx.fieldOff Try.prog 33 3 = some 3 := by kernel_rfl
theorem fo33_4 : Sx.fieldOff Try.prog 33 4 = some 4 := by kernel_rfl
theorem fo31_0 : Sx.fieldOff Try.prog 31 0 = some 0 := by kernel_rfl
theorem fo31_1 : Sx.fieldOff Try.prog 31 1 = some 1 := by kernel_rfl
theorem fo31_2 : Sx.fieldOff Try.prog 31 2 = some 2 := by kernel_rfl
theorem fo31_3 : Sx.fieldOff Try.prog 31 3 = some 3 := by kernel_rfl
theorem fo31_4 : Sx.fieldOff Try.prog 31 4 = some 4 := by kernel_rfl
theorem fo31_5 : Sx.fieldOff Try.prog 31 5 = some 5 := by kernel_rfl
theorem fo31_6 : Sx.fieldOff Try.prog 31 6 = some 6 := by kernel_rfl
theorem infb3 : (Try.prog.info? 3).map (fun i => (i.zero, i.size)) = some (some (.int .i64 (0)), 1) := by kernel_rfl
theorem es83 : Sx.elemSz Try.prog 83 = some (3, 1) := by kernel_rfl
theorem sh31 : Sx.shapeOf Try.prog 31 = some (true, 7) := by kernel_rfl
theorem eqs31 : (Try.prog.stoodInHeld 31 || Try.prog.eqGuardType Try.prog.depth 31) = false := by kernel_rfl
theorem eqf31 : Try.prog.underlying 31 = some (.struct (Try.prog.fieldsOf 31)) := by kernel_rfl
theorem ent33 : Sx.Ent Try.prog 33 := ⟨Try.f33, Try.func33, by kernel_rfl, by kernel_rfl⟩
theorem fo40_0 : Sx.fieldOff Try.prog 40 0 = some 0 := by kernel_rfl
theorem fo40_2 : Sx.fieldOff Try.prog 40 2 = some 2 := by kernel_rfl
theorem fo40_3 : Sx.fieldOff Try.prog 40 3 = some 3 := by kernel_rfl
theorem fo40_4 : Sx.fieldOff Try.prog 40 4 = some 4 := by kernel_rfl
theorem fo40_1 : Sx.fieldOff Try.prog 40 1 = some 1 := by kernel_rfl
theorem ent35 : Sx.Ent Try.prog 35 := ⟨Try.f35, Try.func35, by kernel_rfl, by kernel_rfl⟩
theorem ent34 : Sx.Ent Try.prog 34 := ⟨Try.f34, Try.func34, by kernel_rfl, by kernel_rfl⟩
theorem zo40 : Sx.zeroOf Try.prog 40 = some (.agg #[.string (ByteArray.empty), .slice (none) (0) (0), .int .i64 (0), .int .i64 (0), .int .i64 (0), .int .i64 (0), .int .i64 (0), .int .i64 (0), .int .i64 (0), .int .i64 (0), .int .i64 (0)]) := by kernel_rfl
theorem sh40 : Sx.shapeOf Try.prog 40 = some (true, 11) := by kernel_rfl
theorem set_eq {x y : S31} : ((x.f0 : Int) = y.f0 ∧ (x.f1 : Int) = y.f1 ∧ (x.f2 : Int) = y.f2 ∧ (x.f3 : Int) = y.f3 ∧ (x.f4 : Int) = y.f4 ∧ (x.f5 : Int) = y.f5 ∧ (x.f6 : Int) = y.f6) ↔ x = y := by
  cases x; cases y; simp
set_option maxHeartbeats 400000 in
set_option maxRecDepth 100000 in
theorem add_calls {w0 w : World} {F0 : Nat → Prop} {R : List Sx.HP} (g : Nat) (m n : Int)  (h : Sx.St w0 F0 ([Sx.blk g [.int .u64 (m)] 81] ++ R) w) : Calls Try.prog 36 #[.pointer (some ⟨g, 0, none⟩), .int .i64 (n)] w (fun e w1 => e = .returned (.tuple #[]) ∧ Sx.St w0 F0 ([Sx.blk g [.int .u64 (mixA m n)] 81] ++ R) w1) := by
 refine Sx.calls_fn (vs := [.pointer (some ⟨g, 0, none⟩), .int .i64 (n)]) Try.func36 rfl Try.ntmps36 rfl ?_
 refine wc_seq ?_
 refine wc_region ?_
 refine wl_v rfl rfl (ov_move _ rfl) ?_
 refine wl_v rfl rfl (ov_nilCheck _ rfl) ?_
 refine wl_v rfl rfl (ov_loadb 0 _ h rfl rfl sh81 rfl) ?_
 refine wl_v rfl rfl (ov_move _ rfl) ?_
 refine wl_v rfl rfl (ov_convint (IntKind.wrap .u64 (n)) rfl Try.underlying3 Try.underlying42 rfl) ?_
 refine wl_v rfl rfl (ov_bin _ rfl rfl (binR_xor rfl)) ?_
 refine wl_v rfl rfl (ov_assign _ rfl) ?_
 refine wl_nil ?_
 refine qn_then ?_
 refine wc_seq ?_
 refine wc_region ?_
 refine wl_v rfl rfl (ov_move _ rfl) ?_
 refine wl_v rfl rfl (ov_bin _ rfl rfl (binR_mul (r := (IntKind.wrap .u64 (((Go.bits .xor .u64 m ((IntKind.wrap .u64 n)))) * 11400714819323198485))) rfl)) ?_
 refine wl_v rfl rfl (ov_assign _ rfl) ?_
 refine wl_nil ?_
 refine qn_then ?_
 refine wc_region ?_
 refine wl_v rfl rfl (ov_move _ rfl) ?_
 refine wl_v rfl rfl (ov_move _ rfl) ?_
 refine wl_v rfl rfl (ov_move _ rfl) ?_
 refine wl_v rfl rfl (ov_bin _ rfl rfl (binR_shr (r := ((IntKind.wrap .u64 (((Go.bits .xor .u64 m ((IntKind.wrap .u64 n)))) * 11400714819323198485))) / 536870912) (by decide) (by decide) rfl)) ?_
 refine wl_v rfl rfl (ov_bin _ rfl rfl (binR_xor rfl)) ?_
 refine wl_v rfl rfl (ov_nilCheck _ rfl) ?_
 refine wl_storeb 0 _ [.int .u64 ((Go.bits .xor .u64 ((IntKind.wrap .u64 (((Go.bits .xor .u64 m ((IntKind.wrap .u64 n)))) * 11400714819323198485))) (((IntKind.wrap .u64 (((Go.bits .xor .u64 m ((IntKind.wrap .u64 n)))) * 11400714819323198485))) / 536870912)))] h rfl rfl rfl rfl rfl rfl sh81 rfl rfl (fun _ h => ?_)
 refine wl_nil ?_
 refine qn_end [] trivial ?_
 exact ⟨rfl, h⟩
set_option maxHeartbeats 400000 in
set_option maxRecDepth 100000 in
theorem Hash_calls {w0 w : World} {F0 : Nat → Prop} {R : List Sx.HP} (k : KV) (A : Option Addr) (c : Nat) (hs : SmallK k) (hz : k.f0.size ≤ 4611686018427387904) (hr : ∀ cs w, Sx.St w0 F0 (cs ++ R) w → k50.C w A (k).f1.length (k).f1) (h : Sx.St w0 F0 ([] ++ R) w) : Calls Try.prog 19 #[.agg #[.string ((k).f0), .slice (A) (((k).f1).length) (c), .int .i64 ((k).f2), .int .i64 ((k).f3), .int .i64 (((k).f4).f0), .int .i64 (((k).f4).f1), .int .i64 (((k).f4).f2), .int .i64 (((k).f4).f3), .int .i64 (((k).f4).f4), .int .i64 (((k).f4).f5), .int .i64 (((k).f4).f6)]] w (fun e w1 => e = .returned (.int .u64 (hashK k)) ∧ Sx.St w0 F0 R w1) := by
 have hsl_ := small_len hs
 refine Sx.calls_fn (vs := [.agg #[.string ((k).f0), .slice (A) (((k).f1).length) (c), .int .i64 ((k).f2), .int .i64 ((k).f3), .int .i64 (((k).f4).f0), .int .i64 (((k).f4).f1), .int .i64 (((k).f4).f2), .int .i64 (((k).f4).f3), .int .i64 (((k).f4).f4), .int .i64 (((k).f4).f5), .int .i64 (((k).f4).f6)]]) Try.func19 rfl Try.ntmps19 rfl ?_
 refine wc_seq ?_
 refine wc_region ?_
 refine wl_box _ h rfl rfl rfl (fun b1 _ h => ?_)
 replace h : Sx.St _ _ (Sx.blk b1 [.string ((k).f0), .slice (A) (((k).f1).length) (c), .int .i64 ((k).f2), .int .i64 ((k).f3), .int .i64 (((k).f4).f0), .int .i64 (((k).f4).f1), .int .i64 (((k).f4).f2), .int .i64 (((k).f4).f3), .int .i64 (((k).f4).f4), .int .i64 (((k).f4).f5), .int .i64 (((k).f4).f6)] 33 :: _) _ := h
 refine wl_v rfl rfl (ov_assign _ rfl) ?_
 refine wl_nil ?_
 refine qn_then ?_
 refine wc_seq ?_
 refine wc_region ?_
 refine wl_alloc _ h rfl rfl zo81 (fun b2 _ h => ?_)
 replace h : Sx.St _ _ (Sx.blk b2 [.int .u64 (0)] 81 :: _) _ := h
 refine wl_nil ?_
 refine qn_then ?_
 refine wc_seq ?_
 refine wc_seq ?_
 refine wc_region ?_
 refine wl_v rfl rfl (ov_fieldAddr _ ⟨b1, 0, none⟩ _ rfl fo33_0 rfl) ?_
 refine wl_v rfl rfl (ov_loadb 1 _ h rfl rfl sh9 rfl) ?_
 refine wl_v rfl rfl (ov_lens _ rfl Try.underlying9) ?_
 refine wl_v rfl rfl (ov_move _ rfl) ?_
 refine wl_nil ?_
 refine qn_then ?_
 refine wc_block ?_
 replace h := st_front 1 h
 replace h := st_front 1 h
 have e_ : (0 : Int) = bfold (k).f0 0 := rfl
 rw [e_] at h
 refine wc_loop (fun (x_ : Nat) => [(1, .pointer (some ⟨b1, 0, none⟩)), (3, .pointer (some ⟨b2, 0, none⟩)), (13, .int .i64 ((((k).f0.size : Nat) : Int))), (14, .int .i64 (((x_ : Nat) : Int)))]) (fun (x_ : Nat) (w : World) => (x_ ≤ (k).f0.size) ∧ Sx.St w0 F0 ([Sx.blk b2 [.int .u64 (bfold (k).f0 x_)] 81, Sx.blk b1 [.string ((k).f0), .slice (A) (((k).f1).length) (c), .int .i64 ((k).f2), .int .i64 ((k).f3), .int .i64 (((k).f4).f0), .int .i64 (((k).f4).f1), .int .i64 (((k).f4).f2), .int .i64 (((k).f4).f3), .int .i64 (((k).f4).f4), .int .i64 (((k).f4).f5), .int .i64 (((k).f4).f6)] 33] ++ R) w) (fun (x_ : Nat) => (k).f0.size - x_) (0) ?_ ?_ ?_
 · exact ⟨rfl, rfl, (congrArg (fun z_ => some (Value.int .i64 z_)) (show ((((k).f0).size : Int) : Int) = (((k).f0.size : Nat) : Int) by omega)), (congrArg (fun z_ => some (Value.int .i64 z_)) (show (0 : Int) = ((0 : Nat) : Int) by omega)), trivial⟩
 · exact ⟨by first | omega | simp, h⟩
 intro i w h
 obtain ⟨hJ, h⟩ := h
 replace hJ : i ≤ (k).f0.size := hJ
 replace h : Sx.St w0 F0 ([Sx.blk b2 [.int .u64 (bfold (k).f0 i)] 81, Sx.blk b1 [.string ((k).f0), .slice (A) (((k).f1).length) (c), .int .i64 ((k).f2), .int .i64 ((k).f3), .int .i64 (((k).f4).f0), .int .i64 (((k).f4).f1), .int .i64 (((k).f4).f2), .int .i64 (((k).f4).f3), .int .i64 (((k).f4).f4), .int .i64 (((k).f4).f5), .int .i64 (((k).f4).f6)] 33] ++ R) w := h
 show Sx.WC _ _ _ _ [(1, .pointer (some ⟨b1, 0, none⟩)), (3, .pointer (some ⟨b2, 0, none⟩)), (13, .int .i64 ((((k).f0.size : Nat) : Int))), (14, .int .i64 (((i : Nat) : Int)))] _
 have hbd_ := Sx.byteAt_bd (k).f0 i
 refine wc_seq ?_
 refine wc_region ?_
 refine wl_v rfl rfl (ov_bin _ rfl rfl (binR_lss)) ?_
 refine wl_nil ?_
 refine qn_then ?_
 refine wc_seq ?_
 refine wc_cond (by rfl) (fun c3 => ?_) (fun c3 => ?_)
 ·
  refine wc_skip ?_
  refine qn_then ?_
  refine wc_seq ?_
  refine wc_block ?_
  refine wc_seq ?_
  refine wc_region ?_
  refine wl_v rfl rfl (ov_move _ rfl) ?_
  refine wl_v rfl rfl (ov_assign _ rfl) ?_
  refine wl_nil ?_
  refine qn_then ?_
  refine wc_region ?_
  refine wl_v rfl rfl (ov_fieldAddr _ ⟨b1, 0, none⟩ _ rfl fo33_0 rfl) ?_
  refine wl_v rfl rfl (ov_loadb 1 _ h rfl rfl sh9 rfl) ?_
  refine wl_v rfl rfl (ov_move _ rfl) ?_
  refine wl_v rfl rfl (ov_indexs _ (i : Nat) rfl rfl Try.underlying9 rfl (by first | assumption | omega)) ?_
  refine wl_v rfl rfl (ov_convint (Sx.byteAt ((k).f0) (i : Nat)) rfl Try.underlying5 Try.underlying3 (Sx.w64 (by omega))) ?_
  refine wl_call _ rfl rfl rfl ent36 (CK.add_calls (R := [Sx.blk b1 [.string ((k).f0), .slice (A) (((k).f1).length) (c), .int .i64 ((k).f2), .int .i64 ((k).f3), .int .i64 (((k).f4).f0), .int .i64 (((k).f4).f1), .int .i64 (((k).f4).f2), .int .i64 (((k).f4).f3), .int .i64 (((k).f4).f4), .int .i64 (((k).f4).f5), .int .i64 (((k).f4).f6)] 33] ++ R) b2 (bfold (k).f0 i) (Sx.byteAt ((k).f0) (i : Nat)) h) ?_
  rintro e_ w_ ⟨rfl, h⟩
  refine ⟨_, rfl, ?_⟩
  replace h : Sx.St w0 F0 ([Sx.blk b2 [.int .u64 ((mixA (bfold (k).f0 i) (Sx.byteAt ((k).f0) (i : Nat))))] 81, Sx.blk b1 [.string ((k).f0), .slice (A) (((k).f1).length) (c), .int .i64 ((k).f2), .int .i64 ((k).f3), .int .i64 (((k).f4).f0), .int .i64 (((k).f4).f1), .int .i64 (((k).f4).f2), .int .i64 (((k).f4).f3), .int .i64 (((k).f4).f4), .int .i64 (((k).f4).f5), .int .i64 (((k).f4).f6)] 33] ++ R) _ := h
  refine wl_nil ?_
  refine qn_block_normal ?_
  refine qn_then ?_
  refine wc_region ?_
  refine wl_v rfl rfl (ov_bin _ rfl rfl (binR_add (r := (((i : Nat) : Int)) + 1) (Sx.w64 (by omega)))) ?_
  refine wl_v rfl rfl (ov_move _ rfl) ?_
  refine wl_nil ?_
  replace h := st_front 1 h
  replace h := st_front 1 h
  rw [← bfold_succ] at h
  refine qn_next ((i + 1)) (by show (k).f0.size - (i + 1) < (k).f0.size - i; omega) ⟨rfl, rfl, rfl, (congrArg (fun z_ => some (Value.int .i64 z_)) (show ((((i : Nat) : Int)) + 1 : Int) = (((i + 1) : Nat) : Int) by omega)), trivial⟩ ?_
  show ((i + 1) ≤ (k).f0.size) ∧ _
  exact ⟨by first | omega | simp, h⟩
 ·
  refine wc_exit ?_
  refine qn_then_exit ?_
  refine qn_then_exit ?_
  refine qn_block_exit ?_
  refine qn_then ?_
  refine wc_seq ?_
  refine wc_region ?_
  refine wl_v rfl rfl (ov_fieldAddr _ ⟨b1, 0, none⟩ _ rfl fo33_0 rfl) ?_
  refine wl_v rfl rfl (ov_loadb 1 _ h rfl rfl sh9 rfl) ?_
  refine wl_v rfl rfl (ov_lens _ rfl Try.underlying9) ?_
  refine wl_call _ rfl rfl rfl ent36 (CK.add_calls (R := [Sx.blk b1 [.string ((k).f0), .slice (A) (((k).f1).length) (c), .int .i64 ((k).f2), .int .i64 ((k).f3), .int .i64 (((k).f4).f0), .int .i64 (((k).f4).f1), .int .i64 (((k).f4).f2), .int .i64 (((k).f4).f3), .int .i64 (((k).f4).f4), .int .i64 (((k).f4).f5), .int .i64 (((k).f4).f6)] 33] ++ R) b2 (bfold (k).f0 i) ((((k).f0).size : Int)) h) ?_
  rintro e_ w_ ⟨rfl, h⟩
  refine ⟨_, rfl, ?_⟩
  replace h : Sx.St w0 F0 ([Sx.blk b2 [.int .u64 ((mixA (bfold (k).f0 i) ((((k).f0).size : Int))))] 81, Sx.blk b1 [.string ((k).f0), .slice (A) (((k).f1).length) (c), .int .i64 ((k).f2), .int .i64 ((k).f3), .int .i64 (((k).f4).f0), .int .i64 (((k).f4).f1), .int .i64 (((k).f4).f2), .int .i64 (((k).f4).f3), .int .i64 (((k).f4).f4), .int .i64 (((k).f4).f5), .int .i64 (((k).f4).f6)] 33] ++ R) _ := h
  refine wl_nil ?_
  refine qn_then ?_
  refine wc_seq ?_
  refine wc_region ?_
  refine wl_v rfl rfl (ov_assign _ rfl) ?_
  refine wl_v rfl rfl (ov_assign _ rfl) ?_
  refine wl_nil ?_
  refine qn_then ?_
  refine wc_seq ?_
  refine wc_seq ?_
  refine wc_region ?_
  refine wl_v rfl rfl (ov_fieldAddr _ ⟨b1, 1, none⟩ _ rfl fo33_1 rfl) ?_
  refine wl_v rfl rfl (ov_loadb 1 _ h rfl rfl sh29 rfl) ?_
  refine wl_v rfl rfl (ov_len _ _ _ _ _ rfl es29) ?_
  refine wl_v rfl rfl (ov_move _ rfl) ?_
  refine wl_nil ?_
  refine qn_then ?_
  refine wc_block ?_
  obtain rfl : i = (k).f0.size := by omega
  replace h := st_front 1 h
  replace h := st_front 1 h
  replace h : Sx.St w0 F0 ([Sx.blk b2 [.int .u64 (rfold (hashT (k).f0) ((k).f1.take 0)).1] 81, Sx.blk b1 [.string ((k).f0), .slice (A) (((k).f1).length) (c), .int .i64 ((k).f2), .int .i64 ((k).f3), .int .i64 (((k).f4).f0), .int .i64 (((k).f4).f1), .int .i64 (((k).f4).f2), .int .i64 (((k).f4).f3), .int .i64 (((k).f4).f4), .int .i64 (((k).f4).f5), .int .i64 (((k).f4).f6)] 33] ++ R) _ := h
  refine wc_loop (fun (x_ : Nat) => [(1, .pointer (some ⟨b1, 0, none⟩)), (3, .pointer (some ⟨b2, 0, none⟩)), (5, .int .i64 ((rfold (hashT (k).f0) ((k).f1.take x_)).2.1)), (6, .int .i64 ((rfold (hashT (k).f0) ((k).f1.take x_)).2.2)), (29, .slice (A) (((k).f1).length) (c)), (30, .int .i64 ((((k).f1.length : Nat) : Int))), (31, .int .i64 (((x_ : Nat) : Int)))]) (fun (x_ : Nat) (w : World) => (x_ ≤ (k).f1.length) ∧ Sx.St w0 F0 ([Sx.blk b2 [.int .u64 ((rfold (hashT (k).f0) ((k).f1.take x_)).1)] 81, Sx.blk b1 [.string ((k).f0), .slice (A) (((k).f1).length) (c), .int .i64 ((k).f2), .int .i64 ((k).f3), .int .i64 (((k).f4).f0), .int .i64 (((k).f4).f1), .int .i64 (((k).f4).f2), .int .i64 (((k).f4).f3), .int .i64 (((k).f4).f4), .int .i64 (((k).f4).f5), .int .i64 (((k).f4).f6)] 33] ++ R) w) (fun (x_ : Nat) => (k).f1.length - x_) (0) ?_ ?_ ?_
  · exact ⟨rfl, rfl, (congrArg (fun z_ => some (Value.int .i64 z_)) (show (-1 : Int) = (rfold (hashT (k).f0) ((k).f1.take 0)).2.1 by rfl)), (congrArg (fun z_ => some (Value.int .i64 z_)) (show (0 : Int) = (rfold (hashT (k).f0) ((k).f1.take 0)).2.2 by rfl)), rfl, (congrArg (fun z_ => some (Value.int .i64 z_)) (show (((((k).f1).length : Nat) : Int) : Int) = (((k).f1.length : Nat) : Int) by omega)), (congrArg (fun z_ => some (Value.int .i64 z_)) (show (0 : Int) = ((0 : Nat) : Int) by omega)), trivial⟩
  · exact ⟨by first | omega | simp, h⟩
  intro j w h
  obtain ⟨hJ, h⟩ := h
  replace hJ : j ≤ (k).f1.length := hJ
  replace h : Sx.St w0 F0 ([Sx.blk b2 [.int .u64 ((rfold (hashT (k).f0) ((k).f1.take j)).1)] 81, Sx.blk b1 [.string ((k).f0), .slice (A) (((k).f1).length) (c), .int .i64 ((k).f2), .int .i64 ((k).f3), .int .i64 (((k).f4).f0), .int .i64 (((k).f4).f1), .int .i64 (((k).f4).f2), .int .i64 (((k).f4).f3), .int .i64 (((k).f4).f4), .int .i64 (((k).f4).f5), .int .i64 (((k).f4).f6)] 33] ++ R) w := h
  show Sx.WC _ _ _ _ [(1, .pointer (some ⟨b1, 0, none⟩)), (3, .pointer (some ⟨b2, 0, none⟩)), (5, .int .i64 ((rfold (hashT (k).f0) ((k).f1.take j)).2.1)), (6, .int .i64 ((rfold (hashT (k).f0) ((k).f1.take j)).2.2)), (29, .slice (A) (((k).f1).length) (c)), (30, .int .i64 ((((k).f1.length : Nat) : Int))), (31, .int .i64 (((j : Nat) : Int)))] _
  have hbd_ := rfold_bd (hashT (k).f0) ((k).f1.take j)
  have hbd2_ := exp_take (k).f1 j
  have hml_ : j < (k).f1.length → ((k).f1.getD j z50).f0 ≤ 1099511627776 := fun hj_ => hs.2 _ (getD_mem hj_ _)
  refine wc_seq ?_
  refine wc_region ?_
  refine wl_v rfl rfl (ov_bin _ rfl rfl (binR_lss)) ?_
  refine wl_nil ?_
  refine qn_then ?_
  refine wc_seq ?_
  refine wc_cond (by rfl) (fun c4 => ?_) (fun c4 => ?_)
  ·
   refine wc_skip ?_
   refine qn_then ?_
   refine wc_seq ?_
   refine wc_block ?_
   refine wc_seq ?_
   refine wc_region ?_
   obtain ⟨ad5, rfl⟩ := Sx.C_some ((hr [_, _] _ h)) (k := (j : Nat)) (by first | assumption | omega | (simp only [List.length_set, List.length_append, List.length_cons, List.length_nil]; omega))
   refine wl_v rfl rfl (ov_indexAddrN _ _ _ _ _ (j : Nat) rfl rfl es29 rfl (by first | assumption | omega | (simp only [List.length_take, List.length_drop, List.length_set, List.length_append, List.length_cons, List.length_nil]; omega))) ?_
   obtain ⟨cl8, _, hk7, hc6⟩ := Sx.C_cells ((hr [_, _] _ h)) (z := z50) (k := (j : Nat)) (by first | assumption | omega | (simp only [List.length_set, List.length_append, List.length_cons, List.length_nil]; omega))
   obtain rfl := k50_open hk7
   refine wl_v rfl rfl (ov_loadN _ [.int .i64 ((((k).f1).getD (j : Nat) z50).f0), .int .i64 ((((k).f1).getD (j : Nat) z50).f1)] rfl sh50 (by intro j u hu; rw [Deep.add_add]; exact (hc6 _ _ hu))) ?_
   refine wl_alloc _ h rfl rfl zo50 (fun b9 _ h => ?_)
   replace h : Sx.St _ _ (Sx.blk b9 [.int .i64 (0), .int .i64 (0)] 50 :: _) _ := h
   refine wl_storebN 0 [.int .i64 ((((k).f1).getD (j : Nat) z50).f0), .int .i64 ((((k).f1).getD (j : Nat) z50).f1)] [.int .i64 ((((k).f1).getD (j : Nat) z50).f0), .int .i64 ((((k).f1).getD (j : Nat) z50).f1)] h rfl rfl rfl rfl (by simp [Value.oneCell']) sh50 rfl rfl (fun _ h => ?_)
   refine wl_nil ?_
   refine qn_then ?_
   refine wc_seq ?_
   refine wc_seq ?_
   refine wc_region ?_
   refine wl_v rfl rfl (ov_fieldAddr _ ⟨b9, 0, none⟩ _ rfl fo50_0 rfl) ?_
   refine wl_v rfl rfl (ov_loadb 0 _ h rfl rfl sh3 rfl) ?_
   refine wl_v rfl rfl (ov_bin _ rfl rfl (binR_leq)) ?_
   refine wl_nil ?_
   refine qn_then ?_
   refine wc_cond (by rfl) (fun c10 => ?_) (fun c10 => ?_)
   ·
    refine wc_exit ?_
    refine qn_then_exit ?_
    refine qn_block_exit ?_
    refine qn_then ?_
    refine wc_region ?_
    refine wl_v rfl rfl (ov_bin _ rfl rfl (binR_add (r := (((j : Nat) : Int)) + 1) (Sx.w64 (by omega)))) ?_
    refine wl_v rfl rfl (ov_move _ rfl) ?_
    refine wl_nil ?_
    replace h := st_front 2 h
    replace h := st_front 2 h
    replace h := st_selT [true, true, false] h
    have hnx_ : (rfold (hashT (k).f0) ((k).f1.take (j + 1))) = ((rfold (hashT (k).f0) ((k).f1.take j)).1, (rfold (hashT (k).f0) ((k).f1.take j)).2.1, (rfold (hashT (k).f0) ((k).f1.take j)).2.2) := by
      rw [rfold_succ _ _ (show j < (k).f1.length by omega) z50]
      unfold rstep
      (repeat' split) <;> first | rfl | (exfalso; omega)
    have e_ : (rfold (hashT (k).f0) ((k).f1.take j)).1 = (rfold (hashT (k).f0) ((k).f1.take (j + 1))).1 := by rw [hnx_]
    rw [e_] at h
    refine qn_next ((j + 1)) (by show (k).f1.length - (j + 1) < (k).f1.length - j; omega) ⟨rfl, rfl, (congrArg (fun z_ => some (Value.int .i64 z_)) (show ((rfold (hashT (k).f0) ((k).f1.take j)).2.1 : Int) = (rfold (hashT (k).f0) ((k).f1.take (j + 1))).2.1 by rw [hnx_])), (congrArg (fun z_ => some (Value.int .i64 z_)) (show ((rfold (hashT (k).f0) ((k).f1.take j)).2.2 : Int) = (rfold (hashT (k).f0) ((k).f1.take (j + 1))).2.2 by rw [hnx_])), (congrArg (fun z_ => some (Value.slice (some ad5) z_ (c))) (show (((k).f1).length : Nat) = ((k).f1).length by first | rfl | simp)), rfl, (congrArg (fun z_ => some (Value.int .i64 z_)) (show ((((j : Nat) : Int)) + 1 : Int) = (((j + 1) : Nat) : Int) by omega)), trivial⟩ ?_
    show ((j + 1) ≤ (k).f1.length) ∧ _
    exact ⟨by first | omega | simp, h⟩
   ·
    refine wc_skip ?_
    refine qn_then ?_
    refine wc_seq ?_
    refine wc_seq ?_
    refine wc_region ?_
    refine wl_v rfl rfl (ov_fieldAddr _ ⟨b9, 1, none⟩ _ rfl fo50_1 rfl) ?_
    refine wl_v rfl rfl (ov_loadb 0 _ h rfl rfl sh3 rfl) ?_
    refine wl_v rfl rfl (ov_move _ rfl) ?_
    refine wl_v rfl rfl (ov_bin _ rfl rfl (binR_neq)) ?_
    refine wl_v rfl rfl (ov_move _ rfl) ?_
    refine wl_split 42 rfl (fun c11 => ?_) (fun c11 => ?_)
    ·
     refine wl_v rfl rfl (ov_move _ rfl) ?_
     refine wl_v rfl rfl (ov_bin _ rfl rfl (binR_gtr)) ?_
     refine wl_v rfl rfl (ov_pick_true _ rfl rfl) ?_
     refine wl_nil ?_
     refine qn_then ?_
     refine wc_cond (by rfl) (fun c12 => ?_) (fun c12 => ?_)
     ·
      refine wc_seq ?_
      refine wc_region ?_
      refine wl_v rfl rfl (ov_move _ rfl) ?_
      replace h := st_front 1 h
      refine wl_call _ rfl rfl rfl ent36 (CK.add_calls (R := [Sx.blk b9 [.int .i64 ((((k).f1).getD (j : Nat) z50).f0), .int .i64 ((((k).f1).getD (j : Nat) z50).f1)] 50, Sx.blk b1 [.string ((k).f0), .slice (some ad5) (((k).f1).length) (c), .int .i64 ((k).f2), .int .i64 ((k).f3), .int .i64 (((k).f4).f0), .int .i64 (((k).f4).f1), .int .i64 (((k).f4).f2), .int .i64 (((k).f4).f3), .int .i64 (((k).f4).f4), .int .i64 (((k).f4).f5), .int .i64 (((k).f4).f6)] 33] ++ R) b2 ((rfold (hashT (k).f0) ((k).f1.take j)).1) ((rfold (hashT (k).f0) ((k).f1.take j)).2.1) h) ?_
      rintro e_ w_ ⟨rfl, h⟩
      refine ⟨_, rfl, ?_⟩
      replace h : Sx.St w0 F0 ([Sx.blk b2 [.int .u64 ((mixA ((rfold (hashT (k).f0) ((k).f1.take j)).1) ((rfold (hashT (k).f0) ((k).f1.take j)).2.1)))] 81, Sx.blk b9 [.int .i64 ((((k).f1).getD (j : Nat) z50).f0), .int .i64 ((((k).f1).getD (j : Nat) z50).f1)] 50, Sx.blk b1 [.string ((k).f0), .slice (some ad5) (((k).f1).length) (c), .int .i64 ((k).f2), .int .i64 ((k).f3), .int .i64 (((k).f4).f0), .int .i64 (((k).f4).f1), .int .i64 (((k).f4).f2), .int .i64 (((k).f4).f3), .int .i64 (((k).f4).f4), .int .i64 (((k).f4).f5), .int .i64 (((k).f4).f6)] 33] ++ R) _ := h
      refine wl_nil ?_
      refine qn_then ?_
      refine wc_seq ?_
      refine wc_region ?_
      refine wl_v rfl rfl (ov_move _ rfl) ?_
      refine wl_call _ rfl rfl rfl ent36 (CK.add_calls (R := [Sx.blk b9 [.int .i64 ((((k).f1).getD (j : Nat) z50).f0), .int .i64 ((((k).f1).getD (j : Nat) z50).f1)] 50, Sx.blk b1 [.string ((k).f0), .slice (some ad5) (((k).f1).length) (c), .int .i64 ((k).f2), .int .i64 ((k).f3), .int .i64 (((k).f4).f0), .int .i64 (((k).f4).f1), .int .i64 (((k).f4).f2), .int .i64 (((k).f4).f3), .int .i64 (((k).f4).f4), .int .i64 (((k).f4).f5), .int .i64 (((k).f4).f6)] 33] ++ R) b2 ((mixA ((rfold (hashT (k).f0) ((k).f1.take j)).1) ((rfold (hashT (k).f0) ((k).f1.take j)).2.1))) ((rfold (hashT (k).f0) ((k).f1.take j)).2.2) h) ?_
      rintro e_ w_ ⟨rfl, h⟩
      refine ⟨_, rfl, ?_⟩
      replace h : Sx.St w0 F0 ([Sx.blk b2 [.int .u64 ((mixA ((mixA ((rfold (hashT (k).f0) ((k).f1.take j)).1) ((rfold (hashT (k).f0) ((k).f1.take j)).2.1))) ((rfold (hashT (k).f0) ((k).f1.take j)).2.2)))] 81, Sx.blk b9 [.int .i64 ((((k).f1).getD (j : Nat) z50).f0), .int .i64 ((((k).f1).getD (j : Nat) z50).f1)] 50, Sx.blk b1 [.string ((k).f0), .slice (some ad5) (((k).f1).length) (c), .int .i64 ((k).f2), .int .i64 ((k).f3), .int .i64 (((k).f4).f0), .int .i64 (((k).f4).f1), .int .i64 (((k).f4).f2), .int .i64 (((k).f4).f3), .int .i64 (((k).f4).f4), .int .i64 (((k).f4).f5), .int .i64 (((k).f4).f6)] 33] ++ R) _ := h
      refine wl_nil ?_
      refine qn_then ?_
      refine wc_region ?_
      refine wl_v rfl rfl (ov_assign _ rfl) ?_
      refine wl_nil ?_
      refine qn_then ?_
      refine wc_seq ?_
      refine wc_region ?_
      refine wl_v rfl rfl (ov_fieldAddr _ ⟨b9, 1, none⟩ _ rfl fo50_1 rfl) ?_
      refine wl_v rfl rfl (ov_loadb 1 _ h rfl rfl sh3 rfl) ?_
      refine wl_v rfl rfl (ov_assign _ rfl) ?_
      refine wl_nil ?_
      refine qn_then ?_
      refine wc_region ?_
      refine wl_v rfl rfl (ov_move _ rfl) ?_
      refine wl_v rfl rfl (ov_fieldAddr _ ⟨b9, 0, none⟩ _ rfl fo50_0 rfl) ?_
      refine wl_v rfl rfl (ov_loadb 1 _ h rfl rfl sh3 rfl) ?_
      refine wl_v rfl rfl (ov_bin _ rfl rfl (binR_add (r := 0 + ((((k).f1).getD (j : Nat) z50).f0)) (Sx.w64 (by omega)))) ?_
      refine wl_v rfl rfl (ov_assign _ rfl) ?_
      refine wl_nil ?_
      refine qn_block_normal ?_
      refine qn_then ?_
      refine wc_region ?_
      refine wl_v rfl rfl (ov_bin _ rfl rfl (binR_add (r := (((j : Nat) : Int)) + 1) (Sx.w64 (by omega)))) ?_
      refine wl_v rfl rfl (ov_move _ rfl) ?_
      refine wl_nil ?_
      replace h := st_front 2 h
      replace h := st_front 1 h
      replace h := st_selT [true, true, false] h
      have hnx_ : (rfold (hashT (k).f0) ((k).f1.take (j + 1))) = ((mixA ((mixA ((rfold (hashT (k).f0) ((k).f1.take j)).1) ((rfold (hashT (k).f0) ((k).f1.take j)).2.1))) ((rfold (hashT (k).f0) ((k).f1.take j)).2.2)), (((k).f1).getD (j : Nat) z50).f1, 0 + ((((k).f1).getD (j : Nat) z50).f0)) := by
        rw [rfold_succ _ _ (show j < (k).f1.length by omega) z50]
        unfold rstep
        (repeat' split) <;> first | rfl | (exfalso; omega)
      have e_ : (mixA ((mixA ((rfold (hashT (k).f0) ((k).f1.take j)).1) ((rfold (hashT (k).f0) ((k).f1.take j)).2.1))) ((rfold (hashT (k).f0) ((k).f1.take j)).2.2)) = (rfold (hashT (k).f0) ((k).f1.take (j + 1))).1 := by rw [hnx_]
      rw [e_] at h
      refine qn_next ((j + 1)) (by show (k).f1.length - (j + 1) < (k).f1.length - j; omega) ⟨rfl, rfl, (congrArg (fun z_ => some (Value.int .i64 z_)) (show ((((k).f1).getD (j : Nat) z50).f1 : Int) = (rfold (hashT (k).f0) ((k).f1.take (j + 1))).2.1 by rw [hnx_])), (congrArg (fun z_ => some (Value.int .i64 z_)) (show (0 + ((((k).f1).getD (j : Nat) z50).f0) : Int) = (rfold (hashT (k).f0) ((k).f1.take (j + 1))).2.2 by rw [hnx_])), (congrArg (fun z_ => some (Value.slice (some ad5) z_ (c))) (show (((k).f1).length : Nat) = ((k).f1).length by first | rfl | simp)), rfl, (congrArg (fun z_ => some (Value.int .i64 z_)) (show ((((j : Nat) : Int)) + 1 : Int) = (((j + 1) : Nat) : Int) by omega)), trivial⟩ ?_
      show ((j + 1) ≤ (k).f1.length) ∧ _
      exact ⟨by first | omega | simp, h⟩
     ·
      refine wc_skip ?_
      refine qn_then ?_
      refine wc_seq ?_
      refine wc_region ?_
      refine wl_v rfl rfl (ov_fieldAddr _ ⟨b9, 1, none⟩ _ rfl fo50_1 rfl) ?_
      refine wl_v rfl rfl (ov_loadb 0 _ h rfl rfl sh3 rfl) ?_
      refine wl_v rfl rfl (ov_assign _ rfl) ?_
      refine wl_nil ?_
      refine qn_then ?_
      refine wc_region ?_
      refine wl_v rfl rfl (ov_move _ rfl) ?_
      refine wl_v rfl rfl (ov_fieldAddr _ ⟨b9, 0, none⟩ _ rfl fo50_0 rfl) ?_
      refine wl_v rfl rfl (ov_loadb 0 _ h rfl rfl sh3 rfl) ?_
      refine wl_v rfl rfl (ov_bin _ rfl rfl (binR_add (r := ((rfold (hashT (k).f0) ((k).f1.take j)).2.2) + ((((k).f1).getD (j : Nat) z50).f0)) (Sx.w64 (by omega)))) ?_
      refine wl_v rfl rfl (ov_assign _ rfl) ?_
      refine wl_nil ?_
      refine qn_block_normal ?_
      refine qn_then ?_
      refine wc_region ?_
      refine wl_v rfl rfl (ov_bin _ rfl rfl (binR_add (r := (((j : Nat) : Int)) + 1) (Sx.w64 (by omega)))) ?_
      refine wl_v rfl rfl (ov_move _ rfl) ?_
      refine wl_nil ?_
      replace h := st_front 2 h
      replace h := st_front 2 h
      replace h := st_selT [true, true, false] h
      have hnx_ : (rfold (hashT (k).f0) ((k).f1.take (j + 1))) = ((rfold (hashT (k).f0) ((k).f1.take j)).1, (((k).f1).getD (j : Nat) z50).f1, ((rfold (hashT (k).f0) ((k).f1.take j)).2.2) + ((((k).f1).getD (j : Nat) z50).f0)) := by
        rw [rfold_succ _ _ (show j < (k).f1.length by omega) z50]
        unfold rstep
        (repeat' split) <;> first | rfl | (exfalso; omega)
      have e_ : (rfold (hashT (k).f0) ((k).f1.take j)).1 = (rfold (hashT (k).f0) ((k).f1.take (j + 1))).1 := by rw [hnx_]
      rw [e_] at h
      refine qn_next ((j + 1)) (by show (k).f1.length - (j + 1) < (k).f1.length - j; omega) ⟨rfl, rfl, (congrArg (fun z_ => some (Value.int .i64 z_)) (show ((((k).f1).getD (j : Nat) z50).f1 : Int) = (rfold (hashT (k).f0) ((k).f1.take (j + 1))).2.1 by rw [hnx_])), (congrArg (fun z_ => some (Value.int .i64 z_)) (show (((rfold (hashT (k).f0) ((k).f1.take j)).2.2) + ((((k).f1).getD (j : Nat) z50).f0) : Int) = (rfold (hashT (k).f0) ((k).f1.take (j + 1))).2.2 by rw [hnx_])), (congrArg (fun z_ => some (Value.slice (some ad5) z_ (c))) (show (((k).f1).length : Nat) = ((k).f1).length by first | rfl | simp)), rfl, (congrArg (fun z_ => some (Value.int .i64 z_)) (show ((((j : Nat) : Int)) + 1 : Int) = (((j + 1) : Nat) : Int) by omega)), trivial⟩ ?_
      show ((j + 1) ≤ (k).f1.length) ∧ _
      exact ⟨by first | omega | simp, h⟩
    ·
     refine wl_skip rfl rfl ?_
     refine wl_skip rfl rfl ?_
     refine wl_v rfl rfl (ov_pick_false _ rfl rfl) ?_
     refine wl_nil ?_
     refine qn_then ?_
     refine wc_cond_false rfl ?_
     refine wc_skip ?_
     refine qn_then ?_
     refine wc_seq ?_
     refine wc_region ?_
     refine wl_v rfl rfl (ov_fieldAddr _ ⟨b9, 1, none⟩ _ rfl fo50_1 rfl) ?_
     refine wl_v rfl rfl (ov_loadb 0 _ h rfl rfl sh3 rfl) ?_
     refine wl_v rfl rfl (ov_assign _ rfl) ?_
     refine wl_nil ?_
     refine qn_then ?_
     refine wc_region ?_
     refine wl_v rfl rfl (ov_move _ rfl) ?_
     refine wl_v rfl rfl (ov_fieldAddr _ ⟨b9, 0, none⟩ _ rfl fo50_0 rfl) ?_
     refine wl_v rfl rfl (ov_loadb 0 _ h rfl rfl sh3 rfl) ?_
     refine wl_v rfl rfl (ov_bin _ rfl rfl (binR_add (r := ((rfold (hashT (k).f0) ((k).f1.take j)).2.2) + ((((k).f1).getD (j : Nat) z50).f0)) (Sx.w64 (by omega)))) ?_
     refine wl_v rfl rfl (ov_assign _ rfl) ?_
     refine wl_nil ?_
     refine qn_block_normal ?_
     refine qn_then ?_
     refine wc_region ?_
     refine wl_v rfl rfl (ov_bin _ rfl rfl (binR_add (r := (((j : Nat) : Int)) + 1) (Sx.w64 (by omega)))) ?_
     refine wl_v rfl rfl (ov_move _ rfl) ?_
     refine wl_nil ?_
     replace h := st_front 2 h
     replace h := st_front 2 h
     replace h := st_selT [true, true, false] h
     have hnx_ : (rfold (hashT (k).f0) ((k).f1.take (j + 1))) = ((rfold (hashT (k).f0) ((k).f1.take j)).1, (((k).f1).getD (j : Nat) z50).f1, ((rfold (hashT (k).f0) ((k).f1.take j)).2.2) + ((((k).f1).getD (j : Nat) z50).f0)) := by
       rw [rfold_succ _ _ (show j < (k).f1.length by omega) z50]
       unfold rstep
       (repeat' split) <;> first | rfl | (exfalso; omega)
     have e_ : (rfold (hashT (k).f0) ((k).f1.take j)).1 = (rfold (hashT (k).f0) ((k).f1.take (j + 1))).1 := by rw [hnx_]
     rw [e_] at h
     refine qn_next ((j + 1)) (by show (k).f1.length - (j + 1) < (k).f1.length - j; omega) ⟨rfl, rfl, (congrArg (fun z_ => some (Value.int .i64 z_)) (show ((((k).f1).getD (j : Nat) z50).f1 : Int) = (rfold (hashT (k).f0) ((k).f1.take (j + 1))).2.1 by rw [hnx_])), (congrArg (fun z_ => some (Value.int .i64 z_)) (show (((rfold (hashT (k).f0) ((k).f1.take j)).2.2) + ((((k).f1).getD (j : Nat) z50).f0) : Int) = (rfold (hashT (k).f0) ((k).f1.take (j + 1))).2.2 by rw [hnx_])), (congrArg (fun z_ => some (Value.slice (some ad5) z_ (c))) (show (((k).f1).length : Nat) = ((k).f1).length by first | rfl | simp)), rfl, (congrArg (fun z_ => some (Value.int .i64 z_)) (show ((((j : Nat) : Int)) + 1 : Int) = (((j + 1) : Nat) : Int) by omega)), trivial⟩ ?_
     show ((j + 1) ≤ (k).f1.length) ∧ _
     exact ⟨by first | omega | simp, h⟩
  ·
   refine wc_exit ?_
   refine qn_then_exit ?_
   refine qn_then_exit ?_
   refine qn_block_exit ?_
   refine qn_then ?_
   refine wc_seq ?_
   refine wc_seq ?_
   refine wc_region ?_
   refine wl_v rfl rfl (ov_move _ rfl) ?_
   refine wl_v rfl rfl (ov_move _ rfl) ?_
   refine wl_v rfl rfl (ov_fieldAddr _ ⟨b1, 2, none⟩ _ rfl fo33_2 rfl) ?_
   refine wl_v rfl rfl (ov_loadb 1 _ h rfl rfl sh3 rfl) ?_
   refine wl_v rfl rfl (ov_fieldAddr _ ⟨b1, 3, none⟩ _ rfl fo33_3 rfl) ?_
   refine wl_v rfl rfl (ov_loadb 1 _ h rfl rfl sh3 rfl) ?_
   refine wl_v rfl rfl (ov_fieldAddr _ ⟨b1, 4, none⟩ _ rfl fo33_4 rfl) ?_
   refine wl_v rfl rfl (ov_fieldAddr _ ⟨b1, 4, none⟩ _ rfl fo31_0 rfl) ?_
   refine wl_v rfl rfl (ov_loadb 1 _ h rfl rfl sh3 rfl) ?_
   refine wl_v rfl rfl (ov_fieldAddr _ ⟨b1, 4, none⟩ _ rfl fo33_4 rfl) ?_
   refine wl_v rfl rfl (ov_fieldAddr _ ⟨b1, 5, none⟩ _ rfl fo31_1 rfl) ?_
   refine wl_v rfl rfl (ov_loadb 1 _ h rfl rfl sh3 rfl) ?_
   refine wl_v rfl rfl (ov_fieldAddr _ ⟨b1, 4, none⟩ _ rfl fo33_4 rfl) ?_
   refine wl_v rfl rfl (ov_fieldAddr _ ⟨b1, 6, none⟩ _ rfl fo31_2 rfl) ?_
   refine wl_v rfl rfl (ov_loadb 1 _ h rfl rfl sh3 rfl) ?_
   refine wl_v rfl rfl (ov_fieldAddr _ ⟨b1, 4, none⟩ _ rfl fo33_4 rfl) ?_
   refine wl_v rfl rfl (ov_fieldAddr _ ⟨b1, 7, none⟩ _ rfl fo31_3 rfl) ?_
   refine wl_v rfl rfl (ov_loadb 1 _ h rfl rfl sh3 rfl) ?_
   refine wl_v rfl rfl (ov_fieldAddr _ ⟨b1, 4, none⟩ _ rfl fo33_4 rfl) ?_
   refine wl_v rfl rfl (ov_fieldAddr _ ⟨b1, 8, none⟩ _ rfl fo31_4 rfl) ?_
   refine wl_v rfl rfl (ov_loadb 1 _ h rfl rfl sh3 rfl) ?_
   refine wl_v rfl rfl (ov_fieldAddr _ ⟨b1, 4, none⟩ _ rfl fo33_4 rfl) ?_
   refine wl_v rfl rfl (ov_fieldAddr _ ⟨b1, 9, none⟩ _ rfl fo31_5 rfl) ?_
   refine wl_v rfl rfl (ov_loadb 1 _ h rfl rfl sh3 rfl) ?_
   refine wl_v rfl rfl (ov_fieldAddr _ ⟨b1, 4, none⟩ _ rfl fo33_4 rfl) ?_
   refine wl_v rfl rfl (ov_fieldAddr _ ⟨b1, 10, none⟩ _ rfl fo31_6 rfl) ?_
   refine wl_v rfl rfl (ov_loadb 1 _ h rfl rfl sh3 rfl) ?_
   refine wl_lit (d := (Kd.int .i64)) [(0, .int .i64 ((rfold (hashT (k).f0) ((k).f1.take j)).2.1)), (1, .int .i64 ((rfold (hashT (k).f0) ((k).f1.take j)).2.2)), (2, .int .i64 ((k).f2)), (3, .int .i64 ((k).f3)), (4, .int .i64 (((k).f4).f0)), (5, .int .i64 (((k).f4).f1)), (6, .int .i64 (((k).f4).f2)), (7, .int .i64 (((k).f4).f3)), (8, .int .i64 (((k).f4).f4)), (9, .int .i64 (((k).f4).f5)), (10, .int .i64 (((k).f4).f6))] _ [.int .i64 ((rfold (hashT (k).f0) ((k).f1.take j)).2.1), .int .i64 ((rfold (hashT (k).f0) ((k).f1.take j)).2.2), .int .i64 ((k).f2), .int .i64 ((k).f3), .int .i64 (((k).f4).f0), .int .i64 (((k).f4).f1), .int .i64 (((k).f4).f2), .int .i64 (((k).f4).f3), .int .i64 (((k).f4).f4), .int .i64 (((k).f4).f5), .int .i64 (((k).f4).f6)] ([(rfold (hashT (k).f0) ((k).f1.take j)).2.1, (rfold (hashT (k).f0) ((k).f1.take j)).2.2, (k).f2, (k).f3, ((k).f4).f0, ((k).f4).f1, ((k).f4).f2, ((k).f4).f3, ((k).f4).f4, ((k).f4).f5, ((k).f4).f6]) h rfl rfl rfl rfl Try.underlying83 infb3 rfl (by decide) (by kernel_rfl) rfl (fun _ _ _ => ((((((((((((Reps.none _ _).snoc ((Sx.mkInt .i64 ((rfold (hashT (k).f0) ((k).f1.take j)).2.1))) rfl).snoc ((Sx.mkInt .i64 ((rfold (hashT (k).f0) ((k).f1.take j)).2.2))) rfl).snoc ((Sx.mkInt .i64 ((k).f2))) rfl).snoc ((Sx.mkInt .i64 ((k).f3))) rfl).snoc ((Sx.mkInt .i64 (((k).f4).f0))) rfl).snoc ((Sx.mkInt .i64 (((k).f4).f1))) rfl).snoc ((Sx.mkInt .i64 (((k).f4).f2))) rfl).snoc ((Sx.mkInt .i64 (((k).f4).f3))) rfl).snoc ((Sx.mkInt .i64 (((k).f4).f4))) rfl).snoc ((Sx.mkInt .i64 (((k).f4).f5))) rfl).snoc ((Sx.mkInt .i64 (((k).f4).f6))) rfl)) (fun A13 cp14 _ h => ?_)
   refine wl_v rfl rfl (ov_len _ _ _ _ _ rfl es83) ?_
   refine wl_v rfl rfl (ov_move _ rfl) ?_
   refine wl_nil ?_
   refine qn_then ?_
   refine wc_block ?_
   have hjl_ : j = (k).f1.length := by omega
   have htk_ : (k).f1.take j = (k).f1 := by rw [hjl_, List.take_length]
   rw [htk_] at h ⊢
   have e_ : [(rfold (hashT (k).f0) ((k).f1)).2.1, (rfold (hashT (k).f0) ((k).f1)).2.2, (k).f2, (k).f3, ((k).f4).f0, ((k).f4).f1, ((k).f4).f2, ((k).f4).f3, ((k).f4).f4, ((k).f4).f5, ((k).f4).f6] = (numsK (rfold (hashT (k).f0) (k).f1).2.1 (rfold (hashT (k).f0) (k).f1).2.2 k) := by rfl
   replace h := st_cast (congrArg (fun z_ => ([Sx.row (Kd.int .i64) 3 (A13) (cp14) (z_), Sx.blk b2 [.int .u64 ((rfold (hashT (k).f0) ((k).f1)).1)] 81, Sx.blk b1 [.string ((k).f0), .slice (A) (((k).f1).length) (c), .int .i64 ((k).f2), .int .i64 ((k).f3), .int .i64 (((k).f4).f0), .int .i64 (((k).f4).f1), .int .i64 (((k).f4).f2), .int .i64 (((k).f4).f3), .int .i64 (((k).f4).f4), .int .i64 (((k).f4).f5), .int .i64 (((k).f4).f6)] 33] ++ R)) e_) h
   clear e_
   replace h := st_front 2 h
   replace h := st_front 2 h
   replace h : Sx.St w0 F0 ([Sx.blk b2 [.int .u64 (((numsK (rfold (hashT (k).f0) (k).f1).2.1 (rfold (hashT (k).f0) (k).f1).2.2 k).take 0).foldl mixA (rfold (hashT (k).f0) (k).f1).1)] 81, Sx.blk b1 [.string ((k).f0), .slice (A) (((k).f1).length) (c), .int .i64 ((k).f2), .int .i64 ((k).f3), .int .i64 (((k).f4).f0), .int .i64 (((k).f4).f1), .int .i64 (((k).f4).f2), .int .i64 (((k).f4).f3), .int .i64 (((k).f4).f4), .int .i64 (((k).f4).f5), .int .i64 (((k).f4).f6)] 33, Sx.row (Kd.int .i64) 3 (A13) (cp14) ((numsK (rfold (hashT (k).f0) (k).f1).2.1 (rfold (hashT (k).f0) (k).f1).2.2 k))] ++ R) _ := h
   refine wc_loop (fun (x_ : Nat × (Option Addr)) => [(1, .pointer (some ⟨b1, 0, none⟩)), (3, .pointer (some ⟨b2, 0, none⟩)), (84, .slice (x_.2) (((numsK (rfold (hashT (k).f0) (k).f1).2.1 (rfold (hashT (k).f0) (k).f1).2.2 k)).length) (cp14)), (85, .int .i64 (((((numsK (rfold (hashT (k).f0) (k).f1).2.1 (rfold (hashT (k).f0) (k).f1).2.2 k)).length : Nat) : Int))), (86, .int .i64 (((x_.1 : Nat) : Int)))]) (fun (x_ : Nat × (Option Addr)) (w : World) => (x_.1 ≤ ((numsK (rfold (hashT (k).f0) (k).f1).2.1 (rfold (hashT (k).f0) (k).f1).2.2 k)).length) ∧ Sx.St w0 F0 ([Sx.blk b2 [.int .u64 ((((numsK (rfold (hashT (k).f0) (k).f1).2.1 (rfold (hashT (k).f0) (k).f1).2.2 k).take x_.1).foldl mixA (rfold (hashT (k).f0) (k).f1).1))] 81, Sx.blk b1 [.string ((k).f0), .slice (A) (((k).f1).length) (c), .int .i64 ((k).f2), .int .i64 ((k).f3), .int .i64 (((k).f4).f0), .int .i64 (((k).f4).f1), .int .i64 (((k).f4).f2), .int .i64 (((k).f4).f3), .int .i64 (((k).f4).f4), .int .i64 (((k).f4).f5), .int .i64 (((k).f4).f6)] 33, Sx.row (Kd.int .i64) 3 (x_.2) (cp14) ((numsK (rfold (hashT (k).f0) (k).f1).2.1 (rfold (hashT (k).f0) (k).f1).2.2 k))] ++ R) w) (fun (x_ : Nat × (Option Addr)) => ((numsK (rfold (hashT (k).f0) (k).f1).2.1 (rfold (hashT (k).f0) (k).f1).2.2 k)).length - x_.1) (0, A13) ?_ ?_ ?_
   · exact ⟨rfl, rfl, (congrArg (fun z_ => some (Value.slice (A13) z_ (cp14))) (show (([(rfold (hashT (k).f0) ((k).f1.take j)).2.1, (rfold (hashT (k).f0) ((k).f1.take j)).2.2, (k).f2, (k).f3, ((k).f4).f0, ((k).f4).f1, ((k).f4).f2, ((k).f4).f3, ((k).f4).f4, ((k).f4).f5, ((k).f4).f6] : List _).length : Nat) = ((numsK (rfold (hashT (k).f0) (k).f1).2.1 (rfold (hashT (k).f0) (k).f1).2.2 k)).length by first | rfl | simp)), (congrArg (fun z_ => some (Value.int .i64 z_)) (show (((([(rfold (hashT (k).f0) ((k).f1)).2.1, (rfold (hashT (k).f0) ((k).f1)).2.2, (k).f2, (k).f3, ((k).f4).f0, ((k).f4).f1, ((k).f4).f2, ((k).f4).f3, ((k).f4).f4, ((k).f4).f5, ((k).f4).f6] : List _).length : Nat) : Int) : Int) = ((((numsK (rfold (hashT (k).f0) (k).f1).2.1 (rfold (hashT (k).f0) (k).f1).2.2 k)).length : Nat) : Int) by rfl)), (congrArg (fun z_ => some (Value.int .i64 z_)) (show (0 : Int) = ((0 : Nat) : Int) by omega)), trivial⟩
   · exact ⟨by first | omega | simp, h⟩
   rintro ⟨q, A2⟩ w h
   obtain ⟨hJ, h⟩ := h
   replace hJ : q ≤ ((numsK (rfold (hashT (k).f0) (k).f1).2.1 (rfold (hashT (k).f0) (k).f1).2.2 k)).length := hJ
   replace h : Sx.St w0 F0 ([Sx.blk b2 [.int .u64 ((((numsK (rfold (hashT (k).f0) (k).f1).2.1 (rfold (hashT (k).f0) (k).f1).2.2 k).take q).foldl mixA (rfold (hashT (k).f0) (k).f1).1))] 81, Sx.blk b1 [.string ((k).f0), .slice (A) (((k).f1).length) (c), .int .i64 ((k).f2), .int .i64 ((k).f3), .int .i64 (((k).f4).f0), .int .i64 (((k).f4).f1), .int .i64 (((k).f4).f2), .int .i64 (((k).f4).f3), .int .i64 (((k).f4).f4), .int .i64 (((k).f4).f5), .int .i64 (((k).f4).f6)] 33, Sx.row (Kd.int .i64) 3 (A2) (cp14) ((numsK (rfold (hashT (k).f0) (k).f1).2.1 (rfold (hashT (k).f0) (k).f1).2.2 k))] ++ R) w := h
   show Sx.WC _ _ _ _ [(1, .pointer (some ⟨b1, 0, none⟩)), (3, .pointer (some ⟨b2, 0, none⟩)), (84, .slice (A2) (((numsK (rfold (hashT (k).f0) (k).f1).2.1 (rfold (hashT (k).f0) (k).f1).2.2 k)).length) (cp14)), (85, .int .i64 (((((numsK (rfold (hashT (k).f0) (k).f1).2.1 (rfold (hashT (k).f0) (k).f1).2.2 k)).length : Nat) : Int))), (86, .int .i64 (((q : Nat) : Int)))] _
   have hnl_ : ((numsK (rfold (hashT (k).f0) (k).f1).2.1 (rfold (hashT (k).f0) (k).f1).2.2 k)).length = 11 := rfl
   refine wc_seq ?_
   refine wc_region ?_
   refine wl_v rfl rfl (ov_bin _ rfl rfl (binR_lss)) ?_
   refine wl_nil ?_
   refine qn_then ?_
   refine wc_seq ?_
   refine wc_cond (by rfl) (fun c15 => ?_) (fun c15 => ?_)
   ·
    refine wc_skip ?_
    refine qn_then ?_
    refine wc_seq ?_
    refine wc_block ?_
    refine wc_seq ?_
    refine wc_region ?_
    obtain ⟨ad16, rfl⟩ := Sx.C_some ((Sx.row_reads h (i := 2) rfl).2) (k := (q : Nat)) (by first | assumption | omega | (simp only [List.length_set, List.length_append, List.length_cons, List.length_nil]; omega))
    refine wl_v rfl rfl (ov_indexAddrN _ _ _ _ _ (q : Nat) rfl rfl es83 rfl (by first | assumption | omega | (simp only [List.length_take, List.length_drop, List.length_set, List.length_append, List.length_cons, List.length_nil]; omega))) ?_
    obtain ⟨cl19, _, hk18, hc17⟩ := Sx.C_cells ((Sx.row_reads h (i := 2) rfl).2) (z := (0 : Int)) (k := (q : Nat)) (by first | assumption | omega | (simp only [List.length_set, List.length_append, List.length_cons, List.length_nil]; omega))
    obtain rfl : cl19 = [.int .i64 _] := hk18
    refine wl_v rfl rfl (ov_load1 _ _ rfl sh3 ((hc17 0 _ rfl))) ?_
    refine wl_v rfl rfl (ov_assign _ rfl) ?_
    refine wl_nil ?_
    refine qn_then ?_
    refine wc_region ?_
    refine wl_v rfl rfl (ov_move _ rfl) ?_
    refine wl_call _ rfl rfl rfl ent36 (CK.add_calls (R := [Sx.blk b1 [.string ((k).f0), .slice (A) (((k).f1).length) (c), .int .i64 ((k).f2), .int .i64 ((k).f3), .int .i64 (((k).f4).f0), .int .i64 (((k).f4).f1), .int .i64 (((k).f4).f2), .int .i64 (((k).f4).f3), .int .i64 (((k).f4).f4), .int .i64 (((k).f4).f5), .int .i64 (((k).f4).f6)] 33, Sx.row (Kd.int .i64) 3 (some ad16) (cp14) ((numsK (rfold (hashT (k).f0) (k).f1).2.1 (rfold (hashT (k).f0) (k).f1).2.2 k))] ++ R) b2 ((((numsK (rfold (hashT (k).f0) (k).f1).2.1 (rfold (hashT (k).f0) (k).f1).2.2 k).take q).foldl mixA (rfold (hashT (k).f0) (k).f1).1)) (((numsK (rfold (hashT (k).f0) (k).f1).2.1 (rfold (hashT (k).f0) (k).f1).2.2 k)).getD (q : Nat) (0 : Int)) h) ?_
    rintro e_ w_ ⟨rfl, h⟩
    refine ⟨_, rfl, ?_⟩
    replace h : Sx.St w0 F0 ([Sx.blk b2 [.int .u64 ((mixA ((((numsK (rfold (hashT (k).f0) (k).f1).2.1 (rfold (hashT (k).f0) (k).f1).2.2 k).take q).foldl mixA (rfold (hashT (k).f0) (k).f1).1)) (((numsK (rfold (hashT (k).f0) (k).f1).2.1 (rfold (hashT (k).f0) (k).f1).2.2 k)).getD (q : Nat) (0 : Int))))] 81, Sx.blk b1 [.string ((k).f0), .slice (A) (((k).f1).length) (c), .int .i64 ((k).f2), .int .i64 ((k).f3), .int .i64 (((k).f4).f0), .int .i64 (((k).f4).f1), .int .i64 (((k).f4).f2), .int .i64 (((k).f4).f3), .int .i64 (((k).f4).f4), .int .i64 (((k).f4).f5), .int .i64 (((k).f4).f6)] 33, Sx.row (Kd.int .i64) 3 (some ad16) (cp14) ((numsK (rfold (hashT (k).f0) (k).f1).2.1 (rfold (hashT (k).f0) (k).f1).2.2 k))] ++ R) _ := h
    refine wl_nil ?_
    refine qn_block_normal ?_
    refine qn_then ?_
    refine wc_region ?_
    refine wl_v rfl rfl (ov_bin _ rfl rfl (binR_add (r := (((q : Nat) : Int)) + 1) (Sx.w64 (by omega)))) ?_
    refine wl_v rfl rfl (ov_move _ rfl) ?_
    refine wl_nil ?_
    replace h := st_front 2 h
    replace h := st_front 2 h
    replace h := st_front 2 h
    rw [← mix_succ (numsK (rfold (hashT (k).f0) (k).f1).2.1 (rfold (hashT (k).f0) (k).f1).2.2 k) (rfold (hashT (k).f0) (k).f1).1 (show q < ((numsK (rfold (hashT (k).f0) (k).f1).2.1 (rfold (hashT (k).f0) (k).f1).2.2 k)).length by omega) 0] at h
    refine qn_next ((q + 1), some ad16) (by show ((numsK (rfold (hashT (k).f0) (k).f1).2.1 (rfold (hashT (k).f0) (k).f1).2.2 k)).length - (q + 1) < ((numsK (rfold (hashT (k).f0) (k).f1).2.1 (rfold (hashT (k).f0) (k).f1).2.2 k)).length - q; omega) ⟨rfl, rfl, rfl, rfl, (congrArg (fun z_ => some (Value.int .i64 z_)) (show ((((q : Nat) : Int)) + 1 : Int) = (((q + 1) : Nat) : Int) by omega)), trivial⟩ ?_
    show ((q + 1) ≤ ((numsK (rfold (hashT (k).f0) (k).f1).2.1 (rfold (hashT (k).f0) (k).f1).2.2 k)).length) ∧ _
    exact ⟨by first | omega | simp, h⟩
   ·
    refine wc_exit ?_
    refine qn_then_exit ?_
    refine qn_then_exit ?_
    refine qn_block_exit ?_
    refine qn_then ?_
    refine wc_seq ?_
    refine wc_region ?_
    refine wl_v rfl rfl (ov_loadb 0 _ h rfl rfl sh81 rfl) ?_
    refine wl_v rfl rfl (ov_assign _ rfl) ?_
    refine wl_nil ?_
    refine qn_then ?_
    refine wc_ret ?_
    have e_ : (((numsK (rfold (hashT (k).f0) (k).f1).2.1 (rfold (hashT (k).f0) (k).f1).2.2 k).take q).foldl mixA (rfold (hashT (k).f0) (k).f1).1) = hashK k := by unfold hashK; rw [List.take_of_length_le (by omega)]
    replace h := st_selT [false, false, false] h
    refine qn_ret [_] ⟨rfl, trivial⟩ ?_
    rw [e_]
    exact ⟨rfl, h⟩
set_option maxHeartbeats 400000 in
set_option maxRecDepth 100000 in
theorem Alike_calls {w0 w : World} {F0 : Nat → Prop} {R : List Sx.HP} (a b : KV) (Aa Ab : Option Addr) (ca cb : Nat) (hsa : SmallK a) (hsb : SmallK b) (ha : ∀ cs w, Sx.St w0 F0 (cs ++ R) w → k50.C w Aa (a).f1.length (a).f1) (hb : ∀ cs w, Sx.St w0 F0 (cs ++ R) w → k50.C w Ab (b).f1.length (b).f1) (h : Sx.St w0 F0 ([] ++ R) w) : Calls Try.prog 16 #[.agg #[.string ((a).f0), .slice (Aa) (((a).f1).length) (ca), .int .i64 ((a).f2), .int .i64 ((a).f3), .int .i64 (((a).f4).f0), .int .i64 (((a).f4).f1), .int .i64 (((a).f4).f2), .int .i64 (((a).f4).f3), .int .i64 (((a).f4).f4), .int .i64 (((a).f4).f5), .int .i64 (((a).f4).f6)], .agg #[.string ((b).f0), .slice (Ab) (((b).f1).length) (cb), .int .i64 ((b).f2), .int .i64 ((b).f3), .int .i64 (((b).f4).f0), .int .i64 (((b).f4).f1), .int .i64 (((b).f4).f2), .int .i64 (((b).f4).f3), .int .i64 (((b).f4).f4), .int .i64 (((b).f4).f5), .int .i64 (((b).f4).f6)]] w (fun e w1 => e = .returned (.bool (alikeB a b)) ∧ Sx.St w0 F0 R w1) := by
 have hla_ := small_len hsa
 have hlb_ := small_len hsb
 have hea_ := exp_runs_len a.f1
 have heb_ := exp_runs_len b.f1
 refine Sx.calls_fn (vs := [.agg #[.string ((a).f0), .slice (Aa) (((a).f1).length) (ca), .int .i64 ((a).f2), .int .i64 ((a).f3), .int .i64 (((a).f4).f0), .int .i64 (((a).f4).f1), .int .i64 (((a).f4).f2), .int .i64 (((a).f4).f3), .int .i64 (((a).f4).f4), .int .i64 (((a).f4).f5), .int .i64 (((a).f4).f6)], .agg #[.string ((b).f0), .slice (Ab) (((b).f1).length) (cb), .int .i64 ((b).f2), .int .i64 ((b).f3), .int .i64 (((b).f4).f0), .int .i64 (((b).f4).f1), .int .i64 (((b).f4).f2), .int .i64 (((b).f4).f3), .int .i64 (((b).f4).f4), .int .i64 (((b).f4).f5), .int .i64 (((b).f4).f6)]]) Try.func16 rfl Try.ntmps16 rfl ?_
 refine wc_seq ?_
 refine wc_region ?_
 refine wl_box _ h rfl rfl rfl (fun b1 _ h => ?_)
 replace h : Sx.St _ _ (Sx.blk b1 [.string ((a).f0), .slice (Aa) (((a).f1).length) (ca), .int .i64 ((a).f2), .int .i64 ((a).f3), .int .i64 (((a).f4).f0), .int .i64 (((a).f4).f1), .int .i64 (((a).f4).f2), .int .i64 (((a).f4).f3), .int .i64 (((a).f4).f4), .int .i64 (((a).f4).f5), .int .i64 (((a).f4).f6)] 33 :: _) _ := h
 refine wl_box _ h rfl rfl rfl (fun b2 _ h => ?_)
 replace h : Sx.St _ _ (Sx.blk b2 [.string ((b).f0), .slice (Ab) (((b).f1).length) (cb), .int .i64 ((b).f2), .int .i64 ((b).f3), .int .i64 (((b).f4).f0), .int .i64 (((b).f4).f1), .int .i64 (((b).f4).f2), .int .i64 (((b).f4).f3), .int .i64 (((b).f4).f4), .int .i64 (((b).f4).f5), .int .i64 (((b).f4).f6)] 33 :: _) _ := h
 refine wl_v rfl rfl (ov_assign _ rfl) ?_
 refine wl_nil ?_
 refine qn_then ?_
 refine wc_seq ?_
 refine wc_region ?_
 refine wl_v rfl rfl (ov_fieldAddr _ ⟨b1, 0, none⟩ _ rfl fo33_0 rfl) ?_
 refine wl_v rfl rfl (ov_loadb 1 _ h rfl rfl sh9 rfl) ?_
 refine wl_v rfl rfl (ov_fieldAddr _ ⟨b2, 0, none⟩ _ rfl fo33_0 rfl) ?_
 refine wl_v rfl rfl (ov_loadb 0 _ h rfl rfl sh9 rfl) ?_
 refine wl_v rfl rfl (ov_bin _ rfl rfl (binR_eqs)) ?_
 refine wl_v rfl rfl (ov_move _ rfl) ?_
 refine wl_split 10 rfl (fun c3 => ?_) (fun c3 => ?_)
 ·
  refine wl_v rfl rfl (ov_fieldAddr _ ⟨b1, 2, none⟩ _ rfl fo33_2 rfl) ?_
  refine wl_v rfl rfl (ov_loadb 1 _ h rfl rfl sh3 rfl) ?_
  refine wl_v rfl rfl (ov_fieldAddr _ ⟨b2, 2, none⟩ _ rfl fo33_2 rfl) ?_
  refine wl_v rfl rfl (ov_loadb 0 _ h rfl rfl sh3 rfl) ?_
  refine wl_v rfl rfl (ov_bin _ rfl rfl (binR_eql)) ?_
  refine wl_v rfl rfl (ov_pick_true _ rfl rfl) ?_
  refine wl_v rfl rfl (ov_move _ rfl) ?_
  refine wl_split 17 rfl (fun c4 => ?_) (fun c4 => ?_)
  ·
   refine wl_v rfl rfl (ov_fieldAddr _ ⟨b1, 3, none⟩ _ rfl fo33_3 rfl) ?_
   refine wl_v rfl rfl (ov_loadb 1 _ h rfl rfl sh3 rfl) ?_
   refine wl_v rfl rfl (ov_fieldAddr _ ⟨b2, 3, none⟩ _ rfl fo33_3 rfl) ?_
   refine wl_v rfl rfl (ov_loadb 0 _ h rfl rfl sh3 rfl) ?_
   refine wl_v rfl rfl (ov_bin _ rfl rfl (binR_eql)) ?_
   refine wl_v rfl rfl (ov_pick_true _ rfl rfl) ?_
   refine wl_v rfl rfl (ov_move _ rfl) ?_
   refine wl_split 24 rfl (fun c5 => ?_) (fun c5 => ?_)
   ·
    refine wl_v rfl rfl (ov_fieldAddr _ ⟨b1, 4, none⟩ _ rfl fo33_4 rfl) ?_
    refine wl_v rfl rfl (ov_loadbN 1 [.int .i64 (((a).f4).f0), .int .i64 (((a).f4).f1), .int .i64 (((a).f4).f2), .int .i64 (((a).f4).f3), .int .i64 (((a).f4).f4), .int .i64 (((a).f4).f5), .int .i64 (((a).f4).f6)] h rfl rfl sh31 rfl) ?_
    refine wl_v rfl rfl (ov_fieldAddr _ ⟨b2, 4, none⟩ _ rfl fo33_4 rfl) ?_
    refine wl_v rfl rfl (ov_loadbN 0 [.int .i64 (((b).f4).f0), .int .i64 (((b).f4).f1), .int .i64 (((b).f4).f2), .int .i64 (((b).f4).f3), .int .i64 (((b).f4).f4), .int .i64 (((b).f4).f5), .int .i64 (((b).f4).f6)] h rfl rfl sh31 rfl) ?_
    refine wl_v rfl rfl (ov_bin _ rfl rfl (binR_eqS ((((((a).f4).f0 : Int) == (((b).f4).f0)) && (((((a).f4).f1 : Int) == (((b).f4).f1)) && (((((a).f4).f2 : Int) == (((b).f4).f2)) && (((((a).f4).f3 : Int) == (((b).f4).f3)) && (((((a).f4).f4 : Int) == (((b).f4).f4)) && (((((a).f4).f5 : Int) == (((b).f4).f5)) && (((((a).f4).f6 : Int) == (((b).f4).f6)) && true)))))))) ((((a).f4).f0 : Int) = (((b).f4).f0) ∧ (((a).f4).f1 : Int) = (((b).f4).f1) ∧ (((a).f4).f2 : Int) = (((b).f4).f2) ∧ (((a).f4).f3 : Int) = (((b).f4).f3) ∧ (((a).f4).f4 : Int) = (((b).f4).f4) ∧ (((a).f4).f5 : Int) = (((b).f4).f5) ∧ (((a).f4).f6 : Int) = (((b).f4).f6)) eqf31 eqs31 (by kernel_rfl) (by rw [Bool.eq_iff_iff]; simp))) ?_
    refine wl_v rfl rfl (ov_pick_true _ rfl rfl) ?_
    refine wl_v rfl rfl (ov_move _ rfl) ?_
    refine wl_split 31 rfl (fun c6 => ?_) (fun c6 => ?_)
    ·
     refine wl_v rfl rfl (ov_fieldAddr _ ⟨b1, 1, none⟩ _ rfl fo33_1 rfl) ?_
     refine wl_v rfl rfl (ov_loadb 1 _ h rfl rfl sh29 rfl) ?_
     refine wl_v rfl rfl (ov_fieldAddr _ ⟨b2, 1, none⟩ _ rfl fo33_1 rfl) ?_
     refine wl_v rfl rfl (ov_loadb 0 _ h rfl rfl sh29 rfl) ?_
     refine wl_call _ rfl rfl rfl ent33 (Same_calls (R := [Sx.blk b2 [.string ((b).f0), .slice (Ab) (((b).f1).length) (cb), .int .i64 ((b).f2), .int .i64 ((b).f3), .int .i64 (((b).f4).f0), .int .i64 (((b).f4).f1), .int .i64 (((b).f4).f2), .int .i64 (((b).f4).f3), .int .i64 (((b).f4).f4), .int .i64 (((b).f4).f5), .int .i64 (((b).f4).f6)] 33, Sx.blk b1 [.string ((a).f0), .slice (Aa) (((a).f1).length) (ca), .int .i64 ((a).f2), .int .i64 ((a).f3), .int .i64 (((a).f4).f0), .int .i64 (((a).f4).f1), .int .i64 (((a).f4).f2), .int .i64 (((a).f4).f3), .int .i64 (((a).f4).f4), .int .i64 (((a).f4).f5), .int .i64 (((a).f4).f6)] 33] ++ R) ((a).f1) ((b).f1) (Aa) (Ab) (ca) (cb) (by omega) (by omega) (by omega) (by omega) (Sx.en_shift (cs2 := [Sx.blk b2 [.string ((b).f0), .slice (Ab) (((b).f1).length) (cb), .int .i64 ((b).f2), .int .i64 ((b).f3), .int .i64 (((b).f4).f0), .int .i64 (((b).f4).f1), .int .i64 (((b).f4).f2), .int .i64 (((b).f4).f3), .int .i64 (((b).f4).f4), .int .i64 (((b).f4).f5), .int .i64 (((b).f4).f6)] 33, Sx.blk b1 [.string ((a).f0), .slice (Aa) (((a).f1).length) (ca), .int .i64 ((a).f2), .int .i64 ((a).f3), .int .i64 (((a).f4).f0), .int .i64 (((a).f4).f1), .int .i64 (((a).f4).f2), .int .i64 (((a).f4).f3), .int .i64 (((a).f4).f4), .int .i64 (((a).f4).f5), .int .i64 (((a).f4).f6)] 33]) ha) (Sx.en_shift (cs2 := [Sx.blk b2 [.string ((b).f0), .slice (Ab) (((b).f1).length) (cb), .int .i64 ((b).f2), .int .i64 ((b).f3), .int .i64 (((b).f4).f0), .int .i64 (((b).f4).f1), .int .i64 (((b).f4).f2), .int .i64 (((b).f4).f3), .int .i64 (((b).f4).f4), .int .i64 (((b).f4).f5), .int .i64 (((b).f4).f6)] 33, Sx.blk b1 [.string ((a).f0), .slice (Aa) (((a).f1).length) (ca), .int .i64 ((a).f2), .int .i64 ((a).f3), .int .i64 (((a).f4).f0), .int .i64 (((a).f4).f1), .int .i64 (((a).f4).f2), .int .i64 (((a).f4).f3), .int .i64 (((a).f4).f4), .int .i64 (((a).f4).f5), .int .i64 (((a).f4).f6)] 33]) hb) h) ?_
     rintro e_ w_ ⟨rfl, h⟩
     refine ⟨_, rfl, ?_⟩
     refine wl_v rfl rfl (ov_pick_true _ rfl rfl) ?_
     refine wl_v rfl rfl (ov_assign _ rfl) ?_
     refine wl_nil ?_
     refine qn_then ?_
     refine wc_ret ?_
     replace h := st_selT [false, false] h
     have e_ : (sameV ((a).f1) ((b).f1)) = alikeB a b := by
       unfold alikeB
       first | unfold sameV | unfold sameB
       refine decide_eq_decide.2 ⟨fun z_ => ⟨by assumption, by omega, by omega, set_eq.1 (by assumption), z_⟩, fun z_ => z_.2.2.2.2⟩
     refine qn_ret [_] ⟨rfl, trivial⟩ ?_
     rw [← e_]
     exact ⟨rfl, h⟩
    ·
     refine wl_skip rfl rfl ?_
     refine wl_skip rfl rfl ?_
     refine wl_skip rfl rfl ?_
     refine wl_skip rfl rfl ?_
     refine wl_skip rfl rfl ?_
     refine wl_v rfl rfl (ov_pick_false _ rfl rfl) ?_
     refine wl_v rfl rfl (ov_assign _ rfl) ?_
     refine wl_nil ?_
     refine qn_then ?_
     refine wc_ret ?_
     replace h := st_selT [false, false] h
     have e_ : false = alikeB a b := (decide_eq_false (fun z_ => by
       obtain ⟨e1_, e2_, e3_, e4_, e5_⟩ := z_
       first
       | exact absurd e1_ (by assumption)
       | exact c6 (set_eq.2 e4_)
       | omega)).symm
     refine qn_ret [_] ⟨rfl, trivial⟩ ?_
     rw [← e_]
     exact ⟨rfl, h⟩
   ·
    refine wl_skip rfl rfl ?_
    refine wl_skip rfl rfl ?_
    refine wl_skip rfl rfl ?_
    refine wl_skip rfl rfl ?_
    refine wl_skip rfl rfl ?_
    refine wl_v rfl rfl (ov_pick_false _ rfl rfl) ?_
    refine wl_v rfl rfl (ov_move _ rfl) ?_
    refine wl_skip rfl rfl ?_
    refine wl_skip rfl rfl ?_
    refine wl_skip rfl rfl ?_
    refine wl_skip rfl rfl ?_
    refine wl_skip rfl rfl ?_
    refine wl_v rfl rfl (ov_pick_false _ rfl rfl) ?_
    refine wl_v rfl rfl (ov_assign _ rfl) ?_
    refine wl_nil ?_
    refine qn_then ?_
    refine wc_ret ?_
    replace h := st_selT [false, false] h
    have e_ : false = alikeB a b := (decide_eq_false (fun z_ => by
      obtain ⟨e1_, e2_, e3_, e4_, e5_⟩ := z_
      first
      | exact absurd e1_ (by assumption)
      | exact c5 (set_eq.2 e4_)
      | omega)).symm
    refine qn_ret [_] ⟨rfl, trivial⟩ ?_
    rw [← e_]
    exact ⟨rfl, h⟩
  ·
   refine wl_skip rfl rfl ?_
   refine wl_skip rfl rfl ?_
   refine wl_skip rfl rfl ?_
   refine wl_skip rfl rfl ?_
   refine wl_skip rfl rfl ?_
   refine wl_v rfl rfl (ov_pick_false _ rfl rfl) ?_
   refine wl_v rfl rfl (ov_move _ rfl) ?_
   refine wl_skip rfl rfl ?_
   refine wl_skip rfl rfl ?_
   refine wl_skip rfl rfl ?_
   refine wl_skip rfl rfl ?_
   refine wl_skip rfl rfl ?_
   refine wl_v rfl rfl (ov_pick_false _ rfl rfl) ?_
   refine wl_v rfl rfl (ov_move _ rfl) ?_
   refine wl_skip rfl rfl ?_
   refine wl_skip rfl rfl ?_
   refine wl_skip rfl rfl ?_
   refine wl_skip rfl rfl ?_
   refine wl_skip rfl rfl ?_
   refine wl_v rfl rfl (ov_pick_false _ rfl rfl) ?_
   refine wl_v rfl rfl (ov_assign _ rfl) ?_
   refine wl_nil ?_
   refine qn_then ?_
   refine wc_ret ?_
   replace h := st_selT [false, false] h
   have e_ : false = alikeB a b := (decide_eq_false (fun z_ => by
     obtain ⟨e1_, e2_, e3_, e4_, e5_⟩ := z_
     first
     | exact absurd e1_ (by assumption)
     | exact c4 (set_eq.2 e4_)
     | omega)).symm
   refine qn_ret [_] ⟨rfl, trivial⟩ ?_
   rw [← e_]
   exact ⟨rfl, h⟩
 ·
  refine wl_skip rfl rfl ?_
  refine wl_skip rfl rfl ?_
  refine wl_skip rfl rfl ?_
  refine wl_skip rfl rfl ?_
  refine wl_skip rfl rfl ?_
  refine wl_v rfl rfl (ov_pick_false _ rfl rfl) ?_
  refine wl_v rfl rfl (ov_move _ rfl) ?_
  refine wl_skip rfl rfl ?_
  refine wl_skip rfl rfl ?_
  refine wl_skip rfl rfl ?_
  refine wl_skip rfl rfl ?_
  refine wl_skip rfl rfl ?_
  refine wl_v rfl rfl (ov_pick_false _ rfl rfl) ?_
  refine wl_v rfl rfl (ov_move _ rfl) ?_
  refine wl_skip rfl rfl ?_
  refine wl_skip rfl rfl ?_
  refine wl_skip rfl rfl ?_
  refine wl_skip rfl rfl ?_
  refine wl_skip rfl rfl ?_
  refine wl_v rfl rfl (ov_pick_false _ rfl rfl) ?_
  refine wl_v rfl rfl (ov_move _ rfl) ?_
  refine wl_skip rfl rfl ?_
  refine wl_skip rfl rfl ?_
  refine wl_skip rfl rfl ?_
  refine wl_skip rfl rfl ?_
  refine wl_skip rfl rfl ?_
  refine wl_v rfl rfl (ov_pick_false _ rfl rfl) ?_
  refine wl_v rfl rfl (ov_assign _ rfl) ?_
  refine wl_nil ?_
  refine qn_then ?_
  refine wc_ret ?_
  replace h := st_selT [false, false] h
  have e_ : false = alikeB a b := (decide_eq_false (fun z_ => by
    obtain ⟨e1_, e2_, e3_, e4_, e5_⟩ := z_
    first
    | exact absurd e1_ (by assumption)
    | exact c3 (set_eq.2 e4_)
    | omega)).symm
  refine qn_ret [_] ⟨rfl, trivial⟩ ?_
  rw [← e_]
  exact ⟨rfl, h⟩
set_option maxHeartbeats 400000 in
set_option maxRecDepth 100000 in
theorem rAlike_calls {w0 w : World} {F0 : Nat → Prop} {R : List Sx.HP} (a b : KV) (Aa Ab : Option Addr) (ca cb : Nat) (hsa : SmallK a) (hsb : SmallK b) (ha : ∀ cs w, Sx.St w0 F0 (cs ++ R) w → k50.C w Aa (a).f1.length (a).f1) (hb : ∀ cs w, Sx.St w0 F0 (cs ++ R) w → k50.C w Ab (b).f1.length (b).f1) (h : Sx.St w0 F0 ([] ++ R) w) : Calls Try.prog 17 #[.agg #[.string ((a).f0), .slice (Aa) (((a).f1).length) (ca), .int .i64 ((a).f2), .int .i64 ((a).f3), .int .i64 (((a).f4).f0), .int .i64 (((a).f4).f1), .int .i64 (((a).f4).f2), .int .i64 (((a).f4).f3), .int .i64 (((a).f4).f4), .int .i64 (((a).f4).f5), .int .i64 (((a).f4).f6)], .agg #[.string ((b).f0), .slice (Ab) (((b).f1).length) (cb), .int .i64 ((b).f2), .int .i64 ((b).f3), .int .i64 (((b).f4).f0), .int .i64 (((b).f4).f1), .int .i64 (((b).f4).f2), .int .i64 (((b).f4).f3), .int .i64 (((b).f4).f4), .int .i64 (((b).f4).f5), .int .i64 (((b).f4).f6)]] w (fun e w1 => e = .returned (.bool (alikeB a b)) ∧ Sx.St w0 F0 R w1) := by
 have hla_ := small_len hsa
 have hlb_ := small_len hsb
 have hea_ := exp_runs_len a.f1
 have heb_ := exp_runs_len b.f1
 refine Sx.calls_fn (vs := [.agg #[.string ((a).f0), .slice (Aa) (((a).f1).length) (ca), .int .i64 ((a).f2), .int .i64 ((a).f3), .int .i64 (((a).f4).f0), .int .i64 (((a).f4).f1), .int .i64 (((a).f4).f2), .int .i64 (((a).f4).f3), .int .i64 (((a).f4).f4), .int .i64 (((a).f4).f5), .int .i64 (((a).f4).f6)], .agg #[.string ((b).f0), .slice (Ab) (((b).f1).length) (cb), .int .i64 ((b).f2), .int .i64 ((b).f3), .int .i64 (((b).f4).f0), .int .i64 (((b).f4).f1), .int .i64 (((b).f4).f2), .int .i64 (((b).f4).f3), .int .i64 (((b).f4).f4), .int .i64 (((b).f4).f5), .int .i64 (((b).f4).f6)]]) Try.func17 rfl Try.ntmps17 rfl ?_
 refine wc_seq ?_
 refine wc_region ?_
 refine wl_box _ h rfl rfl rfl (fun b1 _ h => ?_)
 replace h : Sx.St _ _ (Sx.blk b1 [.string ((a).f0), .slice (Aa) (((a).f1).length) (ca), .int .i64 ((a).f2), .int .i64 ((a).f3), .int .i64 (((a).f4).f0), .int .i64 (((a).f4).f1), .int .i64 (((a).f4).f2), .int .i64 (((a).f4).f3), .int .i64 (((a).f4).f4), .int .i64 (((a).f4).f5), .int .i64 (((a).f4).f6)] 40 :: _) _ := h
 refine wl_box _ h rfl rfl rfl (fun b2 _ h => ?_)
 replace h : Sx.St _ _ (Sx.blk b2 [.string ((b).f0), .slice (Ab) (((b).f1).length) (cb), .int .i64 ((b).f2), .int .i64 ((b).f3), .int .i64 (((b).f4).f0), .int .i64 (((b).f4).f1), .int .i64 (((b).f4).f2), .int .i64 (((b).f4).f3), .int .i64 (((b).f4).f4), .int .i64 (((b).f4).f5), .int .i64 (((b).f4).f6)] 40 :: _) _ := h
 refine wl_v rfl rfl (ov_assign _ rfl) ?_
 refine wl_nil ?_
 refine qn_then ?_
 refine wc_seq ?_
 refine wc_draw (fun w => Sx.St w0 F0 ([Sx.blk b2 [.string ((b).f0), .slice (Ab) (((b).f1).length) (cb), .int .i64 ((b).f2), .int .i64 ((b).f3), .int .i64 (((b).f4).f0), .int .i64 (((b).f4).f1), .int .i64 (((b).f4).f2), .int .i64 (((b).f4).f3), .int .i64 (((b).f4).f4), .int .i64 (((b).f4).f5), .int .i64 (((b).f4).f6)] 40, Sx.blk b1 [.string ((a).f0), .slice (Aa) (((a).f1).length) (ca), .int .i64 ((a).f2), .int .i64 ((a).f3), .int .i64 (((a).f4).f0), .int .i64 (((a).f4).f1), .int .i64 (((a).f4).f2), .int .i64 (((a).f4).f3), .int .i64 (((a).f4).f4), .int .i64 (((a).f4).f5), .int .i64 (((a).f4).f6)] 40] ++ R) w) (by kernel_rfl) ?_
 replace h := st_drew h
 refine wa_tk 0 rfl rfl rfl (st_selT [true, true] h) (fun w_ hS => ov_fieldAddr _ ⟨b1, 0, none⟩ _ rfl fo40_0 rfl) ?_
 refine wa_tk 1 rfl rfl rfl (st_selT [true, true] h) (fun w_ hS => ov_loadb 1 _ hS rfl rfl sh9 rfl) ?_
 refine wa_tk 2 rfl rfl rfl (st_selT [true, true] h) (fun w_ hS => ov_fieldAddr _ ⟨b2, 0, none⟩ _ rfl fo40_0 rfl) ?_
 refine wa_tk 3 rfl rfl rfl (st_selT [true, true] h) (fun w_ hS => ov_loadb 0 _ hS rfl rfl sh9 rfl) ?_
 refine wa_tk 4 rfl rfl rfl (st_selT [true, true] h) (fun w_ hS => ov_bin _ rfl rfl (binR_eqs)) ?_
 refine wa_tk 5 rfl rfl rfl (st_selT [true, true] h) (fun w_ hS => ov_move _ rfl) ?_
 refine wa_split 10 rfl (fun c3 => ?_) (fun c3 => ?_)
 ·
  refine wa_tk 6 rfl rfl rfl (st_selT [true, true] h) (fun w_ hS => ov_fieldAddr _ ⟨b1, 2, none⟩ _ rfl fo40_2 rfl) ?_
  refine wa_tk 7 rfl rfl rfl (st_selT [true, true] h) (fun w_ hS => ov_loadb 1 _ hS rfl rfl sh3 rfl) ?_
  refine wa_tk 8 rfl rfl rfl (st_selT [true, true] h) (fun w_ hS => ov_fieldAddr _ ⟨b2, 2, none⟩ _ rfl fo40_2 rfl) ?_
  refine wa_tk 9 rfl rfl rfl (st_selT [true, true] h) (fun w_ hS => ov_loadb 0 _ hS rfl rfl sh3 rfl) ?_
  refine wa_tk 10 rfl rfl rfl (st_selT [true, true] h) (fun w_ hS => ov_bin _ rfl rfl (binR_eql)) ?_
  refine wa_tk 11 rfl rfl rfl (st_selT [true, true] h) (fun w_ hS => ov_pick_true _ rfl rfl) ?_
  refine wa_tk 12 rfl rfl rfl (st_selT [true, true] h) (fun w_ hS => ov_move _ rfl) ?_
  refine wa_split 17 rfl (fun c4 => ?_) (fun c4 => ?_)
  ·
   refine wa_tk 13 rfl rfl rfl (st_selT [true, true] h) (fun w_ hS => ov_fieldAddr _ ⟨b1, 3, none⟩ _ rfl fo40_3 rfl) ?_
   refine wa_tk 14 rfl rfl rfl (st_selT [true, true] h) (fun w_ hS => ov_loadb 1 _ hS rfl rfl sh3 rfl) ?_
   refine wa_tk 15 rfl rfl rfl (st_selT [true, true] h) (fun w_ hS => ov_fieldAddr _ ⟨b2, 3, none⟩ _ rfl fo40_3 rfl) ?_
   refine wa_tk 16 rfl rfl rfl (st_selT [true, true] h) (fun w_ hS => ov_loadb 0 _ hS rfl rfl sh3 rfl) ?_
   refine wa_tk 17 rfl rfl rfl (st_selT [true, true] h) (fun w_ hS => ov_bin _ rfl rfl (binR_eql)) ?_
   refine wa_tk 18 rfl rfl rfl (st_selT [true, true] h) (fun w_ hS => ov_pick_true _ rfl rfl) ?_
   refine wa_tk 19 rfl rfl rfl (st_selT [true, true] h) (fun w_ hS => ov_move _ rfl) ?_
   refine wa_split 24 rfl (fun c5 => ?_) (fun c5 => ?_)
   ·
    refine wa_tk 20 rfl rfl rfl (st_selT [true, true] h) (fun w_ hS => ov_fieldAddr _ ⟨b1, 4, none⟩ _ rfl fo40_4 rfl) ?_
    refine wa_tk 21 rfl rfl rfl (st_selT [true, true] h) (fun w_ hS => ov_loadbN 1 [.int .i64 (((a).f4).f0), .int .i64 (((a).f4).f1), .int .i64 (((a).f4).f2), .int .i64 (((a).f4).f3), .int .i64 (((a).f4).f4), .int .i64 (((a).f4).f5), .int .i64 (((a).f4).f6)] hS rfl rfl sh31 rfl) ?_
    refine wa_tk 22 rfl rfl rfl (st_selT [true, true] h) (fun w_ hS => ov_fieldAddr _ ⟨b2, 4, none⟩ _ rfl fo40_4 rfl) ?_
    refine wa_tk 23 rfl rfl rfl (st_selT [true, true] h) (fun w_ hS => ov_loadbN 0 [.int .i64 (((b).f4).f0), .int .i64 (((b).f4).f1), .int .i64 (((b).f4).f2), .int .i64 (((b).f4).f3), .int .i64 (((b).f4).f4), .int .i64 (((b).f4).f5), .int .i64 (((b).f4).f6)] hS rfl rfl sh31 rfl) ?_
    refine wa_tk 24 rfl rfl rfl (st_selT [true, true] h) (fun w_ hS => ov_bin _ rfl rfl (binR_eqS ((((((a).f4).f0 : Int) == (((b).f4).f0)) && (((((a).f4).f1 : Int) == (((b).f4).f1)) && (((((a).f4).f2 : Int) == (((b).f4).f2)) && (((((a).f4).f3 : Int) == (((b).f4).f3)) && (((((a).f4).f4 : Int) == (((b).f4).f4)) && (((((a).f4).f5 : Int) == (((b).f4).f5)) && (((((a).f4).f6 : Int) == (((b).f4).f6)) && true)))))))) ((((a).f4).f0 : Int) = (((b).f4).f0) ∧ (((a).f4).f1 : Int) = (((b).f4).f1) ∧ (((a).f4).f2 : Int) = (((b).f4).f2) ∧ (((a).f4).f3 : Int) = (((b).f4).f3) ∧ (((a).f4).f4 : Int) = (((b).f4).f4) ∧ (((a).f4).f5 : Int) = (((b).f4).f5) ∧ (((a).f4).f6 : Int) = (((b).f4).f6)) eqf31 eqs31 (by kernel_rfl) (by rw [Bool.eq_iff_iff]; simp))) ?_
    refine wa_tk 25 rfl rfl rfl (st_selT [true, true] h) (fun w_ hS => ov_pick_true _ rfl rfl) ?_
    refine wa_tk 26 rfl rfl rfl (st_selT [true, true] h) (fun w_ hS => ov_move _ rfl) ?_
    refine wa_split 31 rfl (fun c6 => ?_) (fun c6 => ?_)
    ·
     refine wa_tk 27 rfl rfl rfl (st_selT [true, true] h) (fun w_ hS => ov_fieldAddr _ ⟨b1, 1, none⟩ _ rfl fo40_1 rfl) ?_
     refine wa_tk 28 rfl rfl rfl (st_selT [true, true] h) (fun w_ hS => ov_loadb 1 _ hS rfl rfl sh29 rfl) ?_
     refine wa_tk 30 rfl rfl rfl (st_selT [true, true] h) (fun w_ hS => ov_fieldAddr _ ⟨b2, 1, none⟩ _ rfl fo40_1 rfl) ?_
     refine wa_tk 31 rfl rfl rfl (st_selT [true, true] h) (fun w_ hS => ov_loadb 0 _ hS rfl rfl sh29 rfl) ?_
     refine wa_one 29 rfl (by kernel_rfl) ?_
     refine wl_call _ rfl rfl rfl ent35 (rMerged_calls (R := [Sx.blk b2 [.string ((b).f0), .slice (Ab) (((b).f1).length) (cb), .int .i64 ((b).f2), .int .i64 ((b).f3), .int .i64 (((b).f4).f0), .int .i64 (((b).f4).f1), .int .i64 (((b).f4).f2), .int .i64 (((b).f4).f3), .int .i64 (((b).f4).f4), .int .i64 (((b).f4).f5), .int .i64 (((b).f4).f6)] 40, Sx.blk b1 [.string ((a).f0), .slice (Aa) (((a).f1).length) (ca), .int .i64 ((a).f2), .int .i64 ((a).f3), .int .i64 (((a).f4).f0), .int .i64 (((a).f4).f1), .int .i64 (((a).f4).f2), .int .i64 (((a).f4).f3), .int .i64 (((a).f4).f4), .int .i64 (((a).f4).f5), .int .i64 (((a).f4).f6)] 40] ++ R) ((a).f1) (Aa) (ca) (by exact ⟨by omega, by omega⟩) (Sx.en_shift (cs2 := [Sx.blk b2 [.string ((b).f0), .slice (Ab) (((b).f1).length) (cb), .int .i64 ((b).f2), .int .i64 ((b).f3), .int .i64 (((b).f4).f0), .int .i64 (((b).f4).f1), .int .i64 (((b).f4).f2), .int .i64 (((b).f4).f3), .int .i64 (((b).f4).f4), .int .i64 (((b).f4).f5), .int .i64 (((b).f4).f6)] 40, Sx.blk b1 [.string ((a).f0), .slice (Aa) (((a).f1).length) (ca), .int .i64 ((a).f2), .int .i64 ((a).f3), .int .i64 (((a).f4).f0), .int .i64 (((a).f4).f1), .int .i64 (((a).f4).f2), .int .i64 (((a).f4).f3), .int .i64 (((a).f4).f4), .int .i64 (((a).f4).f5), .int .i64 (((a).f4).f6)] 40]) ha) h) ?_
     rintro e_ w_ ⟨A7, cp8, rfl, h⟩
     refine ⟨_, rfl, ?_⟩
     refine wl_nil ?_
     refine qn_wa (st_selT [false, true, true] h) ?_
     refine wa_one 32 rfl (by kernel_rfl) ?_
     refine wl_call _ rfl rfl rfl ent35 (rMerged_calls (R := [Sx.row k50 50 (A7) (cp8) (runsOf (expand ((a).f1))), Sx.blk b2 [.string ((b).f0), .slice (Ab) (((b).f1).length) (cb), .int .i64 ((b).f2), .int .i64 ((b).f3), .int .i64 (((b).f4).f0), .int .i64 (((b).f4).f1), .int .i64 (((b).f4).f2), .int .i64 (((b).f4).f3), .int .i64 (((b).f4).f4), .int .i64 (((b).f4).f5), .int .i64 (((b).f4).f6)] 40, Sx.blk b1 [.string ((a).f0), .slice (Aa) (((a).f1).length) (ca), .int .i64 ((a).f2), .int .i64 ((a).f3), .int .i64 (((a).f4).f0), .int .i64 (((a).f4).f1), .int .i64 (((a).f4).f2), .int .i64 (((a).f4).f3), .int .i64 (((a).f4).f4), .int .i64 (((a).f4).f5), .int .i64 (((a).f4).f6)] 40] ++ R) ((b).f1) (Ab) (cb) (by exact ⟨by omega, by omega⟩) (Sx.en_shift (cs2 := [Sx.row k50 50 (A7) (cp8) (runsOf (expand ((a).f1))), Sx.blk b2 [.string ((b).f0), .slice (Ab) (((b).f1).length) (cb), .int .i64 ((b).f2), .int .i64 ((b).f3), .int .i64 (((b).f4).f0), .int .i64 (((b).f4).f1), .int .i64 (((b).f4).f2), .int .i64 (((b).f4).f3), .int .i64 (((b).f4).f4), .int .i64 (((b).f4).f5), .int .i64 (((b).f4).f6)] 40, Sx.blk b1 [.string ((a).f0), .slice (Aa) (((a).f1).length) (ca), .int .i64 ((a).f2), .int .i64 ((a).f3), .int .i64 (((a).f4).f0), .int .i64 (((a).f4).f1), .int .i64 (((a).f4).f2), .int .i64 (((a).f4).f3), .int .i64 (((a).f4).f4), .int .i64 (((a).f4).f5), .int .i64 (((a).f4).f6)] 40]) hb) h) ?_
     rintro e_ w_ ⟨A9, cp10, rfl, h⟩
     refine ⟨_, rfl, ?_⟩
     refine wl_nil ?_
     refine qn_wa (st_selT [false, false, true, true] h) ?_
     refine wa_one 33 rfl (by kernel_rfl) ?_
     refine wl_call _ rfl rfl rfl ent34 (rSame_calls (R := [Sx.row k50 50 (A9) (cp10) (runsOf (expand ((b).f1))), Sx.row k50 50 (A7) (cp8) (runsOf (expand ((a).f1))), Sx.blk b2 [.string ((b).f0), .slice (Ab) (((b).f1).length) (cb), .int .i64 ((b).f2), .int .i64 ((b).f3), .int .i64 (((b).f4).f0), .int .i64 (((b).f4).f1), .int .i64 (((b).f4).f2), .int .i64 (((b).f4).f3), .int .i64 (((b).f4).f4), .int .i64 (((b).f4).f5), .int .i64 (((b).f4).f6)] 40, Sx.blk b1 [.string ((a).f0), .slice (Aa) (((a).f1).length) (ca), .int .i64 ((a).f2), .int .i64 ((a).f3), .int .i64 (((a).f4).f0), .int .i64 (((a).f4).f1), .int .i64 (((a).f4).f2), .int .i64 (((a).f4).f3), .int .i64 (((a).f4).f4), .int .i64 (((a).f4).f5), .int .i64 (((a).f4).f6)] 40] ++ R) (runsOf (expand ((a).f1))) (runsOf (expand ((b).f1))) (A7) (A9) (cp8) (cp10) (by omega) (by omega) (Sx.row_reads_at (R := [Sx.row k50 50 (A9) (cp10) (runsOf (expand ((b).f1))), Sx.row k50 50 (A7) (cp8) (runsOf (expand ((a).f1))), Sx.blk b2 [.string ((b).f0), .slice (Ab) (((b).f1).length) (cb), .int .i64 ((b).f2), .int .i64 ((b).f3), .int .i64 (((b).f4).f0), .int .i64 (((b).f4).f1), .int .i64 (((b).f4).f2), .int .i64 (((b).f4).f3), .int .i64 (((b).f4).f4), .int .i64 (((b).f4).f5), .int .i64 (((b).f4).f6)] 40, Sx.blk b1 [.string ((a).f0), .slice (Aa) (((a).f1).length) (ca), .int .i64 ((a).f2), .int .i64 ((a).f3), .int .i64 (((a).f4).f0), .int .i64 (((a).f4).f1), .int .i64 (((a).f4).f2), .int .i64 (((a).f4).f3), .int .i64 (((a).f4).f4), .int .i64 (((a).f4).f5), .int .i64 (((a).f4).f6)] 40] ++ R) (j := 1) rfl) (Sx.row_reads_at (R := [Sx.row k50 50 (A9) (cp10) (runsOf (expand ((b).f1))), Sx.row k50 50 (A7) (cp8) (runsOf (expand ((a).f1))), Sx.blk b2 [.string ((b).f0), .slice (Ab) (((b).f1).length) (cb), .int .i64 ((b).f2), .int .i64 ((b).f3), .int .i64 (((b).f4).f0), .int .i64 (((b).f4).f1), .int .i64 (((b).f4).f2), .int .i64 (((b).f4).f3), .int .i64 (((b).f4).f4), .int .i64 (((b).f4).f5), .int .i64 (((b).f4).f6)] 40, Sx.blk b1 [.string ((a).f0), .slice (Aa) (((a).f1).length) (ca), .int .i64 ((a).f2), .int .i64 ((a).f3), .int .i64 (((a).f4).f0), .int .i64 (((a).f4).f1), .int .i64 (((a).f4).f2), .int .i64 (((a).f4).f3), .int .i64 (((a).f4).f4), .int .i64 (((a).f4).f5), .int .i64 (((a).f4).f6)] 40] ++ R) (j := 0) rfl) h) ?_
     rintro e_ w_ ⟨rfl, h⟩
     refine ⟨_, rfl, ?_⟩
     refine wl_nil ?_
     refine qn_wa (st_selT [false, false, true, true] h) ?_
     refine wa_tk 34 rfl rfl rfl (st_selT [false, false, true, true] h) (fun w_ hS => ov_pick_true _ rfl rfl) ?_
     refine wa_tk 35 rfl rfl rfl (st_selT [false, false, true, true] h) (fun w_ hS => ov_assign _ rfl) ?_
     refine wa_done (by kernel_rfl) ?_
     refine qn_then ?_
     refine wc_ret ?_
     replace h := st_selT [false, false, false, false] h
     have e_ : (sameB (runsOf (expand ((a).f1))) (runsOf (expand ((b).f1)))) = alikeB a b := by
       unfold alikeB
       first | unfold sameV | unfold sameB
       refine decide_eq_decide.2 ⟨fun z_ => ⟨by assumption, by omega, by omega, set_eq.1 (by assumption), z_⟩, fun z_ => z_.2.2.2.2⟩
     refine qn_ret [_] ⟨rfl, trivial⟩ ?_
     rw [← e_]
     exact ⟨rfl, h⟩
    ·
     refine wa_sk 27 rfl rfl rfl (st_selT [true, true] h) ?_
     refine wa_sk 28 rfl rfl rfl (st_selT [true, true] h) ?_
     refine wa_sk 29 rfl rfl rfl (st_selT [true, true] h) ?_
     refine wa_sk 30 rfl rfl rfl (st_selT [true, true] h) ?_
     refine wa_sk 31 rfl rfl rfl (st_selT [true, true] h) ?_
     refine wa_sk 32 rfl rfl rfl (st_selT [true, true] h) ?_
     refine wa_sk 33 rfl rfl rfl (st_selT [true, true] h) ?_
     refine wa_tk 34 rfl rfl rfl (st_selT [true, true] h) (fun w_ hS => ov_pick_false _ rfl rfl) ?_
     refine wa_tk 35 rfl rfl rfl (st_selT [true, true] h) (fun w_ hS => ov_assign _ rfl) ?_
     refine wa_done (by kernel_rfl) ?_
     refine qn_then ?_
     refine wc_ret ?_
     replace h := st_selT [false, false] h
     have e_ : false = alikeB a b := (decide_eq_false (fun z_ => by
       obtain ⟨e1_, e2_, e3_, e4_, e5_⟩ := z_
       first
       | exact absurd e1_ (by assumption)
       | exact c6 (set_eq.2 e4_)
       | omega)).symm
     refine qn_ret [_] ⟨rfl, trivial⟩ ?_
     rw [← e_]
     exact ⟨rfl, h⟩
   ·
    refine wa_sk 20 rfl rfl rfl (st_selT [true, true] h) ?_
    refine wa_sk 21 rfl rfl rfl (st_selT [true, true] h) ?_
    refine wa_sk 22 rfl rfl rfl (st_selT [true, true] h) ?_
    refine wa_sk 23 rfl rfl rfl (st_selT [true, true] h) ?_
    refine wa_sk 24 rfl rfl rfl (st_selT [true, true] h) ?_
    refine wa_tk 25 rfl rfl rfl (st_selT [true, true] h) (fun w_ hS => ov_pick_false _ rfl rfl) ?_
    refine wa_tk 26 rfl rfl rfl (st_selT [true, true] h) (fun w_ hS => ov_move _ rfl) ?_
    refine wa_sk 27 rfl rfl rfl (st_selT [true, true] h) ?_
    refine wa_sk 28 rfl rfl rfl (st_selT [true, true] h) ?_
    refine wa_sk 29 rfl rfl rfl (st_selT [true, true] h) ?_
    refine wa_sk 30 rfl rfl rfl (st_selT [true, true] h) ?_
    refine wa_sk 31 rfl rfl rfl (st_selT [true, true] h) ?_
    refine wa_sk 32 rfl rfl rfl (st_selT [true, true] h) ?_
    refine wa_sk 33 rfl rfl rfl (st_selT [true, true] h) ?_
    refine wa_tk 34 rfl rfl rfl (st_selT [true, true] h) (fun w_ hS => ov_pick_false _ rfl rfl) ?_
    refine wa_tk 35 rfl rfl rfl (st_selT [true, true] h) (fun w_ hS => ov_assign _ rfl) ?_
    refine wa_done (by kernel_rfl) ?_
    refine qn_then ?_
    refine wc_ret ?_
    replace h := st_selT [false, false] h
    have e_ : false = alikeB a b := (decide_eq_false (fun z_ => by
      obtain ⟨e1_, e2_, e3_, e4_, e5_⟩ := z_
      first
      | exact absurd e1_ (by assumption)
      | exact c5 (set_eq.2 e4_)
      | omega)).symm
    refine qn_ret [_] ⟨rfl, trivial⟩ ?_
    rw [← e_]
    exact ⟨rfl, h⟩
  ·
   refine wa_sk 13 rfl rfl rfl (st_selT [true, true] h) ?_
   refine wa_sk 14 rfl rfl rfl (st_selT [true, true] h) ?_
   refine wa_sk 15 rfl rfl rfl (st_selT [true, true] h) ?_
   refine wa_sk 16 rfl rfl rfl (st_selT [true, true] h) ?_
   refine wa_sk 17 rfl rfl rfl (st_selT [true, true] h) ?_
   refine wa_tk 18 rfl rfl rfl (st_selT [true, true] h) (fun w_ hS => ov_pick_false _ rfl rfl) ?_
   refine wa_tk 19 rfl rfl rfl (st_selT [true, true] h) (fun w_ hS => ov_move _ rfl) ?_
   refine wa_sk 20 rfl rfl rfl (st_selT [true, true] h) ?_
   refine wa_sk 21 rfl rfl rfl (st_selT [true, true] h) ?_
   refine wa_sk 22 rfl rfl rfl (st_selT [true, true] h) ?_
   refine wa_sk 23 rfl rfl rfl (st_selT [true, true] h) ?_
   refine wa_sk 24 rfl rfl rfl (st_selT [true, true] h) ?_
   refine wa_tk 25 rfl rfl rfl (st_selT [true, true] h) (fun w_ hS => ov_pick_false _ rfl rfl) ?_
   refine wa_tk 26 rfl rfl rfl (st_selT [true, true] h) (fun w_ hS => ov_move _ rfl) ?_
   refine wa_sk 27 rfl rfl rfl (st_selT [true, true] h) ?_
   refine wa_sk 28 rfl rfl rfl (st_selT [true, true] h) ?_
   refine wa_sk 29 rfl rfl rfl (st_selT [true, true] h) ?_
   refine wa_sk 30 rfl rfl rfl (st_selT [true, true] h) ?_
   refine wa_sk 31 rfl rfl rfl (st_selT [true, true] h) ?_
   refine wa_sk 32 rfl rfl rfl (st_selT [true, true] h) ?_
   refine wa_sk 33 rfl rfl rfl (st_selT [true, true] h) ?_
   refine wa_tk 34 rfl rfl rfl (st_selT [true, true] h) (fun w_ hS => ov_pick_false _ rfl rfl) ?_
   refine wa_tk 35 rfl rfl rfl (st_selT [true, true] h) (fun w_ hS => ov_assign _ rfl) ?_
   refine wa_done (by kernel_rfl) ?_
   refine qn_then ?_
   refine wc_ret ?_
   replace h := st_selT [false, false] h
   have e_ : false = alikeB a b := (decide_eq_false (fun z_ => by
     obtain ⟨e1_, e2_, e3_, e4_, e5_⟩ := z_
     first
     | exact absurd e1_ (by assumption)
     | exact c4 (set_eq.2 e4_)
     | omega)).symm
   refine qn_ret [_] ⟨rfl, trivial⟩ ?_
   rw [← e_]
   exact ⟨rfl, h⟩
 ·
  refine wa_sk 6 rfl rfl rfl (st_selT [true, true] h) ?_
  refine wa_sk 7 rfl rfl rfl (st_selT [true, true] h) ?_
  refine wa_sk 8 rfl rfl rfl (st_selT [true, true] h) ?_
  refine wa_sk 9 rfl rfl rfl (st_selT [true, true] h) ?_
  refine wa_sk 10 rfl rfl rfl (st_selT [true, true] h) ?_
  refine wa_tk 11 rfl rfl rfl (st_selT [true, true] h) (fun w_ hS => ov_pick_false _ rfl rfl) ?_
  refine wa_tk 12 rfl rfl rfl (st_selT [true, true] h) (fun w_ hS => ov_move _ rfl) ?_
  refine wa_sk 13 rfl rfl rfl (st_selT [true, true] h) ?_
  refine wa_sk 14 rfl rfl rfl (st_selT [true, true] h) ?_
  refine wa_sk 15 rfl rfl rfl (st_selT [true, true] h) ?_
  refine wa_sk 16 rfl rfl rfl (st_selT [true, true] h) ?_
  refine wa_sk 17 rfl rfl rfl (st_selT [true, true] h) ?_
  refine wa_tk 18 rfl rfl rfl (st_selT [true, true] h) (fun w_ hS => ov_pick_false _ rfl rfl) ?_
  refine wa_tk 19 rfl rfl rfl (st_selT [true, true] h) (fun w_ hS => ov_move _ rfl) ?_
  refine wa_sk 20 rfl rfl rfl (st_selT [true, true] h) ?_
  refine wa_sk 21 rfl rfl rfl (st_selT [true, true] h) ?_
  refine wa_sk 22 rfl rfl rfl (st_selT [true, true] h) ?_
  refine wa_sk 23 rfl rfl rfl (st_selT [true, true] h) ?_
  refine wa_sk 24 rfl rfl rfl (st_selT [true, true] h) ?_
  refine wa_tk 25 rfl rfl rfl (st_selT [true, true] h) (fun w_ hS => ov_pick_false _ rfl rfl) ?_
  refine wa_tk 26 rfl rfl rfl (st_selT [true, true] h) (fun w_ hS => ov_move _ rfl) ?_
  refine wa_sk 27 rfl rfl rfl (st_selT [true, true] h) ?_
  refine wa_sk 28 rfl rfl rfl (st_selT [true, true] h) ?_
  refine wa_sk 29 rfl rfl rfl (st_selT [true, true] h) ?_
  refine wa_sk 30 rfl rfl rfl (st_selT [true, true] h) ?_
  refine wa_sk 31 rfl rfl rfl (st_selT [true, true] h) ?_
  refine wa_sk 32 rfl rfl rfl (st_selT [true, true] h) ?_
  refine wa_sk 33 rfl rfl rfl (st_selT [true, true] h) ?_
  refine wa_tk 34 rfl rfl rfl (st_selT [true, true] h) (fun w_ hS => ov_pick_false _ rfl rfl) ?_
  refine wa_tk 35 rfl rfl rfl (st_selT [true, true] h) (fun w_ hS => ov_assign _ rfl) ?_
  refine wa_done (by kernel_rfl) ?_
  refine qn_then ?_
  refine wc_ret ?_
  replace h := st_selT [false, false] h
  have e_ : false = alikeB a b := (decide_eq_false (fun z_ => by
    obtain ⟨e1_, e2_, e3_, e4_, e5_⟩ := z_
    first
    | exact absurd e1_ (by assumption)
    | exact c3 (set_eq.2 e4_)
    | omega)).symm
  refine qn_ret [_] ⟨rfl, trivial⟩ ?_
  rw [← e_]
  exact ⟨rfl, h⟩
set_option maxHeartbeats 400000 in
set_option maxRecDepth 100000 in
theorem ref_calls {w0 w : World} {F0 : Nat → Prop} {R : List Sx.HP} (k : KV) (A : Option Addr) (c : Nat)  (h : Sx.St w0 F0 ([] ++ R) w) : Calls Try.prog 18 #[.agg #[.string ((k).f0), .slice (A) (((k).f1).length) (c), .int .i64 ((k).f2), .int .i64 ((k).f3), .int .i64 (((k).f4).f0), .int .i64 (((k).f4).f1), .int .i64 (((k).f4).f2), .int .i64 (((k).f4).f3), .int .i64 (((k).f4).f4), .int .i64 (((k).f4).f5), .int .i64 (((k).f4).f6)]] w (fun e w1 => e = .returned (.agg #[.string ((k).f0), .slice (A) (((k).f1).length) (c), .int .i64 ((k).f2), .int .i64 ((k).f3), .int .i64 (((k).f4).f0), .int .i64 (((k).f4).f1), .int .i64 (((k).f4).f2), .int .i64 (((k).f4).f3), .int .i64 (((k).f4).f4), .int .i64 (((k).f4).f5), .int .i64 (((k).f4).f6)]) ∧ Sx.St w0 F0 R w1) := by
 refine Sx.calls_fn (vs := [.agg #[.string ((k).f0), .slice (A) (((k).f1).length) (c), .int .i64 ((k).f2), .int .i64 ((k).f3), .int .i64 (((k).f4).f0), .int .i64 (((k).f4).f1), .int .i64 (((k).f4).f2), .int .i64 (((k).f4).f3), .int .i64 (((k).f4).f4), .int .i64 (((k).f4).f5), .int .i64 (((k).f4).f6)]]) Try.func18 rfl Try.ntmps18 rfl ?_
 refine wc_seq ?_
 refine wc_region ?_
 refine wl_box _ h rfl rfl rfl (fun b1 _ h => ?_)
 replace h : Sx.St _ _ (Sx.blk b1 [.string ((k).f0), .slice (A) (((k).f1).length) (c), .int .i64 ((k).f2), .int .i64 ((k).f3), .int .i64 (((k).f4).f0), .int .i64 (((k).f4).f1), .int .i64 (((k).f4).f2), .int .i64 (((k).f4).f3), .int .i64 (((k).f4).f4), .int .i64 (((k).f4).f5), .int .i64 (((k).f4).f6)] 33 :: _) _ := h
 refine wl_alloc _ h rfl rfl zo40 (fun b2 _ h => ?_)
 replace h : Sx.St _ _ (Sx.blk b2 [.string (ByteArray.empty), .slice (none) (0) (0), .int .i64 (0), .int .i64 (0), .int .i64 (0), .int .i64 (0), .int .i64 (0), .int .i64 (0), .int .i64 (0), .int .i64 (0), .int .i64 (0)] 40 :: _) _ := h
 refine wl_nil ?_
 refine qn_then ?_
 refine wc_seq ?_
 refine wc_region ?_
 refine wl_v rfl rfl (ov_fieldAddr _ ⟨b1, 0, none⟩ _ rfl fo33_0 rfl) ?_
 refine wl_v rfl rfl (ov_loadb 1 _ h rfl rfl sh9 rfl) ?_
 refine wl_v rfl rfl (ov_fieldAddr _ ⟨b1, 1, none⟩ _ rfl fo33_1 rfl) ?_
 refine wl_v rfl rfl (ov_loadb 1 _ h rfl rfl sh29 rfl) ?_
 refine wl_v rfl rfl (ov_fieldAddr _ ⟨b1, 2, none⟩ _ rfl fo33_2 rfl) ?_
 refine wl_v rfl rfl (ov_loadb 1 _ h rfl rfl sh3 rfl) ?_
 refine wl_v rfl rfl (ov_fieldAddr _ ⟨b1, 3, none⟩ _ rfl fo33_3 rfl) ?_
 refine wl_v rfl rfl (ov_loadb 1 _ h rfl rfl sh3 rfl) ?_
 refine wl_v rfl rfl (ov_fieldAddr _ ⟨b1, 4, none⟩ _ rfl fo33_4 rfl) ?_
 refine wl_v rfl rfl (ov_loadbN 1 [.int .i64 (((k).f4).f0), .int .i64 (((k).f4).f1), .int .i64 (((k).f4).f2), .int .i64 (((k).f4).f3), .int .i64 (((k).f4).f4), .int .i64 (((k).f4).f5), .int .i64 (((k).f4).f6)] h rfl rfl sh31 rfl) ?_
 refine wl_v rfl rfl (ov_build [(0, .string ((k).f0)), (1, .slice (A) (((k).f1).length) (c)), (2, .int .i64 ((k).f2)), (3, .int .i64 ((k).f3)), (4, .agg #[.int .i64 (((k).f4).f0), .int .i64 (((k).f4).f1), .int .i64 (((k).f4).f2), .int .i64 (((k).f4).f3), .int .i64 (((k).f4).f4), .int .i64 (((k).f4).f5), .int .i64 (((k).f4).f6)])] [.string ((k).f0), .slice (A) (((k).f1).length) (c), .int .i64 ((k).f2), .int .i64 ((k).f3), .int .i64 (((k).f4).f0), .int .i64 (((k).f4).f1), .int .i64 (((k).f4).f2), .int .i64 (((k).f4).f3), .int .i64 (((k).f4).f4), .int .i64 (((k).f4).f5), .int .i64 (((k).f4).f6)] rfl rfl (by kernel_rfl)) ?_
 refine wl_storebN 0 [.string ((k).f0), .slice (A) (((k).f1).length) (c), .int .i64 ((k).f2), .int .i64 ((k).f3), .int .i64 (((k).f4).f0), .int .i64 (((k).f4).f1), .int .i64 (((k).f4).f2), .int .i64 (((k).f4).f3), .int .i64 (((k).f4).f4), .int .i64 (((k).f4).f5), .int .i64 (((k).f4).f6)] [.string ((k).f0), .slice (A) (((k).f1).length) (c), .int .i64 ((k).f2), .int .i64 ((k).f3), .int .i64 (((k).f4).f0), .int .i64 (((k).f4).f1), .int .i64 (((k).f4).f2), .int .i64 (((k).f4).f3), .int .i64 (((k).f4).f4), .int .i64 (((k).f4).f5), .int .i64 (((k).f4).f6)] h rfl rfl rfl rfl (by simp [Value.oneCell']) sh40 rfl rfl (fun _ h => ?_)
 refine wl_nil ?_
 refine qn_then ?_
 refine wc_ret ?_
 have hend_ := h
 refine qn_ret [_] ⟨⟨_, rfl, Sx.loadVarN (vs := [.string ((k).f0), .slice (A) (((k).f1).length) (c), .int .i64 ((k).f2), .int .i64 ((k).f3), .int .i64 (((k).f4).f0), .int .i64 (((k).f4).f1), .int .i64 (((k).f4).f2), .int .i64 (((k).f4).f3), .int .i64 (((k).f4).f4), .int .i64 (((k).f4).f5), .int .i64 (((k).f4).f6)]) sh40 (Sx.blk_cells (cells := [.string ((k).f0), .slice (A) (((k).f1).length) (c), .int .i64 ((k).f2), .int .i64 ((k).f3), .int .i64 (((k).f4).f0), .int .i64 (((k).f4).f1), .int .i64 (((k).f4).f2), .int .i64 (((k).f4).f3), .int .i64 (((k).f4).f4), .int .i64 (((k).f4).f5), .int .i64 (((k).f4).f6)]) hend_ (i := 0) rfl 0 _ rfl)⟩, trivial⟩ ?_
 replace h := st_selT [false, false] h
 exact ⟨rfl, h⟩
set_option maxHeartbeats 400000 in
set_option maxRecDepth 100000 in
theorem fits_calls {w0 w : World} {F0 : Nat → Prop} {R : List Sx.HP} (k : KV) (A : Option Addr) (c : Nat) (hr : ∀ cs w, Sx.St w0 F0 (cs ++ R) w → k50.C w A (k).f1.length (k).f1) (h : Sx.St w0 F0 ([] ++ R) w) : Calls Try.prog 15 #[.agg #[.string ((k).f0), .slice (A) (((k).f1).length) (c), .int .i64 ((k).f2), .int .i64 ((k).f3), .int .i64 (((k).f4).f0), .int .i64 (((k).f4).f1), .int .i64 (((k).f4).f2), .int .i64 (((k).f4).f3), .int .i64 (((k).f4).f4), .int .i64 (((k).f4).f5), .int .i64 (((k).f4).f6)]] w (fun e w1 => e = .returned (.bool (decide (fitsP k))) ∧ Sx.St w0 F0 R w1) := by
 refine Sx.calls_fn (vs := [.agg #[.string ((k).f0), .slice (A) (((k).f1).length) (c), .int .i64 ((k).f2), .int .i64 ((k).f3), .int .i64 (((k).f4).f0), .int .i64 (((k).f4).f1), .int .i64 (((k).f4).f2), .int .i64 (((k).f4).f3), .int .i64 (((k).f4).f4), .int .i64 (((k).f4).f5), .int .i64 (((k).f4).f6)]]) Try.func15 rfl Try.ntmps15 rfl ?_
 refine wc_seq ?_
 refine wc_region ?_
 refine wl_box _ h rfl rfl rfl (fun b1 _ h => ?_)
 replace h : Sx.St _ _ (Sx.blk b1 [.string ((k).f0), .slice (A) (((k).f1).length) (c), .int .i64 ((k).f2), .int .i64 ((k).f3), .int .i64 (((k).f4).f0), .int .i64 (((k).f4).f1), .int .i64 (((k).f4).f2), .int .i64 (((k).f4).f3), .int .i64 (((k).f4).f4), .int .i64 (((k).f4).f5), .int .i64 (((k).f4).f6)] 33 :: _) _ := h
 refine wl_v rfl rfl (ov_assign _ rfl) ?_
 refine wl_nil ?_
 refine qn_then ?_
 refine wc_seq ?_
 refine wc_seq ?_
 refine wc_region ?_
 refine wl_v rfl rfl (ov_fieldAddr _ ⟨b1, 0, none⟩ _ rfl fo33_0 rfl) ?_
 refine wl_v rfl rfl (ov_loadb 0 _ h rfl rfl sh9 rfl) ?_
 refine wl_v rfl rfl (ov_lens _ rfl Try.underlying9) ?_
 refine wl_v rfl rfl (ov_bin _ rfl rfl (binR_gtr)) ?_
 refine wl_v rfl rfl (ov_move _ rfl) ?_
 refine wl_split 8 rfl (fun c2 => ?_) (fun c2 => ?_)
 ·
  refine wl_skip rfl rfl ?_
  refine wl_skip rfl rfl ?_
  refine wl_skip rfl rfl ?_
  refine wl_skip rfl rfl ?_
  refine wl_v rfl rfl (ov_pick_true _ rfl rfl) ?_
  refine wl_nil ?_
  refine qn_then ?_
  refine wc_cond_true rfl ?_
  refine wc_seq ?_
  refine wc_region ?_
  refine wl_v rfl rfl (ov_assign _ rfl) ?_
  refine wl_nil ?_
  refine qn_then ?_
  refine wc_ret ?_
  refine qn_then_ret ?_
  replace h := st_selT [false] h
  refine qn_ret [_] ⟨rfl, trivial⟩ ?_
  rw [show (false : Bool) = decide (fitsP k) from (decide_eq_false (fun z_ => by
    have z1_ := z_.1
    have z2_ := z_.2.1
    first
    | omega
    | (have z3_ := z_.2.2 i (by omega); omega))).symm]
  exact ⟨rfl, h⟩
 ·
  refine wl_v rfl rfl (ov_fieldAddr _ ⟨b1, 1, none⟩ _ rfl fo33_1 rfl) ?_
  refine wl_v rfl rfl (ov_loadb 0 _ h rfl rfl sh29 rfl) ?_
  refine wl_v rfl rfl (ov_len _ _ _ _ _ rfl es29) ?_
  refine wl_v rfl rfl (ov_bin _ rfl rfl (binR_gtr)) ?_
  refine wl_v rfl rfl (ov_pick_false _ rfl rfl) ?_
  refine wl_nil ?_
  refine qn_then ?_
  refine wc_cond (by rfl) (fun c3 => ?_) (fun c3 => ?_)
  ·
   refine wc_seq ?_
   refine wc_region ?_
   refine wl_v rfl rfl (ov_assign _ rfl) ?_
   refine wl_nil ?_
   refine qn_then ?_
   refine wc_ret ?_
   refine qn_then_ret ?_
   replace h := st_selT [false] h
   refine qn_ret [_] ⟨rfl, trivial⟩ ?_
   rw [show (false : Bool) = decide (fitsP k) from (decide_eq_false (fun z_ => by
     have z1_ := z_.1
     have z2_ := z_.2.1
     first
     | omega
     | (have z3_ := z_.2.2 i (by omega); omega))).symm]
   exact ⟨rfl, h⟩
  ·
   refine wc_skip ?_
   refine qn_then ?_
   refine wc_seq ?_
   refine wc_seq ?_
   refine wc_region ?_
   refine wl_v rfl rfl (ov_assign _ rfl) ?_
   refine wl_nil ?_
   refine qn_then ?_
   refine wc_block ?_
   refine wc_loop (fun (x_ : Nat) => [(1, .pointer (some ⟨b1, 0, none⟩)), (3, .int .i64 (((x_ : Nat) : Int)))]) (fun (x_ : Nat) (w : World) => (x_ ≤ (k).f1.length ∧ ∀ j, j < x_ → ((k).f1.getD j z50).f0 ≤ 1099511627776) ∧ Sx.St w0 F0 ([Sx.blk b1 [.string ((k).f0), .slice (A) (((k).f1).length) (c), .int .i64 ((k).f2), .int .i64 ((k).f3), .int .i64 (((k).f4).f0), .int .i64 (((k).f4).f1), .int .i64 (((k).f4).f2), .int .i64 (((k).f4).f3), .int .i64 (((k).f4).f4), .int .i64 (((k).f4).f5), .int .i64 (((k).f4).f6)] 33] ++ R) w) (fun (x_ : Nat) => (k).f1.length - x_) (0) ?_ ?_ ?_
   · exact ⟨rfl, (congrArg (fun z_ => some (Value.int .i64 z_)) (show (0 : Int) = ((0 : Nat) : Int) by omega)), trivial⟩
   · exact ⟨⟨Nat.zero_le _, fun j_ hj_ => absurd hj_ (Nat.not_lt_zero _)⟩, h⟩
   intro i w h
   obtain ⟨hJ, h⟩ := h
   replace hJ : i ≤ (k).f1.length ∧ ∀ j, j < i → ((k).f1.getD j z50).f0 ≤ 1099511627776 := hJ
   replace h : Sx.St w0 F0 ([Sx.blk b1 [.string ((k).f0), .slice (A) (((k).f1).length) (c), .int .i64 ((k).f2), .int .i64 ((k).f3), .int .i64 (((k).f4).f0), .int .i64 (((k).f4).f1), .int .i64 (((k).f4).f2), .int .i64 (((k).f4).f3), .int .i64 (((k).f4).f4), .int .i64 (((k).f4).f5), .int .i64 (((k).f4).f6)] 33] ++ R) w := h
   show Sx.WC _ _ _ _ [(1, .pointer (some ⟨b1, 0, none⟩)), (3, .int .i64 (((i : Nat) : Int)))] _
   refine wc_seq ?_
   refine wc_seq ?_
   refine wc_region ?_
   refine wl_v rfl rfl (ov_move _ rfl) ?_
   refine wl_v rfl rfl (ov_fieldAddr _ ⟨b1, 1, none⟩ _ rfl fo33_1 rfl) ?_
   refine wl_v rfl rfl (ov_loadb 0 _ h rfl rfl sh29 rfl) ?_
   refine wl_v rfl rfl (ov_len _ _ _ _ _ rfl es29) ?_
   refine wl_v rfl rfl (ov_bin _ rfl rfl (binR_lss)) ?_
   refine wl_nil ?_
   refine qn_then ?_
   refine wc_cond (by rfl) (fun c4 => ?_) (fun c4 => ?_)
   ·
    refine wc_skip ?_
    refine qn_then ?_
    refine wc_seq ?_
    refine wc_block ?_
    refine wc_seq ?_
    refine wc_region ?_
    refine wl_v rfl rfl (ov_fieldAddr _ ⟨b1, 1, none⟩ _ rfl fo33_1 rfl) ?_
    refine wl_v rfl rfl (ov_loadb 0 _ h rfl rfl sh29 rfl) ?_
    refine wl_v rfl rfl (ov_move _ rfl) ?_
    obtain ⟨ad5, rfl⟩ := Sx.C_some ((hr [_] _ h)) (k := (i : Nat)) (by first | assumption | omega | (simp only [List.length_set, List.length_append, List.length_cons, List.length_nil]; omega))
    refine wl_v rfl rfl (ov_indexAddrN _ _ _ _ _ (i : Nat) rfl rfl es29 rfl (by first | assumption | omega | (simp only [List.length_take, List.length_drop, List.length_set, List.length_append, List.length_cons, List.length_nil]; omega))) ?_
    refine wl_v rfl rfl (ov_fieldAddr _ ((ad5).add ((i : Nat) * 2 + 0)) _ rfl fo50_0 (by first | exact Deep.add_add _ _ _ | (rw [Deep.add_add]) | rfl)) ?_
    obtain ⟨cl8, _, hk7, hc6⟩ := Sx.C_cells ((hr [_] _ h)) (z := z50) (k := (i : Nat)) (by first | assumption | omega | (simp only [List.length_set, List.length_append, List.length_cons, List.length_nil]; omega))
    obtain rfl := k50_open hk7
    refine wl_v rfl rfl (ov_load1 _ _ rfl sh3 ((hc6 0 _ rfl))) ?_
    refine wl_v rfl rfl (ov_bin _ rfl rfl (binR_gtr)) ?_
    refine wl_nil ?_
    refine qn_then ?_
    refine wc_cond (by rfl) (fun c9 => ?_) (fun c9 => ?_)
    ·
     refine wc_seq ?_
     refine wc_region ?_
     refine wl_v rfl rfl (ov_assign _ rfl) ?_
     refine wl_nil ?_
     refine qn_then ?_
     refine wc_ret ?_
     refine qn_block_ret ?_
     refine qn_then_ret ?_
     refine qn_then_ret ?_
     refine qn_block_ret ?_
     refine qn_then_ret ?_
     replace h := st_selT [false] h
     refine qn_ret [_] ⟨rfl, trivial⟩ ?_
     rw [show (false : Bool) = decide (fitsP k) from (decide_eq_false (fun z_ => by
       have z1_ := z_.1
       have z2_ := z_.2.1
       first
       | omega
       | (have z3_ := z_.2.2 i (by omega); omega))).symm]
     exact ⟨rfl, h⟩
    ·
     refine wc_skip ?_
     refine qn_block_normal ?_
     refine qn_then ?_
     refine wc_region ?_
     refine wl_v rfl rfl (ov_move _ rfl) ?_
     refine wl_v rfl rfl (ov_bin _ rfl rfl (binR_add (r := (((i : Nat) : Int)) + 1) (Sx.w64 (by omega)))) ?_
     refine wl_v rfl rfl (ov_assign _ rfl) ?_
     refine wl_nil ?_
     refine qn_next ((i + 1)) (by show (k).f1.length - (i + 1) < (k).f1.length - i; omega) ⟨rfl, (congrArg (fun z_ => some (Value.int .i64 z_)) (show ((((i : Nat) : Int)) + 1 : Int) = (((i + 1) : Nat) : Int) by omega)), trivial⟩ ?_
     show ((i + 1) ≤ (k).f1.length ∧ ∀ j, j < (i + 1) → ((k).f1.getD j z50).f0 ≤ 1099511627776) ∧ _
     refine ⟨⟨by omega, fun j_ hj_ => ?_⟩, h⟩
     rcases Nat.lt_succ_iff_lt_or_eq.1 hj_ with z_ | z_
     · exact hJ.2 j_ z_
     · rw [z_]; omega
   ·
    refine wc_exit ?_
    refine qn_then_exit ?_
    refine qn_then_exit ?_
    refine qn_block_exit ?_
    refine qn_then ?_
    refine wc_seq ?_
    refine wc_region ?_
    refine wl_v rfl rfl (ov_assign _ rfl) ?_
    refine wl_nil ?_
    refine qn_then ?_
    refine wc_ret ?_
    replace h := st_selT [false] h
    refine qn_ret [_] ⟨rfl, trivial⟩ ?_
    rw [show (true : Bool) = decide (fitsP k) from (decide_eq_true ⟨by omega, by omega, fun j_ hj_ => hJ.2 j_ (by omega)⟩).symm]
    exact ⟨rfl, h⟩
end Go.Proofs.Ytmlkajmlhmfdgaa.CK
