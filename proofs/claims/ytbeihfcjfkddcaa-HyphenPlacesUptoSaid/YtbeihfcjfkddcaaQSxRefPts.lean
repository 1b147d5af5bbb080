/- Pruned by wip/prune.py. -/
import Derived.Test.YtbeihfcjfkddcaaProg
import Derived.Test.YtbeihfcjfkddcaaQSxGlue
import Derived.Test.YtbeihfcjfkddcaaQSxFlow
import Derived.Test.YtbeihfcjfkddcaaQSxIter
import Derived.Test.YtbeihfcjfkddcaaQSxBytes
import Derived.Test.YtbeihfcjfkddcaaQHyWf
import Derived.Test.YtbeihfcjfkddcaaQSxRunes
import Derived.Test.YtbeihfcjfkddcaaQSxLetter
import Derived.Test.YtbeihfcjfkddcaaQSxText
import Derived.Test.YtbeihfcjfkddcaaQSxHRead
import Derived.Test.YtbeihfcjfkddcaaQSxHRef
import Derived.Test.YtbeihfcjfkddcaaQSxTree
import Derived.Test.YtbeihfcjfkddcaaQSxBook
import Derived.Test.YtbeihfcjfkddcaaQSxPoints
import Derived.Test.YtbeihfcjfkddcaaQHyRef
namespace Go.Proofs.Ytbeihfcjfkddcaa.RP
open Go Go.RowKit Go.Proofs.YtbeihfcjfkddcaaW.PrintWords Go.Proofs.Ytbeihfcjfkddcaa.Hy Go.Proofs.Ytbeihfcjfkddcaa.Given Go.Proofs.Ytbeihfcjfkddcaa.Rn Go.Proofs.Ytbeihfcjfkddcaa.Sx 
set_option linter.unusedVariables false
set_option linter.unusedSimpArgs false
theorem es22 : Sx.elemSz Try.prog 22 = some (9, 1) := by kernel_rfl
theorem sh9 : Sx.shapeOf Try.prog 9 = some (false, 1) := by kernel_rfl
theorem ent29 : Sx.Ent Try.prog 29 := ⟨Try.f29, Try.func29, by kernel_rfl, by kernel_rfl⟩
theorem zo63 : Sx.zeroOf Try.prog 63 = some (.agg #[.slice (none) (0) (0), .slice (none) (0) (0)]) := by kernel_rfl
theorem sh63 : Sx.shapeOf Try.prog 63 = some (true, 2) := by kernel_rfl
theorem fo63_0 : Sx.fieldOff Try.prog 63 0 = some 0 := by kernel_rfl
theorem sh36 : Sx.shapeOf Try.prog 36 = some (false, 1) := by kernel_rfl
theorem ent31 : Sx.Ent Try.prog 31 := ⟨Try.f31, Try.func31, by kernel_rfl, by kernel_rfl⟩
theorem ent24 : Sx.Ent Try.prog 24 := ⟨Try.f24, Try.func24, by kernel_rfl, by kernel_rfl⟩
theorem es36 : Sx.elemSz Try.prog 36 = some (3, 1) := by kernel_rfl
theorem sh3 : Sx.shapeOf Try.prog 3 = some (false, 1) := by kernel_rfl
theorem ent25 : Sx.Ent Try.prog 25 := ⟨Try.f25, Try.func25, by kernel_rfl, by kernel_rfl⟩
theorem ent37 : Sx.Ent Try.prog 37 := ⟨Try.f37, Try.func37, by kernel_rfl, by kernel_rfl⟩
theorem infb3 : (Try.prog.info? 3).map (fun i => (i.zero, i.size)) = some (some (.int .i64 (0)), 1) := by kernel_rfl
theorem inf3 : (Try.prog.info? 3).map (fun i => (i.zero, i.size, i.bytes)) = some (some (.int .i64 (0)), 1, 8) := by kernel_rfl
theorem ent30 : Sx.Ent Try.prog 30 := ⟨Try.f30, Try.func30, by kernel_rfl, by kernel_rfl⟩
theorem zo67 : Sx.zeroOf Try.prog 67 = some (.agg #[.slice (none) (0) (0), .slice (none) (0) (0)]) := by kernel_rfl
theorem sh67 : Sx.shapeOf Try.prog 67 = some (true, 2) := by kernel_rfl
theorem fo67_0 : Sx.fieldOff Try.prog 67 0 = some 0 := by kernel_rfl
theorem fo67_1 : Sx.fieldOff Try.prog 67 1 = some 1 := by kernel_rfl
theorem szf3 : (Try.prog.info? 3).map (·.size) = some 1 := by kernel_rfl
theorem ent38 : Sx.Ent Try.prog 38 := ⟨Try.f38, Try.func38, by kernel_rfl, by kernel_rfl⟩
theorem fo63_1 : Sx.fieldOff Try.prog 63 1 = some 1 := by kernel_rfl
set_option maxHeartbeats 4000000 in
set_option maxRecDepth 100000 in
theorem counts_calls {w0 w : World} {F0 : Nat → Prop} {R : List Sx.HP} (PA : Option Addr) (pc : Nat) (P : List ByteArray) (i : Nat) (hP : ∀ cs w, Sx.St w0 F0 (cs ++ R) w → Kd.string.C w PA P.length P) (hsP : ∀ x ∈ P, x.size ≤ 1000000000) (hlP : P.length ≤ 1000000000000) (hgP : AllP P P.length) (hi : i < P.length) (h : Sx.St w0 F0 ([] ++ R) w) : Calls Try.prog 38 #[.slice (PA) (P.length) (pc), .int .i64 (((i : Nat) : Int))] w (fun e w1 => e = .returned (.bool (decide (CountP P i))) ∧ Sx.St w0 F0 R w1) := by
 refine Sx.calls_fn (vs := [.slice (PA) (P.length) (pc), .int .i64 (((i : Nat) : Int))]) Try.func38 rfl Try.ntmps38 rfl ?_
 refine wc_seq ?_
 refine wc_region ?_
 refine wl_v rfl rfl (ov_assign _ rfl) ?_
 refine wl_nil ?_
 refine qn_then ?_
 refine wc_seq ?_
 refine wc_region ?_
 refine wl_v rfl rfl (ov_move _ rfl) ?_
 refine wl_v rfl rfl (ov_move _ rfl) ?_
 obtain ⟨ad1, rfl⟩ := Sx.C_some ((hP [] _ h)) (k := (i : Nat)) (by first | assumption | omega | (simp only [List.length_set, List.length_append, List.length_cons, List.length_nil]; omega))
 refine wl_v rfl rfl (ov_indexAddrN _ _ _ _ _ (i : Nat) rfl rfl es22 rfl (by first | assumption | omega | (simp only [List.length_take, List.length_drop, List.length_set, List.length_append, List.length_cons, List.length_nil]; omega))) ?_
 obtain ⟨cl4, _, hk3, hc2⟩ := Sx.C_cells ((hP [] _ h)) (z := ByteArray.empty) (k := (i : Nat)) (by first | assumption | omega | (simp only [List.length_set, List.length_append, List.length_cons, List.length_nil]; omega))
 obtain rfl : cl4 = [.string _] := hk3
 refine wl_v rfl rfl (ov_load1 _ _ rfl sh9 ((hc2 0 _ rfl))) ?_
 refine wl_call _ rfl rfl rfl ent29 (RF.rPatG_calls (R := [] ++ R) ((P).getD (i : Nat) ByteArray.empty) (by first | exact getD_small hsP _ | exact getD_small hsW _) (by first | exact hgP _ (by omega) | exact hgW _ (by omega)) h) ?_
 rintro e_ w_ ⟨Ay5, cy5, By5, dy5, rfl, h⟩
 refine ⟨_, rfl, ?_⟩
 replace h : Sx.St w0 F0 ([Sx.row (Kd.int .i64) 3 (Ay5) (cy5) ((patD ((P).getD (i : Nat) ByteArray.empty)).1), Sx.row (Kd.int .i64) 3 (By5) (dy5) ((patD ((P).getD (i : Nat) ByteArray.empty)).2)] ++ R) _ := h
 refine wl_v rfl rfl (ov_move _ rfl) ?_
 refine wl_v rfl rfl (ov_extract [.agg #[.slice (Ay5) ((patD ((P).getD (i : Nat) ByteArray.empty)).1.length) (cy5), .slice (By5) ((patD ((P).getD (i : Nat) ByteArray.empty)).2.length) (dy5)], .bool true] _ rfl rfl) ?_
 refine wl_v rfl rfl (ov_extract [.agg #[.slice (Ay5) ((patD ((P).getD (i : Nat) ByteArray.empty)).1.length) (cy5), .slice (By5) ((patD ((P).getD (i : Nat) ByteArray.empty)).2.length) (dy5)], .bool true] _ rfl rfl) ?_
 refine wl_alloc _ h rfl rfl zo63 (fun b6 _ h => ?_)
 replace h : Sx.St _ _ (Sx.blk b6 [.slice (none) (0) (0), .slice (none) (0) (0)] 63 :: _) _ := h
 refine wl_storebN 0 [.slice (Ay5) ((patD ((P).getD (i : Nat) ByteArray.empty)).1.length) (cy5), .slice (By5) ((patD ((P).getD (i : Nat) ByteArray.empty)).2.length) (dy5)] [.slice (Ay5) ((patD ((P).getD (i : Nat) ByteArray.empty)).1.length) (cy5), .slice (By5) ((patD ((P).getD (i : Nat) ByteArray.empty)).2.length) (dy5)] h rfl rfl rfl rfl (by simp [Value.oneCell']) sh63 rfl rfl (fun _ h => ?_)
 refine wl_v rfl rfl (ov_assign _ rfl) ?_
 refine wl_nil ?_
 refine qn_then ?_
 refine wc_seq ?_
 refine wc_seq ?_
 refine wc_region ?_
 refine wl_v rfl rfl (ov_move _ rfl) ?_
 refine wl_v rfl rfl (ov_bin _ rfl rfl (binR_add (r := (((i : Nat) : Int)) + 1) (Sx.w64 (by omega)))) ?_
 refine wl_v rfl rfl (ov_assign _ rfl) ?_
 refine wl_nil ?_
 refine qn_then ?_
 refine wc_block ?_
 replace h := st_front 1 h
 replace h := st_front 1 h
 replace h := st_selT [true, true, false] h
 refine wc_loop (fun (x_ : Nat) => [(0, .slice (some ad1) (P.length) (pc)), (1, .int .i64 (((i : Nat) : Int))), (5, .pointer (some ⟨b6, 0, none⟩)), (7, .int .i64 (((x_ : Nat) : Int)))]) (fun (x_ : Nat) (w : World) => (i < x_ ∧ (x_ ≤ P.length) ∧ ∀ j, i < j → j < x_ → (patD (P.getD i ByteArray.empty)).1 ≠ (patD (P.getD j ByteArray.empty)).1) ∧ Sx.St w0 F0 ([Sx.blk b6 [.slice (Ay5) ((patD ((P).getD (i : Nat) ByteArray.empty)).1.length) (cy5), .slice (By5) ((patD ((P).getD (i : Nat) ByteArray.empty)).2.length) (dy5)] 63, Sx.row (Kd.int .i64) 3 (Ay5) (cy5) ((patD ((P).getD (i : Nat) ByteArray.empty)).1)] ++ R) w) (fun (x_ : Nat) => P.length - x_) ((i + 1)) ?_ ?_ ?_
 · exact ⟨rfl, rfl, rfl, (congrArg (fun z_ => some (Value.int .i64 z_)) (show ((((i : Nat) : Int)) + 1 : Int) = (((i + 1) : Nat) : Int) by omega)), trivial⟩
 · exact ⟨⟨Nat.lt_succ_self _, by omega, fun j_ h1_ h2_ => by omega⟩, h⟩
 intro k w h
 obtain ⟨hJ, h⟩ := h
 replace hJ : i < k ∧ (k ≤ P.length) ∧ ∀ j, i < j → j < k → (patD (P.getD i ByteArray.empty)).1 ≠ (patD (P.getD j ByteArray.empty)).1 := hJ
 replace h : Sx.St w0 F0 ([Sx.blk b6 [.slice (Ay5) ((patD ((P).getD (i : Nat) ByteArray.empty)).1.length) (cy5), .slice (By5) ((patD ((P).getD (i : Nat) ByteArray.empty)).2.length) (dy5)] 63, Sx.row (Kd.int .i64) 3 (Ay5) (cy5) ((patD ((P).getD (i : Nat) ByteArray.empty)).1)] ++ R) w := h
 show Sx.WC _ _ _ _ [(0, .slice (some ad1) (P.length) (pc)), (1, .int .i64 (((i : Nat) : Int))), (5, .pointer (some ⟨b6, 0, none⟩)), (7, .int .i64 (((k : Nat) : Int)))] _
 have hpz_ := patD_size (P.getD i ByteArray.empty)
 refine wc_seq ?_
 refine wc_seq ?_
 refine wc_region ?_
 refine wl_v rfl rfl (ov_move _ rfl) ?_
 refine wl_v rfl rfl (ov_move _ rfl) ?_
 refine wl_v rfl rfl (ov_len _ _ _ _ _ rfl es22) ?_
 refine wl_v rfl rfl (ov_bin _ rfl rfl (binR_lss)) ?_
 refine wl_nil ?_
 refine qn_then ?_
 refine wc_cond (by rfl) (fun c7 => ?_) (fun c7 => ?_)
 ·
  refine wc_skip ?_
  refine qn_then ?_
  refine wc_seq ?_
  refine wc_block ?_
  refine wc_seq ?_
  refine wc_region ?_
  refine wl_v rfl rfl (ov_move _ rfl) ?_
  refine wl_v rfl rfl (ov_move _ rfl) ?_
  refine wl_v rfl rfl (ov_indexAddrN _ _ _ _ _ (k : Nat) rfl rfl es22 rfl (by first | assumption | omega | (simp only [List.length_take, List.length_drop, List.length_set, List.length_append, List.length_cons, List.length_nil]; omega))) ?_
  obtain ⟨cl10, _, hk9, hc8⟩ := Sx.C_cells ((hP [_, _] _ h)) (z := ByteArray.empty) (k := (k : Nat)) (by first | assumption | omega | (simp only [List.length_set, List.length_append, List.length_cons, List.length_nil]; omega))
  obtain rfl : cl10 = [.string _] := hk9
  refine wl_v rfl rfl (ov_load1 _ _ rfl sh9 ((hc8 0 _ rfl))) ?_
  refine wl_call _ rfl rfl rfl ent29 (RF.rPatG_calls (R := [Sx.blk b6 [.slice (Ay5) ((patD ((P).getD (i : Nat) ByteArray.empty)).1.length) (cy5), .slice (By5) ((patD ((P).getD (i : Nat) ByteArray.empty)).2.length) (dy5)] 63, Sx.row (Kd.int .i64) 3 (Ay5) (cy5) ((patD ((P).getD (i : Nat) ByteArray.empty)).1)] ++ R) ((P).getD (k : Nat) ByteArray.empty) (by first | exact getD_small hsP _ | exact getD_small hsW _) (by first | exact hgP _ (by omega) | exact hgW _ (by omega)) h) ?_
  rintro e_ w_ ⟨Ay11, cy11, By11, dy11, rfl, h⟩
  refine ⟨_, rfl, ?_⟩
  replace h : Sx.St w0 F0 ([Sx.row (Kd.int .i64) 3 (Ay11) (cy11) ((patD ((P).getD (k : Nat) ByteArray.empty)).1), Sx.row (Kd.int .i64) 3 (By11) (dy11) ((patD ((P).getD (k : Nat) ByteArray.empty)).2), Sx.blk b6 [.slice (Ay5) ((patD ((P).getD (i : Nat) ByteArray.empty)).1.length) (cy5), .slice (By5) ((patD ((P).getD (i : Nat) ByteArray.empty)).2.length) (dy5)] 63, Sx.row (Kd.int .i64) 3 (Ay5) (cy5) ((patD ((P).getD (i : Nat) ByteArray.empty)).1)] ++ R) _ := h
  refine wl_v rfl rfl (ov_move _ rfl) ?_
  refine wl_v rfl rfl (ov_extract [.agg #[.slice (Ay11) ((patD ((P).getD (k : Nat) ByteArray.empty)).1.length) (cy11), .slice (By11) ((patD ((P).getD (k : Nat) ByteArray.empty)).2.length) (dy11)], .bool true] _ rfl rfl) ?_
  refine wl_v rfl rfl (ov_extract [.agg #[.slice (Ay11) ((patD ((P).getD (k : Nat) ByteArray.empty)).1.length) (cy11), .slice (By11) ((patD ((P).getD (k : Nat) ByteArray.empty)).2.length) (dy11)], .bool true] _ rfl rfl) ?_
  refine wl_alloc _ h rfl rfl zo63 (fun b12 _ h => ?_)
  replace h : Sx.St _ _ (Sx.blk b12 [.slice (none) (0) (0), .slice (none) (0) (0)] 63 :: _) _ := h
  refine wl_storebN 0 [.slice (Ay11) ((patD ((P).getD (k : Nat) ByteArray.empty)).1.length) (cy11), .slice (By11) ((patD ((P).getD (k : Nat) ByteArray.empty)).2.length) (dy11)] [.slice (Ay11) ((patD ((P).getD (k : Nat) ByteArray.empty)).1.length) (cy11), .slice (By11) ((patD ((P).getD (k : Nat) ByteArray.empty)).2.length) (dy11)] h rfl rfl rfl rfl (by simp [Value.oneCell']) sh63 rfl rfl (fun _ h => ?_)
  refine wl_v rfl rfl (ov_assign _ rfl) ?_
  refine wl_nil ?_
  refine qn_then ?_
  refine wc_seq ?_
  refine wc_region ?_
  refine wl_v rfl rfl (ov_fieldAddr _ ⟨b6, 0, none⟩ _ rfl fo63_0 rfl) ?_
  refine wl_v rfl rfl (ov_loadb 3 _ h rfl rfl sh36 rfl) ?_
  refine wl_v rfl rfl (ov_fieldAddr _ ⟨b12, 0, none⟩ _ rfl fo63_0 rfl) ?_
  refine wl_v rfl rfl (ov_loadb 0 _ h rfl rfl sh36 rfl) ?_
  refine wl_call _ rfl rfl rfl ent31 (RF.same_calls (R := [Sx.blk b12 [.slice (Ay11) ((patD ((P).getD (k : Nat) ByteArray.empty)).1.length) (cy11), .slice (By11) ((patD ((P).getD (k : Nat) ByteArray.empty)).2.length) (dy11)] 63, Sx.row (Kd.int .i64) 3 (Ay11) (cy11) ((patD ((P).getD (k : Nat) ByteArray.empty)).1), Sx.row (Kd.int .i64) 3 (By11) (dy11) ((patD ((P).getD (k : Nat) ByteArray.empty)).2), Sx.blk b6 [.slice (Ay5) ((patD ((P).getD (i : Nat) ByteArray.empty)).1.length) (cy5), .slice (By5) ((patD ((P).getD (i : Nat) ByteArray.empty)).2.length) (dy5)] 63, Sx.row (Kd.int .i64) 3 (Ay5) (cy5) ((patD ((P).getD (i : Nat) ByteArray.empty)).1)] ++ R) (Ay5) (cy5) ((patD ((P).getD (i : Nat) ByteArray.empty)).1) (Ay11) (cy11) ((patD ((P).getD (k : Nat) ByteArray.empty)).1) (Sx.row_reads_at (R := [Sx.blk b12 [.slice (Ay11) ((patD ((P).getD (k : Nat) ByteArray.empty)).1.length) (cy11), .slice (By11) ((patD ((P).getD (k : Nat) ByteArray.empty)).2.length) (dy11)] 63, Sx.row (Kd.int .i64) 3 (Ay11) (cy11) ((patD ((P).getD (k : Nat) ByteArray.empty)).1), Sx.row (Kd.int .i64) 3 (By11) (dy11) ((patD ((P).getD (k : Nat) ByteArray.empty)).2), Sx.blk b6 [.slice (Ay5) ((patD ((P).getD (i : Nat) ByteArray.empty)).1.length) (cy5), .slice (By5) ((patD ((P).getD (i : Nat) ByteArray.empty)).2.length) (dy5)] 63, Sx.row (Kd.int .i64) 3 (Ay5) (cy5) ((patD ((P).getD (i : Nat) ByteArray.empty)).1)] ++ R) (j := 4) rfl) (Sx.row_reads_at (R := [Sx.blk b12 [.slice (Ay11) ((patD ((P).getD (k : Nat) ByteArray.empty)).1.length) (cy11), .slice (By11) ((patD ((P).getD (k : Nat) ByteArray.empty)).2.length) (dy11)] 63, Sx.row (Kd.int .i64) 3 (Ay11) (cy11) ((patD ((P).getD (k : Nat) ByteArray.empty)).1), Sx.row (Kd.int .i64) 3 (By11) (dy11) ((patD ((P).getD (k : Nat) ByteArray.empty)).2), Sx.blk b6 [.slice (Ay5) ((patD ((P).getD (i : Nat) ByteArray.empty)).1.length) (cy5), .slice (By5) ((patD ((P).getD (i : Nat) ByteArray.empty)).2.length) (dy5)] 63, Sx.row (Kd.int .i64) 3 (Ay5) (cy5) ((patD ((P).getD (i : Nat) ByteArray.empty)).1)] ++ R) (j := 1) rfl) (by omega) h) ?_
  rintro e_ w_ ⟨rfl, h⟩
  refine ⟨_, rfl, ?_⟩
  refine wl_nil ?_
  refine qn_then ?_
  refine wc_cond (by rfl) (fun c13 => ?_) (fun c13 => ?_)
  ·
   refine wc_seq ?_
   refine wc_region ?_
   refine wl_v rfl rfl (ov_assign _ rfl) ?_
   refine wl_nil ?_
   refine qn_then ?_
   refine wc_ret ?_
   refine qn_block_ret ?_
   refine qn_then_ret ?_
   refine qn_then_ret ?_
   refine qn_block_ret ?_
   refine qn_then_ret ?_
   replace h := st_selT [false, false, false, false, false] h
   refine qn_ret [_] ⟨rfl, trivial⟩ ?_
   rw [show decide (CountP P i) = false from decide_eq_false (fun z_ => z_ k (by omega) (by omega) (by assumption))]
   exact ⟨rfl, h⟩
  ·
   refine wc_skip ?_
   refine qn_block_normal ?_
   refine qn_then ?_
   refine wc_region ?_
   refine wl_v rfl rfl (ov_move _ rfl) ?_
   refine wl_v rfl rfl (ov_bin _ rfl rfl (binR_add (r := (((k : Nat) : Int)) + 1) (Sx.w64 (by omega)))) ?_
   refine wl_v rfl rfl (ov_assign _ rfl) ?_
   refine wl_nil ?_
   replace h := st_front 4 h
   replace h := st_front 4 h
   replace h := st_selT [true, true, false, false, false] h
   refine qn_next ((k + 1)) (by show P.length - (k + 1) < P.length - k; omega) ⟨rfl, rfl, rfl, (congrArg (fun z_ => some (Value.int .i64 z_)) (show ((((k : Nat) : Int)) + 1 : Int) = (((k + 1) : Nat) : Int) by omega)), trivial⟩ ?_
   show (i < (k + 1) ∧ ((k + 1) ≤ P.length) ∧ ∀ j, i < j → j < (k + 1) → (patD (P.getD i ByteArray.empty)).1 ≠ (patD (P.getD j ByteArray.empty)).1) ∧ _
   exact ⟨⟨by omega, by omega, fun j_ h1_ h2_ => by
     rcases Nat.lt_succ_iff_lt_or_eq.1 h2_ with z_ | rfl
     · exact hJ.2.2 j_ h1_ z_
     · assumption⟩, h⟩
 ·
  refine wc_exit ?_
  refine qn_then_exit ?_
  refine qn_then_exit ?_
  refine qn_block_exit ?_
  refine qn_then ?_
  refine wc_seq ?_
  refine wc_region ?_
  refine wl_v rfl rfl (ov_assign _ rfl) ?_
  refine wl_nil ?_
  refine qn_then ?_
  refine wc_ret ?_
  replace h := st_selT [false, false] h
  refine qn_ret [_] ⟨rfl, trivial⟩ ?_
  rw [show decide (CountP P i) = true from decide_eq_true (fun k_ h1_ h2_ => hJ.2.2 k_ h1_ (by omega))]
  exact ⟨rfl, h⟩
set_option maxHeartbeats 4000000 in
set_option maxRecDepth 100000 in
theorem rPoints_calls {w0 w : World} {F0 : Nat → Prop} {R : List Sx.HP} (PA : Option Addr) (pc : Nat) (P : List ByteArray) (WA : Option Addr) (wc : Nat) (W : List ByteArray) (lf rt : Int) (s : ByteArray) (hP : ∀ cs w, Sx.St w0 F0 (cs ++ R) w → Kd.string.C w PA P.length P) (hW : ∀ cs w, Sx.St w0 F0 (cs ++ R) w → Kd.string.C w WA W.length W) (hsP : ∀ x ∈ P, x.size ≤ 1000000000) (hsW : ∀ x ∈ W, x.size ≤ 1000000000) (hlP : P.length ≤ 1000000000000) (hlW : W.length ≤ 1000000000000) (hgP : AllP P P.length) (hgW : AllW W W.length) (hlr : (1 ≤ lf ∧ lf ≤ 100) ∧ (1 ≤ rt ∧ rt ≤ 100)) (hs : s.size ≤ 1000000000) (h : Sx.St w0 F0 ([] ++ R) w) : Calls Try.prog 16 #[.slice (PA) (P.length) (pc), .slice (WA) (W.length) (wc), .int .i64 (lf), .int .i64 (rt), .string (s)] w (fun e w1 => ∃ A c, e = .returned (.slice A (refPts P W lf rt s).length c) ∧ Sx.St w0 F0 ([Sx.row (Kd.int .i64) 3 (A) (c) ((refPts P W lf rt s))] ++ R) w1) := by
 have hbr_ := bad_refV s
 have hbo_ := bad_or s
 have hrl_ := runes_len s
 refine Sx.calls_fn (vs := [.slice (PA) (P.length) (pc), .slice (WA) (W.length) (wc), .int .i64 (lf), .int .i64 (rt), .string (s)]) Try.func16 rfl Try.ntmps16 rfl ?_
 refine wc_seq ?_
 refine wc_region ?_
 refine wl_v rfl rfl (ov_assign _ rfl) ?_
 refine wl_nil ?_
 refine qn_then ?_
 refine wc_seq ?_
 refine wc_region ?_
 refine wl_v rfl rfl (ov_move _ rfl) ?_
 refine wl_call _ rfl rfl rfl ent24 (RN.Runes_calls (R := [] ++ R) s (by omega) h) ?_
 rintro e_ w_ ⟨Az1, cz1, Bz1, dz1, rfl, h⟩
 refine ⟨_, rfl, ?_⟩
 replace h : Sx.St w0 F0 ([Sx.row (Kd.int .i64) 3 (Az1) (cz1) ((runesL s)), Sx.row (Kd.int .i64) 3 (Bz1) (dz1) ((placesL s))] ++ R) _ := h
 refine wl_v rfl rfl (ov_move _ rfl) ?_
 refine wl_v rfl rfl (ov_extract [.slice (Az1) ((runesL s).length) (cz1), .slice (Bz1) ((placesL s).length) (dz1), .int .i64 ((refV s).2)] _ rfl rfl) ?_
 refine wl_v rfl rfl (ov_extract [.slice (Az1) ((runesL s).length) (cz1), .slice (Bz1) ((placesL s).length) (dz1), .int .i64 ((refV s).2)] _ rfl rfl) ?_
 refine wl_v rfl rfl (ov_extract [.slice (Az1) ((runesL s).length) (cz1), .slice (Bz1) ((placesL s).length) (dz1), .int .i64 ((refV s).2)] _ rfl rfl) ?_
 refine wl_v rfl rfl (ov_assign _ rfl) ?_
 refine wl_v rfl rfl (ov_assign _ rfl) ?_
 refine wl_v rfl rfl (ov_assign _ rfl) ?_
 refine wl_nil ?_
 refine qn_then ?_
 refine wc_seq ?_
 refine wc_seq ?_
 refine wc_region ?_
 refine wl_v rfl rfl (ov_move _ rfl) ?_
 refine wl_v rfl rfl (ov_bin _ rfl rfl (binR_geq)) ?_
 refine wl_v rfl rfl (ov_move _ rfl) ?_
 refine wl_split 39 rfl (fun c2 => ?_) (fun c2 => ?_)
 ·
  refine wl_skip rfl rfl ?_
  refine wl_skip rfl rfl ?_
  refine wl_skip rfl rfl ?_
  refine wl_v rfl rfl (ov_pick_true _ rfl rfl) ?_
  refine wl_nil ?_
  refine qn_then ?_
  refine wc_cond_true rfl ?_
  refine wc_seq ?_
  refine wc_region ?_
  refine wl_v rfl rfl (ov_assign _ rfl) ?_
  refine wl_nil ?_
  refine qn_then ?_
  refine wc_ret ?_
  refine qn_then_ret ?_
  replace h := st_nilrow (Kd.int .i64) 3 h
  replace h := st_selT [true, false, false] h
  refine qn_ret [_] ⟨rfl, trivial⟩ ?_
  rw [show refPts P W lf rt s = [] from refPts_no (by omega)]
  exact ⟨none, 0, rfl, h⟩
 ·
  refine wl_v rfl rfl (ov_move _ rfl) ?_
  refine wl_v rfl rfl (ov_lens _ rfl Try.underlying9) ?_
  refine wl_v rfl rfl (ov_bin _ rfl rfl (binR_gtr)) ?_
  refine wl_v rfl rfl (ov_pick_false _ rfl rfl) ?_
  refine wl_nil ?_
  refine qn_then ?_
  refine wc_cond (by rfl) (fun c3 => ?_) (fun c3 => ?_)
  ·
   refine wc_seq ?_
   refine wc_region ?_
   refine wl_v rfl rfl (ov_assign _ rfl) ?_
   refine wl_nil ?_
   refine qn_then ?_
   refine wc_ret ?_
   refine qn_then_ret ?_
   replace h := st_nilrow (Kd.int .i64) 3 h
   replace h := st_selT [true, false, false] h
   refine qn_ret [_] ⟨rfl, trivial⟩ ?_
   rw [show refPts P W lf rt s = [] from refPts_no (by omega)]
   exact ⟨none, 0, rfl, h⟩
  ·
   refine wc_skip ?_
   refine qn_then ?_
   refine wc_seq ?_
   refine wc_region ?_
   refine wl_v rfl rfl (ov_assign _ rfl) ?_
   refine wl_nil ?_
   refine qn_then ?_
   refine wc_seq ?_
   refine wc_seq ?_
   refine wc_region ?_
   refine wl_v rfl rfl (ov_assign _ rfl) ?_
   refine wl_nil ?_
   refine qn_then ?_
   refine wc_block ?_
   replace h := st_nilrow (Kd.int .i64) 3 h
   replace h := st_front 1 h
   replace h := st_front 1 h
   replace h := st_selT [true, true, false] h
   refine wc_loop (fun (x_ : Nat × (Option Addr) × Nat × (Option Addr)) => [(0, .slice (PA) (P.length) (pc)), (1, .slice (WA) (W.length) (wc)), (2, .int .i64 (lf)), (3, .int .i64 (rt)), (4, .string (s)), (11, .slice (x_.2.2.2) ((runesL s).length) (cz1)), (14, .slice (x_.2.1) ((((runesL s).take x_.1).map lowV).length) (x_.2.2.1)), (15, .int .i64 (((x_.1 : Nat) : Int)))]) (fun (x_ : Nat × (Option Addr) × Nat × (Option Addr)) (w : World) => (x_.1 ≤ (runesL s).length ∧ ∀ j, j < x_.1 → LetP ((runesL s).getD j 0)) ∧ Sx.St w0 F0 ([Sx.row (Kd.int .i64) 3 (x_.2.1) (x_.2.2.1) ((((runesL s).take x_.1).map lowV)), Sx.row (Kd.int .i64) 3 (x_.2.2.2) (cz1) ((runesL s))] ++ R) w) (fun (x_ : Nat × (Option Addr) × Nat × (Option Addr)) => (runesL s).length - x_.1) (0, none, 0, Az1) ?_ ?_ ?_
   · exact ⟨rfl, rfl, rfl, rfl, rfl, rfl, rfl, (congrArg (fun z_ => some (Value.int .i64 z_)) (show (0 : Int) = ((0 : Nat) : Int) by omega)), trivial⟩
   · exact ⟨⟨Nat.zero_le _, fun j_ hj_ => absurd hj_ (Nat.not_lt_zero _)⟩, h⟩
   rintro ⟨i, Wa, Wc, Xa⟩ w h
   obtain ⟨hJ, h⟩ := h
   replace hJ : i ≤ (runesL s).length ∧ ∀ j, j < i → LetP ((runesL s).getD j 0) := hJ
   replace h : Sx.St w0 F0 ([Sx.row (Kd.int .i64) 3 (Wa) (Wc) ((((runesL s).take i).map lowV)), Sx.row (Kd.int .i64) 3 (Xa) (cz1) ((runesL s))] ++ R) w := h
   show Sx.WC _ _ _ _ [(0, .slice (PA) (P.length) (pc)), (1, .slice (WA) (W.length) (wc)), (2, .int .i64 (lf)), (3, .int .i64 (rt)), (4, .string (s)), (11, .slice (Xa) ((runesL s).length) (cz1)), (14, .slice (Wa) ((((runesL s).take i).map lowV).length) (Wc)), (15, .int .i64 (((i : Nat) : Int)))] _
   have hrb_ := runes_bd (s := s) (by omega) i
   have htk_ : (((runesL s).take i).map lowV).length ≤ 256 := by rw [List.length_map, List.length_take]; omega
   refine wc_seq ?_
   refine wc_seq ?_
   refine wc_region ?_
   refine wl_v rfl rfl (ov_move _ rfl) ?_
   refine wl_v rfl rfl (ov_move _ rfl) ?_
   refine wl_v rfl rfl (ov_len _ _ _ _ _ rfl es36) ?_
   refine wl_v rfl rfl (ov_bin _ rfl rfl (binR_lss)) ?_
   refine wl_nil ?_
   refine qn_then ?_
   refine wc_cond (by rfl) (fun c4 => ?_) (fun c4 => ?_)
   ·
    refine wc_skip ?_
    refine qn_then ?_
    refine wc_seq ?_
    refine wc_block ?_
    refine wc_seq ?_
    refine wc_seq ?_
    refine wc_region ?_
    refine wl_v rfl rfl (ov_move _ rfl) ?_
    refine wl_v rfl rfl (ov_move _ rfl) ?_
    obtain ⟨ad5, rfl⟩ := Sx.C_some ((Sx.row_reads h (i := 1) rfl).2) (k := (i : Nat)) (by first | assumption | omega | (simp only [List.length_set, List.length_append, List.length_cons, List.length_nil]; omega))
    refine wl_v rfl rfl (ov_indexAddrN _ _ _ _ _ (i : Nat) rfl rfl es36 rfl (by first | assumption | omega | (simp only [List.length_take, List.length_drop, List.length_set, List.length_append, List.length_cons, List.length_nil]; omega))) ?_
    obtain ⟨cl8, _, hk7, hc6⟩ := Sx.C_cells ((Sx.row_reads h (i := 1) rfl).2) (z := (0 : Int)) (k := (i : Nat)) (by first | assumption | omega | (simp only [List.length_set, List.length_append, List.length_cons, List.length_nil]; omega))
    obtain rfl : cl8 = [.int .i64 _] := hk7
    refine wl_v rfl rfl (ov_load1 _ _ rfl sh3 ((hc6 0 _ rfl))) ?_
    refine wl_call _ rfl rfl rfl ent25 (LT.rLetter_calls (R := [Sx.row (Kd.int .i64) 3 (Wa) (Wc) ((((runesL s).take i).map lowV)), Sx.row (Kd.int .i64) 3 (some ad5) (cz1) ((runesL s))] ++ R) (((runesL s)).getD (i : Nat) (0 : Int)) (by omega) (by omega) h) ?_
    rintro e_ w_ ⟨rfl, h⟩
    refine ⟨_, rfl, ?_⟩
    refine wl_v rfl rfl (ov_not _ (¬ (LetP (((runesL s)).getD (i : Nat) (0 : Int)))) rfl (by first | exact decide_not.symm | simp)) ?_
    refine wl_nil ?_
    refine qn_then ?_
    refine wc_cond (by rfl) (fun c9 => ?_) (fun c9 => ?_)
    ·
     refine wc_seq ?_
     refine wc_region ?_
     refine wl_v rfl rfl (ov_assign _ rfl) ?_
     refine wl_nil ?_
     refine qn_then ?_
     refine wc_ret ?_
     refine qn_then_ret ?_
     refine qn_block_ret ?_
     refine qn_then_ret ?_
     refine qn_then_ret ?_
     refine qn_block_ret ?_
     refine qn_then_ret ?_
     replace h := st_nilrow (Kd.int .i64) 3 h
     replace h := st_selT [true, false, false] h
     refine qn_ret [_] ⟨rfl, trivial⟩ ?_
     rw [show refPts P W lf rt s = [] from refPts_not (getD_mem (l := runesL s) (i := i) (by omega)) (by assumption)]
     exact ⟨none, 0, rfl, h⟩
    ·
     refine wc_skip ?_
     refine qn_then ?_
     refine wc_region ?_
     refine wl_v rfl rfl (ov_move _ rfl) ?_
     refine wl_v rfl rfl (ov_move _ rfl) ?_
     refine wl_v rfl rfl (ov_move _ rfl) ?_
     refine wl_v rfl rfl (ov_indexAddrN _ _ _ _ _ (i : Nat) rfl rfl es36 rfl (by first | assumption | omega | (simp only [List.length_take, List.length_drop, List.length_set, List.length_append, List.length_cons, List.length_nil]; omega))) ?_
     obtain ⟨cl12, _, hk11, hc10⟩ := Sx.C_cells ((Sx.row_reads h (i := 1) rfl).2) (z := (0 : Int)) (k := (i : Nat)) (by first | assumption | omega | (simp only [List.length_set, List.length_append, List.length_cons, List.length_nil]; omega))
     obtain rfl : cl12 = [.int .i64 _] := hk11
     refine wl_v rfl rfl (ov_load1 _ _ rfl sh3 ((hc10 0 _ rfl))) ?_
     refine wl_call _ rfl rfl rfl ent37 (LT.rLower_calls (R := [Sx.row (Kd.int .i64) 3 (Wa) (Wc) ((((runesL s).take i).map lowV)), Sx.row (Kd.int .i64) 3 (some ad5) (cz1) ((runesL s))] ++ R) (((runesL s)).getD (i : Nat) (0 : Int)) (by omega) (by omega) h) ?_
     rintro e_ w_ ⟨rfl, h⟩
     refine ⟨_, rfl, ?_⟩
     have hlb13 := lowV_bd (((runesL s)).getD (i : Nat) (0 : Int))
     refine wl_lit (d := (Kd.int .i64)) [(0, .int .i64 (lowV (((runesL s)).getD (i : Nat) (0 : Int))))] _ [.int .i64 (lowV (((runesL s)).getD (i : Nat) (0 : Int)))] ([lowV (((runesL s)).getD (i : Nat) (0 : Int))]) h rfl rfl rfl rfl Try.underlying36 infb3 rfl (by decide) (by kernel_rfl) rfl (fun _ _ _ => ((Reps.none _ _).snoc ((Sx.mkInt .i64 (lowV (((runesL s)).getD (i : Nat) (0 : Int))))) rfl)) (fun A14 cp15 _ h => ?_)
     refine wl_append (d := (Kd.int .i64)) (L := (((runesL s).take i).map lowV)) 1 _ 8 _ _ _ ([lowV (((runesL s)).getD (i : Nat) (0 : Int))]) (Sx.flat_int _) h rfl rfl rfl rfl rfl ((Sx.row_reads h (i := 0) rfl).2) Try.underlying36 inf3 rfl (by decide) (by decide) (by first | omega | (simp only [List.length_cons, List.length_nil, List.length_append, List.length_set]; omega)) (by first | rfl | simp) (fun A16 cp17 _ h => ?_)
     replace h := st_selT [false, true, true] h
     refine wl_v rfl rfl (ov_assign _ rfl) ?_
     refine wl_nil ?_
     refine qn_block_normal ?_
     refine qn_then ?_
     refine wc_region ?_
     refine wl_v rfl rfl (ov_move _ rfl) ?_
     refine wl_v rfl rfl (ov_bin _ rfl rfl (binR_add (r := (((i : Nat) : Int)) + 1) (Sx.w64 (by omega)))) ?_
     refine wl_v rfl rfl (ov_assign _ rfl) ?_
     refine wl_nil ?_
     have e_ : ((((runesL s).take i).map lowV)) ++ ([lowV (((runesL s)).getD (i : Nat) (0 : Int))]) = (((runesL s).take (i + 1)).map lowV) := by exact map_take_succ _ (by omega)
     replace h := st_cast (congrArg (fun z_ => ([Sx.row (Kd.int .i64) 3 (A16) (cp17) (z_), Sx.row (Kd.int .i64) 3 (some ad5) (cz1) ((runesL s))] ++ R)) e_) h
     clear e_
     replace h := st_front 1 h
     replace h := st_front 1 h
     refine qn_next ((i + 1), A16, cp17, some ad5) (by show (runesL s).length - (i + 1) < (runesL s).length - i; omega) ⟨rfl, rfl, rfl, rfl, rfl, rfl, (congrArg (fun z_ => some (Value.slice (A16) z_ (cp17))) (congrArg List.length (map_take_succ _ (by omega)))), (congrArg (fun z_ => some (Value.int .i64 z_)) (show ((((i : Nat) : Int)) + 1 : Int) = (((i + 1) : Nat) : Int) by omega)), trivial⟩ ?_
     show ((i + 1) ≤ (runesL s).length ∧ ∀ j, j < (i + 1) → LetP ((runesL s).getD j 0)) ∧ _
     exact ⟨⟨by omega, fun j_ hj_ => by
       rcases Nat.lt_succ_iff_lt_or_eq.1 hj_ with z_ | rfl
       · exact hJ.2 j_ z_
       · first | assumption | exact Classical.not_not.1 (by assumption)⟩, h⟩
   ·
    have hi_ : i = (runesL s).length := by omega
    have hLP_ : ∀ j_, j_ < (runesL s).length → LetP ((runesL s).getD j_ 0) := fun j_ hj_ => hJ.2 j_ (by omega)
    have htk2_ : ((runesL s).take i).map lowV = (runesL s).map lowV := by rw [hi_, List.take_length]
    rw [htk2_] at h ⊢
    have hwl0_ : ((runesL s).map lowV).length = (runesL s).length := List.length_map ..
    refine wc_exit ?_
    refine qn_then_exit ?_
    refine qn_then_exit ?_
    refine qn_block_exit ?_
    refine qn_then ?_
    refine wc_seq ?_
    refine wc_region ?_
    refine wl_v rfl rfl (ov_move _ rfl) ?_
    refine wl_v rfl rfl (ov_len _ _ _ _ _ rfl es36) ?_
    refine wl_v rfl rfl (ov_bin _ rfl rfl (binR_add (r := (((((runesL s).map lowV).length : Nat) : Int)) + 1) (Sx.w64 (by omega)))) ?_
    refine wl_make (d := (Kd.int .i64)) _ 8 (0 : Int) ((((((runesL s).map lowV).length : Nat) : Int)) + 1) h rfl rfl rfl rfl Try.underlying36 inf3 rfl (by decide) (by decide) (fun _ _ _ => (Sx.mkInt .i64 ((0 : Int)))) (by omega) (by omega) (fun A18 cp19 _ h => ?_)
    refine wl_v rfl rfl (ov_assign _ rfl) ?_
    refine wl_nil ?_
    refine qn_then ?_
    refine wc_seq ?_
    refine wc_region ?_
    refine wl_v rfl rfl (ov_assign _ rfl) ?_
    refine wl_nil ?_
    refine qn_then ?_
    refine wc_seq ?_
    refine wc_seq ?_
    refine wc_region ?_
    refine wl_v rfl rfl (ov_assign _ rfl) ?_
    refine wl_nil ?_
    refine qn_then ?_
    refine wc_block ?_
    have hzr_ : List.replicate ((((((runesL s).map lowV).length : Nat) : Int)) + 1 : Int).toNat (0 : Int) = (List.replicate (((runesL s).map lowV).length + 1) (0 : Int)) := congrArg (fun n_ => List.replicate n_ (0 : Int)) (by omega)
    replace h := st_front 1 h
    replace h := st_selT [true, true, false] h
    refine wc_loop (fun (x_ : Nat × (Option Addr) × Nat × (List Int) × Bool) => [(0, .slice (PA) (P.length) (pc)), (1, .slice (WA) (W.length) (wc)), (2, .int .i64 (lf)), (3, .int .i64 (rt)), (4, .string (s)), (14, .slice (Wa) (((runesL s).map lowV).length) (Wc)), (16, .slice (x_.2.1) ((x_.2.2.2.1).length) (x_.2.2.1)), (17, .bool (x_.2.2.2.2)), (18, .int .i64 (((x_.1 : Nat) : Int)))]) (fun (x_ : Nat × (Option Addr) × Nat × (List Int) × Bool) (w : World) => (refW ((runesL s).map lowV) (List.drop x_.1 W) x_.2.2.2.1 x_.2.2.2.2 = refW ((runesL s).map lowV) W (List.replicate (((runesL s).map lowV).length + 1) (0 : Int)) false ∧ x_.1 ≤ W.length ∧ (x_.2.2.2.1).length = ((runesL s).map lowV).length + 1) ∧ Sx.St w0 F0 ([Sx.row (Kd.int .i64) 3 (Wa) (Wc) (((runesL s).map lowV)), Sx.row (Kd.int .i64) 3 (x_.2.1) (x_.2.2.1) (x_.2.2.2.1)] ++ R) w) (fun (x_ : Nat × (Option Addr) × Nat × (List Int) × Bool) => W.length - x_.1) (0, A18, cp19, (List.replicate ((((((runesL s).map lowV).length : Nat) : Int)) + 1 : Int).toNat (0 : Int)), false) ?_ ?_ ?_
    · exact ⟨rfl, rfl, rfl, rfl, rfl, rfl, (congrArg (fun z_ => some (Value.slice (A18) z_ (cp19))) (show ((List.replicate ((((((runesL s).map lowV).length : Nat) : Int)) + 1 : Int).toNat (0 : Int)).length : Nat) = ((List.replicate ((((((runesL s).map lowV).length : Nat) : Int)) + 1 : Int).toNat (0 : Int))).length by first | rfl | simp)), (congrArg (fun z_ => some (Value.bool z_)) (show false = (false) by first | rfl | simp | omega)), (congrArg (fun z_ => some (Value.int .i64 z_)) (show (0 : Int) = ((0 : Nat) : Int) by omega)), trivial⟩
    · exact ⟨⟨congrArg (fun z_ => refW ((runesL s).map lowV) W z_ false) hzr_, Nat.zero_le _, (congrArg List.length hzr_).trans List.length_replicate⟩, h⟩
    rintro ⟨i, Oa, Oc, o, kb⟩ w h
    obtain ⟨hJ, h⟩ := h
    replace hJ : refW ((runesL s).map lowV) (List.drop i W) o kb = refW ((runesL s).map lowV) W (List.replicate (((runesL s).map lowV).length + 1) (0 : Int)) false ∧ i ≤ W.length ∧ (o).length = ((runesL s).map lowV).length + 1 := hJ
    replace h : Sx.St w0 F0 ([Sx.row (Kd.int .i64) 3 (Wa) (Wc) (((runesL s).map lowV)), Sx.row (Kd.int .i64) 3 (Oa) (Oc) (o)] ++ R) w := h
    show Sx.WC _ _ _ _ [(0, .slice (PA) (P.length) (pc)), (1, .slice (WA) (W.length) (wc)), (2, .int .i64 (lf)), (3, .int .i64 (rt)), (4, .string (s)), (14, .slice (Wa) (((runesL s).map lowV).length) (Wc)), (16, .slice (Oa) ((o).length) (Oc)), (17, .bool (kb)), (18, .int .i64 (((i : Nat) : Int)))] _
    have hwz_ := wordD_len (W.getD i ByteArray.empty)
    have hwa_ := wordD_at (W.getD i ByteArray.empty)
    have hJ0_ := hJ
    refine wc_seq ?_
    refine wc_seq ?_
    refine wc_region ?_
    refine wl_v rfl rfl (ov_move _ rfl) ?_
    refine wl_v rfl rfl (ov_move _ rfl) ?_
    refine wl_v rfl rfl (ov_len _ _ _ _ _ rfl es22) ?_
    refine wl_v rfl rfl (ov_bin _ rfl rfl (binR_lss)) ?_
    refine wl_nil ?_
    refine qn_then ?_
    refine wc_cond (by rfl) (fun c20 => ?_) (fun c20 => ?_)
    ·
     refine wc_skip ?_
     refine qn_then ?_
     refine wc_seq ?_
     refine wc_block ?_
     refine wc_seq ?_
     refine wc_region ?_
     refine wl_v rfl rfl (ov_move _ rfl) ?_
     refine wl_v rfl rfl (ov_move _ rfl) ?_
     obtain ⟨ad21, rfl⟩ := Sx.C_some ((hW [_, _] _ h)) (k := (i : Nat)) (by first | assumption | omega | (simp only [List.length_set, List.length_append, List.length_cons, List.length_nil]; omega))
     refine wl_v rfl rfl (ov_indexAddrN _ _ _ _ _ (i : Nat) rfl rfl es22 rfl (by first | assumption | omega | (simp only [List.length_take, List.length_drop, List.length_set, List.length_append, List.length_cons, List.length_nil]; omega))) ?_
     obtain ⟨cl24, _, hk23, hc22⟩ := Sx.C_cells ((hW [_, _] _ h)) (z := ByteArray.empty) (k := (i : Nat)) (by first | assumption | omega | (simp only [List.length_set, List.length_append, List.length_cons, List.length_nil]; omega))
     obtain rfl : cl24 = [.string _] := hk23
     refine wl_v rfl rfl (ov_load1 _ _ rfl sh9 ((hc22 0 _ rfl))) ?_
     refine wl_call _ rfl rfl rfl ent30 (RF.rWordG_calls (R := [Sx.row (Kd.int .i64) 3 (Wa) (Wc) (((runesL s).map lowV)), Sx.row (Kd.int .i64) 3 (Oa) (Oc) (o)] ++ R) ((W).getD (i : Nat) ByteArray.empty) (by first | exact getD_small hsP _ | exact getD_small hsW _) (by first | exact hgP _ (by omega) | exact hgW _ (by omega)) h) ?_
     rintro e_ w_ ⟨Ay25, cy25, By25, dy25, rfl, h⟩
     refine ⟨_, rfl, ?_⟩
     replace h : Sx.St w0 F0 ([Sx.row (Kd.int .i64) 3 (Ay25) (cy25) ((wordD ((W).getD (i : Nat) ByteArray.empty)).1), Sx.row (Kd.int .i64) 3 (By25) (dy25) ((wordD ((W).getD (i : Nat) ByteArray.empty)).2), Sx.row (Kd.int .i64) 3 (Wa) (Wc) (((runesL s).map lowV)), Sx.row (Kd.int .i64) 3 (Oa) (Oc) (o)] ++ R) _ := h
     refine wl_v rfl rfl (ov_move _ rfl) ?_
     refine wl_v rfl rfl (ov_extract [.agg #[.slice (Ay25) ((wordD ((W).getD (i : Nat) ByteArray.empty)).1.length) (cy25), .slice (By25) ((wordD ((W).getD (i : Nat) ByteArray.empty)).2.length) (dy25)], .bool true] _ rfl rfl) ?_
     refine wl_v rfl rfl (ov_extract [.agg #[.slice (Ay25) ((wordD ((W).getD (i : Nat) ByteArray.empty)).1.length) (cy25), .slice (By25) ((wordD ((W).getD (i : Nat) ByteArray.empty)).2.length) (dy25)], .bool true] _ rfl rfl) ?_
     refine wl_alloc _ h rfl rfl zo67 (fun b26 _ h => ?_)
     replace h : Sx.St _ _ (Sx.blk b26 [.slice (none) (0) (0), .slice (none) (0) (0)] 67 :: _) _ := h
     refine wl_storebN 0 [.slice (Ay25) ((wordD ((W).getD (i : Nat) ByteArray.empty)).1.length) (cy25), .slice (By25) ((wordD ((W).getD (i : Nat) ByteArray.empty)).2.length) (dy25)] [.slice (Ay25) ((wordD ((W).getD (i : Nat) ByteArray.empty)).1.length) (cy25), .slice (By25) ((wordD ((W).getD (i : Nat) ByteArray.empty)).2.length) (dy25)] h rfl rfl rfl rfl (by simp [Value.oneCell']) sh67 rfl rfl (fun _ h => ?_)
     refine wl_v rfl rfl (ov_assign _ rfl) ?_
     refine wl_nil ?_
     refine qn_then ?_
     refine wc_seq ?_
     refine wc_seq ?_
     refine wc_region ?_
     refine wl_v rfl rfl (ov_fieldAddr _ ⟨b26, 0, none⟩ _ rfl fo67_0 rfl) ?_
     refine wl_v rfl rfl (ov_loadb 0 _ h rfl rfl sh36 rfl) ?_
     refine wl_v rfl rfl (ov_move _ rfl) ?_
     refine wl_call _ rfl rfl rfl ent31 (RF.same_calls (R := [Sx.blk b26 [.slice (Ay25) ((wordD ((W).getD (i : Nat) ByteArray.empty)).1.length) (cy25), .slice (By25) ((wordD ((W).getD (i : Nat) ByteArray.empty)).2.length) (dy25)] 67, Sx.row (Kd.int .i64) 3 (Ay25) (cy25) ((wordD ((W).getD (i : Nat) ByteArray.empty)).1), Sx.row (Kd.int .i64) 3 (By25) (dy25) ((wordD ((W).getD (i : Nat) ByteArray.empty)).2), Sx.row (Kd.int .i64) 3 (Wa) (Wc) (((runesL s).map lowV)), Sx.row (Kd.int .i64) 3 (Oa) (Oc) (o)] ++ R) (Ay25) (cy25) ((wordD ((W).getD (i : Nat) ByteArray.empty)).1) (Wa) (Wc) (((runesL s).map lowV)) (Sx.row_reads_at (R := [Sx.blk b26 [.slice (Ay25) ((wordD ((W).getD (i : Nat) ByteArray.empty)).1.length) (cy25), .slice (By25) ((wordD ((W).getD (i : Nat) ByteArray.empty)).2.length) (dy25)] 67, Sx.row (Kd.int .i64) 3 (Ay25) (cy25) ((wordD ((W).getD (i : Nat) ByteArray.empty)).1), Sx.row (Kd.int .i64) 3 (By25) (dy25) ((wordD ((W).getD (i : Nat) ByteArray.empty)).2), Sx.row (Kd.int .i64) 3 (Wa) (Wc) (((runesL s).map lowV)), Sx.row (Kd.int .i64) 3 (Oa) (Oc) (o)] ++ R) (j := 1) rfl) (Sx.row_reads_at (R := [Sx.blk b26 [.slice (Ay25) ((wordD ((W).getD (i : Nat) ByteArray.empty)).1.length) (cy25), .slice (By25) ((wordD ((W).getD (i : Nat) ByteArray.empty)).2.length) (dy25)] 67, Sx.row (Kd.int .i64) 3 (Ay25) (cy25) ((wordD ((W).getD (i : Nat) ByteArray.empty)).1), Sx.row (Kd.int .i64) 3 (By25) (dy25) ((wordD ((W).getD (i : Nat) ByteArray.empty)).2), Sx.row (Kd.int .i64) 3 (Wa) (Wc) (((runesL s).map lowV)), Sx.row (Kd.int .i64) 3 (Oa) (Oc) (o)] ++ R) (j := 3) rfl) (by first | omega | (rw [List.length_drop, List.length_take]; omega)) h) ?_
     rintro e_ w_ ⟨rfl, h⟩
     refine ⟨_, rfl, ?_⟩
     refine wl_v rfl rfl (ov_not _ (¬ (((wordD ((W).getD (i : Nat) ByteArray.empty)).1) = (((runesL s).map lowV)))) rfl (by first | exact decide_not.symm | simp)) ?_
     refine wl_nil ?_
     refine qn_then ?_
     refine wc_cond (by rfl) (fun c27 => ?_) (fun c27 => ?_)
     ·
      have hsm_ : ¬ (wordD (W.getD i ByteArray.empty)).1 = ((runesL s).map lowV) := c27
      refine wc_exit ?_
      refine qn_then_exit ?_
      refine qn_block_exit ?_
      refine qn_then ?_
      refine wc_region ?_
      refine wl_v rfl rfl (ov_move _ rfl) ?_
      refine wl_v rfl rfl (ov_bin _ rfl rfl (binR_add (r := (((i : Nat) : Int)) + 1) (Sx.w64 (by omega)))) ?_
      refine wl_v rfl rfl (ov_assign _ rfl) ?_
      refine wl_nil ?_
      replace h := st_front 4 h
      replace h := st_front 4 h
      replace h := st_selT [true, true, false, false, false] h
      refine qn_next ((i + 1), Oa, Oc, (o), (kb)) (by show W.length - (i + 1) < W.length - i; omega) ⟨rfl, (congrArg (fun z_ => some (Value.slice (some ad21) z_ (wc))) (show (W.length : Nat) = W.length by first | rfl | simp)), rfl, rfl, rfl, rfl, (congrArg (fun z_ => some (Value.slice (Oa) z_ (Oc))) (show ((o).length : Nat) = ((o)).length by first | rfl | simp)), (congrArg (fun z_ => some (Value.bool z_)) (show (kb) = ((kb)) by first | rfl | simp | omega)), (congrArg (fun z_ => some (Value.int .i64 z_)) (show ((((i : Nat) : Int)) + 1 : Int) = (((i + 1) : Nat) : Int) by omega)), trivial⟩ ?_
      show (refW ((runesL s).map lowV) (List.drop (i + 1) W) (o) (kb) = refW ((runesL s).map lowV) W (List.replicate (((runesL s).map lowV).length + 1) (0 : Int)) false ∧ (i + 1) ≤ W.length ∧ ((o)).length = ((runesL s).map lowV).length + 1) ∧ _
      have e_ := hJ0_.1
      rw [drop_get W ByteArray.empty (by omega), refW] at e_
      rw [if_neg hsm_] at e_
      exact ⟨⟨e_, by omega, hJ0_.2.2⟩, h⟩
     ·
      have hsm_ : (wordD (W.getD i ByteArray.empty)).1 = ((runesL s).map lowV) := Classical.not_not.1 c27
      refine wc_skip ?_
      refine qn_then ?_
      refine wc_seq ?_
      refine wc_region ?_
      refine wl_v rfl rfl (ov_assign _ rfl) ?_
      refine wl_nil ?_
      refine qn_then ?_
      refine wc_seq ?_
      refine wc_region ?_
      refine wl_v rfl rfl (ov_move _ rfl) ?_
      refine wl_v rfl rfl (ov_len _ _ _ _ _ rfl es36) ?_
      refine wl_v rfl rfl (ov_bin _ rfl rfl (binR_add (r := (((((runesL s).map lowV).length : Nat) : Int)) + 1) (Sx.w64 (by omega)))) ?_
      refine wl_make (d := (Kd.int .i64)) _ 8 (0 : Int) ((((((runesL s).map lowV).length : Nat) : Int)) + 1) h rfl rfl rfl rfl Try.underlying36 inf3 rfl (by decide) (by decide) (fun _ _ _ => (Sx.mkInt .i64 ((0 : Int)))) (by omega) (by omega) (fun A28 cp29 _ h => ?_)
      refine wl_v rfl rfl (ov_assign _ rfl) ?_
      refine wl_nil ?_
      refine qn_then ?_
      refine wc_seq ?_
      refine wc_region ?_
      refine wl_v rfl rfl (ov_assign _ rfl) ?_
      refine wl_nil ?_
      refine qn_then ?_
      refine wc_block ?_
      have hzr_ : List.replicate ((((((runesL s).map lowV).length : Nat) : Int)) + 1 : Int).toNat (0 : Int) = (List.replicate (((runesL s).map lowV).length + 1) (0 : Int)) := congrArg (fun n_ => List.replicate n_ (0 : Int)) (by omega)
      replace h := st_front 3 h
      replace h := st_front 2 h
      replace h := st_front 2 h
      replace h := st_front 4 h
      replace h := st_selT [true, true, true, true, false, false] h
      refine wc_loop (fun (x_ : Nat × (Option Addr) × (List Int) × (Option Addr)) => [(0, .slice (PA) (P.length) (pc)), (1, .slice (some ad21) (W.length) (wc)), (2, .int .i64 (lf)), (3, .int .i64 (rt)), (4, .string (s)), (14, .slice (Wa) (((runesL s).map lowV).length) (Wc)), (16, .slice (x_.2.1) ((x_.2.2.1).length) (cp29)), (17, .bool true), (18, .int .i64 (((i : Nat) : Int))), (19, .pointer (some ⟨b26, 0, none⟩)), (21, .int .i64 (((x_.1 : Nat) : Int)))]) (fun (x_ : Nat × (Option Addr) × (List Int) × (Option Addr)) (w : World) => (set1 (List.drop x_.1 (wordD (W.getD i ByteArray.empty)).2) x_.2.2.1 = set1 (wordD (W.getD i ByteArray.empty)).2 (List.replicate (((runesL s).map lowV).length + 1) (0 : Int)) ∧ x_.1 ≤ (wordD (W.getD i ByteArray.empty)).2.length ∧ (x_.2.2.1).length = ((runesL s).map lowV).length + 1) ∧ Sx.St w0 F0 ([Sx.row (Kd.int .i64) 3 (Wa) (Wc) (((runesL s).map lowV)), Sx.row (Kd.int .i64) 3 (x_.2.1) (cp29) (x_.2.2.1), Sx.blk b26 [.slice (Ay25) ((wordD ((W).getD (i : Nat) ByteArray.empty)).1.length) (cy25), .slice (x_.2.2.2) ((wordD (W.getD i ByteArray.empty)).2.length) (dy25)] 67, Sx.row (Kd.int .i64) 3 (x_.2.2.2) (dy25) ((wordD (W.getD i ByteArray.empty)).2)] ++ R) w) (fun (x_ : Nat × (Option Addr) × (List Int) × (Option Addr)) => (wordD (W.getD i ByteArray.empty)).2.length - x_.1) (0, A28, (List.replicate ((((((runesL s).map lowV).length : Nat) : Int)) + 1 : Int).toNat (0 : Int)), By25) ?_ ?_ ?_
      · exact ⟨rfl, rfl, rfl, rfl, rfl, rfl, (congrArg (fun z_ => some (Value.slice (A28) z_ (cp29))) (show ((List.replicate ((((((runesL s).map lowV).length : Nat) : Int)) + 1 : Int).toNat (0 : Int)).length : Nat) = ((List.replicate ((((((runesL s).map lowV).length : Nat) : Int)) + 1 : Int).toNat (0 : Int))).length by first | rfl | simp)), rfl, rfl, rfl, (congrArg (fun z_ => some (Value.int .i64 z_)) (show (0 : Int) = ((0 : Nat) : Int) by omega)), trivial⟩
      · exact ⟨⟨congrArg (set1 (wordD (W.getD i ByteArray.empty)).2) hzr_, Nat.zero_le _, (congrArg List.length hzr_).trans List.length_replicate⟩, h⟩
      rintro ⟨k, Ob, o, Xb⟩ w h
      obtain ⟨hJ, h⟩ := h
      replace hJ : set1 (List.drop k (wordD (W.getD i ByteArray.empty)).2) o = set1 (wordD (W.getD i ByteArray.empty)).2 (List.replicate (((runesL s).map lowV).length + 1) (0 : Int)) ∧ k ≤ (wordD (W.getD i ByteArray.empty)).2.length ∧ (o).length = ((runesL s).map lowV).length + 1 := hJ
      replace h : Sx.St w0 F0 ([Sx.row (Kd.int .i64) 3 (Wa) (Wc) (((runesL s).map lowV)), Sx.row (Kd.int .i64) 3 (Ob) (cp29) (o), Sx.blk b26 [.slice (Ay25) ((wordD ((W).getD (i : Nat) ByteArray.empty)).1.length) (cy25), .slice (Xb) ((wordD (W.getD i ByteArray.empty)).2.length) (dy25)] 67, Sx.row (Kd.int .i64) 3 (Xb) (dy25) ((wordD (W.getD i ByteArray.empty)).2)] ++ R) w := h
      show Sx.WC _ _ _ _ [(0, .slice (PA) (P.length) (pc)), (1, .slice (some ad21) (W.length) (wc)), (2, .int .i64 (lf)), (3, .int .i64 (rt)), (4, .string (s)), (14, .slice (Wa) (((runesL s).map lowV).length) (Wc)), (16, .slice (Ob) ((o).length) (cp29)), (17, .bool true), (18, .int .i64 (((i : Nat) : Int))), (19, .pointer (some ⟨b26, 0, none⟩)), (21, .int .i64 (((k : Nat) : Int)))] _
      have hab_ : k < (wordD (W.getD i ByteArray.empty)).2.length → 1 ≤ (wordD (W.getD i ByteArray.empty)).2.getD k 0 ∧ (wordD (W.getD i ByteArray.empty)).2.getD k 0 < ((wordD (W.getD i ByteArray.empty)).1.length : Int) := fun hk_ => hwa_.1 _ (getD_mem hk_)
      have hwl_ : (wordD (W.getD i ByteArray.empty)).1.length = ((runesL s).map lowV).length := congrArg List.length hsm_
      refine wc_seq ?_
      refine wc_seq ?_
      refine wc_region ?_
      refine wl_v rfl rfl (ov_move _ rfl) ?_
      refine wl_v rfl rfl (ov_fieldAddr _ ⟨b26, 1, none⟩ _ rfl fo67_1 rfl) ?_
      refine wl_v rfl rfl (ov_loadb 2 _ h rfl rfl sh36 rfl) ?_
      refine wl_v rfl rfl (ov_len _ _ _ _ _ rfl es36) ?_
      refine wl_v rfl rfl (ov_bin _ rfl rfl (binR_lss)) ?_
      refine wl_nil ?_
      refine qn_then ?_
      refine wc_cond (by rfl) (fun c30 => ?_) (fun c30 => ?_)
      ·
       refine wc_skip ?_
       refine qn_then ?_
       refine wc_seq ?_
       refine wc_block ?_
       refine wc_region ?_
       refine wl_v rfl rfl (ov_move _ rfl) ?_
       refine wl_v rfl rfl (ov_fieldAddr _ ⟨b26, 1, none⟩ _ rfl fo67_1 rfl) ?_
       refine wl_v rfl rfl (ov_loadb 2 _ h rfl rfl sh36 rfl) ?_
       refine wl_v rfl rfl (ov_move _ rfl) ?_
       obtain ⟨ad31, rfl⟩ := Sx.C_some ((Sx.row_reads h (i := 3) rfl).2) (k := (k : Nat)) (by first | assumption | omega | (simp only [List.length_set, List.length_append, List.length_cons, List.length_nil]; omega))
       refine wl_v rfl rfl (ov_indexAddrN _ _ _ _ _ (k : Nat) rfl rfl es36 rfl (by first | assumption | omega | (simp only [List.length_take, List.length_drop, List.length_set, List.length_append, List.length_cons, List.length_nil]; omega))) ?_
       obtain ⟨cl34, _, hk33, hc32⟩ := Sx.C_cells ((Sx.row_reads h (i := 3) rfl).2) (z := (0 : Int)) (k := (k : Nat)) (by first | assumption | omega | (simp only [List.length_set, List.length_append, List.length_cons, List.length_nil]; omega))
       obtain rfl : cl34 = [.int .i64 _] := hk33
       refine wl_v rfl rfl (ov_load1 _ _ rfl sh3 ((hc32 0 _ rfl))) ?_
       obtain ⟨ad35, rfl⟩ := Sx.C_some ((Sx.row_reads h (i := 1) rfl).2) (k := (((wordD (W.getD i ByteArray.empty)).2).getD (k : Nat) (0 : Int) : Int).toNat) (by first | assumption | omega | (simp only [List.length_set, List.length_append, List.length_cons, List.length_nil]; omega))
       refine wl_v rfl rfl (ov_indexAddrN _ _ _ _ _ (((wordD (W.getD i ByteArray.empty)).2).getD (k : Nat) (0 : Int) : Int).toNat rfl rfl es36 (by omega) (by first | assumption | omega | (simp only [List.length_take, List.length_drop, List.length_set, List.length_append, List.length_cons, List.length_nil]; omega))) ?_
       refine wl_storeeN 1 (((wordD (W.getD i ByteArray.empty)).2).getD (k : Nat) (0 : Int) : Int).toNat 0 (.int .i64 (1)) [.int .i64 (1)] (0 : Int) (1) h rfl rfl rfl (by first | rfl | simp) rfl rfl (by simp [Value.oneCell']) szf3 (by first | assumption | omega | (simp only [List.length_set, List.length_append, List.length_cons, List.length_nil]; omega)) (Nat.le_of_ble_eq_true rfl) (by intro cl hcl hM; obtain ⟨_, _, _, hM⟩ := hM; obtain rfl : cl = [.int .i64 _] := hM; intro _ _ _; exact (Sx.mkInt .i64 (1))) (fun _ h => ?_)
       refine wl_nil ?_
       refine qn_block_normal ?_
       refine qn_then ?_
       refine wc_region ?_
       refine wl_v rfl rfl (ov_move _ rfl) ?_
       refine wl_v rfl rfl (ov_bin _ rfl rfl (binR_add (r := (((k : Nat) : Int)) + 1) (Sx.w64 (by omega)))) ?_
       refine wl_v rfl rfl (ov_assign _ rfl) ?_
       refine wl_nil ?_
       replace h := st_front 3 h
       replace h := st_front 3 h
       replace h := st_front 3 h
       replace h := st_front 3 h
       refine qn_next ((k + 1), some ad35, ((o).set (((wordD (W.getD i ByteArray.empty)).2).getD (k : Nat) (0 : Int) : Int).toNat (1)), some ad31) (by show (wordD (W.getD i ByteArray.empty)).2.length - (k + 1) < (wordD (W.getD i ByteArray.empty)).2.length - k; omega) ⟨rfl, rfl, rfl, rfl, rfl, rfl, (congrArg (fun z_ => some (Value.slice (some ad35) z_ (cp29))) (show ((o).length : Nat) = (((o).set (((wordD (W.getD i ByteArray.empty)).2).getD (k : Nat) (0 : Int) : Int).toNat (1))).length by first | rfl | simp)), rfl, rfl, rfl, (congrArg (fun z_ => some (Value.int .i64 z_)) (show ((((k : Nat) : Int)) + 1 : Int) = (((k + 1) : Nat) : Int) by omega)), trivial⟩ ?_
       show (set1 (List.drop (k + 1) (wordD (W.getD i ByteArray.empty)).2) ((o).set (((wordD (W.getD i ByteArray.empty)).2).getD (k : Nat) (0 : Int) : Int).toNat (1)) = set1 (wordD (W.getD i ByteArray.empty)).2 (List.replicate (((runesL s).map lowV).length + 1) (0 : Int)) ∧ (k + 1) ≤ (wordD (W.getD i ByteArray.empty)).2.length ∧ (((o).set (((wordD (W.getD i ByteArray.empty)).2).getD (k : Nat) (0 : Int) : Int).toNat (1))).length = ((runesL s).map lowV).length + 1) ∧ _
       have e_ := hJ.1
       rw [drop_get (wordD (W.getD i ByteArray.empty)).2 0 (by omega), set1] at e_
       exact ⟨⟨e_, by omega, by rw [List.length_set]; exact hJ.2.2⟩, h⟩
      ·
       have hset_ : set1 (wordD (W.getD i ByteArray.empty)).2 (List.replicate (((runesL s).map lowV).length + 1) (0 : Int)) = o := by
         have e_ := hJ.1
         rw [List.drop_eq_nil_of_le (by omega), set1] at e_
         exact e_.symm
       refine wc_exit ?_
       refine qn_then_exit ?_
       refine qn_then_exit ?_
       refine qn_block_exit ?_
       refine qn_block_normal ?_
       refine qn_then ?_
       refine wc_region ?_
       refine wl_v rfl rfl (ov_move _ rfl) ?_
       refine wl_v rfl rfl (ov_bin _ rfl rfl (binR_add (r := (((i : Nat) : Int)) + 1) (Sx.w64 (by omega)))) ?_
       refine wl_v rfl rfl (ov_assign _ rfl) ?_
       refine wl_nil ?_
       replace h := st_front 1 h
       replace h := st_front 1 h
       replace h := st_selT [true, true, false, false] h
       refine qn_next ((i + 1), Ob, cp29, (o), true) (by show W.length - (i + 1) < W.length - i; omega) ⟨rfl, (congrArg (fun z_ => some (Value.slice (some ad21) z_ (wc))) (show (W.length : Nat) = W.length by first | rfl | simp)), rfl, rfl, rfl, rfl, (congrArg (fun z_ => some (Value.slice (Ob) z_ (cp29))) (show ((o).length : Nat) = ((o)).length by first | rfl | simp)), (congrArg (fun z_ => some (Value.bool z_)) (show true = (true) by first | rfl | simp | omega)), (congrArg (fun z_ => some (Value.int .i64 z_)) (show ((((i : Nat) : Int)) + 1 : Int) = (((i + 1) : Nat) : Int) by omega)), trivial⟩ ?_
       show (refW ((runesL s).map lowV) (List.drop (i + 1) W) (o) true = refW ((runesL s).map lowV) W (List.replicate (((runesL s).map lowV).length + 1) (0 : Int)) false ∧ (i + 1) ≤ W.length ∧ ((o)).length = ((runesL s).map lowV).length + 1) ∧ _
       have e_ := hJ0_.1
       rw [drop_get W ByteArray.empty (by omega), refW] at e_
       rw [if_pos hsm_, hset_] at e_
       exact ⟨⟨e_, by omega, by rw [← hset_, set1_len, List.length_replicate]⟩, h⟩
    ·
     refine wc_exit ?_
     refine qn_then_exit ?_
     refine qn_then_exit ?_
     refine qn_block_exit ?_
     refine qn_then ?_
     refine wc_seq ?_
     refine wc_region ?_
     refine wl_lit (d := (Kd.int .i64)) [(0, .int .i64 (46))] _ [.int .i64 (46)] ([46]) h rfl rfl rfl rfl Try.underlying36 infb3 rfl (by decide) (by kernel_rfl) rfl (fun _ _ _ => ((Reps.none _ _).snoc ((Sx.mkInt .i64 (46))) rfl)) (fun A36 cp37 _ h => ?_)
     refine wl_v rfl rfl (ov_move _ rfl) ?_
     refine wl_append (d := (Kd.int .i64)) (L := [46]) 0 _ 8 _ _ _ (((runesL s).map lowV)) (Sx.flat_int _) h rfl rfl rfl rfl rfl ((Sx.row_reads h (i := 1) rfl).2) Try.underlying36 inf3 rfl (by decide) (by decide) (by first | omega | (simp only [List.length_cons, List.length_nil, List.length_append, List.length_set]; omega)) (by first | rfl | simp) (fun A38 cp39 _ h => ?_)
     refine wl_v rfl rfl (ov_assign _ rfl) ?_
     refine wl_nil ?_
     refine qn_then ?_
     refine wc_seq ?_
     refine wc_region ?_
     refine wl_v rfl rfl (ov_move _ rfl) ?_
     refine wl_lit (d := (Kd.int .i64)) [(0, .int .i64 (46))] _ [.int .i64 (46)] ([46]) h rfl rfl rfl rfl Try.underlying36 infb3 rfl (by decide) (by kernel_rfl) rfl (fun _ _ _ => ((Reps.none _ _).snoc ((Sx.mkInt .i64 (46))) rfl)) (fun A40 cp41 _ h => ?_)
     refine wl_append (d := (Kd.int .i64)) (L := ([46]) ++ (((runesL s).map lowV))) 1 _ 8 _ _ _ ([46]) (Sx.flat_int _) h rfl rfl rfl rfl rfl ((Sx.row_reads h (i := 0) rfl).2) Try.underlying36 inf3 rfl (by decide) (by decide) (by first | omega | (simp only [List.length_cons, List.length_nil, List.length_append, List.length_set]; omega)) (by first | rfl | simp) (fun A42 cp43 _ h => ?_)
     replace h := st_selT [false, true, true, true] h
     refine wl_v rfl rfl (ov_assign _ rfl) ?_
     refine wl_nil ?_
     refine qn_then ?_
     refine wc_seq ?_
     refine wc_seq ?_
     refine wc_region ?_
     refine wl_v rfl rfl (ov_assign _ rfl) ?_
     refine wl_nil ?_
     refine qn_then ?_
     refine wc_block ?_
     have e_ : (([46]) ++ (((runesL s).map lowV))) ++ ([46]) = (rowOf ((runesL s).map lowV)) := by rfl
     replace h := st_cast (congrArg (fun z_ => ([Sx.row (Kd.int .i64) 3 (A42) (cp43) (z_), Sx.row (Kd.int .i64) 3 (Wa) (Wc) (((runesL s).map lowV)), Sx.row (Kd.int .i64) 3 (Oa) (Oc) (o)] ++ R)) e_) h
     clear e_
     have hrw_ := rowOf_len ((runesL s).map lowV)
     have hJw_ := hJ
     have e1_ : refW ((runesL s).map lowV) W (List.replicate (((runesL s).map lowV).length + 1) (0 : Int)) false = (o, kb) := by
       have e_ := hJ.1
       rw [List.drop_eq_nil_of_le (by omega), refW] at e_
       exact e_.symm
     replace h := st_front 2 h
     replace h := st_front 2 h
     refine wc_loop (fun (x_ : Nat × (Option Addr) × (List Int) × (Option Addr)) => [(0, .slice (PA) (P.length) (pc)), (1, .slice (WA) (W.length) (wc)), (2, .int .i64 (lf)), (3, .int .i64 (rt)), (4, .string (s)), (14, .slice (Wa) (((runesL s).map lowV).length) (Wc)), (16, .slice (x_.2.1) ((x_.2.2.1).length) (Oc)), (17, .bool (kb)), (22, .slice (x_.2.2.2) ((rowOf ((runesL s).map lowV)).length) (cp43)), (23, .int .i64 (((x_.1 : Nat) : Int)))]) (fun (x_ : Nat × (Option Addr) × (List Int) × (Option Addr)) (w : World) => (refI P (rowOf ((runesL s).map lowV)) (P.length - x_.1) x_.1 x_.2.2.1 = refI P (rowOf ((runesL s).map lowV)) P.length 0 o ∧ x_.1 ≤ P.length ∧ (x_.2.2.1).length = ((runesL s).map lowV).length + 1 ∧ (kb = true → x_.1 = 0 ∧ x_.2.2.1 = o)) ∧ Sx.St w0 F0 ([Sx.row (Kd.int .i64) 3 (Wa) (Wc) (((runesL s).map lowV)), Sx.row (Kd.int .i64) 3 (x_.2.1) (Oc) (x_.2.2.1), Sx.row (Kd.int .i64) 3 (x_.2.2.2) (cp43) ((rowOf ((runesL s).map lowV)))] ++ R) w) (fun (x_ : Nat × (Option Addr) × (List Int) × (Option Addr)) => P.length - x_.1) (0, Oa, o, A42) ?_ ?_ ?_
     · exact ⟨rfl, rfl, rfl, rfl, rfl, rfl, rfl, rfl, (congrArg (fun z_ => some (Value.slice (A42) z_ (cp43))) (show (((([46]) ++ (((runesL s).map lowV))) ++ ([46])).length : Nat) = (rowOf ((runesL s).map lowV)).length by first | rfl | simp)), (congrArg (fun z_ => some (Value.int .i64 z_)) (show (0 : Int) = ((0 : Nat) : Int) by omega)), trivial⟩
     · exact ⟨⟨rfl, Nat.zero_le _, hJw_.2.2, fun _ => ⟨rfl, rfl⟩⟩, h⟩
     rintro ⟨i, Od, o2, Xd⟩ w h
     obtain ⟨hJ, h⟩ := h
     replace hJ : refI P (rowOf ((runesL s).map lowV)) (P.length - i) i o2 = refI P (rowOf ((runesL s).map lowV)) P.length 0 o ∧ i ≤ P.length ∧ (o2).length = ((runesL s).map lowV).length + 1 ∧ (kb = true → i = 0 ∧ o2 = o) := hJ
     replace h : Sx.St w0 F0 ([Sx.row (Kd.int .i64) 3 (Wa) (Wc) (((runesL s).map lowV)), Sx.row (Kd.int .i64) 3 (Od) (Oc) (o2), Sx.row (Kd.int .i64) 3 (Xd) (cp43) ((rowOf ((runesL s).map lowV)))] ++ R) w := h
     show Sx.WC _ _ _ _ [(0, .slice (PA) (P.length) (pc)), (1, .slice (WA) (W.length) (wc)), (2, .int .i64 (lf)), (3, .int .i64 (rt)), (4, .string (s)), (14, .slice (Wa) (((runesL s).map lowV).length) (Wc)), (16, .slice (Od) ((o2).length) (Oc)), (17, .bool (kb)), (22, .slice (Xd) ((rowOf ((runesL s).map lowV)).length) (cp43)), (23, .int .i64 (((i : Nat) : Int)))] _
     have hpz_ := patD_size (P.getD i ByteArray.empty)
     have hJ1_ := hJ
     refine wc_seq ?_
     refine wc_seq ?_
     refine wc_region ?_
     refine wl_v rfl rfl (ov_move _ rfl) ?_
     refine wl_v rfl rfl (ov_move _ rfl) ?_
     refine wl_v rfl rfl (ov_len _ _ _ _ _ rfl es22) ?_
     refine wl_v rfl rfl (ov_bin _ rfl rfl (binR_lss)) ?_
     refine wl_v rfl rfl (ov_move _ rfl) ?_
     refine wl_split 115 rfl (fun c44 => ?_) (fun c44 => ?_)
     ·
      refine wl_v rfl rfl (ov_move _ rfl) ?_
      refine wl_v rfl rfl (ov_notb _ rfl) ?_
      refine wl_v rfl rfl (ov_pick_true _ rfl rfl) ?_
      refine wl_nil ?_
      refine qn_then ?_
      refine wc_condb (by rfl) (fun c45 => ?_) (fun c45 => ?_)
      ·
       refine wc_skip ?_
       refine qn_then ?_
       refine wc_seq ?_
       refine wc_block ?_
       refine wc_seq ?_
       refine wc_region ?_
       refine wl_v rfl rfl (ov_move _ rfl) ?_
       refine wl_v rfl rfl (ov_move _ rfl) ?_
       obtain ⟨ad46, rfl⟩ := Sx.C_some ((hP [_, _, _] _ h)) (k := (i : Nat)) (by first | assumption | omega | (simp only [List.length_set, List.length_append, List.length_cons, List.length_nil]; omega))
       refine wl_v rfl rfl (ov_indexAddrN _ _ _ _ _ (i : Nat) rfl rfl es22 rfl (by first | assumption | omega | (simp only [List.length_take, List.length_drop, List.length_set, List.length_append, List.length_cons, List.length_nil]; omega))) ?_
       obtain ⟨cl49, _, hk48, hc47⟩ := Sx.C_cells ((hP [_, _, _] _ h)) (z := ByteArray.empty) (k := (i : Nat)) (by first | assumption | omega | (simp only [List.length_set, List.length_append, List.length_cons, List.length_nil]; omega))
       obtain rfl : cl49 = [.string _] := hk48
       refine wl_v rfl rfl (ov_load1 _ _ rfl sh9 ((hc47 0 _ rfl))) ?_
       refine wl_call _ rfl rfl rfl ent29 (RF.rPatG_calls (R := [Sx.row (Kd.int .i64) 3 (Wa) (Wc) (((runesL s).map lowV)), Sx.row (Kd.int .i64) 3 (Od) (Oc) (o2), Sx.row (Kd.int .i64) 3 (Xd) (cp43) ((rowOf ((runesL s).map lowV)))] ++ R) ((P).getD (i : Nat) ByteArray.empty) (by first | exact getD_small hsP _ | exact getD_small hsW _) (by first | exact hgP _ (by omega) | exact hgW _ (by omega)) h) ?_
       rintro e_ w_ ⟨Ay50, cy50, By50, dy50, rfl, h⟩
       refine ⟨_, rfl, ?_⟩
       replace h : Sx.St w0 F0 ([Sx.row (Kd.int .i64) 3 (Ay50) (cy50) ((patD ((P).getD (i : Nat) ByteArray.empty)).1), Sx.row (Kd.int .i64) 3 (By50) (dy50) ((patD ((P).getD (i : Nat) ByteArray.empty)).2), Sx.row (Kd.int .i64) 3 (Wa) (Wc) (((runesL s).map lowV)), Sx.row (Kd.int .i64) 3 (Od) (Oc) (o2), Sx.row (Kd.int .i64) 3 (Xd) (cp43) ((rowOf ((runesL s).map lowV)))] ++ R) _ := h
       refine wl_v rfl rfl (ov_move _ rfl) ?_
       refine wl_v rfl rfl (ov_extract [.agg #[.slice (Ay50) ((patD ((P).getD (i : Nat) ByteArray.empty)).1.length) (cy50), .slice (By50) ((patD ((P).getD (i : Nat) ByteArray.empty)).2.length) (dy50)], .bool true] _ rfl rfl) ?_
       refine wl_v rfl rfl (ov_extract [.agg #[.slice (Ay50) ((patD ((P).getD (i : Nat) ByteArray.empty)).1.length) (cy50), .slice (By50) ((patD ((P).getD (i : Nat) ByteArray.empty)).2.length) (dy50)], .bool true] _ rfl rfl) ?_
       refine wl_alloc _ h rfl rfl zo63 (fun b51 _ h => ?_)
       replace h : Sx.St _ _ (Sx.blk b51 [.slice (none) (0) (0), .slice (none) (0) (0)] 63 :: _) _ := h
       refine wl_storebN 0 [.slice (Ay50) ((patD ((P).getD (i : Nat) ByteArray.empty)).1.length) (cy50), .slice (By50) ((patD ((P).getD (i : Nat) ByteArray.empty)).2.length) (dy50)] [.slice (Ay50) ((patD ((P).getD (i : Nat) ByteArray.empty)).1.length) (cy50), .slice (By50) ((patD ((P).getD (i : Nat) ByteArray.empty)).2.length) (dy50)] h rfl rfl rfl rfl (by simp [Value.oneCell']) sh63 rfl rfl (fun _ h => ?_)
       refine wl_v rfl rfl (ov_assign _ rfl) ?_
       refine wl_nil ?_
       refine qn_then ?_
       refine wc_seq ?_
       refine wc_seq ?_
       refine wc_region ?_
       refine wl_v rfl rfl (ov_move _ rfl) ?_
       refine wl_v rfl rfl (ov_move _ rfl) ?_
       refine wl_call _ rfl rfl rfl ent38 (RP.counts_calls (R := [Sx.blk b51 [.slice (Ay50) ((patD ((P).getD (i : Nat) ByteArray.empty)).1.length) (cy50), .slice (By50) ((patD ((P).getD (i : Nat) ByteArray.empty)).2.length) (dy50)] 63, Sx.row (Kd.int .i64) 3 (Ay50) (cy50) ((patD ((P).getD (i : Nat) ByteArray.empty)).1), Sx.row (Kd.int .i64) 3 (By50) (dy50) ((patD ((P).getD (i : Nat) ByteArray.empty)).2), Sx.row (Kd.int .i64) 3 (Wa) (Wc) (((runesL s).map lowV)), Sx.row (Kd.int .i64) 3 (Od) (Oc) (o2), Sx.row (Kd.int .i64) 3 (Xd) (cp43) ((rowOf ((runesL s).map lowV)))] ++ R) (some ad46) (pc) P (i : Nat) (Sx.en_shift (cs2 := [Sx.blk b51 [.slice (Ay50) ((patD ((P).getD (i : Nat) ByteArray.empty)).1.length) (cy50), .slice (By50) ((patD ((P).getD (i : Nat) ByteArray.empty)).2.length) (dy50)] 63, Sx.row (Kd.int .i64) 3 (Ay50) (cy50) ((patD ((P).getD (i : Nat) ByteArray.empty)).1), Sx.row (Kd.int .i64) 3 (By50) (dy50) ((patD ((P).getD (i : Nat) ByteArray.empty)).2), Sx.row (Kd.int .i64) 3 (Wa) (Wc) (((runesL s).map lowV)), Sx.row (Kd.int .i64) 3 (Od) (Oc) (o2), Sx.row (Kd.int .i64) 3 (Xd) (cp43) ((rowOf ((runesL s).map lowV)))]) hP) hsP (by omega) hgP (by omega) h) ?_
       rintro e_ w_ ⟨rfl, h⟩
       refine ⟨_, rfl, ?_⟩
       refine wl_v rfl rfl (ov_not _ (¬ (CountP P (i : Nat))) rfl (by first | exact decide_not.symm | simp)) ?_
       refine wl_nil ?_
       refine qn_then ?_
       refine wc_cond (by rfl) (fun c52 => ?_) (fun c52 => ?_)
       ·
        refine wc_exit ?_
        refine qn_then_exit ?_
        refine qn_block_exit ?_
        refine qn_then ?_
        refine wc_region ?_
        refine wl_v rfl rfl (ov_move _ rfl) ?_
        refine wl_v rfl rfl (ov_bin _ rfl rfl (binR_add (r := (((i : Nat) : Int)) + 1) (Sx.w64 (by omega)))) ?_
        refine wl_v rfl rfl (ov_assign _ rfl) ?_
        refine wl_nil ?_
        replace h := st_front 5 h
        replace h := st_front 5 h
        replace h := st_front 5 h
        replace h := st_selT [true, true, true, false, false, false] h
        refine qn_next ((i + 1), Od, (o2), Xd) (by show P.length - (i + 1) < P.length - i; omega) ⟨(congrArg (fun z_ => some (Value.slice (some ad46) z_ (pc))) (show (P.length : Nat) = P.length by first | rfl | simp)), rfl, rfl, rfl, rfl, rfl, (congrArg (fun z_ => some (Value.slice (Od) z_ (Oc))) (show ((o2).length : Nat) = ((o2)).length by first | rfl | simp)), rfl, rfl, (congrArg (fun z_ => some (Value.int .i64 z_)) (show ((((i : Nat) : Int)) + 1 : Int) = (((i + 1) : Nat) : Int) by omega)), trivial⟩ ?_
        show (refI P (rowOf ((runesL s).map lowV)) (P.length - (i + 1)) (i + 1) (o2) = refI P (rowOf ((runesL s).map lowV)) P.length 0 o ∧ (i + 1) ≤ P.length ∧ ((o2)).length = ((runesL s).map lowV).length + 1 ∧ (kb = true → (i + 1) = 0 ∧ (o2) = o)) ∧ _
        have e_ := hJ1_.1
        obtain ⟨m_, hm_⟩ : ∃ m_, P.length - i = m_ + 1 := ⟨P.length - i - 1, by omega⟩
        rw [hm_, refI, if_neg (by assumption)] at e_
        rw [show m_ = P.length - (i + 1) by omega] at e_
        exact ⟨⟨e_, by omega, hJ1_.2.2.1, fun z_ => by have q_ := c45; rw [z_] at q_; cases q_⟩, h⟩
       ·
        refine wc_skip ?_
        refine qn_then ?_
        refine wc_seq ?_
        refine wc_region ?_
        refine wl_v rfl rfl (ov_assign _ rfl) ?_
        refine wl_nil ?_
        refine qn_then ?_
        refine wc_block ?_
        replace h := st_front 2 h
        replace h := st_front 2 h
        replace h := st_front 2 h
        replace h := st_front 5 h
        replace h := st_front 5 h
        replace h := st_front 5 h
        refine wc_loop (fun (x_ : Nat × (Option Addr) × (List Int) × (Option Addr) × (Option Addr)) => [(0, .slice (some ad46) (P.length) (pc)), (1, .slice (WA) (W.length) (wc)), (2, .int .i64 (lf)), (3, .int .i64 (rt)), (4, .string (s)), (14, .slice (Wa) (((runesL s).map lowV).length) (Wc)), (16, .slice (x_.2.1) ((x_.2.2.1).length) (Oc)), (17, .bool (kb)), (22, .slice (x_.2.2.2.1) ((rowOf ((runesL s).map lowV)).length) (cp43)), (23, .int .i64 (((i : Nat) : Int))), (24, .pointer (some ⟨b51, 0, none⟩)), (26, .int .i64 (((x_.1 : Nat) : Int)))]) (fun (x_ : Nat × (Option Addr) × (List Int) × (Option Addr) × (Option Addr)) (w : World) => (refAt (rowOf ((runesL s).map lowV)) (patD (P.getD i ByteArray.empty)).1 (patD (P.getD i ByteArray.empty)).2 ((rowOf ((runesL s).map lowV)).length + 1 - x_.1) x_.1 x_.2.2.1 = refAt (rowOf ((runesL s).map lowV)) (patD (P.getD i ByteArray.empty)).1 (patD (P.getD i ByteArray.empty)).2 ((rowOf ((runesL s).map lowV)).length + 1) 0 o2 ∧ x_.1 ≤ (rowOf ((runesL s).map lowV)).length + 1 ∧ (x_.2.2.1).length = ((runesL s).map lowV).length + 1) ∧ Sx.St w0 F0 ([Sx.row (Kd.int .i64) 3 (Wa) (Wc) (((runesL s).map lowV)), Sx.row (Kd.int .i64) 3 (x_.2.1) (Oc) (x_.2.2.1), Sx.row (Kd.int .i64) 3 (x_.2.2.2.1) (cp43) ((rowOf ((runesL s).map lowV))), Sx.blk b51 [.slice (Ay50) ((patD ((P).getD (i : Nat) ByteArray.empty)).1.length) (cy50), .slice (x_.2.2.2.2) ((patD (P.getD i ByteArray.empty)).2.length) (dy50)] 63, Sx.row (Kd.int .i64) 3 (Ay50) (cy50) ((patD (P.getD i ByteArray.empty)).1), Sx.row (Kd.int .i64) 3 (x_.2.2.2.2) (dy50) ((patD (P.getD i ByteArray.empty)).2)] ++ R) w) (fun (x_ : Nat × (Option Addr) × (List Int) × (Option Addr) × (Option Addr)) => (rowOf ((runesL s).map lowV)).length + 1 - x_.1) (0, Od, o2, Xd, By50) ?_ ?_ ?_
        · exact ⟨rfl, rfl, rfl, rfl, rfl, rfl, rfl, rfl, rfl, rfl, rfl, (congrArg (fun z_ => some (Value.int .i64 z_)) (show (0 : Int) = ((0 : Nat) : Int) by omega)), trivial⟩
        · exact ⟨⟨rfl, Nat.zero_le _, hJ.2.2.1⟩, h⟩
        rintro ⟨at1, Oe, o3, Xe, Ye⟩ w h
        obtain ⟨hJ, h⟩ := h
        replace hJ : refAt (rowOf ((runesL s).map lowV)) (patD (P.getD i ByteArray.empty)).1 (patD (P.getD i ByteArray.empty)).2 ((rowOf ((runesL s).map lowV)).length + 1 - at1) at1 o3 = refAt (rowOf ((runesL s).map lowV)) (patD (P.getD i ByteArray.empty)).1 (patD (P.getD i ByteArray.empty)).2 ((rowOf ((runesL s).map lowV)).length + 1) 0 o2 ∧ at1 ≤ (rowOf ((runesL s).map lowV)).length + 1 ∧ (o3).length = ((runesL s).map lowV).length + 1 := hJ
        replace h : Sx.St w0 F0 ([Sx.row (Kd.int .i64) 3 (Wa) (Wc) (((runesL s).map lowV)), Sx.row (Kd.int .i64) 3 (Oe) (Oc) (o3), Sx.row (Kd.int .i64) 3 (Xe) (cp43) ((rowOf ((runesL s).map lowV))), Sx.blk b51 [.slice (Ay50) ((patD ((P).getD (i : Nat) ByteArray.empty)).1.length) (cy50), .slice (Ye) ((patD (P.getD i ByteArray.empty)).2.length) (dy50)] 63, Sx.row (Kd.int .i64) 3 (Ay50) (cy50) ((patD (P.getD i ByteArray.empty)).1), Sx.row (Kd.int .i64) 3 (Ye) (dy50) ((patD (P.getD i ByteArray.empty)).2)] ++ R) w := h
        show Sx.WC _ _ _ _ [(0, .slice (some ad46) (P.length) (pc)), (1, .slice (WA) (W.length) (wc)), (2, .int .i64 (lf)), (3, .int .i64 (rt)), (4, .string (s)), (14, .slice (Wa) (((runesL s).map lowV).length) (Wc)), (16, .slice (Oe) ((o3).length) (Oc)), (17, .bool (kb)), (22, .slice (Xe) ((rowOf ((runesL s).map lowV)).length) (cp43)), (23, .int .i64 (((i : Nat) : Int))), (24, .pointer (some ⟨b51, 0, none⟩)), (26, .int .i64 (((at1 : Nat) : Int)))] _
        have hJ2_ := hJ
        have hpq_ := patD_len (hgP i (by omega))
        refine wc_seq ?_
        refine wc_seq ?_
        refine wc_region ?_
        refine wl_v rfl rfl (ov_move _ rfl) ?_
        refine wl_v rfl rfl (ov_fieldAddr _ ⟨b51, 0, none⟩ _ rfl fo63_0 rfl) ?_
        refine wl_v rfl rfl (ov_loadb 3 _ h rfl rfl sh36 rfl) ?_
        refine wl_v rfl rfl (ov_len _ _ _ _ _ rfl es36) ?_
        refine wl_v rfl rfl (ov_bin _ rfl rfl (binR_add (r := (((at1 : Nat) : Int)) + ((((patD ((P).getD (i : Nat) ByteArray.empty)).1.length : Nat) : Int))) (Sx.w64 (by omega)))) ?_
        refine wl_v rfl rfl (ov_move _ rfl) ?_
        refine wl_v rfl rfl (ov_len _ _ _ _ _ rfl es36) ?_
        refine wl_v rfl rfl (ov_bin _ rfl rfl (binR_leq)) ?_
        refine wl_nil ?_
        refine qn_then ?_
        refine wc_cond (by rfl) (fun c53 => ?_) (fun c53 => ?_)
        ·
         refine wc_skip ?_
         refine qn_then ?_
         refine wc_seq ?_
         refine wc_block ?_
         refine wc_seq ?_
         refine wc_seq ?_
         refine wc_draw (fun w => Sx.St w0 F0 ([Sx.row (Kd.int .i64) 3 (Wa) (Wc) (((runesL s).map lowV)), Sx.row (Kd.int .i64) 3 (Oe) (Oc) (o3), Sx.row (Kd.int .i64) 3 (Xe) (cp43) ((rowOf ((runesL s).map lowV))), Sx.blk b51 [.slice (Ay50) ((patD ((P).getD (i : Nat) ByteArray.empty)).1.length) (cy50), .slice (Ye) ((patD (P.getD i ByteArray.empty)).2.length) (dy50)] 63, Sx.row (Kd.int .i64) 3 (Ay50) (cy50) ((patD (P.getD i ByteArray.empty)).1), Sx.row (Kd.int .i64) 3 (Ye) (dy50) ((patD (P.getD i ByteArray.empty)).2)] ++ R) w) (by kernel_rfl) ?_
         replace h := st_drew h
         refine wa_tk 0 rfl rfl rfl (st_selT [true, true, true, true, true, true] h) (fun w_ hS => ov_move _ rfl) ?_
         refine wa_tk 1 rfl rfl rfl (st_selT [true, true, true, true, true, true] h) (fun w_ hS => ov_move _ rfl) ?_
         refine wa_tk 2 rfl rfl rfl (st_selT [true, true, true, true, true, true] h) (fun w_ hS => ov_move _ rfl) ?_
         refine wa_tk 3 rfl rfl rfl (st_selT [true, true, true, true, true, true] h) (fun w_ hS => ov_fieldAddr _ ⟨b51, 0, none⟩ _ rfl fo63_0 rfl) ?_
         refine wa_tk 4 rfl rfl rfl (st_selT [true, true, true, true, true, true] h) (fun w_ hS => ov_loadb 3 _ hS rfl rfl sh36 rfl) ?_
         refine wa_tk 5 rfl rfl rfl (st_selT [true, true, true, true, true, true] h) (fun w_ hS => ov_len _ _ _ _ _ rfl es36) ?_
         refine wa_tk 6 rfl rfl rfl (st_selT [true, true, true, true, true, true] h) (fun w_ hS => ov_bin _ rfl rfl (binR_add (r := (((at1 : Nat) : Int)) + ((((patD ((P).getD (i : Nat) ByteArray.empty)).1.length : Nat) : Int))) (Sx.w64 (by omega)))) ?_
         have hcap54 := (Sx.row_reads h (i := 2) rfl).1
         obtain ⟨A55, hA56⟩ : ∃ A_, (if cp43 = ((at1 : Nat)) then Xe else Option.map (·.add (((at1 : Nat)) * 1)) (Xe)) = A_ := ⟨_, rfl⟩
         refine wa_tk 7 rfl rfl rfl (st_selT [true, true, true, true, true, true] h) (fun w_ hS => by exact ov_slice _ _ _ ((at1 : Nat)) ((((at1 : Nat)) + ((patD ((P).getD (i : Nat) ByteArray.empty)).1.length))) (by rfl) (by exact ⟨_, _, rfl, rfl⟩) (by exact ⟨_, _, rfl, (by omega)⟩) es36 (by omega) (by omega) hA56 (n' := ((((rowOf ((runesL s).map lowV))).take ((((at1 : Nat)) + ((patD ((P).getD (i : Nat) ByteArray.empty)).1.length)))).drop ((at1 : Nat))).length) (by simp only [List.length_drop, List.length_take]; omega)) ?_
         refine wa_tk 8 rfl rfl rfl (st_selT [true, true, true, true, true, true] h) (fun w_ hS => ov_fieldAddr _ ⟨b51, 0, none⟩ _ rfl fo63_0 rfl) ?_
         refine wa_tk 9 rfl rfl rfl (st_selT [true, true, true, true, true, true] h) (fun w_ hS => ov_loadb 3 _ hS rfl rfl sh36 rfl) ?_
         refine wa_one 10 rfl (by kernel_rfl) ?_
         refine wl_call _ rfl rfl rfl ent31 (RF.same_calls (R := [Sx.row (Kd.int .i64) 3 (Wa) (Wc) (((runesL s).map lowV)), Sx.row (Kd.int .i64) 3 (Oe) (Oc) (o3), Sx.row (Kd.int .i64) 3 (Xe) (cp43) ((rowOf ((runesL s).map lowV))), Sx.blk b51 [.slice (Ay50) ((patD ((P).getD (i : Nat) ByteArray.empty)).1.length) (cy50), .slice (Ye) ((patD (P.getD i ByteArray.empty)).2.length) (dy50)] 63, Sx.row (Kd.int .i64) 3 (Ay50) (cy50) ((patD (P.getD i ByteArray.empty)).1), Sx.row (Kd.int .i64) 3 (Ye) (dy50) ((patD (P.getD i ByteArray.empty)).2)] ++ R) (A55) (cp43 - ((at1 : Nat))) ((((rowOf ((runesL s).map lowV))).take ((((at1 : Nat)) + ((patD ((P).getD (i : Nat) ByteArray.empty)).1.length)))).drop ((at1 : Nat))) (Ay50) (cy50) ((patD ((P).getD (i : Nat) ByteArray.empty)).1) (fun cs_ w_ h_ => Sx.mid_C (lo := ((at1 : Nat))) (hi := ((((at1 : Nat)) + ((patD ((P).getD (i : Nat) ByteArray.empty)).1.length)))) (by omega) (by omega) hcap54 hA56 ((Sx.row_reads_at (R := [Sx.row (Kd.int .i64) 3 (Wa) (Wc) (((runesL s).map lowV)), Sx.row (Kd.int .i64) 3 (Oe) (Oc) (o3), Sx.row (Kd.int .i64) 3 (Xe) (cp43) ((rowOf ((runesL s).map lowV))), Sx.blk b51 [.slice (Ay50) ((patD ((P).getD (i : Nat) ByteArray.empty)).1.length) (cy50), .slice (Ye) ((patD (P.getD i ByteArray.empty)).2.length) (dy50)] 63, Sx.row (Kd.int .i64) 3 (Ay50) (cy50) ((patD (P.getD i ByteArray.empty)).1), Sx.row (Kd.int .i64) 3 (Ye) (dy50) ((patD (P.getD i ByteArray.empty)).2)] ++ R) (j := 2) rfl) cs_ w_ h_)) (Sx.row_reads_at (R := [Sx.row (Kd.int .i64) 3 (Wa) (Wc) (((runesL s).map lowV)), Sx.row (Kd.int .i64) 3 (Oe) (Oc) (o3), Sx.row (Kd.int .i64) 3 (Xe) (cp43) ((rowOf ((runesL s).map lowV))), Sx.blk b51 [.slice (Ay50) ((patD ((P).getD (i : Nat) ByteArray.empty)).1.length) (cy50), .slice (Ye) ((patD (P.getD i ByteArray.empty)).2.length) (dy50)] 63, Sx.row (Kd.int .i64) 3 (Ay50) (cy50) ((patD (P.getD i ByteArray.empty)).1), Sx.row (Kd.int .i64) 3 (Ye) (dy50) ((patD (P.getD i ByteArray.empty)).2)] ++ R) (j := 4) rfl) (by first | omega | (rw [List.length_drop, List.length_take]; omega)) h) ?_
         rintro e_ w_ ⟨rfl, h⟩
         refine ⟨_, rfl, ?_⟩
         refine wl_nil ?_
         refine qn_wa (st_selT [true, true, true, true, true, true] h) ?_
         refine wa_tk 11 rfl rfl rfl (st_selT [true, true, true, true, true, true] h) (fun w_ hS => ov_not _ (¬ (((((rowOf ((runesL s).map lowV))).take ((((at1 : Nat)) + ((patD ((P).getD (i : Nat) ByteArray.empty)).1.length)))).drop ((at1 : Nat))) = ((patD ((P).getD (i : Nat) ByteArray.empty)).1))) rfl (by first | exact decide_not.symm | simp)) ?_
         refine wa_done (by kernel_rfl) ?_
         refine qn_then ?_
         refine wc_cond (by rfl) (fun c57 => ?_) (fun c57 => ?_)
         ·
          have hse_ : ¬ (List.drop at1 (List.take (at1 + (patD (P.getD i ByteArray.empty)).1.length) (rowOf ((runesL s).map lowV)))) = (patD (P.getD i ByteArray.empty)).1 := c57
          refine wc_exit ?_
          refine qn_then_exit ?_
          refine qn_block_exit ?_
          refine qn_then ?_
          refine wc_region ?_
          refine wl_v rfl rfl (ov_move _ rfl) ?_
          refine wl_v rfl rfl (ov_bin _ rfl rfl (binR_add (r := (((at1 : Nat) : Int)) + 1) (Sx.w64 (by omega)))) ?_
          refine wl_v rfl rfl (ov_assign _ rfl) ?_
          refine wl_nil ?_
          replace h := st_front 5 h
          replace h := st_front 5 h
          replace h := st_front 5 h
          replace h := st_front 5 h
          replace h := st_front 5 h
          replace h := st_front 5 h
          refine qn_next ((at1 + 1), Oe, (o3), Xe, Ye) (by show (rowOf ((runesL s).map lowV)).length + 1 - (at1 + 1) < (rowOf ((runesL s).map lowV)).length + 1 - at1; omega) ⟨rfl, rfl, rfl, rfl, rfl, rfl, (congrArg (fun z_ => some (Value.slice (Oe) z_ (Oc))) (show ((o3).length : Nat) = ((o3)).length by first | rfl | simp)), rfl, rfl, rfl, rfl, (congrArg (fun z_ => some (Value.int .i64 z_)) (show ((((at1 : Nat) : Int)) + 1 : Int) = (((at1 + 1) : Nat) : Int) by omega)), trivial⟩ ?_
          show (refAt (rowOf ((runesL s).map lowV)) (patD (P.getD i ByteArray.empty)).1 (patD (P.getD i ByteArray.empty)).2 ((rowOf ((runesL s).map lowV)).length + 1 - (at1 + 1)) (at1 + 1) (o3) = refAt (rowOf ((runesL s).map lowV)) (patD (P.getD i ByteArray.empty)).1 (patD (P.getD i ByteArray.empty)).2 ((rowOf ((runesL s).map lowV)).length + 1) 0 o2 ∧ (at1 + 1) ≤ (rowOf ((runesL s).map lowV)).length + 1 ∧ ((o3)).length = ((runesL s).map lowV).length + 1) ∧ _
          have e_ := hJ2_.1
          obtain ⟨m_, hm_⟩ : ∃ m_, (rowOf ((runesL s).map lowV)).length + 1 - at1 = m_ + 1 := ⟨(rowOf ((runesL s).map lowV)).length - at1, by omega⟩
          rw [hm_, refAt, if_pos (by omega), if_neg hse_] at e_
          rw [show m_ = (rowOf ((runesL s).map lowV)).length + 1 - (at1 + 1) by omega] at e_
          exact ⟨⟨e_, by omega, hJ2_.2.2⟩, h⟩
         ·
          have hse_ : (List.drop at1 (List.take (at1 + (patD (P.getD i ByteArray.empty)).1.length) (rowOf ((runesL s).map lowV)))) = (patD (P.getD i ByteArray.empty)).1 := Classical.not_not.1 c57
          refine wc_skip ?_
          refine qn_then ?_
          refine wc_seq ?_
          refine wc_region ?_
          refine wl_v rfl rfl (ov_assign _ rfl) ?_
          refine wl_nil ?_
          refine qn_then ?_
          refine wc_block ?_
          replace h := st_front 5 h
          replace h := st_front 5 h
          replace h := st_front 5 h
          replace h := st_front 5 h
          replace h := st_front 5 h
          replace h := st_front 5 h
          refine wc_loop (fun (x_ : Nat × (Option Addr) × (List Int) × (Option Addr)) => [(0, .slice (some ad46) (P.length) (pc)), (1, .slice (WA) (W.length) (wc)), (2, .int .i64 (lf)), (3, .int .i64 (rt)), (4, .string (s)), (14, .slice (Wa) (((runesL s).map lowV).length) (Wc)), (16, .slice (x_.2.1) ((x_.2.2.1).length) (Oc)), (17, .bool (kb)), (22, .slice (Xe) ((rowOf ((runesL s).map lowV)).length) (cp43)), (23, .int .i64 (((i : Nat) : Int))), (24, .pointer (some ⟨b51, 0, none⟩)), (26, .int .i64 (((at1 : Nat) : Int))), (27, .int .i64 (((x_.1 : Nat) : Int)))]) (fun (x_ : Nat × (Option Addr) × (List Int) × (Option Addr)) (w : World) => (refK at1 (List.drop x_.1 (patD (P.getD i ByteArray.empty)).2) x_.1 x_.2.2.1 = refK at1 (patD (P.getD i ByteArray.empty)).2 0 o3 ∧ x_.1 ≤ (patD (P.getD i ByteArray.empty)).2.length ∧ (x_.2.2.1).length = ((runesL s).map lowV).length + 1) ∧ Sx.St w0 F0 ([Sx.row (Kd.int .i64) 3 (Wa) (Wc) (((runesL s).map lowV)), Sx.row (Kd.int .i64) 3 (x_.2.1) (Oc) (x_.2.2.1), Sx.row (Kd.int .i64) 3 (Xe) (cp43) ((rowOf ((runesL s).map lowV))), Sx.blk b51 [.slice (Ay50) ((patD ((P).getD (i : Nat) ByteArray.empty)).1.length) (cy50), .slice (x_.2.2.2) ((patD (P.getD i ByteArray.empty)).2.length) (dy50)] 63, Sx.row (Kd.int .i64) 3 (Ay50) (cy50) ((patD (P.getD i ByteArray.empty)).1), Sx.row (Kd.int .i64) 3 (x_.2.2.2) (dy50) ((patD (P.getD i ByteArray.empty)).2)] ++ R) w) (fun (x_ : Nat × (Option Addr) × (List Int) × (Option Addr)) => (patD (P.getD i ByteArray.empty)).2.length - x_.1) (0, Oe, o3, Ye) ?_ ?_ ?_
          · exact ⟨rfl, rfl, rfl, rfl, rfl, rfl, rfl, rfl, rfl, rfl, rfl, rfl, (congrArg (fun z_ => some (Value.int .i64 z_)) (show (0 : Int) = ((0 : Nat) : Int) by omega)), trivial⟩
          · exact ⟨⟨rfl, Nat.zero_le _, hJ.2.2⟩, h⟩
          rintro ⟨k, Of, o4, Yf⟩ w h
          obtain ⟨hJ, h⟩ := h
          replace hJ : refK at1 (List.drop k (patD (P.getD i ByteArray.empty)).2) k o4 = refK at1 (patD (P.getD i ByteArray.empty)).2 0 o3 ∧ k ≤ (patD (P.getD i ByteArray.empty)).2.length ∧ (o4).length = ((runesL s).map lowV).length + 1 := hJ
          replace h : Sx.St w0 F0 ([Sx.row (Kd.int .i64) 3 (Wa) (Wc) (((runesL s).map lowV)), Sx.row (Kd.int .i64) 3 (Of) (Oc) (o4), Sx.row (Kd.int .i64) 3 (Xe) (cp43) ((rowOf ((runesL s).map lowV))), Sx.blk b51 [.slice (Ay50) ((patD ((P).getD (i : Nat) ByteArray.empty)).1.length) (cy50), .slice (Yf) ((patD (P.getD i ByteArray.empty)).2.length) (dy50)] 63, Sx.row (Kd.int .i64) 3 (Ay50) (cy50) ((patD (P.getD i ByteArray.empty)).1), Sx.row (Kd.int .i64) 3 (Yf) (dy50) ((patD (P.getD i ByteArray.empty)).2)] ++ R) w := h
          show Sx.WC _ _ _ _ [(0, .slice (some ad46) (P.length) (pc)), (1, .slice (WA) (W.length) (wc)), (2, .int .i64 (lf)), (3, .int .i64 (rt)), (4, .string (s)), (14, .slice (Wa) (((runesL s).map lowV).length) (Wc)), (16, .slice (Of) ((o4).length) (Oc)), (17, .bool (kb)), (22, .slice (Xe) ((rowOf ((runesL s).map lowV)).length) (cp43)), (23, .int .i64 (((i : Nat) : Int))), (24, .pointer (some ⟨b51, 0, none⟩)), (26, .int .i64 (((at1 : Nat) : Int))), (27, .int .i64 (((k : Nat) : Int)))] _
          refine wc_seq ?_
          refine wc_seq ?_
          refine wc_region ?_
          refine wl_v rfl rfl (ov_move _ rfl) ?_
          refine wl_v rfl rfl (ov_fieldAddr _ ⟨b51, 1, none⟩ _ rfl fo63_1 rfl) ?_
          refine wl_v rfl rfl (ov_loadb 3 _ h rfl rfl sh36 rfl) ?_
          refine wl_v rfl rfl (ov_len _ _ _ _ _ rfl es36) ?_
          refine wl_v rfl rfl (ov_bin _ rfl rfl (binR_lss)) ?_
          refine wl_nil ?_
          refine qn_then ?_
          refine wc_cond (by rfl) (fun c58 => ?_) (fun c58 => ?_)
          ·
           refine wc_skip ?_
           refine qn_then ?_
           refine wc_seq ?_
           refine wc_block ?_
           refine wc_seq ?_
           refine wc_region ?_
           refine wl_v rfl rfl (ov_move _ rfl) ?_
           refine wl_v rfl rfl (ov_move _ rfl) ?_
           refine wl_v rfl rfl (ov_bin _ rfl rfl (binR_add (r := (((at1 : Nat) : Int)) + (((k : Nat) : Int))) (Sx.w64 (by omega)))) ?_
           refine wl_v rfl rfl (ov_bin _ rfl rfl (binR_sub (r := ((((at1 : Nat) : Int)) + (((k : Nat) : Int))) - 1) (Sx.w64 (by omega)))) ?_
           refine wl_v rfl rfl (ov_assign _ rfl) ?_
           refine wl_nil ?_
           refine qn_then ?_
           refine wc_seq ?_
           refine wc_draw (fun w => Sx.St w0 F0 ([Sx.row (Kd.int .i64) 3 (Wa) (Wc) (((runesL s).map lowV)), Sx.row (Kd.int .i64) 3 (Of) (Oc) (o4), Sx.row (Kd.int .i64) 3 (Xe) (cp43) ((rowOf ((runesL s).map lowV))), Sx.blk b51 [.slice (Ay50) ((patD ((P).getD (i : Nat) ByteArray.empty)).1.length) (cy50), .slice (Yf) ((patD (P.getD i ByteArray.empty)).2.length) (dy50)] 63, Sx.row (Kd.int .i64) 3 (Ay50) (cy50) ((patD (P.getD i ByteArray.empty)).1), Sx.row (Kd.int .i64) 3 (Yf) (dy50) ((patD (P.getD i ByteArray.empty)).2)] ++ R) w) (by kernel_rfl) ?_
           replace h := st_drew h
           refine wa_tk 0 rfl rfl rfl (st_selT [true, true, true, true, true, true] h) (fun w_ hS => ov_move _ rfl) ?_
           refine wa_tk 1 rfl rfl rfl (st_selT [true, true, true, true, true, true] h) (fun w_ hS => ov_bin _ rfl rfl (binR_geq)) ?_
           refine wa_tk 2 rfl rfl rfl (st_selT [true, true, true, true, true, true] h) (fun w_ hS => ov_move _ rfl) ?_
           refine wa_split 168 rfl (fun c59 => ?_) (fun c59 => ?_)
           ·
            refine wa_tk 3 rfl rfl rfl (st_selT [true, true, true, true, true, true] h) (fun w_ hS => ov_move _ rfl) ?_
            refine wa_tk 4 rfl rfl rfl (st_selT [true, true, true, true, true, true] h) (fun w_ hS => ov_move _ rfl) ?_
            refine wa_tk 5 rfl rfl rfl (st_selT [true, true, true, true, true, true] h) (fun w_ hS => ov_len _ _ _ _ _ rfl es36) ?_
            refine wa_tk 6 rfl rfl rfl (st_selT [true, true, true, true, true, true] h) (fun w_ hS => ov_bin _ rfl rfl (binR_lss)) ?_
            refine wa_tk 7 rfl rfl rfl (st_selT [true, true, true, true, true, true] h) (fun w_ hS => ov_pick_true _ rfl rfl) ?_
            refine wa_tk 8 rfl rfl rfl (st_selT [true, true, true, true, true, true] h) (fun w_ hS => ov_move _ rfl) ?_
            refine wa_split 174 rfl (fun c60 => ?_) (fun c60 => ?_)
            ·
             refine wa_tk 9 rfl rfl rfl (st_selT [true, true, true, true, true, true] h) (fun w_ hS => ov_fieldAddr _ ⟨b51, 1, none⟩ _ rfl fo63_1 rfl) ?_
             refine wa_tk 10 rfl rfl rfl (st_selT [true, true, true, true, true, true] h) (fun w_ hS => ov_loadb 3 _ hS rfl rfl sh36 rfl) ?_
             refine wa_tk 11 rfl rfl rfl (st_selT [true, true, true, true, true, true] h) (fun w_ hS => ov_move _ rfl) ?_
             obtain ⟨ad61, rfl⟩ := Sx.C_some ((Sx.row_reads h (i := 5) rfl).2) (k := (k : Nat)) (by first | assumption | omega | (simp only [List.length_set, List.length_append, List.length_cons, List.length_nil]; omega))
             refine wa_tk 12 rfl rfl rfl (st_selT [true, true, true, true, true, true] h) (fun w_ hS => ov_indexAddrN _ _ _ _ _ (k : Nat) rfl rfl es36 rfl (by first | assumption | omega | (simp only [List.length_take, List.length_drop, List.length_set, List.length_append, List.length_cons, List.length_nil]; omega))) ?_
             refine wa_tk 13 rfl rfl rfl (st_selT [true, true, true, true, true, true] h) (fun w_ hS => by
                 obtain ⟨cl64, _, hk63, hc62⟩ := Sx.C_cells ((Sx.row_reads hS (i := 5) rfl).2) (z := (0 : Int)) (k := (k : Nat)) (by first | assumption | omega | (simp only [List.length_set, List.length_append, List.length_cons, List.length_nil]; omega))
                 obtain rfl : cl64 = [.int .i64 _] := hk63
                 exact ov_load1 _ _ rfl sh3 ((hc62 0 _ rfl))) ?_
             refine wa_tk 14 rfl rfl rfl (st_selT [true, true, true, true, true, true] h) (fun w_ hS => ov_move _ rfl) ?_
             refine wa_tk 15 rfl rfl rfl (st_selT [true, true, true, true, true, true] h) (fun w_ hS => ov_move _ rfl) ?_
             obtain ⟨ad65, rfl⟩ := Sx.C_some ((Sx.row_reads h (i := 1) rfl).2) (k := (((((at1 : Nat)) + ((k : Nat)))) - 1)) (by first | assumption | omega | (simp only [List.length_set, List.length_append, List.length_cons, List.length_nil]; omega))
             refine wa_tk 16 rfl rfl rfl (st_selT [true, true, true, true, true, true] h) (fun w_ hS => ov_indexAddrN _ _ _ _ _ (((((at1 : Nat)) + ((k : Nat)))) - 1) rfl rfl es36 (by omega) (by first | assumption | omega | (simp only [List.length_take, List.length_drop, List.length_set, List.length_append, List.length_cons, List.length_nil]; omega))) ?_
             refine wa_tk 17 rfl rfl rfl (st_selT [true, true, true, true, true, true] h) (fun w_ hS => by
                 obtain ⟨cl68, _, hk67, hc66⟩ := Sx.C_cells ((Sx.row_reads hS (i := 1) rfl).2) (z := (0 : Int)) (k := (((((at1 : Nat)) + ((k : Nat)))) - 1)) (by first | assumption | omega | (simp only [List.length_set, List.length_append, List.length_cons, List.length_nil]; omega))
                 obtain rfl : cl68 = [.int .i64 _] := hk67
                 exact ov_load1 _ _ rfl sh3 ((hc66 0 _ rfl))) ?_
             refine wa_tk 18 rfl rfl rfl (st_selT [true, true, true, true, true, true] h) (fun w_ hS => ov_bin _ rfl rfl (binR_gtr)) ?_
             refine wa_tk 19 rfl rfl rfl (st_selT [true, true, true, true, true, true] h) (fun w_ hS => ov_pick_true _ rfl rfl) ?_
             refine wa_done (by kernel_rfl) ?_
             refine qn_then ?_
             refine wc_cond (by rfl) (fun c69 => ?_) (fun c69 => ?_)
             ·
              refine wc_region ?_
              refine wl_v rfl rfl (ov_move _ rfl) ?_
              refine wl_v rfl rfl (ov_move _ rfl) ?_
              refine wl_v rfl rfl (ov_fieldAddr _ ⟨b51, 1, none⟩ _ rfl fo63_1 rfl) ?_
              refine wl_v rfl rfl (ov_loadb 3 _ h rfl rfl sh36 rfl) ?_
              refine wl_v rfl rfl (ov_move _ rfl) ?_
              refine wl_v rfl rfl (ov_indexAddrN _ _ _ _ _ (k : Nat) rfl rfl es36 rfl (by first | assumption | omega | (simp only [List.length_take, List.length_drop, List.length_set, List.length_append, List.length_cons, List.length_nil]; omega))) ?_
              obtain ⟨cl72, _, hk71, hc70⟩ := Sx.C_cells ((Sx.row_reads h (i := 5) rfl).2) (z := (0 : Int)) (k := (k : Nat)) (by first | assumption | omega | (simp only [List.length_set, List.length_append, List.length_cons, List.length_nil]; omega))
              obtain rfl : cl72 = [.int .i64 _] := hk71
              refine wl_v rfl rfl (ov_load1 _ _ rfl sh3 ((hc70 0 _ rfl))) ?_
              refine wl_v rfl rfl (ov_indexAddrN _ _ _ _ _ (((((at1 : Nat)) + ((k : Nat)))) - 1) rfl rfl es36 (by omega) (by first | assumption | omega | (simp only [List.length_take, List.length_drop, List.length_set, List.length_append, List.length_cons, List.length_nil]; omega))) ?_
              refine wl_storeeN 1 (((((at1 : Nat)) + ((k : Nat)))) - 1) 0 (.int .i64 (((patD (P.getD i ByteArray.empty)).2).getD (k : Nat) (0 : Int))) [.int .i64 (((patD (P.getD i ByteArray.empty)).2).getD (k : Nat) (0 : Int))] (0 : Int) (((patD (P.getD i ByteArray.empty)).2).getD (k : Nat) (0 : Int)) h rfl rfl rfl (by first | rfl | simp) rfl rfl (by simp [Value.oneCell']) szf3 (by first | assumption | omega | (simp only [List.length_set, List.length_append, List.length_cons, List.length_nil]; omega)) (Nat.le_of_ble_eq_true rfl) (by intro cl hcl hM; obtain ⟨_, _, _, hM⟩ := hM; obtain rfl : cl = [.int .i64 _] := hM; intro _ _ _; exact (Sx.mkInt .i64 (((patD (P.getD i ByteArray.empty)).2).getD (k : Nat) (0 : Int)))) (fun _ h => ?_)
              refine wl_nil ?_
              refine qn_block_normal ?_
              refine qn_then ?_
              refine wc_region ?_
              refine wl_v rfl rfl (ov_move _ rfl) ?_
              refine wl_v rfl rfl (ov_bin _ rfl rfl (binR_add (r := (((k : Nat) : Int)) + 1) (Sx.w64 (by omega)))) ?_
              refine wl_v rfl rfl (ov_assign _ rfl) ?_
              refine wl_nil ?_
              replace h := st_front 5 h
              replace h := st_front 5 h
              replace h := st_front 5 h
              replace h := st_front 5 h
              replace h := st_front 5 h
              replace h := st_front 5 h
              refine qn_next ((k + 1), some ad65, ((o4).set (((((at1 : Nat)) + ((k : Nat)))) - 1) (((patD (P.getD i ByteArray.empty)).2).getD (k : Nat) (0 : Int))), some ad61) (by show (patD (P.getD i ByteArray.empty)).2.length - (k + 1) < (patD (P.getD i ByteArray.empty)).2.length - k; omega) ⟨rfl, rfl, rfl, rfl, rfl, rfl, (congrArg (fun z_ => some (Value.slice (some ad65) z_ (Oc))) (show ((o4).length : Nat) = (((o4).set (((((at1 : Nat)) + ((k : Nat)))) - 1) (((patD (P.getD i ByteArray.empty)).2).getD (k : Nat) (0 : Int)))).length by first | rfl | simp)), rfl, rfl, rfl, rfl, rfl, (congrArg (fun z_ => some (Value.int .i64 z_)) (show ((((k : Nat) : Int)) + 1 : Int) = (((k + 1) : Nat) : Int) by omega)), trivial⟩ ?_
              show (refK at1 (List.drop (k + 1) (patD (P.getD i ByteArray.empty)).2) (k + 1) ((o4).set (((((at1 : Nat)) + ((k : Nat)))) - 1) (((patD (P.getD i ByteArray.empty)).2).getD (k : Nat) (0 : Int))) = refK at1 (patD (P.getD i ByteArray.empty)).2 0 o3 ∧ (k + 1) ≤ (patD (P.getD i ByteArray.empty)).2.length ∧ (((o4).set (((((at1 : Nat)) + ((k : Nat)))) - 1) (((patD (P.getD i ByteArray.empty)).2).getD (k : Nat) (0 : Int)))).length = ((runesL s).map lowV).length + 1) ∧ _
              have e_ := hJ.1
              rw [drop_get (patD (P.getD i ByteArray.empty)).2 0 (by omega), refK, if_pos ⟨by omega, by omega, by omega⟩] at e_
              exact ⟨⟨e_, by omega, by rw [List.length_set]; exact hJ.2.2⟩, h⟩
             ·
              refine wc_skip ?_
              refine qn_block_normal ?_
              refine qn_then ?_
              refine wc_region ?_
              refine wl_v rfl rfl (ov_move _ rfl) ?_
              refine wl_v rfl rfl (ov_bin _ rfl rfl (binR_add (r := (((k : Nat) : Int)) + 1) (Sx.w64 (by omega)))) ?_
              refine wl_v rfl rfl (ov_assign _ rfl) ?_
              refine wl_nil ?_
              replace h := st_front 5 h
              replace h := st_front 5 h
              replace h := st_front 5 h
              replace h := st_front 5 h
              replace h := st_front 5 h
              replace h := st_front 5 h
              refine qn_next ((k + 1), some ad65, (o4), some ad61) (by show (patD (P.getD i ByteArray.empty)).2.length - (k + 1) < (patD (P.getD i ByteArray.empty)).2.length - k; omega) ⟨rfl, rfl, rfl, rfl, rfl, rfl, (congrArg (fun z_ => some (Value.slice (some ad65) z_ (Oc))) (show ((o4).length : Nat) = ((o4)).length by first | rfl | simp)), rfl, rfl, rfl, rfl, rfl, (congrArg (fun z_ => some (Value.int .i64 z_)) (show ((((k : Nat) : Int)) + 1 : Int) = (((k + 1) : Nat) : Int) by omega)), trivial⟩ ?_
              show (refK at1 (List.drop (k + 1) (patD (P.getD i ByteArray.empty)).2) (k + 1) (o4) = refK at1 (patD (P.getD i ByteArray.empty)).2 0 o3 ∧ (k + 1) ≤ (patD (P.getD i ByteArray.empty)).2.length ∧ ((o4)).length = ((runesL s).map lowV).length + 1) ∧ _
              have e_ := hJ.1
              rw [drop_get (patD (P.getD i ByteArray.empty)).2 0 (by omega), refK, if_neg (by omega)] at e_
              exact ⟨⟨e_, by omega, hJ.2.2⟩, h⟩
            ·
             refine wa_sk 9 rfl rfl rfl (st_selT [true, true, true, true, true, true] h) ?_
             refine wa_sk 10 rfl rfl rfl (st_selT [true, true, true, true, true, true] h) ?_
             refine wa_sk 11 rfl rfl rfl (st_selT [true, true, true, true, true, true] h) ?_
             refine wa_sk 12 rfl rfl rfl (st_selT [true, true, true, true, true, true] h) ?_
             refine wa_sk 13 rfl rfl rfl (st_selT [true, true, true, true, true, true] h) ?_
             refine wa_sk 14 rfl rfl rfl (st_selT [true, true, true, true, true, true] h) ?_
             refine wa_sk 15 rfl rfl rfl (st_selT [true, true, true, true, true, true] h) ?_
             refine wa_sk 16 rfl rfl rfl (st_selT [true, true, true, true, true, true] h) ?_
             refine wa_sk 17 rfl rfl rfl (st_selT [true, true, true, true, true, true] h) ?_
             refine wa_sk 18 rfl rfl rfl (st_selT [true, true, true, true, true, true] h) ?_
             refine wa_tk 19 rfl rfl rfl (st_selT [true, true, true, true, true, true] h) (fun w_ hS => ov_pick_false _ rfl rfl) ?_
             refine wa_done (by kernel_rfl) ?_
             refine qn_then ?_
             refine wc_cond_false rfl ?_
             refine wc_skip ?_
             refine qn_block_normal ?_
             refine qn_then ?_
             refine wc_region ?_
             refine wl_v rfl rfl (ov_move _ rfl) ?_
             refine wl_v rfl rfl (ov_bin _ rfl rfl (binR_add (r := (((k : Nat) : Int)) + 1) (Sx.w64 (by omega)))) ?_
             refine wl_v rfl rfl (ov_assign _ rfl) ?_
             refine wl_nil ?_
             replace h := st_front 5 h
             replace h := st_front 5 h
             replace h := st_front 5 h
             replace h := st_front 5 h
             replace h := st_front 5 h
             replace h := st_front 5 h
             refine qn_next ((k + 1), Of, (o4), Yf) (by show (patD (P.getD i ByteArray.empty)).2.length - (k + 1) < (patD (P.getD i ByteArray.empty)).2.length - k; omega) ⟨rfl, rfl, rfl, rfl, rfl, rfl, (congrArg (fun z_ => some (Value.slice (Of) z_ (Oc))) (show ((o4).length : Nat) = ((o4)).length by first | rfl | simp)), rfl, rfl, rfl, rfl, rfl, (congrArg (fun z_ => some (Value.int .i64 z_)) (show ((((k : Nat) : Int)) + 1 : Int) = (((k + 1) : Nat) : Int) by omega)), trivial⟩ ?_
             show (refK at1 (List.drop (k + 1) (patD (P.getD i ByteArray.empty)).2) (k + 1) (o4) = refK at1 (patD (P.getD i ByteArray.empty)).2 0 o3 ∧ (k + 1) ≤ (patD (P.getD i ByteArray.empty)).2.length ∧ ((o4)).length = ((runesL s).map lowV).length + 1) ∧ _
             have e_ := hJ.1
             rw [drop_get (patD (P.getD i ByteArray.empty)).2 0 (by omega), refK, if_neg (by omega)] at e_
             exact ⟨⟨e_, by omega, hJ.2.2⟩, h⟩
           ·
            refine wa_sk 3 rfl rfl rfl (st_selT [true, true, true, true, true, true] h) ?_
            refine wa_sk 4 rfl rfl rfl (st_selT [true, true, true, true, true, true] h) ?_
            refine wa_sk 5 rfl rfl rfl (st_selT [true, true, true, true, true, true] h) ?_
            refine wa_sk 6 rfl rfl rfl (st_selT [true, true, true, true, true, true] h) ?_
            refine wa_tk 7 rfl rfl rfl (st_selT [true, true, true, true, true, true] h) (fun w_ hS => ov_pick_false _ rfl rfl) ?_
            refine wa_tk 8 rfl rfl rfl (st_selT [true, true, true, true, true, true] h) (fun w_ hS => ov_move _ rfl) ?_
            refine wa_sk 9 rfl rfl rfl (st_selT [true, true, true, true, true, true] h) ?_
            refine wa_sk 10 rfl rfl rfl (st_selT [true, true, true, true, true, true] h) ?_
            refine wa_sk 11 rfl rfl rfl (st_selT [true, true, true, true, true, true] h) ?_
            refine wa_sk 12 rfl rfl rfl (st_selT [true, true, true, true, true, true] h) ?_
            refine wa_sk 13 rfl rfl rfl (st_selT [true, true, true, true, true, true] h) ?_
            refine wa_sk 14 rfl rfl rfl (st_selT [true, true, true, true, true, true] h) ?_
            refine wa_sk 15 rfl rfl rfl (st_selT [true, true, true, true, true, true] h) ?_
            refine wa_sk 16 rfl rfl rfl (st_selT [true, true, true, true, true, true] h) ?_
            refine wa_sk 17 rfl rfl rfl (st_selT [true, true, true, true, true, true] h) ?_
            refine wa_sk 18 rfl rfl rfl (st_selT [true, true, true, true, true, true] h) ?_
            refine wa_tk 19 rfl rfl rfl (st_selT [true, true, true, true, true, true] h) (fun w_ hS => ov_pick_false _ rfl rfl) ?_
            refine wa_done (by kernel_rfl) ?_
            refine qn_then ?_
            refine wc_cond_false rfl ?_
            refine wc_skip ?_
            refine qn_block_normal ?_
            refine qn_then ?_
            refine wc_region ?_
            refine wl_v rfl rfl (ov_move _ rfl) ?_
            refine wl_v rfl rfl (ov_bin _ rfl rfl (binR_add (r := (((k : Nat) : Int)) + 1) (Sx.w64 (by omega)))) ?_
            refine wl_v rfl rfl (ov_assign _ rfl) ?_
            refine wl_nil ?_
            replace h := st_front 5 h
            replace h := st_front 5 h
            replace h := st_front 5 h
            replace h := st_front 5 h
            replace h := st_front 5 h
            replace h := st_front 5 h
            refine qn_next ((k + 1), Of, (o4), Yf) (by show (patD (P.getD i ByteArray.empty)).2.length - (k + 1) < (patD (P.getD i ByteArray.empty)).2.length - k; omega) ⟨rfl, rfl, rfl, rfl, rfl, rfl, (congrArg (fun z_ => some (Value.slice (Of) z_ (Oc))) (show ((o4).length : Nat) = ((o4)).length by first | rfl | simp)), rfl, rfl, rfl, rfl, rfl, (congrArg (fun z_ => some (Value.int .i64 z_)) (show ((((k : Nat) : Int)) + 1 : Int) = (((k + 1) : Nat) : Int) by omega)), trivial⟩ ?_
            show (refK at1 (List.drop (k + 1) (patD (P.getD i ByteArray.empty)).2) (k + 1) (o4) = refK at1 (patD (P.getD i ByteArray.empty)).2 0 o3 ∧ (k + 1) ≤ (patD (P.getD i ByteArray.empty)).2.length ∧ ((o4)).length = ((runesL s).map lowV).length + 1) ∧ _
            have e_ := hJ.1
            rw [drop_get (patD (P.getD i ByteArray.empty)).2 0 (by omega), refK, if_neg (by omega)] at e_
            exact ⟨⟨e_, by omega, hJ.2.2⟩, h⟩
          ·
           have hkq_ : refK at1 (patD (P.getD i ByteArray.empty)).2 0 o3 = o4 := by
             have e_ := hJ.1
             rw [List.drop_eq_nil_of_le (by omega), refK] at e_
             exact e_.symm
           refine wc_exit ?_
           refine qn_then_exit ?_
           refine qn_then_exit ?_
           refine qn_block_exit ?_
           refine qn_block_normal ?_
           refine qn_then ?_
           refine wc_region ?_
           refine wl_v rfl rfl (ov_move _ rfl) ?_
           refine wl_v rfl rfl (ov_bin _ rfl rfl (binR_add (r := (((at1 : Nat) : Int)) + 1) (Sx.w64 (by omega)))) ?_
           refine wl_v rfl rfl (ov_assign _ rfl) ?_
           refine wl_nil ?_
           replace h := st_front 5 h
           replace h := st_front 5 h
           replace h := st_front 5 h
           replace h := st_front 5 h
           replace h := st_front 5 h
           replace h := st_front 5 h
           refine qn_next ((at1 + 1), Of, (o4), Xe, Yf) (by show (rowOf ((runesL s).map lowV)).length + 1 - (at1 + 1) < (rowOf ((runesL s).map lowV)).length + 1 - at1; omega) ⟨rfl, rfl, rfl, rfl, rfl, rfl, (congrArg (fun z_ => some (Value.slice (Of) z_ (Oc))) (show ((o4).length : Nat) = ((o4)).length by first | rfl | simp)), rfl, rfl, rfl, rfl, (congrArg (fun z_ => some (Value.int .i64 z_)) (show ((((at1 : Nat) : Int)) + 1 : Int) = (((at1 + 1) : Nat) : Int) by omega)), trivial⟩ ?_
           show (refAt (rowOf ((runesL s).map lowV)) (patD (P.getD i ByteArray.empty)).1 (patD (P.getD i ByteArray.empty)).2 ((rowOf ((runesL s).map lowV)).length + 1 - (at1 + 1)) (at1 + 1) (o4) = refAt (rowOf ((runesL s).map lowV)) (patD (P.getD i ByteArray.empty)).1 (patD (P.getD i ByteArray.empty)).2 ((rowOf ((runesL s).map lowV)).length + 1) 0 o2 ∧ (at1 + 1) ≤ (rowOf ((runesL s).map lowV)).length + 1 ∧ ((o4)).length = ((runesL s).map lowV).length + 1) ∧ _
           have e_ := hJ2_.1
           obtain ⟨m_, hm_⟩ : ∃ m_, (rowOf ((runesL s).map lowV)).length + 1 - at1 = m_ + 1 := ⟨(rowOf ((runesL s).map lowV)).length - at1, by omega⟩
           rw [hm_, refAt, if_pos (by omega), if_pos hse_] at e_
           rw [show m_ = (rowOf ((runesL s).map lowV)).length + 1 - (at1 + 1) by omega] at e_
           rw [hkq_] at e_
           exact ⟨⟨e_, by omega, hJ.2.2⟩, h⟩
        ·
         have hat_ : refAt (rowOf ((runesL s).map lowV)) (patD (P.getD i ByteArray.empty)).1 (patD (P.getD i ByteArray.empty)).2 ((rowOf ((runesL s).map lowV)).length + 1) 0 o2 = o3 := by
           have e_ := hJ.1
           rcases Nat.eq_zero_or_pos ((rowOf ((runesL s).map lowV)).length + 1 - at1) with z_ | z_
           · rw [z_, refAt] at e_
             exact e_.symm
           · obtain ⟨m_, hm_⟩ : ∃ m_, (rowOf ((runesL s).map lowV)).length + 1 - at1 = m_ + 1 := ⟨(rowOf ((runesL s).map lowV)).length - at1, by omega⟩
             rw [hm_, refAt, if_neg (by omega)] at e_
             exact e_.symm
         refine wc_exit ?_
         refine qn_then_exit ?_
         refine qn_then_exit ?_
         refine qn_block_exit ?_
         refine qn_block_normal ?_
         refine qn_then ?_
         refine wc_region ?_
         refine wl_v rfl rfl (ov_move _ rfl) ?_
         refine wl_v rfl rfl (ov_bin _ rfl rfl (binR_add (r := (((i : Nat) : Int)) + 1) (Sx.w64 (by omega)))) ?_
         refine wl_v rfl rfl (ov_assign _ rfl) ?_
         refine wl_nil ?_
         replace h := st_front 2 h
         replace h := st_front 2 h
         replace h := st_front 2 h
         replace h := st_selT [true, true, true, false, false, false] h
         refine qn_next ((i + 1), Oe, (o3), Xe) (by show P.length - (i + 1) < P.length - i; omega) ⟨(congrArg (fun z_ => some (Value.slice (some ad46) z_ (pc))) (show (P.length : Nat) = P.length by first | rfl | simp)), rfl, rfl, rfl, rfl, rfl, (congrArg (fun z_ => some (Value.slice (Oe) z_ (Oc))) (show ((o3).length : Nat) = ((o3)).length by first | rfl | simp)), rfl, rfl, (congrArg (fun z_ => some (Value.int .i64 z_)) (show ((((i : Nat) : Int)) + 1 : Int) = (((i + 1) : Nat) : Int) by omega)), trivial⟩ ?_
         show (refI P (rowOf ((runesL s).map lowV)) (P.length - (i + 1)) (i + 1) (o3) = refI P (rowOf ((runesL s).map lowV)) P.length 0 o ∧ (i + 1) ≤ P.length ∧ ((o3)).length = ((runesL s).map lowV).length + 1 ∧ (kb = true → (i + 1) = 0 ∧ (o3) = o)) ∧ _
         have e_ := hJ1_.1
         obtain ⟨m_, hm_⟩ : ∃ m_, P.length - i = m_ + 1 := ⟨P.length - i - 1, by omega⟩
         rw [hm_, refI, if_pos (by first | assumption | exact Classical.not_not.1 (by assumption))] at e_
         rw [show m_ = P.length - (i + 1) by omega] at e_
         rw [hat_] at e_
         exact ⟨⟨e_, by omega, hJ.2.2, fun z_ => by have q_ := c45; rw [z_] at q_; cases q_⟩, h⟩
      ·
       refine wc_exit ?_
       refine qn_then_exit ?_
       refine qn_then_exit ?_
       refine qn_block_exit ?_
       refine qn_then ?_
       refine wc_seq ?_
       refine wc_region ?_
       refine wl_v rfl rfl (ov_assign _ rfl) ?_
       refine wl_nil ?_
       refine qn_then ?_
       refine wc_seq ?_
       refine wc_seq ?_
       refine wc_region ?_
       refine wl_v rfl rfl (ov_move _ rfl) ?_
       refine wl_v rfl rfl (ov_assign _ rfl) ?_
       refine wl_nil ?_
       refine qn_then ?_
       refine wc_block ?_
       have hJp_ := hJ
       have hodd_ : refOdd P W ((runesL s).map lowV) = o2 := by
         unfold refOdd
         rw [e1_]
         cases hkb_ : kb with
         | true =>
           rw [if_pos rfl]
           exact (hJ.2.2.2 hkb_).2.symm
         | false =>
           rw [if_neg Bool.false_ne_true]
           have e_ := hJ.1
           rw [show P.length - i = 0 by first | omega | (exfalso; have q_ := c45; rw [hkb_] at q_; cases q_)] at e_
           rw [refI] at e_
           exact e_.symm
       have hodd_nn : ∀ j_, 0 ≤ o2.getD j_ 0 := fun j_ => nn_get (hodd_ ▸ refOdd_nn P W ((runesL s).map lowV)) j_
       replace h := st_nilrow (Kd.int .i64) 3 h
       replace h := st_front 2 h
       replace h := st_front 2 h
       replace h := st_selT [true, true, true, false] h
       refine wc_loop (fun (x_ : Int × (Option Addr) × (Option Addr) × Nat × (List Int)) => [(0, .slice (PA) (P.length) (pc)), (1, .slice (WA) (W.length) (wc)), (2, .int .i64 (lf)), (3, .int .i64 (rt)), (4, .string (s)), (14, .slice (Wa) (((runesL s).map lowV).length) (Wc)), (16, .slice (x_.2.1) ((o2).length) (Oc)), (29, .slice (x_.2.2.1) ((x_.2.2.2.2).length) (x_.2.2.2.1)), (30, .int .i64 (x_.1))]) (fun (x_ : Int × (Option Addr) × (Option Addr) × Nat × (List Int)) (w : World) => (x_.2.2.2.2 ++ refO o2 ((((runesL s).map lowV).length : Int) - rt) ((((runesL s).map lowV).length : Int) - rt + 1 - x_.1).toNat x_.1 = refO o2 ((((runesL s).map lowV).length : Int) - rt) ((((runesL s).map lowV).length : Int) - rt + 1 - lf).toNat lf ∧ (lf ≤ x_.1) ∧ ((x_.2.2.2.2).length : Int) ≤ x_.1) ∧ Sx.St w0 F0 ([Sx.row (Kd.int .i64) 3 (Wa) (Wc) (((runesL s).map lowV)), Sx.row (Kd.int .i64) 3 (x_.2.1) (Oc) (o2), Sx.row (Kd.int .i64) 3 (x_.2.2.1) (x_.2.2.2.1) (x_.2.2.2.2)] ++ R) w) (fun (x_ : Int × (Option Addr) × (Option Addr) × Nat × (List Int)) => ((((runesL s).map lowV).length : Int) - rt + 1 - x_.1).toNat) (lf, Od, none, 0, []) ?_ ?_ ?_
       · exact ⟨rfl, rfl, rfl, rfl, rfl, rfl, rfl, (congrArg (fun z_ => some (Value.slice (none) z_ (0))) (show (0 : Nat) = ([]).length by first | rfl | simp)), rfl, trivial⟩
       · exact ⟨⟨rfl, Int.le_refl _, by show (0 : Int) ≤ lf; omega⟩, h⟩
       rintro ⟨n, Xg, Ag, cg, o9⟩ w h
       obtain ⟨hJ, h⟩ := h
       replace hJ : o9 ++ refO o2 ((((runesL s).map lowV).length : Int) - rt) ((((runesL s).map lowV).length : Int) - rt + 1 - n).toNat n = refO o2 ((((runesL s).map lowV).length : Int) - rt) ((((runesL s).map lowV).length : Int) - rt + 1 - lf).toNat lf ∧ (lf ≤ n) ∧ ((o9).length : Int) ≤ n := hJ
       replace h : Sx.St w0 F0 ([Sx.row (Kd.int .i64) 3 (Wa) (Wc) (((runesL s).map lowV)), Sx.row (Kd.int .i64) 3 (Xg) (Oc) (o2), Sx.row (Kd.int .i64) 3 (Ag) (cg) (o9)] ++ R) w := h
       show Sx.WC _ _ _ _ [(0, .slice (PA) (P.length) (pc)), (1, .slice (WA) (W.length) (wc)), (2, .int .i64 (lf)), (3, .int .i64 (rt)), (4, .string (s)), (14, .slice (Wa) (((runesL s).map lowV).length) (Wc)), (16, .slice (Xg) ((o2).length) (Oc)), (29, .slice (Ag) ((o9).length) (cg)), (30, .int .i64 (n))] _
       have hodn_ := hodd_nn n.toNat
       refine wc_seq ?_
       refine wc_seq ?_
       refine wc_region ?_
       refine wl_v rfl rfl (ov_move _ rfl) ?_
       refine wl_v rfl rfl (ov_move _ rfl) ?_
       refine wl_v rfl rfl (ov_len _ _ _ _ _ rfl es36) ?_
       refine wl_v rfl rfl (ov_move _ rfl) ?_
       refine wl_v rfl rfl (ov_bin _ rfl rfl (binR_sub (r := (((((runesL s).map lowV).length : Nat) : Int)) - rt) (Sx.w64 (by omega)))) ?_
       refine wl_v rfl rfl (ov_bin _ rfl rfl (binR_leq)) ?_
       refine wl_nil ?_
       refine qn_then ?_
       refine wc_cond (by rfl) (fun c73 => ?_) (fun c73 => ?_)
       ·
        refine wc_skip ?_
        refine qn_then ?_
        refine wc_seq ?_
        refine wc_block ?_
        refine wc_seq ?_
        refine wc_region ?_
        refine wl_v rfl rfl (ov_move _ rfl) ?_
        refine wl_v rfl rfl (ov_move _ rfl) ?_
        obtain ⟨ad74, rfl⟩ := Sx.C_some ((Sx.row_reads h (i := 1) rfl).2) (k := (n : Int).toNat) (by first | assumption | omega | (simp only [List.length_set, List.length_append, List.length_cons, List.length_nil]; omega))
        refine wl_v rfl rfl (ov_indexAddrN _ _ _ _ _ (n : Int).toNat rfl rfl es36 (by omega) (by first | assumption | omega | (simp only [List.length_take, List.length_drop, List.length_set, List.length_append, List.length_cons, List.length_nil]; omega))) ?_
        obtain ⟨cl77, _, hk76, hc75⟩ := Sx.C_cells ((Sx.row_reads h (i := 1) rfl).2) (z := (0 : Int)) (k := (n : Int).toNat) (by first | assumption | omega | (simp only [List.length_set, List.length_append, List.length_cons, List.length_nil]; omega))
        obtain rfl : cl77 = [.int .i64 _] := hk76
        refine wl_v rfl rfl (ov_load1 _ _ rfl sh3 ((hc75 0 _ rfl))) ?_
        refine wl_v rfl rfl (ov_bin _ rfl rfl (binR_rem (r := ((o2).getD (n : Int).toNat (0 : Int)) % 2) (by decide) (Int.tmod_eq_emod_of_nonneg (by omega)))) ?_
        refine wl_v rfl rfl (ov_bin _ rfl rfl (binR_eql)) ?_
        refine wl_nil ?_
        refine qn_then ?_
        refine wc_cond (by rfl) (fun c78 => ?_) (fun c78 => ?_)
        ·
         refine wc_region ?_
         refine wl_v rfl rfl (ov_move _ rfl) ?_
         refine wl_v rfl rfl (ov_move _ rfl) ?_
         refine wl_lit (d := (Kd.int .i64)) [(0, .int .i64 (n))] _ [.int .i64 (n)] ([n]) h rfl rfl rfl rfl Try.underlying36 infb3 rfl (by decide) (by kernel_rfl) rfl (fun _ _ _ => ((Reps.none _ _).snoc ((Sx.mkInt .i64 (n))) rfl)) (fun A79 cp80 _ h => ?_)
         refine wl_append (d := (Kd.int .i64)) (L := o9) 3 _ 8 _ _ _ ([n]) (Sx.flat_int _) h rfl rfl rfl rfl rfl ((Sx.row_reads h (i := 0) rfl).2) Try.underlying36 inf3 rfl (by decide) (by decide) (by first | omega | (simp only [List.length_cons, List.length_nil, List.length_append, List.length_set]; omega)) (by first | rfl | simp) (fun A81 cp82 _ h => ?_)
         replace h := st_selT [false, true, true, true] h
         refine wl_v rfl rfl (ov_assign _ rfl) ?_
         refine wl_nil ?_
         refine qn_block_normal ?_
         refine qn_then ?_
         refine wc_region ?_
         refine wl_v rfl rfl (ov_move _ rfl) ?_
         refine wl_v rfl rfl (ov_bin _ rfl rfl (binR_add (r := n + 1) (Sx.w64 (by omega)))) ?_
         refine wl_v rfl rfl (ov_assign _ rfl) ?_
         refine wl_nil ?_
         replace h := st_front 2 h
         replace h := st_front 2 h
         replace h := st_front 2 h
         refine qn_next ((n + 1), some ad74, A81, cp82, (o9 ++ ([n]))) (by show ((((runesL s).map lowV).length : Int) - rt + 1 - (n + 1)).toNat < ((((runesL s).map lowV).length : Int) - rt + 1 - n).toNat; omega) ⟨rfl, rfl, rfl, rfl, rfl, rfl, rfl, (congrArg (fun z_ => some (Value.slice (A81) z_ (cp82))) (show ((o9 ++ ([n])).length : Nat) = ((o9 ++ ([n]))).length by first | rfl | simp)), (congrArg (fun z_ => some (Value.int .i64 z_)) (show (n + 1 : Int) = (n + 1) by omega)), trivial⟩ ?_
         show ((o9 ++ ([n])) ++ refO o2 ((((runesL s).map lowV).length : Int) - rt) ((((runesL s).map lowV).length : Int) - rt + 1 - (n + 1)).toNat (n + 1) = refO o2 ((((runesL s).map lowV).length : Int) - rt) ((((runesL s).map lowV).length : Int) - rt + 1 - lf).toNat lf ∧ (lf ≤ (n + 1)) ∧ (((o9 ++ ([n]))).length : Int) ≤ (n + 1)) ∧ _
         have e_ := hJ.1
         obtain ⟨m_, hm_⟩ : ∃ m_, ((((runesL s).map lowV).length : Int) - rt + 1 - n).toNat = m_ + 1 := ⟨((((runesL s).map lowV).length : Int) - rt + 1 - n).toNat - 1, by omega⟩
         rw [hm_, refO, if_pos (by omega), if_pos (by omega)] at e_
         rw [show m_ = ((((runesL s).map lowV).length : Int) - rt + 1 - (n + 1)).toNat by omega] at e_
         exact ⟨⟨by rw [List.append_assoc]; exact e_, by omega, by first | omega | (simp only [List.length_append, List.length_cons, List.length_nil]; omega)⟩, h⟩
        ·
         refine wc_skip ?_
         refine qn_block_normal ?_
         refine qn_then ?_
         refine wc_region ?_
         refine wl_v rfl rfl (ov_move _ rfl) ?_
         refine wl_v rfl rfl (ov_bin _ rfl rfl (binR_add (r := n + 1) (Sx.w64 (by omega)))) ?_
         refine wl_v rfl rfl (ov_assign _ rfl) ?_
         refine wl_nil ?_
         replace h := st_front 2 h
         replace h := st_front 2 h
         replace h := st_front 2 h
         refine qn_next ((n + 1), some ad74, Ag, cg, (o9)) (by show ((((runesL s).map lowV).length : Int) - rt + 1 - (n + 1)).toNat < ((((runesL s).map lowV).length : Int) - rt + 1 - n).toNat; omega) ⟨rfl, rfl, rfl, rfl, rfl, rfl, rfl, (congrArg (fun z_ => some (Value.slice (Ag) z_ (cg))) (show ((o9).length : Nat) = ((o9)).length by first | rfl | simp)), (congrArg (fun z_ => some (Value.int .i64 z_)) (show (n + 1 : Int) = (n + 1) by omega)), trivial⟩ ?_
         show ((o9) ++ refO o2 ((((runesL s).map lowV).length : Int) - rt) ((((runesL s).map lowV).length : Int) - rt + 1 - (n + 1)).toNat (n + 1) = refO o2 ((((runesL s).map lowV).length : Int) - rt) ((((runesL s).map lowV).length : Int) - rt + 1 - lf).toNat lf ∧ (lf ≤ (n + 1)) ∧ (((o9)).length : Int) ≤ (n + 1)) ∧ _
         have e_ := hJ.1
         obtain ⟨m_, hm_⟩ : ∃ m_, ((((runesL s).map lowV).length : Int) - rt + 1 - n).toNat = m_ + 1 := ⟨((((runesL s).map lowV).length : Int) - rt + 1 - n).toNat - 1, by omega⟩
         rw [hm_, refO, if_pos (by omega), if_neg (by omega)] at e_
         rw [show m_ = ((((runesL s).map lowV).length : Int) - rt + 1 - (n + 1)).toNat by omega] at e_
         exact ⟨⟨e_, by omega, by first | omega | (simp only [List.length_append, List.length_cons, List.length_nil]; omega)⟩, h⟩
       ·
        refine wc_exit ?_
        refine qn_then_exit ?_
        refine qn_then_exit ?_
        refine qn_block_exit ?_
        refine qn_then ?_
        refine wc_seq ?_
        refine wc_region ?_
        refine wl_v rfl rfl (ov_move _ rfl) ?_
        refine wl_v rfl rfl (ov_assign _ rfl) ?_
        refine wl_nil ?_
        refine qn_then ?_
        refine wc_ret ?_
        replace h := st_front 2 h
        replace h := st_selT [true, false, false] h
        refine qn_ret [_] ⟨rfl, trivial⟩ ?_
        have e_ := hJ.1
        rw [show ((((runesL s).map lowV).length : Int) - rt + 1 - n).toNat = 0 by omega, refO, List.append_nil] at e_
        have ef_ : refPts P W lf rt s = o9 := by
          rw [refPts_yes (by omega) hLP_, refWord, hodd_]
          exact e_.symm
        rw [ef_]
        exact ⟨Ag, cg, rfl, h⟩
     ·
      refine wl_skip rfl rfl ?_
      refine wl_skip rfl rfl ?_
      refine wl_v rfl rfl (ov_pick_false _ rfl rfl) ?_
      refine wl_nil ?_
      refine qn_then ?_
      refine wc_cond_false rfl ?_
      refine wc_exit ?_
      refine qn_then_exit ?_
      refine qn_then_exit ?_
      refine qn_block_exit ?_
      refine qn_then ?_
      refine wc_seq ?_
      refine wc_region ?_
      refine wl_v rfl rfl (ov_assign _ rfl) ?_
      refine wl_nil ?_
      refine qn_then ?_
      refine wc_seq ?_
      refine wc_seq ?_
      refine wc_region ?_
      refine wl_v rfl rfl (ov_move _ rfl) ?_
      refine wl_v rfl rfl (ov_assign _ rfl) ?_
      refine wl_nil ?_
      refine qn_then ?_
      refine wc_block ?_
      have hJp_ := hJ
      have hodd_ : refOdd P W ((runesL s).map lowV) = o2 := by
        unfold refOdd
        rw [e1_]
        cases hkb_ : kb with
        | true =>
          rw [if_pos rfl]
          exact (hJ.2.2.2 hkb_).2.symm
        | false =>
          rw [if_neg Bool.false_ne_true]
          have e_ := hJ.1
          rw [show P.length - i = 0 by first | omega | (exfalso; have q_ := c45; rw [hkb_] at q_; cases q_)] at e_
          rw [refI] at e_
          exact e_.symm
      have hodd_nn : ∀ j_, 0 ≤ o2.getD j_ 0 := fun j_ => nn_get (hodd_ ▸ refOdd_nn P W ((runesL s).map lowV)) j_
      replace h := st_nilrow (Kd.int .i64) 3 h
      replace h := st_front 2 h
      replace h := st_front 2 h
      replace h := st_selT [true, true, true, false] h
      refine wc_loop (fun (x_ : Int × (Option Addr) × (Option Addr) × Nat × (List Int)) => [(0, .slice (PA) (P.length) (pc)), (1, .slice (WA) (W.length) (wc)), (2, .int .i64 (lf)), (3, .int .i64 (rt)), (4, .string (s)), (14, .slice (Wa) (((runesL s).map lowV).length) (Wc)), (16, .slice (x_.2.1) ((o2).length) (Oc)), (29, .slice (x_.2.2.1) ((x_.2.2.2.2).length) (x_.2.2.2.1)), (30, .int .i64 (x_.1))]) (fun (x_ : Int × (Option Addr) × (Option Addr) × Nat × (List Int)) (w : World) => (x_.2.2.2.2 ++ refO o2 ((((runesL s).map lowV).length : Int) - rt) ((((runesL s).map lowV).length : Int) - rt + 1 - x_.1).toNat x_.1 = refO o2 ((((runesL s).map lowV).length : Int) - rt) ((((runesL s).map lowV).length : Int) - rt + 1 - lf).toNat lf ∧ (lf ≤ x_.1) ∧ ((x_.2.2.2.2).length : Int) ≤ x_.1) ∧ Sx.St w0 F0 ([Sx.row (Kd.int .i64) 3 (Wa) (Wc) (((runesL s).map lowV)), Sx.row (Kd.int .i64) 3 (x_.2.1) (Oc) (o2), Sx.row (Kd.int .i64) 3 (x_.2.2.1) (x_.2.2.2.1) (x_.2.2.2.2)] ++ R) w) (fun (x_ : Int × (Option Addr) × (Option Addr) × Nat × (List Int)) => ((((runesL s).map lowV).length : Int) - rt + 1 - x_.1).toNat) (lf, Od, none, 0, []) ?_ ?_ ?_
      · exact ⟨rfl, rfl, rfl, rfl, rfl, rfl, rfl, (congrArg (fun z_ => some (Value.slice (none) z_ (0))) (show (0 : Nat) = ([]).length by first | rfl | simp)), rfl, trivial⟩
      · exact ⟨⟨rfl, Int.le_refl _, by show (0 : Int) ≤ lf; omega⟩, h⟩
      rintro ⟨n, Xg, Ag, cg, o9⟩ w h
      obtain ⟨hJ, h⟩ := h
      replace hJ : o9 ++ refO o2 ((((runesL s).map lowV).length : Int) - rt) ((((runesL s).map lowV).length : Int) - rt + 1 - n).toNat n = refO o2 ((((runesL s).map lowV).length : Int) - rt) ((((runesL s).map lowV).length : Int) - rt + 1 - lf).toNat lf ∧ (lf ≤ n) ∧ ((o9).length : Int) ≤ n := hJ
      replace h : Sx.St w0 F0 ([Sx.row (Kd.int .i64) 3 (Wa) (Wc) (((runesL s).map lowV)), Sx.row (Kd.int .i64) 3 (Xg) (Oc) (o2), Sx.row (Kd.int .i64) 3 (Ag) (cg) (o9)] ++ R) w := h
      show Sx.WC _ _ _ _ [(0, .slice (PA) (P.length) (pc)), (1, .slice (WA) (W.length) (wc)), (2, .int .i64 (lf)), (3, .int .i64 (rt)), (4, .string (s)), (14, .slice (Wa) (((runesL s).map lowV).length) (Wc)), (16, .slice (Xg) ((o2).length) (Oc)), (29, .slice (Ag) ((o9).length) (cg)), (30, .int .i64 (n))] _
      have hodn_ := hodd_nn n.toNat
      refine wc_seq ?_
      refine wc_seq ?_
      refine wc_region ?_
      refine wl_v rfl rfl (ov_move _ rfl) ?_
      refine wl_v rfl rfl (ov_move _ rfl) ?_
      refine wl_v rfl rfl (ov_len _ _ _ _ _ rfl es36) ?_
      refine wl_v rfl rfl (ov_move _ rfl) ?_
      refine wl_v rfl rfl (ov_bin _ rfl rfl (binR_sub (r := (((((runesL s).map lowV).length : Nat) : Int)) - rt) (Sx.w64 (by omega)))) ?_
      refine wl_v rfl rfl (ov_bin _ rfl rfl (binR_leq)) ?_
      refine wl_nil ?_
      refine qn_then ?_
      refine wc_cond (by rfl) (fun c83 => ?_) (fun c83 => ?_)
      ·
       refine wc_skip ?_
       refine qn_then ?_
       refine wc_seq ?_
       refine wc_block ?_
       refine wc_seq ?_
       refine wc_region ?_
       refine wl_v rfl rfl (ov_move _ rfl) ?_
       refine wl_v rfl rfl (ov_move _ rfl) ?_
       obtain ⟨ad84, rfl⟩ := Sx.C_some ((Sx.row_reads h (i := 1) rfl).2) (k := (n : Int).toNat) (by first | assumption | omega | (simp only [List.length_set, List.length_append, List.length_cons, List.length_nil]; omega))
       refine wl_v rfl rfl (ov_indexAddrN _ _ _ _ _ (n : Int).toNat rfl rfl es36 (by omega) (by first | assumption | omega | (simp only [List.length_take, List.length_drop, List.length_set, List.length_append, List.length_cons, List.length_nil]; omega))) ?_
       obtain ⟨cl87, _, hk86, hc85⟩ := Sx.C_cells ((Sx.row_reads h (i := 1) rfl).2) (z := (0 : Int)) (k := (n : Int).toNat) (by first | assumption | omega | (simp only [List.length_set, List.length_append, List.length_cons, List.length_nil]; omega))
       obtain rfl : cl87 = [.int .i64 _] := hk86
       refine wl_v rfl rfl (ov_load1 _ _ rfl sh3 ((hc85 0 _ rfl))) ?_
       refine wl_v rfl rfl (ov_bin _ rfl rfl (binR_rem (r := ((o2).getD (n : Int).toNat (0 : Int)) % 2) (by decide) (Int.tmod_eq_emod_of_nonneg (by omega)))) ?_
       refine wl_v rfl rfl (ov_bin _ rfl rfl (binR_eql)) ?_
       refine wl_nil ?_
       refine qn_then ?_
       refine wc_cond (by rfl) (fun c88 => ?_) (fun c88 => ?_)
       ·
        refine wc_region ?_
        refine wl_v rfl rfl (ov_move _ rfl) ?_
        refine wl_v rfl rfl (ov_move _ rfl) ?_
        refine wl_lit (d := (Kd.int .i64)) [(0, .int .i64 (n))] _ [.int .i64 (n)] ([n]) h rfl rfl rfl rfl Try.underlying36 infb3 rfl (by decide) (by kernel_rfl) rfl (fun _ _ _ => ((Reps.none _ _).snoc ((Sx.mkInt .i64 (n))) rfl)) (fun A89 cp90 _ h => ?_)
        refine wl_append (d := (Kd.int .i64)) (L := o9) 3 _ 8 _ _ _ ([n]) (Sx.flat_int _) h rfl rfl rfl rfl rfl ((Sx.row_reads h (i := 0) rfl).2) Try.underlying36 inf3 rfl (by decide) (by decide) (by first | omega | (simp only [List.length_cons, List.length_nil, List.length_append, List.length_set]; omega)) (by first | rfl | simp) (fun A91 cp92 _ h => ?_)
        replace h := st_selT [false, true, true, true] h
        refine wl_v rfl rfl (ov_assign _ rfl) ?_
        refine wl_nil ?_
        refine qn_block_normal ?_
        refine qn_then ?_
        refine wc_region ?_
        refine wl_v rfl rfl (ov_move _ rfl) ?_
        refine wl_v rfl rfl (ov_bin _ rfl rfl (binR_add (r := n + 1) (Sx.w64 (by omega)))) ?_
        refine wl_v rfl rfl (ov_assign _ rfl) ?_
        refine wl_nil ?_
        replace h := st_front 2 h
        replace h := st_front 2 h
        replace h := st_front 2 h
        refine qn_next ((n + 1), some ad84, A91, cp92, (o9 ++ ([n]))) (by show ((((runesL s).map lowV).length : Int) - rt + 1 - (n + 1)).toNat < ((((runesL s).map lowV).length : Int) - rt + 1 - n).toNat; omega) ⟨rfl, rfl, rfl, rfl, rfl, rfl, rfl, (congrArg (fun z_ => some (Value.slice (A91) z_ (cp92))) (show ((o9 ++ ([n])).length : Nat) = ((o9 ++ ([n]))).length by first | rfl | simp)), (congrArg (fun z_ => some (Value.int .i64 z_)) (show (n + 1 : Int) = (n + 1) by omega)), trivial⟩ ?_
        show ((o9 ++ ([n])) ++ refO o2 ((((runesL s).map lowV).length : Int) - rt) ((((runesL s).map lowV).length : Int) - rt + 1 - (n + 1)).toNat (n + 1) = refO o2 ((((runesL s).map lowV).length : Int) - rt) ((((runesL s).map lowV).length : Int) - rt + 1 - lf).toNat lf ∧ (lf ≤ (n + 1)) ∧ (((o9 ++ ([n]))).length : Int) ≤ (n + 1)) ∧ _
        have e_ := hJ.1
        obtain ⟨m_, hm_⟩ : ∃ m_, ((((runesL s).map lowV).length : Int) - rt + 1 - n).toNat = m_ + 1 := ⟨((((runesL s).map lowV).length : Int) - rt + 1 - n).toNat - 1, by omega⟩
        rw [hm_, refO, if_pos (by omega), if_pos (by omega)] at e_
        rw [show m_ = ((((runesL s).map lowV).length : Int) - rt + 1 - (n + 1)).toNat by omega] at e_
        exact ⟨⟨by rw [List.append_assoc]; exact e_, by omega, by first | omega | (simp only [List.length_append, List.length_cons, List.length_nil]; omega)⟩, h⟩
       ·
        refine wc_skip ?_
        refine qn_block_normal ?_
        refine qn_then ?_
        refine wc_region ?_
        refine wl_v rfl rfl (ov_move _ rfl) ?_
        refine wl_v rfl rfl (ov_bin _ rfl rfl (binR_add (r := n + 1) (Sx.w64 (by omega)))) ?_
        refine wl_v rfl rfl (ov_assign _ rfl) ?_
        refine wl_nil ?_
        replace h := st_front 2 h
        replace h := st_front 2 h
        replace h := st_front 2 h
        refine qn_next ((n + 1), some ad84, Ag, cg, (o9)) (by show ((((runesL s).map lowV).length : Int) - rt + 1 - (n + 1)).toNat < ((((runesL s).map lowV).length : Int) - rt + 1 - n).toNat; omega) ⟨rfl, rfl, rfl, rfl, rfl, rfl, rfl, (congrArg (fun z_ => some (Value.slice (Ag) z_ (cg))) (show ((o9).length : Nat) = ((o9)).length by first | rfl | simp)), (congrArg (fun z_ => some (Value.int .i64 z_)) (show (n + 1 : Int) = (n + 1) by omega)), trivial⟩ ?_
        show ((o9) ++ refO o2 ((((runesL s).map lowV).length : Int) - rt) ((((runesL s).map lowV).length : Int) - rt + 1 - (n + 1)).toNat (n + 1) = refO o2 ((((runesL s).map lowV).length : Int) - rt) ((((runesL s).map lowV).length : Int) - rt + 1 - lf).toNat lf ∧ (lf ≤ (n + 1)) ∧ (((o9)).length : Int) ≤ (n + 1)) ∧ _
        have e_ := hJ.1
        obtain ⟨m_, hm_⟩ : ∃ m_, ((((runesL s).map lowV).length : Int) - rt + 1 - n).toNat = m_ + 1 := ⟨((((runesL s).map lowV).length : Int) - rt + 1 - n).toNat - 1, by omega⟩
        rw [hm_, refO, if_pos (by omega), if_neg (by omega)] at e_
        rw [show m_ = ((((runesL s).map lowV).length : Int) - rt + 1 - (n + 1)).toNat by omega] at e_
        exact ⟨⟨e_, by omega, by first | omega | (simp only [List.length_append, List.length_cons, List.length_nil]; omega)⟩, h⟩
      ·
       refine wc_exit ?_
       refine qn_then_exit ?_
       refine qn_then_exit ?_
       refine qn_block_exit ?_
       refine qn_then ?_
       refine wc_seq ?_
       refine wc_region ?_
       refine wl_v rfl rfl (ov_move _ rfl) ?_
       refine wl_v rfl rfl (ov_assign _ rfl) ?_
       refine wl_nil ?_
       refine qn_then ?_
       refine wc_ret ?_
       replace h := st_front 2 h
       replace h := st_selT [true, false, false] h
       refine qn_ret [_] ⟨rfl, trivial⟩ ?_
       have e_ := hJ.1
       rw [show ((((runesL s).map lowV).length : Int) - rt + 1 - n).toNat = 0 by omega, refO, List.append_nil] at e_
       have ef_ : refPts P W lf rt s = o9 := by
         rw [refPts_yes (by omega) hLP_, refWord, hodd_]
         exact e_.symm
       rw [ef_]
       exact ⟨Ag, cg, rfl, h⟩
end Go.Proofs.Ytbeihfcjfkddcaa.RP
