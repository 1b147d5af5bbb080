/- Pruned by wip/prune.py. -/
import Derived.Test.YtbeihfcjfkddcaaProg
import Derived.Test.YtbeihfcjfkddcaaQSxGlue
import Derived.Test.YtbeihfcjfkddcaaQSxFlow
import Derived.Test.YtbeihfcjfkddcaaQSxIter
import Derived.Test.YtbeihfcjfkddcaaQSxBytes
import Derived.Test.YtbeihfcjfkddcaaQHyBook
import Derived.Test.YtbeihfcjfkddcaaQSxRunes
import Derived.Test.YtbeihfcjfkddcaaQSxLetter
import Derived.Test.YtbeihfcjfkddcaaQSxText
import Derived.Test.YtbeihfcjfkddcaaQSxHRead
import Derived.Test.YtbeihfcjfkddcaaQSxHRef
import Derived.Test.YtbeihfcjfkddcaaQSxTree
namespace Go.Proofs.Ytbeihfcjfkddcaa.BK
open Go Go.RowKit Go.Proofs.YtbeihfcjfkddcaaW.PrintWords Go.Proofs.Ytbeihfcjfkddcaa.Hy Go.Proofs.Ytbeihfcjfkddcaa.Given Go.Proofs.Ytbeihfcjfkddcaa.Rn Go.Proofs.Ytbeihfcjfkddcaa.Sx 
set_option linter.unusedVariables false
set_option linter.unusedSimpArgs false
theorem es22 : Sx.elemSz Try.prog 22 = some (9, 1) := by kernel_rfl
theorem sh9 : Sx.shapeOf Try.prog 9 = some (false, 1) := by kernel_rfl
theorem ent29 : Sx.Ent Try.prog 29 := ⟨Try.f29, Try.func29, by kernel_rfl, by kernel_rfl⟩
theorem zo63 : Sx.zeroOf Try.prog 63 = some (.agg #[.slice (none) (0) (0), .slice (none) (0) (0)]) := by kernel_rfl
theorem sh63 : Sx.shapeOf Try.prog 63 = some (true, 2) := by kernel_rfl
theorem ent30 : Sx.Ent Try.prog 30 := ⟨Try.f30, Try.func30, by kernel_rfl, by kernel_rfl⟩
theorem zo67 : Sx.zeroOf Try.prog 67 = some (.agg #[.slice (none) (0) (0), .slice (none) (0) (0)]) := by kernel_rfl
theorem sh67 : Sx.shapeOf Try.prog 67 = some (true, 2) := by kernel_rfl
theorem infb51 : (Try.prog.info? 51).map (fun i => (i.zero, i.size)) = some (some (.agg #[.map (none), .slice (none) (0) (0)]), 2) := by kernel_rfl
theorem ent26 : Sx.Ent Try.prog 26 := ⟨Try.f26, Try.func26, by kernel_rfl, by kernel_rfl⟩
theorem ent27 : Sx.Ent Try.prog 27 := ⟨Try.f27, Try.func27, by kernel_rfl, by kernel_rfl⟩
theorem ent28 : Sx.Ent Try.prog 28 := ⟨Try.f28, Try.func28, by kernel_rfl, by kernel_rfl⟩
theorem fo55_1 : Sx.fieldOff Try.prog 55 1 = some 1 := by kernel_rfl
theorem sh53 : Sx.shapeOf Try.prog 53 = some (false, 1) := by kernel_rfl
theorem fo55_0 : Sx.fieldOff Try.prog 55 0 = some 0 := by kernel_rfl
theorem sh52 : Sx.shapeOf Try.prog 52 = some (false, 1) := by kernel_rfl
theorem es52 : Sx.elemSz Try.prog 52 = some (51, 2) := by kernel_rfl
theorem fo24_0 : Sx.fieldOff Try.prog 24 0 = some 0 := by kernel_rfl
theorem sh22 : Sx.shapeOf Try.prog 22 = some (false, 1) := by kernel_rfl
theorem fo24_1 : Sx.fieldOff Try.prog 24 1 = some 1 := by kernel_rfl
theorem fo24_2 : Sx.fieldOff Try.prog 24 2 = some 2 := by kernel_rfl
theorem sh3 : Sx.shapeOf Try.prog 3 = some (false, 1) := by kernel_rfl
theorem fo24_3 : Sx.fieldOff Try.prog 24 3 = some 3 := by kernel_rfl
theorem ent11 : Sx.Ent Try.prog 11 := ⟨Try.f11, Try.func11, by kernel_rfl, by kernel_rfl⟩
theorem ent10 : Sx.Ent Try.prog 10 := ⟨Try.f10, Try.func10, by kernel_rfl, by kernel_rfl⟩
set_option maxHeartbeats 4000000 in
set_option maxRecDepth 100000 in
theorem Check_calls {w0 w : World} {F0 : Nat → Prop} {R : List Sx.HP} (PA : Option Addr) (pc : Nat) (P : List ByteArray) (WA : Option Addr) (wc : Nat) (W : List ByteArray) (lf rt : Int) (hP : ∀ cs w, Sx.St w0 F0 (cs ++ R) w → Kd.string.C w PA P.length P) (hW : ∀ cs w, Sx.St w0 F0 (cs ++ R) w → Kd.string.C w WA W.length W) (hsP : ∀ x ∈ P, x.size ≤ 1000000000) (hsW : ∀ x ∈ W, x.size ≤ 1000000000) (hlP : P.length ≤ 1000000000000) (hlW : W.length ≤ 1000000000000) (h : Sx.St w0 F0 ([] ++ R) w) : Calls Try.prog 11 #[.slice (PA) (P.length) (pc), .slice (WA) (W.length) (wc), .int .i64 (lf), .int .i64 (rt)] w (fun e w1 => ∃ code place : Int, e = .returned (.tuple #[.int .i64 code, .int .i64 place]) ∧ IsCheck P W lf rt code place ∧ Sx.St w0 F0 R w1) := by
 refine Sx.calls_fn (vs := [.slice (PA) (P.length) (pc), .slice (WA) (W.length) (wc), .int .i64 (lf), .int .i64 (rt)]) Try.func11 rfl Try.ntmps11 rfl ?_
 refine wc_seq ?_
 refine wc_region ?_
 refine wl_v rfl rfl (ov_assign _ rfl) ?_
 refine wl_v rfl rfl (ov_assign _ rfl) ?_
 refine wl_nil ?_
 refine qn_then ?_
 refine wc_seq ?_
 refine wc_seq ?_
 refine wc_region ?_
 refine wl_v rfl rfl (ov_move _ rfl) ?_
 refine wl_v rfl rfl (ov_bin _ rfl rfl (binR_lss)) ?_
 refine wl_v rfl rfl (ov_move _ rfl) ?_
 refine wl_split 18 rfl (fun c1 => ?_) (fun c1 => ?_)
 ·
  refine wl_skip rfl rfl ?_
  refine wl_skip rfl rfl ?_
  refine wl_v rfl rfl (ov_pick_true _ rfl rfl) ?_
  refine wl_v rfl rfl (ov_move _ rfl) ?_
  refine wl_skip rfl rfl ?_
  refine wl_skip rfl rfl ?_
  refine wl_v rfl rfl (ov_pick_true _ rfl rfl) ?_
  refine wl_v rfl rfl (ov_move _ rfl) ?_
  refine wl_skip rfl rfl ?_
  refine wl_skip rfl rfl ?_
  refine wl_v rfl rfl (ov_pick_true _ rfl rfl) ?_
  refine wl_nil ?_
  refine qn_then ?_
  refine wc_cond_true rfl ?_
  refine wc_seq ?_
  refine wc_region ?_
  refine wl_v rfl rfl (ov_assign _ rfl) ?_
  refine wl_v rfl rfl (ov_assign _ rfl) ?_
  refine wl_nil ?_
  refine qn_then ?_
  refine wc_ret ?_
  refine qn_then_ret ?_
  refine qn_ret [_, _] ⟨rfl, rfl, trivial⟩ ?_
  refine ⟨_, _, rfl, ?_, h⟩
  exact .inl ⟨by unfold BadR; omega, rfl, rfl⟩
 ·
  refine wl_v rfl rfl (ov_move _ rfl) ?_
  refine wl_v rfl rfl (ov_bin _ rfl rfl (binR_lss)) ?_
  refine wl_v rfl rfl (ov_pick_false _ rfl rfl) ?_
  refine wl_v rfl rfl (ov_move _ rfl) ?_
  refine wl_split 22 rfl (fun c2 => ?_) (fun c2 => ?_)
  ·
   refine wl_skip rfl rfl ?_
   refine wl_skip rfl rfl ?_
   refine wl_v rfl rfl (ov_pick_true _ rfl rfl) ?_
   refine wl_v rfl rfl (ov_move _ rfl) ?_
   refine wl_skip rfl rfl ?_
   refine wl_skip rfl rfl ?_
   refine wl_v rfl rfl (ov_pick_true _ rfl rfl) ?_
   refine wl_nil ?_
   refine qn_then ?_
   refine wc_cond_true rfl ?_
   refine wc_seq ?_
   refine wc_region ?_
   refine wl_v rfl rfl (ov_assign _ rfl) ?_
   refine wl_v rfl rfl (ov_assign _ rfl) ?_
   refine wl_nil ?_
   refine qn_then ?_
   refine wc_ret ?_
   refine qn_then_ret ?_
   refine qn_ret [_, _] ⟨rfl, rfl, trivial⟩ ?_
   refine ⟨_, _, rfl, ?_, h⟩
   exact .inl ⟨by unfold BadR; omega, rfl, rfl⟩
  ·
   refine wl_v rfl rfl (ov_move _ rfl) ?_
   refine wl_v rfl rfl (ov_bin _ rfl rfl (binR_gtr)) ?_
   refine wl_v rfl rfl (ov_pick_false _ rfl rfl) ?_
   refine wl_v rfl rfl (ov_move _ rfl) ?_
   refine wl_split 26 rfl (fun c3 => ?_) (fun c3 => ?_)
   ·
    refine wl_skip rfl rfl ?_
    refine wl_skip rfl rfl ?_
    refine wl_v rfl rfl (ov_pick_true _ rfl rfl) ?_
    refine wl_nil ?_
    refine qn_then ?_
    refine wc_cond_true rfl ?_
    refine wc_seq ?_
    refine wc_region ?_
    refine wl_v rfl rfl (ov_assign _ rfl) ?_
    refine wl_v rfl rfl (ov_assign _ rfl) ?_
    refine wl_nil ?_
    refine qn_then ?_
    refine wc_ret ?_
    refine qn_then_ret ?_
    refine qn_ret [_, _] ⟨rfl, rfl, trivial⟩ ?_
    refine ⟨_, _, rfl, ?_, h⟩
    exact .inl ⟨by unfold BadR; omega, rfl, rfl⟩
   ·
    refine wl_v rfl rfl (ov_move _ rfl) ?_
    refine wl_v rfl rfl (ov_bin _ rfl rfl (binR_gtr)) ?_
    refine wl_v rfl rfl (ov_pick_false _ rfl rfl) ?_
    refine wl_nil ?_
    refine qn_then ?_
    refine wc_cond (by rfl) (fun c4 => ?_) (fun c4 => ?_)
    ·
     refine wc_seq ?_
     refine wc_region ?_
     refine wl_v rfl rfl (ov_assign _ rfl) ?_
     refine wl_v rfl rfl (ov_assign _ rfl) ?_
     refine wl_nil ?_
     refine qn_then ?_
     refine wc_ret ?_
     refine qn_then_ret ?_
     refine qn_ret [_, _] ⟨rfl, rfl, trivial⟩ ?_
     refine ⟨_, _, rfl, ?_, h⟩
     exact .inl ⟨by unfold BadR; omega, rfl, rfl⟩
    ·
     refine wc_skip ?_
     refine qn_then ?_
     refine wc_seq ?_
     refine wc_seq ?_
     refine wc_region ?_
     refine wl_v rfl rfl (ov_move _ rfl) ?_
     refine wl_v rfl rfl (ov_len _ _ _ _ _ rfl es22) ?_
     refine wl_v rfl rfl (ov_bin _ rfl rfl (binR_gtr)) ?_
     refine wl_v rfl rfl (ov_move _ rfl) ?_
     refine wl_split 33 rfl (fun c5 => ?_) (fun c5 => ?_)
     ·
      refine wl_skip rfl rfl ?_
      refine wl_skip rfl rfl ?_
      refine wl_skip rfl rfl ?_
      refine wl_v rfl rfl (ov_pick_true _ rfl rfl) ?_
      refine wl_nil ?_
      refine qn_then ?_
      refine wc_cond_true rfl ?_
      refine wc_seq ?_
      refine wc_region ?_
      refine wl_v rfl rfl (ov_assign _ rfl) ?_
      refine wl_v rfl rfl (ov_assign _ rfl) ?_
      refine wl_nil ?_
      refine qn_then ?_
      refine wc_ret ?_
      refine qn_then_ret ?_
      refine qn_ret [_, _] ⟨rfl, rfl, trivial⟩ ?_
      refine ⟨_, _, rfl, ?_, h⟩
      exact .inr ⟨by unfold BadR; omega, .inl ⟨by omega, rfl, rfl⟩⟩
     ·
      refine wl_v rfl rfl (ov_move _ rfl) ?_
      refine wl_v rfl rfl (ov_len _ _ _ _ _ rfl es22) ?_
      refine wl_v rfl rfl (ov_bin _ rfl rfl (binR_gtr)) ?_
      refine wl_v rfl rfl (ov_pick_false _ rfl rfl) ?_
      refine wl_nil ?_
      refine qn_then ?_
      refine wc_cond (by rfl) (fun c6 => ?_) (fun c6 => ?_)
      ·
       refine wc_seq ?_
       refine wc_region ?_
       refine wl_v rfl rfl (ov_assign _ rfl) ?_
       refine wl_v rfl rfl (ov_assign _ rfl) ?_
       refine wl_nil ?_
       refine qn_then ?_
       refine wc_ret ?_
       refine qn_then_ret ?_
       refine qn_ret [_, _] ⟨rfl, rfl, trivial⟩ ?_
       refine ⟨_, _, rfl, ?_, h⟩
       exact .inr ⟨by unfold BadR; omega, .inl ⟨by omega, rfl, rfl⟩⟩
      ·
       refine wc_skip ?_
       refine qn_then ?_
       refine wc_seq ?_
       refine wc_seq ?_
       refine wc_region ?_
       refine wl_v rfl rfl (ov_assign _ rfl) ?_
       refine wl_nil ?_
       refine qn_then ?_
       refine wc_block ?_
       refine wc_loop (fun (x_ : Nat) => [(0, .slice (PA) (P.length) (pc)), (1, .slice (WA) (W.length) (wc)), (2, .int .i64 (lf)), (3, .int .i64 (rt)), (10, .int .i64 (((x_ : Nat) : Int)))]) (fun (x_ : Nat) (w : World) => (x_ ≤ P.length ∧ AllP P x_) ∧ Sx.St w0 F0 ([] ++ R) w) (fun (x_ : Nat) => P.length - x_) (0) ?_ ?_ ?_
       · exact ⟨rfl, rfl, rfl, rfl, (congrArg (fun z_ => some (Value.int .i64 z_)) (show (0 : Int) = ((0 : Nat) : Int) by omega)), trivial⟩
       · exact ⟨⟨Nat.zero_le _, fun j_ hj_ => absurd hj_ (Nat.not_lt_zero _)⟩, h⟩
       intro i w h
       obtain ⟨hJ, h⟩ := h
       replace hJ : i ≤ P.length ∧ AllP P i := hJ
       replace h : Sx.St w0 F0 ([] ++ R) w := h
       show Sx.WC _ _ _ _ [(0, .slice (PA) (P.length) (pc)), (1, .slice (WA) (W.length) (wc)), (2, .int .i64 (lf)), (3, .int .i64 (rt)), (10, .int .i64 (((i : Nat) : Int)))] _
       refine wc_seq ?_
       refine wc_seq ?_
       refine wc_region ?_
       refine wl_v rfl rfl (ov_move _ rfl) ?_
       refine wl_v rfl rfl (ov_move _ rfl) ?_
       refine wl_v rfl rfl (ov_len _ _ _ _ _ rfl es22) ?_
       refine wl_v rfl rfl (ov_bin _ rfl rfl (binR_lss)) ?_
       refine wl_nil ?_
       refine qn_then ?_
       refine wc_cond (by rfl) (fun c7 => ?_) (fun c7 => ?_)
       ·
        refine wc_skip ?_
        refine qn_then ?_
        refine wc_seq ?_
        refine wc_block ?_
        refine wc_seq ?_
        refine wc_region ?_
        refine wl_v rfl rfl (ov_move _ rfl) ?_
        refine wl_v rfl rfl (ov_move _ rfl) ?_
        obtain ⟨ad8, rfl⟩ := Sx.C_some ((hP [] _ h)) (k := (i : Nat)) (by first | assumption | omega | (simp only [List.length_set, List.length_append, List.length_cons, List.length_nil]; omega))
        refine wl_v rfl rfl (ov_indexAddrN _ _ _ _ _ (i : Nat) rfl rfl es22 rfl (by first | assumption | omega | (simp only [List.length_take, List.length_drop, List.length_set, List.length_append, List.length_cons, List.length_nil]; omega))) ?_
        obtain ⟨cl11, _, hk10, hc9⟩ := Sx.C_cells ((hP [] _ h)) (z := ByteArray.empty) (k := (i : Nat)) (by first | assumption | omega | (simp only [List.length_set, List.length_append, List.length_cons, List.length_nil]; omega))
        obtain rfl : cl11 = [.string _] := hk10
        refine wl_v rfl rfl (ov_load1 _ _ rfl sh9 ((hc9 0 _ rfl))) ?_
        refine wl_call _ rfl rfl rfl ent29 (RF.rPat_calls (R := [] ++ R) ((P).getD (i : Nat) ByteArray.empty) (by first | exact getD_small hsP i | exact getD_small hsW i) h) ?_
        rintro e_ w_ (⟨Ly12, Qy12, Ay12, cy12, By12, dy12, hpy12, rfl, h⟩ | ⟨hpy12, Xy12, yy12, zy12, Uy12, vy12, wy12, rfl, h⟩)
        ·
         refine ⟨_, rfl, ?_⟩
         replace h : Sx.St w0 F0 ([Sx.row (Kd.int .i64) 3 (Ay12) (cy12) (Ly12), Sx.row (Kd.int .i64) 3 (By12) (dy12) (Qy12)] ++ R) _ := h
         refine wl_v rfl rfl (ov_move _ rfl) ?_
         refine wl_v rfl rfl (ov_extract [.agg #[.slice (Ay12) (Ly12.length) (cy12), .slice (By12) (Qy12.length) (dy12)], .bool true] _ rfl rfl) ?_
         refine wl_v rfl rfl (ov_extract [.agg #[.slice (Ay12) (Ly12.length) (cy12), .slice (By12) (Qy12.length) (dy12)], .bool true] _ rfl rfl) ?_
         refine wl_alloc _ h rfl rfl zo63 (fun b13 _ h => ?_)
         replace h : Sx.St _ _ (Sx.blk b13 [.slice (none) (0) (0), .slice (none) (0) (0)] 63 :: _) _ := h
         refine wl_storebN 0 [.slice (Ay12) (Ly12.length) (cy12), .slice (By12) (Qy12.length) (dy12)] [.slice (Ay12) (Ly12.length) (cy12), .slice (By12) (Qy12.length) (dy12)] h rfl rfl rfl rfl (by simp [Value.oneCell']) sh63 rfl rfl (fun _ h => ?_)
         refine wl_v rfl rfl (ov_assign _ rfl) ?_
         refine wl_nil ?_
         refine qn_then ?_
         refine wc_seq ?_
         refine wc_region ?_
         refine wl_v rfl rfl (ov_move _ rfl) ?_
         refine wl_v rfl rfl (ov_notb _ rfl) ?_
         refine wl_nil ?_
         refine qn_then ?_
         refine wc_cond_false rfl ?_
         refine wc_skip ?_
         refine qn_block_normal ?_
         refine qn_then ?_
         refine wc_region ?_
         refine wl_v rfl rfl (ov_move _ rfl) ?_
         refine wl_v rfl rfl (ov_bin _ rfl rfl (binR_add (r := (((i : Nat) : Int)) + 1) (Sx.w64 (by omega)))) ?_
         refine wl_v rfl rfl (ov_assign _ rfl) ?_
         refine wl_nil ?_
         replace h := st_selT [false, false, false] h
         refine qn_next ((i + 1)) (by show P.length - (i + 1) < P.length - i; omega) ⟨(congrArg (fun z_ => some (Value.slice (some ad8) z_ (pc))) (show (P.length : Nat) = P.length by first | rfl | simp)), rfl, rfl, rfl, (congrArg (fun z_ => some (Value.int .i64 z_)) (show ((((i : Nat) : Int)) + 1 : Int) = (((i + 1) : Nat) : Int) by omega)), trivial⟩ ?_
         show ((i + 1) ≤ P.length ∧ AllP P (i + 1)) ∧ _
         exact ⟨⟨by omega, allP_succ hJ.2 (by rw [hpy12]; exact fun z_ => by cases z_)⟩, h⟩
        ·
         refine ⟨_, rfl, ?_⟩
         refine wl_v rfl rfl (ov_move _ rfl) ?_
         refine wl_v rfl rfl (ov_extract [.agg #[.slice (Xy12) (yy12) (zy12), .slice (Uy12) (vy12) (wy12)], .bool false] _ rfl rfl) ?_
         refine wl_v rfl rfl (ov_extract [.agg #[.slice (Xy12) (yy12) (zy12), .slice (Uy12) (vy12) (wy12)], .bool false] _ rfl rfl) ?_
         refine wl_alloc _ h rfl rfl zo63 (fun b14 _ h => ?_)
         replace h : Sx.St _ _ (Sx.blk b14 [.slice (none) (0) (0), .slice (none) (0) (0)] 63 :: _) _ := h
         refine wl_storebN 0 [.slice (Xy12) (yy12) (zy12), .slice (Uy12) (vy12) (wy12)] [.slice (Xy12) (yy12) (zy12), .slice (Uy12) (vy12) (wy12)] h rfl rfl rfl rfl (by simp [Value.oneCell']) sh63 rfl rfl (fun _ h => ?_)
         refine wl_v rfl rfl (ov_assign _ rfl) ?_
         refine wl_nil ?_
         refine qn_then ?_
         refine wc_seq ?_
         refine wc_region ?_
         refine wl_v rfl rfl (ov_move _ rfl) ?_
         refine wl_v rfl rfl (ov_notb _ rfl) ?_
         refine wl_nil ?_
         refine qn_then ?_
         refine wc_cond_true rfl ?_
         refine wc_seq ?_
         refine wc_region ?_
         refine wl_v rfl rfl (ov_move _ rfl) ?_
         refine wl_v rfl rfl (ov_assign _ rfl) ?_
         refine wl_v rfl rfl (ov_assign _ rfl) ?_
         refine wl_nil ?_
         refine qn_then ?_
         refine wc_ret ?_
         refine qn_block_ret ?_
         refine qn_then_ret ?_
         refine qn_then_ret ?_
         refine qn_block_ret ?_
         refine qn_then_ret ?_
         replace h := st_selT [false] h
         refine qn_ret [_, _] ⟨rfl, rfl, trivial⟩ ?_
         refine ⟨_, _, rfl, ?_, h⟩
         exact .inr ⟨by unfold BadR; omega, .inr ⟨by omega, .inl ⟨i, by omega, hJ.2, hpy12, rfl, rfl⟩⟩⟩
       ·
        refine wc_exit ?_
        refine qn_then_exit ?_
        refine qn_then_exit ?_
        refine qn_block_exit ?_
        refine qn_then ?_
        refine wc_seq ?_
        refine wc_seq ?_
        refine wc_region ?_
        refine wl_v rfl rfl (ov_assign _ rfl) ?_
        refine wl_nil ?_
        refine qn_then ?_
        refine wc_block ?_
        have hPi_ : i = P.length := by omega
        have hAll_ : AllP P P.length := by rw [← hPi_]; exact hJ.2
        refine wc_loop (fun (x_ : Nat) => [(0, .slice (PA) (P.length) (pc)), (1, .slice (WA) (W.length) (wc)), (2, .int .i64 (lf)), (3, .int .i64 (rt)), (13, .int .i64 (((x_ : Nat) : Int)))]) (fun (x_ : Nat) (w : World) => (x_ ≤ W.length ∧ AllW W x_) ∧ Sx.St w0 F0 ([] ++ R) w) (fun (x_ : Nat) => W.length - x_) (0) ?_ ?_ ?_
        · exact ⟨rfl, rfl, rfl, rfl, (congrArg (fun z_ => some (Value.int .i64 z_)) (show (0 : Int) = ((0 : Nat) : Int) by omega)), trivial⟩
        · exact ⟨⟨Nat.zero_le _, fun j_ hj_ => absurd hj_ (Nat.not_lt_zero _)⟩, h⟩
        intro i w h
        obtain ⟨hJ, h⟩ := h
        replace hJ : i ≤ W.length ∧ AllW W i := hJ
        replace h : Sx.St w0 F0 ([] ++ R) w := h
        show Sx.WC _ _ _ _ [(0, .slice (PA) (P.length) (pc)), (1, .slice (WA) (W.length) (wc)), (2, .int .i64 (lf)), (3, .int .i64 (rt)), (13, .int .i64 (((i : Nat) : Int)))] _
        refine wc_seq ?_
        refine wc_seq ?_
        refine wc_region ?_
        refine wl_v rfl rfl (ov_move _ rfl) ?_
        refine wl_v rfl rfl (ov_move _ rfl) ?_
        refine wl_v rfl rfl (ov_len _ _ _ _ _ rfl es22) ?_
        refine wl_v rfl rfl (ov_bin _ rfl rfl (binR_lss)) ?_
        refine wl_nil ?_
        refine qn_then ?_
        refine wc_cond (by rfl) (fun c15 => ?_) (fun c15 => ?_)
        ·
         refine wc_skip ?_
         refine qn_then ?_
         refine wc_seq ?_
         refine wc_block ?_
         refine wc_seq ?_
         refine wc_region ?_
         refine wl_v rfl rfl (ov_move _ rfl) ?_
         refine wl_v rfl rfl (ov_move _ rfl) ?_
         obtain ⟨ad16, rfl⟩ := Sx.C_some ((hW [] _ h)) (k := (i : Nat)) (by first | assumption | omega | (simp only [List.length_set, List.length_append, List.length_cons, List.length_nil]; omega))
         refine wl_v rfl rfl (ov_indexAddrN _ _ _ _ _ (i : Nat) rfl rfl es22 rfl (by first | assumption | omega | (simp only [List.length_take, List.length_drop, List.length_set, List.length_append, List.length_cons, List.length_nil]; omega))) ?_
         obtain ⟨cl19, _, hk18, hc17⟩ := Sx.C_cells ((hW [] _ h)) (z := ByteArray.empty) (k := (i : Nat)) (by first | assumption | omega | (simp only [List.length_set, List.length_append, List.length_cons, List.length_nil]; omega))
         obtain rfl : cl19 = [.string _] := hk18
         refine wl_v rfl rfl (ov_load1 _ _ rfl sh9 ((hc17 0 _ rfl))) ?_
         refine wl_call _ rfl rfl rfl ent30 (RF.rWord_calls (R := [] ++ R) ((W).getD (i : Nat) ByteArray.empty) (by first | exact getD_small hsP i | exact getD_small hsW i) h) ?_
         rintro e_ w_ (⟨Ly20, Qy20, Ay20, cy20, By20, dy20, hpy20, rfl, h⟩ | ⟨hpy20, Xy20, yy20, zy20, Uy20, vy20, wy20, rfl, h⟩)
         ·
          refine ⟨_, rfl, ?_⟩
          replace h : Sx.St w0 F0 ([Sx.row (Kd.int .i64) 3 (Ay20) (cy20) (Ly20), Sx.row (Kd.int .i64) 3 (By20) (dy20) (Qy20)] ++ R) _ := h
          refine wl_v rfl rfl (ov_move _ rfl) ?_
          refine wl_v rfl rfl (ov_extract [.agg #[.slice (Ay20) (Ly20.length) (cy20), .slice (By20) (Qy20.length) (dy20)], .bool true] _ rfl rfl) ?_
          refine wl_v rfl rfl (ov_extract [.agg #[.slice (Ay20) (Ly20.length) (cy20), .slice (By20) (Qy20.length) (dy20)], .bool true] _ rfl rfl) ?_
          refine wl_alloc _ h rfl rfl zo67 (fun b21 _ h => ?_)
          replace h : Sx.St _ _ (Sx.blk b21 [.slice (none) (0) (0), .slice (none) (0) (0)] 67 :: _) _ := h
          refine wl_storebN 0 [.slice (Ay20) (Ly20.length) (cy20), .slice (By20) (Qy20.length) (dy20)] [.slice (Ay20) (Ly20.length) (cy20), .slice (By20) (Qy20.length) (dy20)] h rfl rfl rfl rfl (by simp [Value.oneCell']) sh67 rfl rfl (fun _ h => ?_)
          refine wl_v rfl rfl (ov_assign _ rfl) ?_
          refine wl_nil ?_
          refine qn_then ?_
          refine wc_seq ?_
          refine wc_region ?_
          refine wl_v rfl rfl (ov_move _ rfl) ?_
          refine wl_v rfl rfl (ov_notb _ rfl) ?_
          refine wl_nil ?_
          refine qn_then ?_
          refine wc_cond_false rfl ?_
          refine wc_skip ?_
          refine qn_block_normal ?_
          refine qn_then ?_
          refine wc_region ?_
          refine wl_v rfl rfl (ov_move _ rfl) ?_
          refine wl_v rfl rfl (ov_bin _ rfl rfl (binR_add (r := (((i : Nat) : Int)) + 1) (Sx.w64 (by omega)))) ?_
          refine wl_v rfl rfl (ov_assign _ rfl) ?_
          refine wl_nil ?_
          replace h := st_selT [false, false, false] h
          refine qn_next ((i + 1)) (by show W.length - (i + 1) < W.length - i; omega) ⟨rfl, (congrArg (fun z_ => some (Value.slice (some ad16) z_ (wc))) (show (W.length : Nat) = W.length by first | rfl | simp)), rfl, rfl, (congrArg (fun z_ => some (Value.int .i64 z_)) (show ((((i : Nat) : Int)) + 1 : Int) = (((i + 1) : Nat) : Int) by omega)), trivial⟩ ?_
          show ((i + 1) ≤ W.length ∧ AllW W (i + 1)) ∧ _
          exact ⟨⟨by omega, allW_succ hJ.2 (by rw [hpy20]; exact fun z_ => by cases z_)⟩, h⟩
         ·
          refine ⟨_, rfl, ?_⟩
          refine wl_v rfl rfl (ov_move _ rfl) ?_
          refine wl_v rfl rfl (ov_extract [.agg #[.slice (Xy20) (yy20) (zy20), .slice (Uy20) (vy20) (wy20)], .bool false] _ rfl rfl) ?_
          refine wl_v rfl rfl (ov_extract [.agg #[.slice (Xy20) (yy20) (zy20), .slice (Uy20) (vy20) (wy20)], .bool false] _ rfl rfl) ?_
          refine wl_alloc _ h rfl rfl zo67 (fun b22 _ h => ?_)
          replace h : Sx.St _ _ (Sx.blk b22 [.slice (none) (0) (0), .slice (none) (0) (0)] 67 :: _) _ := h
          refine wl_storebN 0 [.slice (Xy20) (yy20) (zy20), .slice (Uy20) (vy20) (wy20)] [.slice (Xy20) (yy20) (zy20), .slice (Uy20) (vy20) (wy20)] h rfl rfl rfl rfl (by simp [Value.oneCell']) sh67 rfl rfl (fun _ h => ?_)
          refine wl_v rfl rfl (ov_assign _ rfl) ?_
          refine wl_nil ?_
          refine qn_then ?_
          refine wc_seq ?_
          refine wc_region ?_
          refine wl_v rfl rfl (ov_move _ rfl) ?_
          refine wl_v rfl rfl (ov_notb _ rfl) ?_
          refine wl_nil ?_
          refine qn_then ?_
          refine wc_cond_true rfl ?_
          refine wc_seq ?_
          refine wc_region ?_
          refine wl_v rfl rfl (ov_move _ rfl) ?_
          refine wl_v rfl rfl (ov_len _ _ _ _ _ rfl es22) ?_
          refine wl_v rfl rfl (ov_move _ rfl) ?_
          refine wl_v rfl rfl (ov_bin _ rfl rfl (binR_add (r := (((P.length : Nat) : Int)) + (((i : Nat) : Int))) (Sx.w64 (by omega)))) ?_
          refine wl_v rfl rfl (ov_assign _ rfl) ?_
          refine wl_v rfl rfl (ov_assign _ rfl) ?_
          refine wl_nil ?_
          refine qn_then ?_
          refine wc_ret ?_
          refine qn_block_ret ?_
          refine qn_then_ret ?_
          refine qn_then_ret ?_
          refine qn_block_ret ?_
          refine qn_then_ret ?_
          replace h := st_selT [false] h
          refine qn_ret [_, _] ⟨rfl, rfl, trivial⟩ ?_
          refine ⟨_, _, rfl, ?_, h⟩
          exact .inr ⟨by unfold BadR; omega, .inr ⟨by omega, .inr ⟨hAll_, .inl ⟨i, by omega, hJ.2, hpy20, rfl, by omega⟩⟩⟩⟩
        ·
         refine wc_exit ?_
         refine qn_then_exit ?_
         refine qn_then_exit ?_
         refine qn_block_exit ?_
         refine qn_then ?_
         refine wc_seq ?_
         refine wc_region ?_
         refine wl_v rfl rfl (ov_assign _ rfl) ?_
         refine wl_v rfl rfl (ov_assign _ rfl) ?_
         refine wl_nil ?_
         refine qn_then ?_
         refine wc_ret ?_
         refine qn_ret [_, _] ⟨rfl, rfl, trivial⟩ ?_
         refine ⟨_, _, rfl, ?_, h⟩
         exact .inr ⟨by unfold BadR; omega, .inr ⟨by omega, .inr ⟨hAll_, .inr ⟨show AllW W W.length from (by omega : i = W.length) ▸ hJ.2, rfl, rfl⟩⟩⟩⟩
set_option maxHeartbeats 4000000 in
set_option maxRecDepth 100000 in
theorem New_calls {w0 w : World} {F0 : Nat → Prop} {R : List Sx.HP} (PA : Option Addr) (pc : Nat) (P : List ByteArray) (WA : Option Addr) (wc : Nat) (W : List ByteArray) (lf rt : Int) (hP : ∀ cs w, Sx.St w0 F0 (cs ++ R) w → Kd.string.C w PA P.length P) (hW : ∀ cs w, Sx.St w0 F0 (cs ++ R) w → Kd.string.C w WA W.length W) (hsP : ∀ x ∈ P, x.size ≤ 1000000000) (hsW : ∀ x ∈ W, x.size ≤ 1000000000) (hlP : P.length ≤ 1000000000000) (hlW : W.length ≤ 1000000000000) (h : Sx.St w0 F0 ([] ++ R) w) : Calls Try.prog 10 #[.slice (PA) (P.length) (pc), .slice (WA) (W.length) (wc), .int .i64 (lf), .int .i64 (rt)] w (fun e w1 => ∃ code place : Int, IsCheck P W lf rt code place ∧ ((code = 0 ∧ ∃ (g : Nat) (D : BD), e = .returned (.tuple #[.pointer (some ⟨g, 0, none⟩), .int .i64 0, .int .i64 0]) ∧ (Rel D.NL D.φ D.HL (treeV P) ∧ RelK D.KL D.HK (knV W)) ∧ Sx.St w0 F0 (bookp g lf rt D :: ([] ++ R)) w1) ∨ (code ≠ 0 ∧ e = .returned (.tuple #[.pointer none, .int .i64 code, .int .i64 place]) ∧ Sx.St w0 F0 R w1))) := by
 refine Sx.calls_fn (vs := [.slice (PA) (P.length) (pc), .slice (WA) (W.length) (wc), .int .i64 (lf), .int .i64 (rt)]) Try.func10 rfl Try.ntmps10 rfl ?_
 refine wc_seq ?_
 refine wc_region ?_
 refine wl_v rfl rfl (ov_assign _ rfl) ?_
 refine wl_v rfl rfl (ov_assign _ rfl) ?_
 refine wl_v rfl rfl (ov_assign _ rfl) ?_
 refine wl_nil ?_
 refine qn_then ?_
 refine wc_seq ?_
 refine wc_seq ?_
 refine wc_region ?_
 refine wl_v rfl rfl (ov_move _ rfl) ?_
 refine wl_v rfl rfl (ov_bin _ rfl rfl (binR_lss)) ?_
 refine wl_v rfl rfl (ov_move _ rfl) ?_
 refine wl_split 24 rfl (fun c1 => ?_) (fun c1 => ?_)
 ·
  refine wl_skip rfl rfl ?_
  refine wl_skip rfl rfl ?_
  refine wl_v rfl rfl (ov_pick_true _ rfl rfl) ?_
  refine wl_v rfl rfl (ov_move _ rfl) ?_
  refine wl_skip rfl rfl ?_
  refine wl_skip rfl rfl ?_
  refine wl_v rfl rfl (ov_pick_true _ rfl rfl) ?_
  refine wl_v rfl rfl (ov_move _ rfl) ?_
  refine wl_skip rfl rfl ?_
  refine wl_skip rfl rfl ?_
  refine wl_v rfl rfl (ov_pick_true _ rfl rfl) ?_
  refine wl_nil ?_
  refine qn_then ?_
  refine wc_cond_true rfl ?_
  refine wc_seq ?_
  refine wc_region ?_
  refine wl_v rfl rfl (ov_assign _ rfl) ?_
  refine wl_v rfl rfl (ov_assign _ rfl) ?_
  refine wl_v rfl rfl (ov_assign _ rfl) ?_
  refine wl_nil ?_
  refine qn_then ?_
  refine wc_ret ?_
  refine qn_then_ret ?_
  refine qn_ret [_, _, _] ⟨rfl, rfl, rfl, trivial⟩ ?_
  refine ⟨_, _, ?_, .inr ⟨by decide, rfl, h⟩⟩
  exact .inl ⟨by unfold BadR; omega, rfl, rfl⟩
 ·
  refine wl_v rfl rfl (ov_move _ rfl) ?_
  refine wl_v rfl rfl (ov_bin _ rfl rfl (binR_lss)) ?_
  refine wl_v rfl rfl (ov_pick_false _ rfl rfl) ?_
  refine wl_v rfl rfl (ov_move _ rfl) ?_
  refine wl_split 28 rfl (fun c2 => ?_) (fun c2 => ?_)
  ·
   refine wl_skip rfl rfl ?_
   refine wl_skip rfl rfl ?_
   refine wl_v rfl rfl (ov_pick_true _ rfl rfl) ?_
   refine wl_v rfl rfl (ov_move _ rfl) ?_
   refine wl_skip rfl rfl ?_
   refine wl_skip rfl rfl ?_
   refine wl_v rfl rfl (ov_pick_true _ rfl rfl) ?_
   refine wl_nil ?_
   refine qn_then ?_
   refine wc_cond_true rfl ?_
   refine wc_seq ?_
   refine wc_region ?_
   refine wl_v rfl rfl (ov_assign _ rfl) ?_
   refine wl_v rfl rfl (ov_assign _ rfl) ?_
   refine wl_v rfl rfl (ov_assign _ rfl) ?_
   refine wl_nil ?_
   refine qn_then ?_
   refine wc_ret ?_
   refine qn_then_ret ?_
   refine qn_ret [_, _, _] ⟨rfl, rfl, rfl, trivial⟩ ?_
   refine ⟨_, _, ?_, .inr ⟨by decide, rfl, h⟩⟩
   exact .inl ⟨by unfold BadR; omega, rfl, rfl⟩
  ·
   refine wl_v rfl rfl (ov_move _ rfl) ?_
   refine wl_v rfl rfl (ov_bin _ rfl rfl (binR_gtr)) ?_
   refine wl_v rfl rfl (ov_pick_false _ rfl rfl) ?_
   refine wl_v rfl rfl (ov_move _ rfl) ?_
   refine wl_split 32 rfl (fun c3 => ?_) (fun c3 => ?_)
   ·
    refine wl_skip rfl rfl ?_
    refine wl_skip rfl rfl ?_
    refine wl_v rfl rfl (ov_pick_true _ rfl rfl) ?_
    refine wl_nil ?_
    refine qn_then ?_
    refine wc_cond_true rfl ?_
    refine wc_seq ?_
    refine wc_region ?_
    refine wl_v rfl rfl (ov_assign _ rfl) ?_
    refine wl_v rfl rfl (ov_assign _ rfl) ?_
    refine wl_v rfl rfl (ov_assign _ rfl) ?_
    refine wl_nil ?_
    refine qn_then ?_
    refine wc_ret ?_
    refine qn_then_ret ?_
    refine qn_ret [_, _, _] ⟨rfl, rfl, rfl, trivial⟩ ?_
    refine ⟨_, _, ?_, .inr ⟨by decide, rfl, h⟩⟩
    exact .inl ⟨by unfold BadR; omega, rfl, rfl⟩
   ·
    refine wl_v rfl rfl (ov_move _ rfl) ?_
    refine wl_v rfl rfl (ov_bin _ rfl rfl (binR_gtr)) ?_
    refine wl_v rfl rfl (ov_pick_false _ rfl rfl) ?_
    refine wl_nil ?_
    refine qn_then ?_
    refine wc_cond (by rfl) (fun c4 => ?_) (fun c4 => ?_)
    ·
     refine wc_seq ?_
     refine wc_region ?_
     refine wl_v rfl rfl (ov_assign _ rfl) ?_
     refine wl_v rfl rfl (ov_assign _ rfl) ?_
     refine wl_v rfl rfl (ov_assign _ rfl) ?_
     refine wl_nil ?_
     refine qn_then ?_
     refine wc_ret ?_
     refine qn_then_ret ?_
     refine qn_ret [_, _, _] ⟨rfl, rfl, rfl, trivial⟩ ?_
     refine ⟨_, _, ?_, .inr ⟨by decide, rfl, h⟩⟩
     exact .inl ⟨by unfold BadR; omega, rfl, rfl⟩
    ·
     refine wc_skip ?_
     refine qn_then ?_
     refine wc_seq ?_
     refine wc_seq ?_
     refine wc_region ?_
     refine wl_v rfl rfl (ov_move _ rfl) ?_
     refine wl_v rfl rfl (ov_len _ _ _ _ _ rfl es22) ?_
     refine wl_v rfl rfl (ov_bin _ rfl rfl (binR_gtr)) ?_
     refine wl_v rfl rfl (ov_move _ rfl) ?_
     refine wl_split 39 rfl (fun c5 => ?_) (fun c5 => ?_)
     ·
      refine wl_skip rfl rfl ?_
      refine wl_skip rfl rfl ?_
      refine wl_skip rfl rfl ?_
      refine wl_v rfl rfl (ov_pick_true _ rfl rfl) ?_
      refine wl_nil ?_
      refine qn_then ?_
      refine wc_cond_true rfl ?_
      refine wc_seq ?_
      refine wc_region ?_
      refine wl_v rfl rfl (ov_assign _ rfl) ?_
      refine wl_v rfl rfl (ov_assign _ rfl) ?_
      refine wl_v rfl rfl (ov_assign _ rfl) ?_
      refine wl_nil ?_
      refine qn_then ?_
      refine wc_ret ?_
      refine qn_then_ret ?_
      refine qn_ret [_, _, _] ⟨rfl, rfl, rfl, trivial⟩ ?_
      refine ⟨_, _, ?_, .inr ⟨by decide, rfl, h⟩⟩
      exact .inr ⟨by unfold BadR; omega, .inl ⟨by omega, rfl, rfl⟩⟩
     ·
      refine wl_v rfl rfl (ov_move _ rfl) ?_
      refine wl_v rfl rfl (ov_len _ _ _ _ _ rfl es22) ?_
      refine wl_v rfl rfl (ov_bin _ rfl rfl (binR_gtr)) ?_
      refine wl_v rfl rfl (ov_pick_false _ rfl rfl) ?_
      refine wl_nil ?_
      refine qn_then ?_
      refine wc_cond (by rfl) (fun c6 => ?_) (fun c6 => ?_)
      ·
       refine wc_seq ?_
       refine wc_region ?_
       refine wl_v rfl rfl (ov_assign _ rfl) ?_
       refine wl_v rfl rfl (ov_assign _ rfl) ?_
       refine wl_v rfl rfl (ov_assign _ rfl) ?_
       refine wl_nil ?_
       refine qn_then ?_
       refine wc_ret ?_
       refine qn_then_ret ?_
       refine qn_ret [_, _, _] ⟨rfl, rfl, rfl, trivial⟩ ?_
       refine ⟨_, _, ?_, .inr ⟨by decide, rfl, h⟩⟩
       exact .inr ⟨by unfold BadR; omega, .inl ⟨by omega, rfl, rfl⟩⟩
      ·
       refine wc_skip ?_
       refine qn_then ?_
       refine wc_seq ?_
       refine wc_region ?_
       refine wl_v rfl rfl (ov_build [] [.map (none), .slice (none) (0) (0)] rfl rfl (by kernel_rfl)) ?_
       refine wl_lit (d := kNd) [(0, .agg #[.map (none), .slice (none) (0) (0)])] _ [.map (none), .slice (none) (0) (0)] ([zNdH]) h rfl rfl rfl rfl Try.underlying52 infb51 rfl (by decide) (by kernel_rfl) rfl (fun _ _ _ => ((Reps.none _ _).snoc (kNd_mkM _ _ _ (zNdH)) rfl)) (fun A7 cp8 _ h => ?_)
       refine wl_makemap (Sx.keyStr) (fun h_ : Sx.Hdr => Value.slice h_.A h_.n h_.c) h rfl rfl (fun gm9 _ h => ?_)
       refine wl_v rfl rfl (ov_move _ rfl) ?_
       refine wl_v rfl rfl (ov_move _ rfl) ?_
       refine wl_v rfl rfl (ov_build [(0, .slice (A7) (([zNdH] : List _).length) (cp8)), (1, .map (some gm9)), (2, .int .i64 (lf)), (3, .int .i64 (rt))] [.slice (A7) (([zNdH] : List _).length) (cp8), .map (some gm9), .int .i64 (lf), .int .i64 (rt)] rfl rfl (by kernel_rfl)) ?_
       refine wl_box _ h rfl rfl rfl (fun b10 _ h => ?_)
       replace h : Sx.St _ _ (Sx.blk b10 [.slice (A7) (([zNdH] : List _).length) (cp8), .map (some gm9), .int .i64 (lf), .int .i64 (rt)] 55 :: _) _ := h
       refine wl_v rfl rfl (ov_assign _ rfl) ?_
       refine wl_nil ?_
       refine qn_then ?_
       refine wc_seq ?_
       refine wc_seq ?_
       refine wc_region ?_
       refine wl_v rfl rfl (ov_move _ rfl) ?_
       refine wl_v rfl rfl (ov_len _ _ _ _ _ rfl es22) ?_
       refine wl_v rfl rfl (ov_move _ rfl) ?_
       refine wl_nil ?_
       refine qn_then ?_
       refine wc_block ?_
       replace h := Sx.maps_nil (Sx.keyInt .i32) (fun n_ : Int => Value.int .i64 n_) (hlib_nil (hlib_nil h))
       replace h := st_front 2 h
       replace h := st_front 4 h
       replace h := st_front 3 h
       replace h := st_front 3 h
       replace h := st_front 5 h
       replace h := st_front 5 h
       refine wc_loop (fun (x_ : Nat × (Option Addr) × Nat × (List NdH) × (Nat → Option (List (Int × Int))) × (List (Hdr × List Int))) => [(0, .slice (PA) (P.length) (pc)), (1, .slice (WA) (W.length) (wc)), (2, .int .i64 (lf)), (3, .int .i64 (rt)), (11, .pointer (some ⟨b10, 0, none⟩)), (51, .slice (PA) (P.length) (pc)), (52, .int .i64 (((P.length : Nat) : Int))), (53, .int .i64 (((x_.1 : Nat) : Int)))]) (fun (x_ : Nat × (Option Addr) × Nat × (List NdH) × (Nat → Option (List (Int × Int))) × (List (Hdr × List Int))) (w : World) => (Rel x_.2.2.2.1 (x_.2.2.2.2.1) x_.2.2.2.2.2 (treeV (P.take x_.1)) ∧ x_.1 ≤ P.length ∧ AllP P x_.1) ∧ Sx.St w0 F0 ([Sx.blk b10 [.slice (x_.2.1) ((x_.2.2.2.1).length) (x_.2.2.1), .map (some gm9), .int .i64 (lf), .int .i64 (rt)] 55, Sx.row kNd 51 (x_.2.1) (x_.2.2.1) (x_.2.2.2.1), Sx.maps (Sx.keyInt .i32) (fun n_ : Int => Value.int .i64 n_) (x_.2.2.2.2.1), hlib (x_.2.2.2.2.2), Sx.mapo (Sx.keyStr) (fun h_ : Sx.Hdr => Value.slice h_.A h_.n h_.c) gm9 ([]), hlib ([])] ++ R) w) (fun (x_ : Nat × (Option Addr) × Nat × (List NdH) × (Nat → Option (List (Int × Int))) × (List (Hdr × List Int))) => P.length - x_.1) (0, A7, cp8, [zNdH], (fun _ => none), []) ?_ ?_ ?_
       · exact ⟨rfl, rfl, rfl, rfl, rfl, rfl, rfl, (congrArg (fun z_ => some (Value.int .i64 z_)) (show (0 : Int) = ((0 : Nat) : Int) by omega)), trivial⟩
       · exact ⟨⟨rel_one, Nat.zero_le _, fun j_ hj_ => absurd hj_ (Nat.not_lt_zero _)⟩, h⟩
       rintro ⟨i, A, c, NL, φ, HL⟩ w h
       obtain ⟨hJ, h⟩ := h
       replace hJ : Rel NL (φ) HL (treeV (P.take i)) ∧ i ≤ P.length ∧ AllP P i := hJ
       replace h : Sx.St w0 F0 ([Sx.blk b10 [.slice (A) ((NL).length) (c), .map (some gm9), .int .i64 (lf), .int .i64 (rt)] 55, Sx.row kNd 51 (A) (c) (NL), Sx.maps (Sx.keyInt .i32) (fun n_ : Int => Value.int .i64 n_) (φ), hlib (HL), Sx.mapo (Sx.keyStr) (fun h_ : Sx.Hdr => Value.slice h_.A h_.n h_.c) gm9 ([]), hlib ([])] ++ R) w := h
       show Sx.WC _ _ _ _ [(0, .slice (PA) (P.length) (pc)), (1, .slice (WA) (W.length) (wc)), (2, .int .i64 (lf)), (3, .int .i64 (rt)), (11, .pointer (some ⟨b10, 0, none⟩)), (51, .slice (PA) (P.length) (pc)), (52, .int .i64 (((P.length : Nat) : Int))), (53, .int .i64 (((i : Nat) : Int)))] _
       have htl_ := treeV_len (P.take i)
       have hti_ : (P.take i).length ≤ 8192 := by rw [List.length_take]; omega
       refine wc_seq ?_
       refine wc_region ?_
       refine wl_v rfl rfl (ov_bin _ rfl rfl (binR_lss)) ?_
       refine wl_nil ?_
       refine qn_then ?_
       refine wc_seq ?_
       refine wc_cond (by rfl) (fun c11 => ?_) (fun c11 => ?_)
       ·
        refine wc_skip ?_
        refine qn_then ?_
        refine wc_seq ?_
        refine wc_block ?_
        refine wc_seq ?_
        refine wc_region ?_
        refine wl_v rfl rfl (ov_move _ rfl) ?_
        obtain ⟨ad12, rfl⟩ := Sx.C_some ((hP [_, _, _, _, _, _] _ h)) (k := (i : Nat)) (by first | assumption | omega | (simp only [List.length_set, List.length_append, List.length_cons, List.length_nil]; omega))
        refine wl_v rfl rfl (ov_indexAddrN _ _ _ _ _ (i : Nat) rfl rfl es22 rfl (by first | assumption | omega | (simp only [List.length_take, List.length_drop, List.length_set, List.length_append, List.length_cons, List.length_nil]; omega))) ?_
        obtain ⟨cl15, _, hk14, hc13⟩ := Sx.C_cells ((hP [_, _, _, _, _, _] _ h)) (z := ByteArray.empty) (k := (i : Nat)) (by first | assumption | omega | (simp only [List.length_set, List.length_append, List.length_cons, List.length_nil]; omega))
        obtain rfl : cl15 = [.string _] := hk14
        refine wl_v rfl rfl (ov_load1 _ _ rfl sh9 ((hc13 0 _ rfl))) ?_
        refine wl_v rfl rfl (ov_assign _ rfl) ?_
        refine wl_v rfl rfl (ov_assign _ rfl) ?_
        refine wl_nil ?_
        refine qn_then ?_
        refine wc_seq ?_
        refine wc_region ?_
        refine wl_v rfl rfl (ov_move _ rfl) ?_
        refine wl_call _ rfl rfl rfl ent26 (RD.pattern_calls (R := [Sx.blk b10 [.slice (A) ((NL).length) (c), .map (some gm9), .int .i64 (lf), .int .i64 (rt)] 55, Sx.row kNd 51 (A) (c) (NL), Sx.maps (Sx.keyInt .i32) (fun n_ : Int => Value.int .i64 n_) (φ), hlib (HL), Sx.mapo (Sx.keyStr) (fun h_ : Sx.Hdr => Value.slice h_.A h_.n h_.c) gm9 ([]), hlib ([])] ++ R) ((P).getD (i : Nat) ByteArray.empty) (by first | exact getD_small hsP i | exact getD_small hsW i) h) ?_
        rintro e_ w_ (⟨Ly16, Qy16, Ay16, cy16, By16, dy16, hpy16, rfl, h⟩ | ⟨hpy16, uy16, vy16, rfl, h⟩)
        ·
         refine ⟨_, rfl, ?_⟩
         replace h : Sx.St w0 F0 ([Sx.row (Kd.int .i32) 21 (Ay16) (cy16) (Ly16), Sx.row (Kd.int .i64) 3 (By16) (dy16) (Qy16), Sx.blk b10 [.slice (A) ((NL).length) (c), .map (some gm9), .int .i64 (lf), .int .i64 (rt)] 55, Sx.row kNd 51 (A) (c) (NL), Sx.maps (Sx.keyInt .i32) (fun n_ : Int => Value.int .i64 n_) (φ), hlib (HL), Sx.mapo (Sx.keyStr) (fun h_ : Sx.Hdr => Value.slice h_.A h_.n h_.c) gm9 ([]), hlib ([])] ++ R) _ := h
         have hzy16 := pat_size hpy16
         refine wl_v rfl rfl (ov_move _ rfl) ?_
         refine wl_v rfl rfl (ov_extract [.slice (Ay16) (Ly16.length) (cy16), .slice (By16) (Qy16.length) (dy16), .bool true] _ rfl rfl) ?_
         refine wl_v rfl rfl (ov_extract [.slice (Ay16) (Ly16.length) (cy16), .slice (By16) (Qy16.length) (dy16), .bool true] _ rfl rfl) ?_
         refine wl_v rfl rfl (ov_extract [.slice (Ay16) (Ly16.length) (cy16), .slice (By16) (Qy16.length) (dy16), .bool true] _ rfl rfl) ?_
         refine wl_v rfl rfl (ov_assign _ rfl) ?_
         refine wl_v rfl rfl (ov_assign _ rfl) ?_
         refine wl_v rfl rfl (ov_assign _ rfl) ?_
         refine wl_nil ?_
         refine qn_then ?_
         refine wc_seq ?_
         refine wc_seq ?_
         refine wc_region ?_
         refine wl_v rfl rfl (ov_move _ rfl) ?_
         refine wl_v rfl rfl (ov_notb _ rfl) ?_
         refine wl_nil ?_
         refine qn_then ?_
         refine wc_cond_false rfl ?_
         refine wc_skip ?_
         refine qn_then ?_
         refine wc_region ?_
         refine wl_v rfl rfl (ov_move _ rfl) ?_
         refine wl_v rfl rfl (ov_move _ rfl) ?_
         refine wl_v rfl rfl (ov_move _ rfl) ?_
         replace h := st_front 1 h
         replace h := st_front 5 h
         replace h := st_front 5 h
         replace h := st_front 5 h
         replace h := st_front 5 h
         refine wl_call _ rfl rfl rfl ent27 (TR.put_calls (R := [Sx.row (Kd.int .i32) 21 (Ay16) (cy16) (Ly16), Sx.mapo (Sx.keyStr) (fun h_ : Sx.Hdr => Value.slice h_.A h_.n h_.c) gm9 ([]), hlib ([])] ++ R) b10 gm9 lf rt (A) (c) (NL) (φ) (HL) (treeV (P.take i)) (Ay16) (cy16) Ly16 (By16) (dy16) Qy16 hJ.1 htl_.2.2 htl_.1 (Sx.row_reads_at (R := [Sx.row (Kd.int .i32) 21 (Ay16) (cy16) (Ly16), Sx.mapo (Sx.keyStr) (fun h_ : Sx.Hdr => Value.slice h_.A h_.n h_.c) gm9 ([]), hlib ([])] ++ R) (j := 0) rfl) (by omega) h) ?_
         rintro e_ w_ ⟨rfl, At17, ct17, Nt17, φt17, Ht17, hrt17, h⟩
         refine ⟨_, rfl, ?_⟩
         replace h : Sx.St w0 F0 ([Sx.blk b10 [.slice (At17) ((Nt17).length) (ct17), .map (some gm9), .int .i64 (lf), .int .i64 (rt)] 55, Sx.row kNd 51 (At17) (ct17) (Nt17), Sx.maps (Sx.keyInt .i32) (fun n_ : Int => Value.int .i64 n_) (φt17), hlib (Ht17), Sx.row (Kd.int .i32) 21 (Ay16) (cy16) (Ly16), Sx.mapo (Sx.keyStr) (fun h_ : Sx.Hdr => Value.slice h_.A h_.n h_.c) gm9 ([]), hlib ([])] ++ R) _ := h
         refine wl_nil ?_
         refine qn_block_normal ?_
         refine qn_then ?_
         refine wc_region ?_
         refine wl_v rfl rfl (ov_bin _ rfl rfl (binR_add (r := (((i : Nat) : Int)) + 1) (Sx.w64 (by omega)))) ?_
         refine wl_v rfl rfl (ov_move _ rfl) ?_
         refine wl_nil ?_
         replace h := st_front 6 h
         replace h := st_front 6 h
         replace h := st_front 5 h
         replace h := st_front 5 h
         replace h := st_front 5 h
         replace h := st_front 5 h
         replace h := st_selT [true, true, true, true, true, true, false] h
         refine qn_next ((i + 1), At17, ct17, Nt17, φt17, Ht17) (by show P.length - (i + 1) < P.length - i; omega) ⟨(congrArg (fun z_ => some (Value.slice (some ad12) z_ (pc))) (show (P.length : Nat) = P.length by first | rfl | simp)), rfl, rfl, rfl, rfl, (congrArg (fun z_ => some (Value.slice (some ad12) z_ (pc))) (show (P.length : Nat) = P.length by first | rfl | simp)), rfl, (congrArg (fun z_ => some (Value.int .i64 z_)) (show ((((i : Nat) : Int)) + 1 : Int) = (((i + 1) : Nat) : Int) by omega)), trivial⟩ ?_
         show (Rel Nt17 (φt17) Ht17 (treeV (P.take (i + 1))) ∧ (i + 1) ≤ P.length ∧ AllP P (i + 1)) ∧ _
         have hd_ := patD_of hpy16
         exact ⟨⟨by rw [treeV_succ P (by omega), hd_.1, hd_.2]; exact hrt17, by omega, allP_succ hJ.2.2 (by rw [hpy16]; exact fun z_ => by cases z_)⟩, h⟩
        ·
         refine ⟨_, rfl, ?_⟩
         refine wl_v rfl rfl (ov_move _ rfl) ?_
         refine wl_v rfl rfl (ov_extract [uy16, vy16, .bool false] _ rfl rfl) ?_
         refine wl_v rfl rfl (ov_extract [uy16, vy16, .bool false] _ rfl rfl) ?_
         refine wl_v rfl rfl (ov_extract [uy16, vy16, .bool false] _ rfl rfl) ?_
         refine wl_v rfl rfl (ov_assign _ rfl) ?_
         refine wl_v rfl rfl (ov_assign _ rfl) ?_
         refine wl_v rfl rfl (ov_assign _ rfl) ?_
         refine wl_nil ?_
         refine qn_then ?_
         refine wc_seq ?_
         refine wc_seq ?_
         refine wc_region ?_
         refine wl_v rfl rfl (ov_move _ rfl) ?_
         refine wl_v rfl rfl (ov_notb _ rfl) ?_
         refine wl_nil ?_
         refine qn_then ?_
         refine wc_cond_true rfl ?_
         refine wc_seq ?_
         refine wc_region ?_
         refine wl_v rfl rfl (ov_move _ rfl) ?_
         refine wl_v rfl rfl (ov_assign _ rfl) ?_
         refine wl_v rfl rfl (ov_assign _ rfl) ?_
         refine wl_v rfl rfl (ov_assign _ rfl) ?_
         refine wl_nil ?_
         refine qn_then ?_
         refine wc_ret ?_
         refine qn_then_ret ?_
         refine qn_block_ret ?_
         refine qn_then_ret ?_
         refine qn_then_ret ?_
         refine qn_block_ret ?_
         refine qn_then_ret ?_
         replace h := st_selT [false, false, false, false, false, false] h
         refine qn_ret [_, _, _] ⟨rfl, rfl, rfl, trivial⟩ ?_
         refine ⟨_, _, ?_, .inr ⟨by decide, rfl, h⟩⟩
         exact .inr ⟨by unfold BadR; omega, .inr ⟨by omega, .inl ⟨i, by omega, hJ.2.2, hpy16, rfl, rfl⟩⟩⟩
       ·
        refine wc_exit ?_
        refine qn_then_exit ?_
        refine qn_then_exit ?_
        refine qn_block_exit ?_
        refine qn_then ?_
        refine wc_seq ?_
        refine wc_seq ?_
        refine wc_region ?_
        refine wl_v rfl rfl (ov_move _ rfl) ?_
        refine wl_v rfl rfl (ov_len _ _ _ _ _ rfl es22) ?_
        refine wl_v rfl rfl (ov_move _ rfl) ?_
        refine wl_nil ?_
        refine qn_then ?_
        refine wc_block ?_
        have hPi_ : i = P.length := by omega
        have hAll_ : AllP P P.length := by rw [← hPi_]; exact hJ.2.2
        have hRel_ := hJ.1
        rw [hPi_, List.take_length] at hRel_
        have hone_ : P.length ≤ 8192 ∧ W.length ≤ 8192 := by omega
        replace h := st_front 5 h
        replace h := st_front 5 h
        replace h := st_front 5 h
        replace h := st_front 5 h
        replace h := st_front 5 h
        replace h := st_front 5 h
        refine wc_loop (fun (x_ : Nat × (List (ByteArray × Hdr)) × (List (Hdr × List Int))) => [(0, .slice (PA) (P.length) (pc)), (1, .slice (WA) (W.length) (wc)), (2, .int .i64 (lf)), (3, .int .i64 (rt)), (11, .pointer (some ⟨b10, 0, none⟩)), (72, .slice (WA) (W.length) (wc)), (73, .int .i64 (((W.length : Nat) : Int))), (74, .int .i64 (((x_.1 : Nat) : Int)))]) (fun (x_ : Nat × (List (ByteArray × Hdr)) × (List (Hdr × List Int))) (w : World) => (RelK x_.2.1 x_.2.2 (knV (W.take x_.1)) ∧ x_.1 ≤ W.length ∧ AllW W x_.1) ∧ Sx.St w0 F0 ([Sx.blk b10 [.slice (A) ((NL).length) (c), .map (some gm9), .int .i64 (lf), .int .i64 (rt)] 55, Sx.row kNd 51 (A) (c) (NL), Sx.maps (Sx.keyInt .i32) (fun n_ : Int => Value.int .i64 n_) (φ), hlib (HL), Sx.mapo (Sx.keyStr) (fun h_ : Sx.Hdr => Value.slice h_.A h_.n h_.c) gm9 (x_.2.1), hlib (x_.2.2)] ++ R) w) (fun (x_ : Nat × (List (ByteArray × Hdr)) × (List (Hdr × List Int))) => W.length - x_.1) (0, [], []) ?_ ?_ ?_
        · exact ⟨rfl, rfl, rfl, rfl, rfl, rfl, rfl, (congrArg (fun z_ => some (Value.int .i64 z_)) (show (0 : Int) = ((0 : Nat) : Int) by omega)), trivial⟩
        · exact ⟨⟨relK_nil, Nat.zero_le _, fun j_ hj_ => absurd hj_ (Nat.not_lt_zero _)⟩, h⟩
        rintro ⟨i, KL, HK⟩ w h
        obtain ⟨hJ, h⟩ := h
        replace hJ : RelK KL HK (knV (W.take i)) ∧ i ≤ W.length ∧ AllW W i := hJ
        replace h : Sx.St w0 F0 ([Sx.blk b10 [.slice (A) ((NL).length) (c), .map (some gm9), .int .i64 (lf), .int .i64 (rt)] 55, Sx.row kNd 51 (A) (c) (NL), Sx.maps (Sx.keyInt .i32) (fun n_ : Int => Value.int .i64 n_) (φ), hlib (HL), Sx.mapo (Sx.keyStr) (fun h_ : Sx.Hdr => Value.slice h_.A h_.n h_.c) gm9 (KL), hlib (HK)] ++ R) w := h
        show Sx.WC _ _ _ _ [(0, .slice (PA) (P.length) (pc)), (1, .slice (WA) (W.length) (wc)), (2, .int .i64 (lf)), (3, .int .i64 (rt)), (11, .pointer (some ⟨b10, 0, none⟩)), (72, .slice (WA) (W.length) (wc)), (73, .int .i64 (((W.length : Nat) : Int))), (74, .int .i64 (((i : Nat) : Int)))] _
        refine wc_seq ?_
        refine wc_region ?_
        refine wl_v rfl rfl (ov_bin _ rfl rfl (binR_lss)) ?_
        refine wl_nil ?_
        refine qn_then ?_
        refine wc_seq ?_
        refine wc_cond (by rfl) (fun c18 => ?_) (fun c18 => ?_)
        ·
         refine wc_skip ?_
         refine qn_then ?_
         refine wc_seq ?_
         refine wc_block ?_
         refine wc_seq ?_
         refine wc_region ?_
         refine wl_v rfl rfl (ov_move _ rfl) ?_
         obtain ⟨ad19, rfl⟩ := Sx.C_some ((hW [_, _, _, _, _, _] _ h)) (k := (i : Nat)) (by first | assumption | omega | (simp only [List.length_set, List.length_append, List.length_cons, List.length_nil]; omega))
         refine wl_v rfl rfl (ov_indexAddrN _ _ _ _ _ (i : Nat) rfl rfl es22 rfl (by first | assumption | omega | (simp only [List.length_take, List.length_drop, List.length_set, List.length_append, List.length_cons, List.length_nil]; omega))) ?_
         obtain ⟨cl22, _, hk21, hc20⟩ := Sx.C_cells ((hW [_, _, _, _, _, _] _ h)) (z := ByteArray.empty) (k := (i : Nat)) (by first | assumption | omega | (simp only [List.length_set, List.length_append, List.length_cons, List.length_nil]; omega))
         obtain rfl : cl22 = [.string _] := hk21
         refine wl_v rfl rfl (ov_load1 _ _ rfl sh9 ((hc20 0 _ rfl))) ?_
         refine wl_v rfl rfl (ov_assign _ rfl) ?_
         refine wl_v rfl rfl (ov_assign _ rfl) ?_
         refine wl_nil ?_
         refine qn_then ?_
         refine wc_seq ?_
         refine wc_region ?_
         refine wl_v rfl rfl (ov_move _ rfl) ?_
         refine wl_call _ rfl rfl rfl ent28 (RD.word_calls (R := [Sx.blk b10 [.slice (A) ((NL).length) (c), .map (some gm9), .int .i64 (lf), .int .i64 (rt)] 55, Sx.row kNd 51 (A) (c) (NL), Sx.maps (Sx.keyInt .i32) (fun n_ : Int => Value.int .i64 n_) (φ), hlib (HL), Sx.mapo (Sx.keyStr) (fun h_ : Sx.Hdr => Value.slice h_.A h_.n h_.c) gm9 (KL), hlib (HK)] ++ R) ((W).getD (i : Nat) ByteArray.empty) (by first | exact getD_small hsP i | exact getD_small hsW i) h) ?_
         rintro e_ w_ (⟨Ly23, Qy23, Ay23, cy23, hpy23, rfl, h⟩ | ⟨hpy23, uy23, vy23, rfl, h⟩)
         ·
          refine ⟨_, rfl, ?_⟩
          replace h : Sx.St w0 F0 ([Sx.row (Kd.int .i64) 3 (Ay23) (cy23) (Qy23), Sx.blk b10 [.slice (A) ((NL).length) (c), .map (some gm9), .int .i64 (lf), .int .i64 (rt)] 55, Sx.row kNd 51 (A) (c) (NL), Sx.maps (Sx.keyInt .i32) (fun n_ : Int => Value.int .i64 n_) (φ), hlib (HL), Sx.mapo (Sx.keyStr) (fun h_ : Sx.Hdr => Value.slice h_.A h_.n h_.c) gm9 (KL), hlib (HK)] ++ R) _ := h
          refine wl_v rfl rfl (ov_move _ rfl) ?_
          refine wl_v rfl rfl (ov_extract [.string (strOfNums (flatB Ly23)), .slice (Ay23) (Qy23.length) (cy23), .bool true] _ rfl rfl) ?_
          refine wl_v rfl rfl (ov_extract [.string (strOfNums (flatB Ly23)), .slice (Ay23) (Qy23.length) (cy23), .bool true] _ rfl rfl) ?_
          refine wl_v rfl rfl (ov_extract [.string (strOfNums (flatB Ly23)), .slice (Ay23) (Qy23.length) (cy23), .bool true] _ rfl rfl) ?_
          refine wl_v rfl rfl (ov_assign _ rfl) ?_
          refine wl_v rfl rfl (ov_assign _ rfl) ?_
          refine wl_v rfl rfl (ov_assign _ rfl) ?_
          refine wl_nil ?_
          refine qn_then ?_
          refine wc_seq ?_
          refine wc_seq ?_
          refine wc_region ?_
          refine wl_v rfl rfl (ov_move _ rfl) ?_
          refine wl_v rfl rfl (ov_notb _ rfl) ?_
          refine wl_nil ?_
          refine qn_then ?_
          refine wc_cond_false rfl ?_
          refine wc_skip ?_
          refine qn_then ?_
          refine wc_region ?_
          refine wl_v rfl rfl (ov_move _ rfl) ?_
          refine wl_v rfl rfl (ov_nilCheck _ rfl) ?_
          refine wl_v rfl rfl (ov_fieldAddr _ ⟨b10, 1, none⟩ _ rfl fo55_1 rfl) ?_
          refine wl_v rfl rfl (ov_loadb 1 _ h rfl rfl sh53 rfl) ?_
          refine wl_v rfl rfl (ov_move _ rfl) ?_
          refine wl_v rfl rfl (ov_move _ rfl) ?_
          refine wl_mapupdate1 5 (Sx.keyStr) (fun h_ : Sx.Hdr => Value.slice h_.A h_.n h_.c) gm9 (KL) (strOfNums (flatB Ly23)) ((⟨Ay23, Qy23.length, cy23⟩ : Sx.Hdr)) h rfl rfl (by exact congrArg (fun z_ => some (Value.map z_)) rfl) rfl rfl Try.underlying53 Try.underlying9 (fun _ h => ?_)
          replace h := st_front 6 h
          replace h := st_front 1 h
          replace h := hlib_add h
          refine wl_nil ?_
          refine qn_block_normal ?_
          refine qn_then ?_
          refine wc_region ?_
          refine wl_v rfl rfl (ov_bin _ rfl rfl (binR_add (r := (((i : Nat) : Int)) + 1) (Sx.w64 (by omega)))) ?_
          refine wl_v rfl rfl (ov_move _ rfl) ?_
          refine wl_nil ?_
          replace h := st_front 5 h
          replace h := st_front 5 h
          replace h := st_front 5 h
          replace h := st_front 5 h
          replace h := st_front 5 h
          refine qn_next ((i + 1), (Sx.upd (KL) (strOfNums (flatB Ly23)) (⟨Ay23, Qy23.length, cy23⟩ : Sx.Hdr)), (((⟨Ay23, Qy23.length, cy23⟩ : Sx.Hdr), Qy23) :: HK)) (by show W.length - (i + 1) < W.length - i; omega) ⟨rfl, (congrArg (fun z_ => some (Value.slice (some ad19) z_ (wc))) (show (W.length : Nat) = W.length by first | rfl | simp)), rfl, rfl, rfl, (congrArg (fun z_ => some (Value.slice (some ad19) z_ (wc))) (show (W.length : Nat) = W.length by first | rfl | simp)), rfl, (congrArg (fun z_ => some (Value.int .i64 z_)) (show ((((i : Nat) : Int)) + 1 : Int) = (((i + 1) : Nat) : Int) by omega)), trivial⟩ ?_
          show (RelK (Sx.upd (KL) (strOfNums (flatB Ly23)) (⟨Ay23, Qy23.length, cy23⟩ : Sx.Hdr)) (((⟨Ay23, Qy23.length, cy23⟩ : Sx.Hdr), Qy23) :: HK) (knV (W.take (i + 1))) ∧ (i + 1) ≤ W.length ∧ AllW W (i + 1)) ∧ _
          have hd_ := wordD_of hpy23
          exact ⟨⟨by rw [knV_succ W (by omega), hd_.2, show wkey (W.getD i ByteArray.empty) = strOfNums (flatB Ly23) by unfold wkey; rw [hd_.1]]; exact relK_put hJ.1 _ _ _, by omega, allW_succ hJ.2.2 (by rw [hpy23]; exact fun z_ => by cases z_)⟩, h⟩
         ·
          refine ⟨_, rfl, ?_⟩
          refine wl_v rfl rfl (ov_move _ rfl) ?_
          refine wl_v rfl rfl (ov_extract [uy23, vy23, .bool false] _ rfl rfl) ?_
          refine wl_v rfl rfl (ov_extract [uy23, vy23, .bool false] _ rfl rfl) ?_
          refine wl_v rfl rfl (ov_extract [uy23, vy23, .bool false] _ rfl rfl) ?_
          refine wl_v rfl rfl (ov_assign _ rfl) ?_
          refine wl_v rfl rfl (ov_assign _ rfl) ?_
          refine wl_v rfl rfl (ov_assign _ rfl) ?_
          refine wl_nil ?_
          refine qn_then ?_
          refine wc_seq ?_
          refine wc_seq ?_
          refine wc_region ?_
          refine wl_v rfl rfl (ov_move _ rfl) ?_
          refine wl_v rfl rfl (ov_notb _ rfl) ?_
          refine wl_nil ?_
          refine qn_then ?_
          refine wc_cond_true rfl ?_
          refine wc_seq ?_
          refine wc_region ?_
          refine wl_v rfl rfl (ov_move _ rfl) ?_
          refine wl_v rfl rfl (ov_move _ rfl) ?_
          refine wl_v rfl rfl (ov_len _ _ _ _ _ rfl es22) ?_
          refine wl_v rfl rfl (ov_bin _ rfl rfl (binR_add (r := (((i : Nat) : Int)) + (((P.length : Nat) : Int))) (Sx.w64 (by omega)))) ?_
          refine wl_v rfl rfl (ov_assign _ rfl) ?_
          refine wl_v rfl rfl (ov_assign _ rfl) ?_
          refine wl_v rfl rfl (ov_assign _ rfl) ?_
          refine wl_nil ?_
          refine qn_then ?_
          refine wc_ret ?_
          refine qn_then_ret ?_
          refine qn_block_ret ?_
          refine qn_then_ret ?_
          refine qn_then_ret ?_
          refine qn_block_ret ?_
          refine qn_then_ret ?_
          replace h := st_selT [false, false, false, false, false, false] h
          refine qn_ret [_, _, _] ⟨rfl, rfl, rfl, trivial⟩ ?_
          refine ⟨_, _, ?_, .inr ⟨by decide, rfl, h⟩⟩
          exact .inr ⟨by unfold BadR; omega, .inr ⟨by omega, .inr ⟨hAll_, .inl ⟨i, by omega, hJ.2.2, hpy23, rfl, by omega⟩⟩⟩⟩
        ·
         refine wc_exit ?_
         refine qn_then_exit ?_
         refine qn_then_exit ?_
         refine qn_block_exit ?_
         refine qn_then ?_
         refine wc_seq ?_
         refine wc_region ?_
         refine wl_v rfl rfl (ov_move _ rfl) ?_
         refine wl_v rfl rfl (ov_assign _ rfl) ?_
         refine wl_v rfl rfl (ov_assign _ rfl) ?_
         refine wl_v rfl rfl (ov_assign _ rfl) ?_
         refine wl_nil ?_
         refine qn_then ?_
         refine wc_ret ?_
         refine qn_ret [_, _, _] ⟨rfl, rfl, rfl, trivial⟩ ?_
         have hWi_ : i = W.length := by omega
         have hKn_ := hJ.1
         have hAW_ := hJ.2.2
         rw [hWi_, List.take_length] at hKn_
         rw [hWi_] at hAW_
         refine ⟨0, 0, .inr ⟨by unfold BadR; omega, .inr ⟨by omega, .inr ⟨hAll_, .inr ⟨hAW_, rfl, rfl⟩⟩⟩⟩, .inl ⟨rfl, b10, ⟨A, c, gm9, NL, φ, HL, KL, HK⟩, rfl, ⟨hRel_, hKn_⟩, ?_⟩⟩
         exact st_pack (l := bookl b10 lf rt ⟨A, c, gm9, NL, φ, HL, KL, HK⟩) h
theorem Size_calls {w0 w : World} {F0 : Nat → Prop} {R : List Sx.HP} (g : Nat) (lf rt : Int) (D : BD) (hB : ∀ cs w, Sx.St w0 F0 (cs ++ R) w → BookAt w g lf rt D) (h : Sx.St w0 F0 ([] ++ R) w) : Calls Try.prog 12 #[.pointer (some ⟨g, 0, none⟩)] w (fun e w1 => e = .returned (.int .i64 (D.NL.length : Int)) ∧ Sx.St w0 F0 R w1) := by
 refine Sx.calls_fn (vs := [.pointer (some ⟨g, 0, none⟩)]) Try.func12 rfl Try.ntmps12 rfl ?_
 refine wc_seq ?_
 refine wc_region ?_
 refine wl_v rfl rfl (ov_assign _ rfl) ?_
 refine wl_nil ?_
 refine qn_then ?_
 refine wc_seq ?_
 refine wc_region ?_
 refine wl_v rfl rfl (ov_move _ rfl) ?_
 refine wl_v rfl rfl (ov_nilCheck _ rfl) ?_
 refine wl_v rfl rfl (ov_fieldAddr _ ⟨g, 0, none⟩ _ rfl fo55_0 rfl) ?_
 refine wl_v rfl rfl (ov_load1 ⟨g, 0, none⟩ _ rfl sh52 ((((hB [] _ h).cell) 0).trans rfl)) ?_
 refine wl_v rfl rfl (ov_len _ _ _ _ _ rfl es52) ?_
 refine wl_v rfl rfl (ov_assign _ rfl) ?_
 refine wl_nil ?_
 refine qn_then ?_
 refine wc_ret ?_
 refine qn_ret [_] ⟨rfl, trivial⟩ ?_
 exact ⟨rfl, h⟩
set_option maxHeartbeats 4000000 in
set_option maxRecDepth 100000 in
theorem book_calls {w0 w : World} {F0 : Nat → Prop} {R : List Sx.HP} (PA : Option Addr) (pc : Nat) (P : List ByteArray) (WA : Option Addr) (wc : Nat) (W : List ByteArray) (lf rt : Int) (hP : ∀ cs w, Sx.St w0 F0 (cs ++ R) w → Kd.string.C w PA P.length P) (hW : ∀ cs w, Sx.St w0 F0 (cs ++ R) w → Kd.string.C w WA W.length W) (hsP : ∀ x ∈ P, x.size ≤ 1000000000) (hsW : ∀ x ∈ W, x.size ≤ 1000000000) (hlP : P.length ≤ 1000000000000) (hlW : W.length ≤ 1000000000000) (h : Sx.St w0 F0 ([] ++ R) w) : Calls Try.prog 13 #[.agg #[.slice (PA) (P.length) (pc), .slice (WA) (W.length) (wc), .int .i64 (lf), .int .i64 (rt)]] w (fun e w1 => (¬ GoodL P W lf rt ∧ e = .returned (.pointer none) ∧ Sx.St w0 F0 R w1) ∨ (GoodL P W lf rt ∧ ∃ (g : Nat) (D : BD), e = .returned (.pointer (some ⟨g, 0, none⟩)) ∧ (Rel D.NL D.φ D.HL (treeV P) ∧ RelK D.KL D.HK (knV W)) ∧ Sx.St w0 F0 ([bookp g lf rt D] ++ R) w1)) := by
 refine Sx.calls_fn (vs := [.agg #[.slice (PA) (P.length) (pc), .slice (WA) (W.length) (wc), .int .i64 (lf), .int .i64 (rt)]]) Try.func13 rfl Try.ntmps13 rfl ?_
 refine wc_seq ?_
 refine wc_region ?_
 refine wl_box _ h rfl rfl rfl (fun b1 _ h => ?_)
 replace h : Sx.St _ _ (Sx.blk b1 [.slice (PA) (P.length) (pc), .slice (WA) (W.length) (wc), .int .i64 (lf), .int .i64 (rt)] 24 :: _) _ := h
 refine wl_v rfl rfl (ov_assign _ rfl) ?_
 refine wl_nil ?_
 refine qn_then ?_
 refine wc_seq ?_
 refine wc_seq ?_
 refine wc_region ?_
 refine wl_v rfl rfl (ov_fieldAddr _ ⟨b1, 0, none⟩ _ rfl fo24_0 rfl) ?_
 refine wl_v rfl rfl (ov_loadb 0 _ h rfl rfl sh22 rfl) ?_
 refine wl_v rfl rfl (ov_len _ _ _ _ _ rfl es22) ?_
 refine wl_v rfl rfl (ov_bin _ rfl rfl (binR_gtr)) ?_
 refine wl_v rfl rfl (ov_move _ rfl) ?_
 refine wl_split 12 rfl (fun c2 => ?_) (fun c2 => ?_)
 ·
  refine wl_skip rfl rfl ?_
  refine wl_skip rfl rfl ?_
  refine wl_skip rfl rfl ?_
  refine wl_skip rfl rfl ?_
  refine wl_v rfl rfl (ov_pick_true _ rfl rfl) ?_
  refine wl_nil ?_
  refine qn_then ?_
  refine wc_cond_true rfl ?_
  refine wc_seq ?_
  refine wc_region ?_
  refine wl_v rfl rfl (ov_assign _ rfl) ?_
  refine wl_nil ?_
  refine qn_then ?_
  refine wc_ret ?_
  refine qn_then_ret ?_
  replace h := st_selT [false] h
  refine qn_ret [_] ⟨rfl, trivial⟩ ?_
  refine .inl ⟨?_, rfl, h⟩
  intro hG_
  obtain ⟨q1_, q2_, q3_, q4_⟩ := hG_
  first
  | omega
  | (have q5_ := check_det h (show IsCheck P W lf rt 0 0 from .inr ⟨by unfold BadR; omega, .inr ⟨by omega, .inr ⟨q3_, .inr ⟨q4_, rfl, rfl⟩⟩⟩⟩); omega)
 ·
  refine wl_v rfl rfl (ov_fieldAddr _ ⟨b1, 1, none⟩ _ rfl fo24_1 rfl) ?_
  refine wl_v rfl rfl (ov_loadb 0 _ h rfl rfl sh22 rfl) ?_
  refine wl_v rfl rfl (ov_len _ _ _ _ _ rfl es22) ?_
  refine wl_v rfl rfl (ov_bin _ rfl rfl (binR_gtr)) ?_
  refine wl_v rfl rfl (ov_pick_false _ rfl rfl) ?_
  refine wl_nil ?_
  refine qn_then ?_
  refine wc_cond (by rfl) (fun c3 => ?_) (fun c3 => ?_)
  ·
   refine wc_seq ?_
   refine wc_region ?_
   refine wl_v rfl rfl (ov_assign _ rfl) ?_
   refine wl_nil ?_
   refine qn_then ?_
   refine wc_ret ?_
   refine qn_then_ret ?_
   replace h := st_selT [false] h
   refine qn_ret [_] ⟨rfl, trivial⟩ ?_
   refine .inl ⟨?_, rfl, h⟩
   intro hG_
   obtain ⟨q1_, q2_, q3_, q4_⟩ := hG_
   first
   | omega
   | (have q5_ := check_det h (show IsCheck P W lf rt 0 0 from .inr ⟨by unfold BadR; omega, .inr ⟨by omega, .inr ⟨q3_, .inr ⟨q4_, rfl, rfl⟩⟩⟩⟩); omega)
  ·
   refine wc_skip ?_
   refine qn_then ?_
   refine wc_seq ?_
   refine wc_seq ?_
   refine wc_region ?_
   refine wl_v rfl rfl (ov_fieldAddr _ ⟨b1, 0, none⟩ _ rfl fo24_0 rfl) ?_
   refine wl_v rfl rfl (ov_loadb 0 _ h rfl rfl sh22 rfl) ?_
   refine wl_v rfl rfl (ov_fieldAddr _ ⟨b1, 1, none⟩ _ rfl fo24_1 rfl) ?_
   refine wl_v rfl rfl (ov_loadb 0 _ h rfl rfl sh22 rfl) ?_
   refine wl_v rfl rfl (ov_fieldAddr _ ⟨b1, 2, none⟩ _ rfl fo24_2 rfl) ?_
   refine wl_v rfl rfl (ov_loadb 0 _ h rfl rfl sh3 rfl) ?_
   refine wl_v rfl rfl (ov_fieldAddr _ ⟨b1, 3, none⟩ _ rfl fo24_3 rfl) ?_
   refine wl_v rfl rfl (ov_loadb 0 _ h rfl rfl sh3 rfl) ?_
   refine wl_call _ rfl rfl rfl ent11 (BK.Check_calls (R := [Sx.blk b1 [.slice (PA) (P.length) (pc), .slice (WA) (W.length) (wc), .int .i64 (lf), .int .i64 (rt)] 24] ++ R) (PA) (pc) P (WA) (wc) W (lf) (rt) (Sx.en_shift (cs2 := [Sx.blk b1 [.slice (PA) (P.length) (pc), .slice (WA) (W.length) (wc), .int .i64 (lf), .int .i64 (rt)] 24]) hP) (Sx.en_shift (cs2 := [Sx.blk b1 [.slice (PA) (P.length) (pc), .slice (WA) (W.length) (wc), .int .i64 (lf), .int .i64 (rt)] 24]) hW) hsP hsW (by omega) (by omega) h) ?_
   rintro e_ w_ ⟨cdk4, plk4, rfl, hkk4, h⟩
   refine ⟨_, rfl, ?_⟩
   refine wl_v rfl rfl (ov_move _ rfl) ?_
   refine wl_v rfl rfl (ov_extract [.int .i64 (cdk4), .int .i64 (plk4)] _ rfl rfl) ?_
   refine wl_v rfl rfl (ov_extract [.int .i64 (cdk4), .int .i64 (plk4)] _ rfl rfl) ?_
   refine wl_v rfl rfl (ov_assign _ rfl) ?_
   refine wl_v rfl rfl (ov_assign _ rfl) ?_
   refine wl_nil ?_
   refine qn_then ?_
   refine wc_seq ?_
   refine wc_region ?_
   refine wl_v rfl rfl (ov_move _ rfl) ?_
   refine wl_v rfl rfl (ov_bin _ rfl rfl (binR_neq)) ?_
   refine wl_nil ?_
   refine qn_then ?_
   refine wc_cond (by rfl) (fun c5 => ?_) (fun c5 => ?_)
   ·
    refine wc_seq ?_
    refine wc_region ?_
    refine wl_v rfl rfl (ov_assign _ rfl) ?_
    refine wl_nil ?_
    refine qn_then ?_
    refine wc_ret ?_
    refine qn_then_ret ?_
    replace h := st_selT [false] h
    refine qn_ret [_] ⟨rfl, trivial⟩ ?_
    refine .inl ⟨?_, rfl, h⟩
    intro hG_
    obtain ⟨q1_, q2_, q3_, q4_⟩ := hG_
    first
    | omega
    | (have q5_ := check_det hkk4 (show IsCheck P W lf rt 0 0 from .inr ⟨by unfold BadR; omega, .inr ⟨by omega, .inr ⟨q3_, .inr ⟨q4_, rfl, rfl⟩⟩⟩⟩); omega)
   ·
    obtain rfl : cdk4 = 0 := by omega
    have hg_ := check_zero hkk4
    refine wc_skip ?_
    refine qn_then ?_
    refine wc_seq ?_
    refine wc_region ?_
    refine wl_v rfl rfl (ov_fieldAddr _ ⟨b1, 0, none⟩ _ rfl fo24_0 rfl) ?_
    refine wl_v rfl rfl (ov_loadb 0 _ h rfl rfl sh22 rfl) ?_
    refine wl_v rfl rfl (ov_fieldAddr _ ⟨b1, 1, none⟩ _ rfl fo24_1 rfl) ?_
    refine wl_v rfl rfl (ov_loadb 0 _ h rfl rfl sh22 rfl) ?_
    refine wl_v rfl rfl (ov_fieldAddr _ ⟨b1, 2, none⟩ _ rfl fo24_2 rfl) ?_
    refine wl_v rfl rfl (ov_loadb 0 _ h rfl rfl sh3 rfl) ?_
    refine wl_v rfl rfl (ov_fieldAddr _ ⟨b1, 3, none⟩ _ rfl fo24_3 rfl) ?_
    refine wl_v rfl rfl (ov_loadb 0 _ h rfl rfl sh3 rfl) ?_
    refine wl_call _ rfl rfl rfl ent10 (BK.New_calls (R := [Sx.blk b1 [.slice (PA) (P.length) (pc), .slice (WA) (W.length) (wc), .int .i64 (lf), .int .i64 (rt)] 24] ++ R) (PA) (pc) P (WA) (wc) W (lf) (rt) (Sx.en_shift (cs2 := [Sx.blk b1 [.slice (PA) (P.length) (pc), .slice (WA) (W.length) (wc), .int .i64 (lf), .int .i64 (rt)] 24]) hP) (Sx.en_shift (cs2 := [Sx.blk b1 [.slice (PA) (P.length) (pc), .slice (WA) (W.length) (wc), .int .i64 (lf), .int .i64 (rt)] 24]) hW) hsP hsW (by omega) (by omega) h) ?_
    rintro e_ w_ ⟨cdy6, ply6, hky6, (⟨hcy6, gy6, Dy6, rfl, hDy6, h⟩ | ⟨hcy6, rfl, h⟩)⟩
    ·
     replace h : Sx.St w0 F0 ([bookp gy6 (lf) (rt) Dy6, Sx.blk b1 [.slice (PA) (P.length) (pc), .slice (WA) (W.length) (wc), .int .i64 (lf), .int .i64 (rt)] 24] ++ R) _ := h
     refine ⟨_, rfl, ?_⟩
     refine wl_v rfl rfl (ov_move _ rfl) ?_
     refine wl_v rfl rfl (ov_extract [.pointer (some ⟨gy6, 0, none⟩), .int .i64 (0), .int .i64 (0)] _ rfl rfl) ?_
     refine wl_v rfl rfl (ov_extract [.pointer (some ⟨gy6, 0, none⟩), .int .i64 (0), .int .i64 (0)] _ rfl rfl) ?_
     refine wl_v rfl rfl (ov_extract [.pointer (some ⟨gy6, 0, none⟩), .int .i64 (0), .int .i64 (0)] _ rfl rfl) ?_
     refine wl_v rfl rfl (ov_assign _ rfl) ?_
     refine wl_v rfl rfl (ov_assign _ rfl) ?_
     refine wl_v rfl rfl (ov_assign _ rfl) ?_
     refine wl_nil ?_
     refine qn_then ?_
     refine wc_seq ?_
     refine wc_seq ?_
     refine wc_region ?_
     refine wl_v rfl rfl (ov_move _ rfl) ?_
     refine wl_v rfl rfl (ov_bin (.bool false) rfl rfl (binR_neq)) ?_
     refine wl_nil ?_
     refine qn_then ?_
     refine wc_cond_false rfl ?_
     refine wc_skip ?_
     refine qn_then ?_
     refine wc_seq ?_
     refine wc_region ?_
     refine wl_v rfl rfl (ov_move _ rfl) ?_
     refine wl_v rfl rfl (ov_assign _ rfl) ?_
     refine wl_nil ?_
     refine qn_then ?_
     refine wc_ret ?_
     replace h := st_selT [true, false] h
     refine qn_ret [_] ⟨rfl, trivial⟩ ?_
     exact .inr ⟨⟨by omega, by have q_ := hg_.1; unfold BadR at q_; omega, hg_.2.2.2.1, hg_.2.2.2.2⟩, gy6, Dy6, rfl, hDy6, h⟩
    ·
     refine ⟨_, rfl, ?_⟩
     refine wl_v rfl rfl (ov_move _ rfl) ?_
     refine wl_v rfl rfl (ov_extract [.pointer none, .int .i64 (cdy6), .int .i64 (ply6)] _ rfl rfl) ?_
     refine wl_v rfl rfl (ov_extract [.pointer none, .int .i64 (cdy6), .int .i64 (ply6)] _ rfl rfl) ?_
     refine wl_v rfl rfl (ov_extract [.pointer none, .int .i64 (cdy6), .int .i64 (ply6)] _ rfl rfl) ?_
     refine wl_v rfl rfl (ov_assign _ rfl) ?_
     refine wl_v rfl rfl (ov_assign _ rfl) ?_
     refine wl_v rfl rfl (ov_assign _ rfl) ?_
     refine wl_nil ?_
     refine qn_then ?_
     refine wc_seq ?_
     refine wc_seq ?_
     refine wc_region ?_
     refine wl_v rfl rfl (ov_move _ rfl) ?_
     refine wl_v rfl rfl (ov_bin _ rfl rfl (binR_neq)) ?_
     refine wl_nil ?_
     refine qn_then ?_
     refine wc_cond (by rfl) (fun c7 => ?_) (fun c7 => ?_)
     ·
      refine wc_seq ?_
      refine wc_region ?_
      refine wl_v rfl rfl (ov_assign _ rfl) ?_
      refine wl_nil ?_
      refine qn_then ?_
      refine wc_ret ?_
      refine qn_then_ret ?_
      replace h := st_selT [false] h
      refine qn_ret [_] ⟨rfl, trivial⟩ ?_
      refine .inl ⟨?_, rfl, h⟩
      intro hG_
      obtain ⟨q1_, q2_, q3_, q4_⟩ := hG_
      first
      | omega
      | (have q5_ := check_det hky6 (show IsCheck P W lf rt 0 0 from .inr ⟨by unfold BadR; omega, .inr ⟨by omega, .inr ⟨q3_, .inr ⟨q4_, rfl, rfl⟩⟩⟩⟩); omega)
     ·
      refine wc_skip ?_
      refine qn_then ?_
      refine wc_seq ?_
      refine wc_region ?_
      refine wl_v rfl rfl (ov_move _ rfl) ?_
      refine wl_v rfl rfl (ov_assign _ rfl) ?_
      refine wl_nil ?_
      refine qn_then ?_
      refine wc_ret ?_
      replace h := st_selT [false] h
      refine qn_ret [_] ⟨rfl, trivial⟩ ?_
      refine .inl ⟨?_, rfl, h⟩
      intro hG_
      obtain ⟨q1_, q2_, q3_, q4_⟩ := hG_
      first
      | omega
      | (have q5_ := check_det hky6 (show IsCheck P W lf rt 0 0 from .inr ⟨by unfold BadR; omega, .inr ⟨by omega, .inr ⟨q3_, .inr ⟨q4_, rfl, rfl⟩⟩⟩⟩); omega)
end Go.Proofs.Ytbeihfcjfkddcaa.BK
