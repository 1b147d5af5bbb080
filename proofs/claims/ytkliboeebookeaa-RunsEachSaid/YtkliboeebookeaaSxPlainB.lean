/- More walks of the plain answers. -/
import Derived.Test.YtkliboeebookeaaProg
import Derived.Test.YtkliboeebookeaaSxEq
import Derived.Test.YtkliboeebookeaaSxKinds
import Derived.Test.YtkliboeebookeaaRunsTh
import Derived.Test.YtkliboeebookeaaSxRuns
import Derived.Test.YtkliboeebookeaaSxRunsB
import Derived.Test.YtkliboeebookeaaSxRef
import Derived.Test.YtkliboeebookeaaSxPlain
namespace Go.Proofs.Ytkliboeebookeaa.Runs.E
open Go Go.RowKit Go.Proofs.YtkliboeebookeaaW.PrintWords Go.Proofs.Ytkliboeebookeaa.Kinds Go.Proofs.Ytkliboeebookeaa.Runs Go.Proofs.Ytkliboeebookeaa.Runs.B Go.Proofs.Ytkliboeebookeaa.Runs.C Go.Proofs.Ytkliboeebookeaa.Runs.D
set_option linter.unusedVariables false
set_option linter.unusedSimpArgs false
theorem zo28 : Sx.zeroOf Try.prog 28 = some (.agg #[.slice (none) (0) (0), .int .i64 (0)]) := by kernel_rfl
theorem sh28 : Sx.shapeOf Try.prog 28 = some (true, 2) := by kernel_rfl
theorem ent20 : Sx.Ent Try.prog 20 := ⟨Try.f20, Try.func20, by kernel_rfl, by kernel_rfl⟩
theorem ent35 : Sx.Ent Try.prog 35 := ⟨Try.f35, Try.func35, by kernel_rfl, by kernel_rfl⟩
theorem fo28_0 : Sx.fieldOff Try.prog 28 0 = some 0 := by kernel_rfl
theorem sh26 : Sx.shapeOf Try.prog 26 = some (false, 1) := by kernel_rfl
theorem es26 : Sx.elemSz Try.prog 26 = some (3, 1) := by kernel_rfl
theorem sh3 : Sx.shapeOf Try.prog 3 = some (false, 1) := by kernel_rfl
theorem ent41 : Sx.Ent Try.prog 41 := ⟨Try.f41, Try.func41, by kernel_rfl, by kernel_rfl⟩
theorem ent49 : Sx.Ent Try.prog 49 := ⟨Try.f49, Try.func49, by kernel_rfl, by kernel_rfl⟩
theorem fo28_1 : Sx.fieldOff Try.prog 28 1 = some 1 := by kernel_rfl
theorem infb3 : (Try.prog.info? 3).map (fun i => (i.zero, i.size)) = some (some (.int .i64 (0)), 1) := by kernel_rfl
theorem inf3 : (Try.prog.info? 3).map (fun i => (i.zero, i.size, i.bytes)) = some (some (.int .i64 (0)), 1, 8) := by kernel_rfl
theorem es33 : Sx.elemSz Try.prog 33 = some (66, 2) := by kernel_rfl
theorem fo66_0 : Sx.fieldOff Try.prog 66 0 = some 0 := by kernel_rfl
theorem fo66_1 : Sx.fieldOff Try.prog 66 1 = some 1 := by kernel_rfl
theorem szf3 : (Try.prog.info? 3).map (·.size) = some 1 := by kernel_rfl
theorem infb66 : (Try.prog.info? 66).map (fun i => (i.zero, i.size)) = some (some (.agg #[.int .i64 (0), .int .i64 (0)]), 2) := by kernel_rfl
theorem inf66 : (Try.prog.info? 66).map (fun i => (i.zero, i.size, i.bytes)) = some (some (.agg #[.int .i64 (0), .int .i64 (0)]), 2, 16) := by kernel_rfl
theorem sh66 : Sx.shapeOf Try.prog 66 = some (true, 2) := by kernel_rfl
theorem eqs66 : (Try.prog.stoodInHeld 66 || Try.prog.eqGuardType Try.prog.depth 66) = false := by kernel_rfl
theorem eqf66 : Try.prog.underlying 66 = some (.struct (Try.prog.fieldsOf 66)) := by kernel_rfl

theorem last_bnd (σ : List Int) (z : Rn) (hz : z.f0 = 0) : 0 ≤ ((runsOf σ).getD ((runsOf σ).length - 1) z).f0 ∧ ((runsOf σ).getD ((runsOf σ).length - 1) z).f0 ≤ σ.length := by
  by_cases hL : 0 < (runsOf σ).length
  · have hm := getD_mem (L := runsOf σ) (k := (runsOf σ).length - 1) (by omega) z
    have h2 := pos_runs σ _ hm
    have h3 := mem_lenR (pos_runs σ) hm
    rw [lenR_runs] at h3
    exact ⟨by omega, h3⟩
  · have : runsOf σ = [] := List.eq_nil_of_length_eq_zero (by omega)
    simp [this, hz]
def newL (n s : Int) : LS := if newE n s ≠ 0 then ⟨[], 0⟩ else ⟨List.replicate n.toNat s, s⟩

set_option maxRecDepth 100000 in
theorem rSet_calls {w0 w : World} {F0 : Nat → Prop} {R : List Sx.HP} (A : Option Addr) (c : Nat) (x : LS) (a b s : Int) (hx : x.st.length ≤ 65536) (h : Sx.St w0 F0 ([Sx.row (Kd.int .i64) 3 (A) (c) ((x).st)] ++ R) w) : Calls Try.prog 47 #[.agg #[.slice (A) (((x).st).length) (c), .int .i64 ((x).base)], .int .i64 (a), .int .i64 (b), .int .i64 (s)] w (fun e w1 => ∃ A2 c2, e = .returned (.tuple #[.agg #[.slice A2 (((setV x a b s).1).st).length c2, .int .i64 ((setV x a b s).1).base], .bool (setV x a b s).2.1, .int .i64 (setV x a b s).2.2]) ∧ Sx.St w0 F0 (Sx.row (Kd.int .i64) 3 A2 c2 ((setV x a b s).1).st :: R) w1) := by
 refine Sx.calls_fn (vs := [.agg #[.slice (A) (((x).st).length) (c), .int .i64 ((x).base)], .int .i64 (a), .int .i64 (b), .int .i64 (s)]) Try.func47 rfl Try.ntmps47 rfl ?_
 refine Sx.wc_seq ?_
 refine Sx.wc_region ?_
 refine Sx.wl_box _ h rfl rfl rfl (fun b1 _ h => ?_)
 replace h : Sx.St _ _ (Sx.blk b1 [.slice (A) (((x).st).length) (c), .int .i64 ((x).base)] 28 :: _) _ := h
 refine Sx.wl_alloc _ h rfl rfl zo28 (fun b2 _ h => ?_)
 replace h : Sx.St _ _ (Sx.blk b2 [.slice (none) (0) (0), .int .i64 (0)] 28 :: _) _ := h
 refine Sx.wl_v rfl rfl (Sx.ov_assign _ rfl) ?_
 refine Sx.wl_v rfl rfl (Sx.ov_assign _ rfl) ?_
 refine Sx.wl_nil ?_
 refine Sx.qn_then ?_
 refine Sx.wc_seq ?_
 refine Sx.wc_seq ?_
 refine Sx.wc_region ?_
 refine Sx.wl_v rfl rfl (Sx.ov_loadbN 1 [.slice (A) (((x).st).length) (c), .int .i64 ((x).base)] h rfl rfl sh28 rfl) ?_
 refine Sx.wl_v rfl rfl (Sx.ov_move _ rfl) ?_
 refine Sx.wl_v rfl rfl (Sx.ov_move _ rfl) ?_
 replace h := Sx.st_front 2 h
 refine Sx.wl_call _ rfl rfl rfl ent20 (rSpan_calls (R := [Sx.blk b2 [.slice (none) (0) (0), .int .i64 (0)] 28, Sx.blk b1 [.slice (A) (((x).st).length) (c), .int .i64 ((x).base)] 28] ++ R) (A) (c) x a b  h) ?_
 rintro e_ w_ ⟨rfl, h⟩
 refine ⟨_, rfl, ?_⟩
 refine Sx.wl_v rfl rfl (Sx.ov_assign _ rfl) ?_
 refine Sx.wl_nil ?_
 refine Sx.qn_then ?_
 refine Sx.wc_seq ?_
 refine Sx.wc_region ?_
 refine Sx.wl_v rfl rfl (Sx.ov_move _ rfl) ?_
 refine Sx.wl_v rfl rfl (Sx.ov_bin _ rfl rfl (Sx.binR_neq)) ?_
 refine Sx.wl_nil ?_
 refine Sx.qn_then ?_
 refine Sx.wc_cond (by rfl) (fun c3 => ?_) (fun c3 => ?_)
 ·
  refine Sx.wc_seq ?_
  refine Sx.wc_region ?_
  refine Sx.wl_v rfl rfl (Sx.ov_loadbN 2 [.slice (A) (((x).st).length) (c), .int .i64 ((x).base)] h rfl rfl sh28 rfl) ?_
  refine Sx.wl_v rfl rfl (Sx.ov_move _ rfl) ?_
  refine Sx.wl_storebN 1 [.slice (A) (((x).st).length) (c), .int .i64 ((x).base)] [.slice (A) (((x).st).length) (c), .int .i64 ((x).base)] h rfl rfl rfl rfl (by simp [Value.oneCell']) sh28 rfl rfl (fun _ h => ?_)
  refine Sx.wl_v rfl rfl (Sx.ov_assign _ rfl) ?_
  refine Sx.wl_v rfl rfl (Sx.ov_assign _ rfl) ?_
  refine Sx.wl_nil ?_
  refine Sx.qn_then ?_
  refine Sx.wc_ret ?_
  refine Sx.qn_then_ret ?_
  have hend_ := h
  replace h := Sx.st_selT [true, false, false] h
  refine Sx.qn_ret [_, _, _] ⟨⟨_, rfl, Sx.loadVarN (vs := [.slice (A) (((x).st).length) (c), .int .i64 ((x).base)]) sh28 (Sx.blk_cells (cells := [.slice (A) (((x).st).length) (c), .int .i64 ((x).base)]) hend_ (i := 1) rfl 0 _ rfl)⟩, rfl, rfl, trivial⟩ ?_
  have e_ : setV x a b s = (x, false, spanV x a b) := by unfold setV; rw [if_pos (by omega)]
  rw [e_]
  exact ⟨_, _, rfl, h⟩
 ·
  have hok := span_ok c3
  refine Sx.wc_skip ?_
  refine Sx.qn_then ?_
  refine Sx.wc_seq ?_
  refine Sx.wc_seq ?_
  refine Sx.wc_region ?_
  refine Sx.wl_v rfl rfl (Sx.ov_move _ rfl) ?_
  refine Sx.wl_call _ rfl rfl rfl ent35 (Style_calls (R := [Sx.row (Kd.int .i64) 3 (A) (c) ((x).st), Sx.blk b2 [.slice (none) (0) (0), .int .i64 (0)] 28, Sx.blk b1 [.slice (A) (((x).st).length) (c), .int .i64 ((x).base)] 28] ++ R) s h) ?_
  rintro e_ w_ ⟨rfl, h⟩
  refine ⟨_, rfl, ?_⟩
  refine Sx.wl_v rfl rfl (Sx.ov_not _ (¬ (styleP s)) rfl (by first | exact decide_not.symm | simp)) ?_
  refine Sx.wl_nil ?_
  refine Sx.qn_then ?_
  refine Sx.wc_cond (by rfl) (fun c4 => ?_) (fun c4 => ?_)
  ·
   refine Sx.wc_seq ?_
   refine Sx.wc_region ?_
   refine Sx.wl_v rfl rfl (Sx.ov_loadbN 2 [.slice (A) (((x).st).length) (c), .int .i64 ((x).base)] h rfl rfl sh28 rfl) ?_
   refine Sx.wl_storebN 1 [.slice (A) (((x).st).length) (c), .int .i64 ((x).base)] [.slice (A) (((x).st).length) (c), .int .i64 ((x).base)] h rfl rfl rfl rfl (by simp [Value.oneCell']) sh28 rfl rfl (fun _ h => ?_)
   refine Sx.wl_v rfl rfl (Sx.ov_assign _ rfl) ?_
   refine Sx.wl_v rfl rfl (Sx.ov_assign _ rfl) ?_
   refine Sx.wl_nil ?_
   refine Sx.qn_then ?_
   refine Sx.wc_ret ?_
   refine Sx.qn_then_ret ?_
   have hend_ := h
   replace h := Sx.st_selT [true, false, false] h
   refine Sx.qn_ret [_, _, _] ⟨⟨_, rfl, Sx.loadVarN (vs := [.slice (A) (((x).st).length) (c), .int .i64 ((x).base)]) sh28 (Sx.blk_cells (cells := [.slice (A) (((x).st).length) (c), .int .i64 ((x).base)]) hend_ (i := 1) rfl 0 _ rfl)⟩, rfl, rfl, trivial⟩ ?_
   have e_ : setV x a b s = (x, false, 43) := by unfold setV; rw [if_neg (by omega), if_pos (by omega)]
   rw [e_]
   exact ⟨_, _, rfl, h⟩
  ·
   refine Sx.wc_skip ?_
   refine Sx.qn_then ?_
   refine Sx.wc_seq ?_
   refine Sx.wc_region ?_
   refine Sx.wl_v rfl rfl (Sx.ov_assign _ rfl) ?_
   refine Sx.wl_nil ?_
   refine Sx.qn_then ?_
   refine Sx.wc_seq ?_
   refine Sx.wc_seq ?_
   refine Sx.wc_region ?_
   refine Sx.wl_v rfl rfl (Sx.ov_move _ rfl) ?_
   refine Sx.wl_v rfl rfl (Sx.ov_assign _ rfl) ?_
   refine Sx.wl_nil ?_
   refine Sx.qn_then ?_
   refine Sx.wc_block ?_
   replace h := Sx.st_front 1 h
   replace h := Sx.st_front 2 h
   refine Sx.wc_loop (fun (x_ : Int × (Option Addr)) => [(1, .int .i64 (a)), (2, .int .i64 (b)), (3, .int .i64 (s)), (4, .pointer (some ⟨b1, 0, none⟩)), (8, .pointer (some ⟨b2, 0, none⟩)), (12, .bool (((Runs.part x.st a.toNat x_.1.toNat).any (fun y => decide (y ≠ s))))), (13, .int .i64 (x_.1))]) (fun (x_ : Int × (Option Addr)) (w : World) => (a ≤ x_.1 ∧ x_.1 ≤ b) ∧ Sx.St w0 F0 ([Sx.blk b1 [.slice (x_.2) (((x).st).length) (c), .int .i64 ((x).base)] 28, Sx.blk b2 [.slice (none) (0) (0), .int .i64 (0)] 28, Sx.row (Kd.int .i64) 3 (x_.2) (c) ((x).st)] ++ R) w) (fun (x_ : Int × (Option Addr)) => (b - x_.1).toNat) (a, A) ?_ ?_ ?_
   · exact ⟨rfl, rfl, rfl, rfl, rfl, (congrArg (fun z_ => some (Value.bool z_)) (show false = (((Runs.part x.st a.toNat a.toNat).any (fun y => decide (y ≠ s)))) by simp [Runs.part])), rfl, trivial⟩
   · exact ⟨by first | omega | simp, h⟩
   rintro ⟨j, A⟩ w h
   obtain ⟨hJ, h⟩ := h
   replace hJ : a ≤ j ∧ j ≤ b := hJ
   replace h : Sx.St w0 F0 ([Sx.blk b1 [.slice (A) (((x).st).length) (c), .int .i64 ((x).base)] 28, Sx.blk b2 [.slice (none) (0) (0), .int .i64 (0)] 28, Sx.row (Kd.int .i64) 3 (A) (c) ((x).st)] ++ R) w := h
   show Sx.WC _ _ _ _ [(1, .int .i64 (a)), (2, .int .i64 (b)), (3, .int .i64 (s)), (4, .pointer (some ⟨b1, 0, none⟩)), (8, .pointer (some ⟨b2, 0, none⟩)), (12, .bool (((Runs.part x.st a.toNat j.toNat).any (fun y => decide (y ≠ s))))), (13, .int .i64 (j))] _
   refine Sx.wc_seq ?_
   refine Sx.wc_seq ?_
   refine Sx.wc_region ?_
   refine Sx.wl_v rfl rfl (Sx.ov_move _ rfl) ?_
   refine Sx.wl_v rfl rfl (Sx.ov_move _ rfl) ?_
   refine Sx.wl_v rfl rfl (Sx.ov_bin _ rfl rfl (Sx.binR_lss)) ?_
   refine Sx.wl_nil ?_
   refine Sx.qn_then ?_
   refine Sx.wc_cond (by rfl) (fun c5 => ?_) (fun c5 => ?_)
   ·
    have hj : j < b := by omega
    have han := any_next x.st a.toNat j.toNat s (by omega) (by omega)
    refine Sx.wc_skip ?_
    refine Sx.qn_then ?_
    refine Sx.wc_seq ?_
    refine Sx.wc_block ?_
    refine Sx.wc_region ?_
    refine Sx.wl_v rfl rfl (Sx.ov_move _ rfl) ?_
    refine Sx.wl_v rfl rfl (Sx.ov_move _ rfl) ?_
    refine Sx.wl_splitb 33 rfl (fun c6 => ?_) (fun c6 => ?_)
    ·
     refine Sx.wl_skip rfl rfl ?_
     refine Sx.wl_skip rfl rfl ?_
     refine Sx.wl_skip rfl rfl ?_
     refine Sx.wl_skip rfl rfl ?_
     refine Sx.wl_skip rfl rfl ?_
     refine Sx.wl_skip rfl rfl ?_
     refine Sx.wl_skip rfl rfl ?_
     refine Sx.wl_v rfl rfl (Sx.ov_pick_true _ rfl rfl) ?_
     refine Sx.wl_v rfl rfl (Sx.ov_assign _ rfl) ?_
     refine Sx.wl_nil ?_
     refine Sx.qn_block_normal ?_
     refine Sx.qn_then ?_
     refine Sx.wc_region ?_
     refine Sx.wl_v rfl rfl (Sx.ov_move _ rfl) ?_
     refine Sx.wl_v rfl rfl (Sx.ov_bin _ rfl rfl (Sx.binR_add (r := j + 1) (Sx.w64 (by omega)))) ?_
     refine Sx.wl_v rfl rfl (Sx.ov_assign _ rfl) ?_
     refine Sx.wl_nil ?_
     replace h := Sx.st_front 2 h
     replace h := Sx.st_front 2 h
     replace h := Sx.st_front 2 h
     refine Sx.qn_next ((j + 1), A) (by show (b - (j + 1)).toNat < (b - j).toNat; omega) ⟨rfl, rfl, rfl, rfl, rfl, (congrArg (fun z_ => some (Value.bool z_)) (show true = (((Runs.part x.st a.toNat (j + 1).toNat).any (fun y => decide (y ≠ s)))) by rw [show (j + 1).toNat = j.toNat + 1 by omega, han]; first | (rw [show ((Runs.part x.st a.toNat j.toNat).any (fun y => decide (y ≠ s))) = true by assumption]; rfl) | (rw [show ((Runs.part x.st a.toNat j.toNat).any (fun y => decide (y ≠ s))) = false by assumption]; simp))), (congrArg (fun z_ => some (Value.int .i64 z_)) (show (j + 1 : Int) = (j + 1) by omega)), trivial⟩ ?_
     show (a ≤ (j + 1) ∧ (j + 1) ≤ b) ∧ _
     exact ⟨by first | omega | simp, h⟩
    ·
     refine Sx.wl_v rfl rfl (Sx.ov_fieldAddr _ ⟨b1, 0, none⟩ _ rfl fo28_0 rfl) ?_
     refine Sx.wl_v rfl rfl (Sx.ov_loadb 0 _ h rfl rfl sh26 rfl) ?_
     refine Sx.wl_v rfl rfl (Sx.ov_move _ rfl) ?_
     obtain ⟨ad7, rfl⟩ := Sx.C_some ((Sx.row_reads h (i := 2) rfl).2) (k := (j : Int).toNat) (by first | assumption | omega)
     refine Sx.wl_v rfl rfl (Sx.ov_indexAddrN _ _ _ _ _ (j : Int).toNat rfl rfl es26 (by omega) (by first | assumption | omega | (simp only [List.length_take, List.length_drop, List.length_set]; omega))) ?_
     obtain ⟨cl10, _, hk9, hc8⟩ := Sx.C_cells ((Sx.row_reads h (i := 2) rfl).2) (z := (0 : Int)) (k := (j : Int).toNat) (by first | assumption | omega)
     obtain rfl : cl10 = [.int .i64 _] := hk9
     refine Sx.wl_v rfl rfl (Sx.ov_load1 _ _ rfl sh3 ((hc8 0 _ rfl))) ?_
     refine Sx.wl_v rfl rfl (Sx.ov_move _ rfl) ?_
     refine Sx.wl_v rfl rfl (Sx.ov_bin _ rfl rfl (Sx.binR_neq)) ?_
     refine Sx.wl_v rfl rfl (Sx.ov_pick_false _ rfl rfl) ?_
     refine Sx.wl_v rfl rfl (Sx.ov_assign _ rfl) ?_
     refine Sx.wl_nil ?_
     refine Sx.qn_block_normal ?_
     refine Sx.qn_then ?_
     refine Sx.wc_region ?_
     refine Sx.wl_v rfl rfl (Sx.ov_move _ rfl) ?_
     refine Sx.wl_v rfl rfl (Sx.ov_bin _ rfl rfl (Sx.binR_add (r := j + 1) (Sx.w64 (by omega)))) ?_
     refine Sx.wl_v rfl rfl (Sx.ov_assign _ rfl) ?_
     refine Sx.wl_nil ?_
     replace h := Sx.st_front 2 h
     replace h := Sx.st_front 2 h
     replace h := Sx.st_front 2 h
     refine Sx.qn_next ((j + 1), some ad7) (by show (b - (j + 1)).toNat < (b - j).toNat; omega) ⟨rfl, rfl, rfl, rfl, rfl, (congrArg (fun z_ => some (Value.bool z_)) (show (decide ((((x).st).getD (j : Int).toNat (0 : Int) : Int) ≠ s)) = (((Runs.part x.st a.toNat (j + 1).toNat).any (fun y => decide (y ≠ s)))) by rw [show (j + 1).toNat = j.toNat + 1 by omega, han]; first | (rw [show ((Runs.part x.st a.toNat j.toNat).any (fun y => decide (y ≠ s))) = true by assumption]; rfl) | (rw [show ((Runs.part x.st a.toNat j.toNat).any (fun y => decide (y ≠ s))) = false by assumption]; simp))), (congrArg (fun z_ => some (Value.int .i64 z_)) (show (j + 1 : Int) = (j + 1) by omega)), trivial⟩ ?_
     show (a ≤ (j + 1) ∧ (j + 1) ≤ b) ∧ _
     exact ⟨by first | omega | simp, h⟩
   ·
    refine Sx.wc_exit ?_
    refine Sx.qn_then_exit ?_
    refine Sx.qn_then_exit ?_
    refine Sx.qn_block_exit ?_
    refine Sx.qn_then ?_
    refine Sx.wc_seq ?_
    refine Sx.wc_draw (fun w => Sx.St w0 F0 ([Sx.blk b1 [.slice (A) (((x).st).length) (c), .int .i64 ((x).base)] 28, Sx.row (Kd.int .i64) 3 (A) (c) ((x).st)] ++ R) w) (by kernel_rfl) ?_
    replace h := Sx.st_drew h
    refine Sx.wa_tk 0 rfl rfl rfl (Sx.st_selT [true, false, true] h) (fun w_ hS => Sx.ov_fieldAddr _ ⟨b1, 0, none⟩ _ rfl fo28_0 rfl) ?_
    refine Sx.wa_tk 1 rfl rfl rfl (Sx.st_selT [true, false, true] h) (fun w_ hS => Sx.ov_loadb 0 _ hS rfl rfl sh26 rfl) ?_
    refine Sx.wa_tk 2 rfl rfl rfl (Sx.st_selT [true, false, true] h) (fun w_ hS => Sx.ov_move _ rfl) ?_
    have hcap11 := (Sx.row_reads h (i := 2) rfl).1
    obtain ⟨A12, hA13⟩ : ∃ A_, (if c = 0 then A else Option.map (·.add (0 * 1)) (A)) = A_ := ⟨_, rfl⟩
    refine Sx.wa_tk 3 rfl rfl rfl (Sx.st_selT [true, false, true] h) (fun w_ hS => by exact Sx.ov_slice _ _ _ 0 ((a : Int).toNat) (by rfl) (by exact rfl) (by exact ⟨_, _, rfl, (by omega)⟩) es26 (by omega) (by omega) hA13 (n' := ((((x).st).take ((a : Int).toNat)).drop 0).length) (by simp only [List.length_drop, List.length_take]; omega)) ?_
    refine Sx.wa_tk 4 rfl rfl rfl (Sx.st_selT [true, false, true] h) (fun w_ hS => Sx.ov_move _ rfl) ?_
    refine Sx.wa_tk 5 rfl rfl rfl (Sx.st_selT [true, false, true] h) (fun w_ hS => Sx.ov_move _ rfl) ?_
    refine Sx.wa_tk 6 rfl rfl rfl (Sx.st_selT [true, false, true] h) (fun w_ hS => Sx.ov_bin _ rfl rfl (Sx.binR_sub (r := b - a) (Sx.w64 (by omega)))) ?_
    refine Sx.wa_tk 7 rfl rfl rfl (Sx.st_selT [true, false, true] h) (fun w_ hS => Sx.ov_move _ rfl) ?_
    refine Sx.wa_tk 9 rfl rfl rfl (Sx.st_selT [true, false, true] h) (fun w_ hS => Sx.ov_fieldAddr _ ⟨b1, 0, none⟩ _ rfl fo28_0 rfl) ?_
    refine Sx.wa_tk 10 rfl rfl rfl (Sx.st_selT [true, false, true] h) (fun w_ hS => Sx.ov_loadb 0 _ hS rfl rfl sh26 rfl) ?_
    refine Sx.wa_tk 11 rfl rfl rfl (Sx.st_selT [true, false, true] h) (fun w_ hS => Sx.ov_move _ rfl) ?_
    have hcap14 := (Sx.row_reads h (i := 2) rfl).1
    obtain ⟨A15, hA16⟩ : ∃ A_, (if c = ((b : Int).toNat) then A else Option.map (·.add (((b : Int).toNat) * 1)) (A)) = A_ := ⟨_, rfl⟩
    refine Sx.wa_tk 12 rfl rfl rfl (Sx.st_selT [true, false, true] h) (fun w_ hS => by exact Sx.ov_slice _ _ _ ((b : Int).toNat) (((x).st).length) (by rfl) (by exact ⟨_, _, rfl, (by omega)⟩) (by exact rfl) es26 (by omega) (by omega) hA16 (n' := ((((x).st).take (((x).st).length)).drop ((b : Int).toNat)).length) (by simp only [List.length_drop, List.length_take]; omega)) ?_
    refine Sx.wa_tk 14 rfl rfl rfl (Sx.st_selT [true, false, true] h) (fun w_ hS => Sx.ov_fieldAddr _ ⟨b1, 1, none⟩ _ rfl fo28_1 rfl) ?_
    refine Sx.wa_tk 15 rfl rfl rfl (Sx.st_selT [true, false, true] h) (fun w_ hS => Sx.ov_loadb 0 _ hS rfl rfl sh3 rfl) ?_
    refine Sx.wa_tk 17 rfl rfl rfl (Sx.st_selT [true, false, true] h) (fun w_ hS => Sx.ov_move _ rfl) ?_
    refine Sx.wa_one 8 rfl (by kernel_rfl) ?_
    refine Sx.wl_call _ rfl rfl rfl ent41 (Many_calls (R := [Sx.blk b1 [.slice (A) (((x).st).length) (c), .int .i64 ((x).base)] 28, Sx.blk b2 [.slice (none) (0) (0), .int .i64 (0)] 28, Sx.row (Kd.int .i64) 3 (A) (c) ((x).st)] ++ R) (b - a) s (by omega) (by omega) h) ?_
    rintro e_ w_ ⟨A17, cp18, rfl, h⟩
    refine ⟨_, rfl, ?_⟩
    refine Sx.wl_nil ?_
    refine Sx.qn_wa (Sx.st_selT [false, true, false, true] h) ?_
    refine Sx.wa_one 13 rfl (by kernel_rfl) ?_
    refine Sx.wl_call _ rfl rfl rfl ent49 (three_calls (R := [Sx.row (Kd.int .i64) 3 (A17) (cp18) (List.replicate ((b - a) : Int).toNat s), Sx.blk b1 [.slice (A) (((x).st).length) (c), .int .i64 ((x).base)] 28, Sx.blk b2 [.slice (none) (0) (0), .int .i64 (0)] 28, Sx.row (Kd.int .i64) 3 (A) (c) ((x).st)] ++ R) ((((x).st).take ((a : Int).toNat)).drop 0) (List.replicate ((b - a) : Int).toNat s) ((((x).st).take (((x).st).length)).drop ((b : Int).toNat)) (A12) (A17) (A15) (c - 0) (cp18) (c - ((b : Int).toNat)) (by simp only [List.length_cons, List.length_nil, List.length_append, List.length_take, List.length_drop, List.length_replicate]; omega) (fun cs_ w_ h_ => Sx.mid_C (lo := 0) (hi := ((a : Int).toNat)) (by omega) (by omega) hcap11 hA13 ((Sx.row_reads_at (R := [Sx.row (Kd.int .i64) 3 (A17) (cp18) (List.replicate ((b - a) : Int).toNat s), Sx.blk b1 [.slice (A) (((x).st).length) (c), .int .i64 ((x).base)] 28, Sx.blk b2 [.slice (none) (0) (0), .int .i64 (0)] 28, Sx.row (Kd.int .i64) 3 (A) (c) ((x).st)] ++ R) (j := 3) rfl) cs_ w_ h_)) (Sx.row_reads_at (R := [Sx.row (Kd.int .i64) 3 (A17) (cp18) (List.replicate ((b - a) : Int).toNat s), Sx.blk b1 [.slice (A) (((x).st).length) (c), .int .i64 ((x).base)] 28, Sx.blk b2 [.slice (none) (0) (0), .int .i64 (0)] 28, Sx.row (Kd.int .i64) 3 (A) (c) ((x).st)] ++ R) (j := 0) rfl) (fun cs_ w_ h_ => Sx.mid_C (lo := ((b : Int).toNat)) (hi := (((x).st).length)) (by omega) (by omega) hcap14 hA16 ((Sx.row_reads_at (R := [Sx.row (Kd.int .i64) 3 (A17) (cp18) (List.replicate ((b - a) : Int).toNat s), Sx.blk b1 [.slice (A) (((x).st).length) (c), .int .i64 ((x).base)] 28, Sx.blk b2 [.slice (none) (0) (0), .int .i64 (0)] 28, Sx.row (Kd.int .i64) 3 (A) (c) ((x).st)] ++ R) (j := 3) rfl) cs_ w_ h_)) h) ?_
    rintro e_ w_ ⟨A19, cp20, rfl, h⟩
    refine ⟨_, rfl, ?_⟩
    refine Sx.wl_nil ?_
    refine Sx.qn_wa (Sx.st_selT [false, false, true, false, true] h) ?_
    refine Sx.wa_tk 16 rfl rfl rfl (Sx.st_selT [false, false, true, false, true] h) (fun w_ hS => Sx.ov_build [(0, .slice (A19) ((((((x).st).take ((a : Int).toNat)).drop 0) ++ (List.replicate ((b - a) : Int).toNat s) ++ ((((x).st).take (((x).st).length)).drop ((b : Int).toNat))).length) (cp20)), (1, .int .i64 ((x).base))] [.slice (A19) ((((((x).st).take ((a : Int).toNat)).drop 0) ++ (List.replicate ((b - a) : Int).toNat s) ++ ((((x).st).take (((x).st).length)).drop ((b : Int).toNat))).length) (cp20), .int .i64 ((x).base)] rfl rfl (by kernel_rfl)) ?_
    refine Sx.wa_one 18 rfl (by kernel_rfl) ?_
    refine Sx.wl_storebN 3 [.slice (A19) ((((((x).st).take ((a : Int).toNat)).drop 0) ++ (List.replicate ((b - a) : Int).toNat s) ++ ((((x).st).take (((x).st).length)).drop ((b : Int).toNat))).length) (cp20), .int .i64 ((x).base)] [.slice (A19) ((((((x).st).take ((a : Int).toNat)).drop 0) ++ (List.replicate ((b - a) : Int).toNat s) ++ ((((x).st).take (((x).st).length)).drop ((b : Int).toNat))).length) (cp20), .int .i64 ((x).base)] h rfl rfl rfl rfl (by simp [Value.oneCell']) sh28 rfl rfl (fun _ h => ?_)
    refine Sx.wl_nil ?_
    refine Sx.qn_wa (Sx.st_selT [false, false, true, false, true] h) ?_
    refine Sx.wa_tk 19 rfl rfl rfl (Sx.st_selT [false, false, true, false, true] h) (fun w_ hS => Sx.ov_assign _ rfl) ?_
    refine Sx.wa_tk 20 rfl rfl rfl (Sx.st_selT [false, false, true, false, true] h) (fun w_ hS => Sx.ov_assign _ rfl) ?_
    refine Sx.wa_done (by kernel_rfl) ?_
    refine Sx.qn_then ?_
    refine Sx.wc_ret ?_
    have hend_ := h
    have e_ : ((((x).st).take ((a : Int).toNat)).drop 0) ++ (List.replicate ((b - a) : Int).toNat s) ++ ((((x).st).take (((x).st).length)).drop ((b : Int).toNat)) = x.st.take a.toNat ++ List.replicate (b - a).toNat s ++ x.st.drop b.toNat := by simp
    replace h := Sx.st_cast (congrArg (fun z_ => ([Sx.row (Kd.int .i64) 3 (A19) (cp20) (z_), Sx.row (Kd.int .i64) 3 (A17) (cp18) (List.replicate ((b - a) : Int).toNat s), Sx.blk b1 [.slice (A) (((x).st).length) (c), .int .i64 ((x).base)] 28, Sx.blk b2 [.slice (A19) ((((((x).st).take ((a : Int).toNat)).drop 0) ++ (List.replicate ((b - a) : Int).toNat s) ++ ((((x).st).take (((x).st).length)).drop ((b : Int).toNat))).length) (cp20), .int .i64 ((x).base)] 28, Sx.row (Kd.int .i64) 3 (A) (c) ((x).st)] ++ R)) e_) h
    clear e_
    replace h := Sx.st_selT [true, false, false, false, false] h
    refine Sx.qn_ret [_, _, _] ⟨⟨_, rfl, Sx.loadVarN (vs := [.slice (A19) ((((((x).st).take ((a : Int).toNat)).drop 0) ++ (List.replicate ((b - a) : Int).toNat s) ++ ((((x).st).take (((x).st).length)).drop ((b : Int).toNat))).length) (cp20), .int .i64 ((x).base)]) sh28 (Sx.blk_cells (cells := [.slice (A19) ((((((x).st).take ((a : Int).toNat)).drop 0) ++ (List.replicate ((b - a) : Int).toNat s) ++ ((((x).st).take (((x).st).length)).drop ((b : Int).toNat))).length) (cp20), .int .i64 ((x).base)]) hend_ (i := 3) rfl 0 _ rfl)⟩, rfl, rfl, trivial⟩ ?_
    have e_ : setV x a b s = (⟨x.st.take a.toNat ++ List.replicate (b - a).toNat s ++ x.st.drop b.toNat, x.base⟩, (((Runs.part x.st a.toNat j.toNat).any (fun y => decide (y ≠ s)))), 0) := by unfold setV; rw [if_neg (by omega), if_neg (by omega), show j = b by omega]
    rw [e_]
    refine ⟨_, _, ?_, h⟩
    exact congrArg (fun z => Ending.returned (Value.tuple #[Value.agg #[Value.slice A19 z cp20, .int .i64 ((x).base)], .bool (((Runs.part x.st a.toNat j.toNat).any (fun y => decide (y ≠ s)))), .int .i64 (0)])) (by first | rfl | simp)
set_option maxRecDepth 100000 in
theorem rNew_calls {w0 w : World} {F0 : Nat → Prop} {R : List Sx.HP} (n s : Int)  (h : Sx.St w0 F0 ([] ++ R) w) : Calls Try.prog 22 #[.int .i64 (n), .int .i64 (s)] w (fun e w1 => ∃ A2 c2, e = .returned (.tuple #[.agg #[.slice A2 ((newL n s).st).length c2, .int .i64 (newL n s).base], .int .i64 (newE n s)]) ∧ Sx.St w0 F0 (Sx.row (Kd.int .i64) 3 A2 c2 (newL n s).st :: R) w1) := by
 refine Sx.calls_fn (vs := [.int .i64 (n), .int .i64 (s)]) Try.func22 rfl Try.ntmps22 rfl ?_
 refine Sx.wc_seq ?_
 refine Sx.wc_region ?_
 refine Sx.wl_alloc _ h rfl rfl zo28 (fun b1 _ h => ?_)
 replace h : Sx.St _ _ (Sx.blk b1 [.slice (none) (0) (0), .int .i64 (0)] 28 :: _) _ := h
 refine Sx.wl_v rfl rfl (Sx.ov_assign _ rfl) ?_
 refine Sx.wl_nil ?_
 refine Sx.qn_then ?_
 refine Sx.wc_seq ?_
 refine Sx.wc_seq ?_
 refine Sx.wc_region ?_
 refine Sx.wl_v rfl rfl (Sx.ov_move _ rfl) ?_
 refine Sx.wl_v rfl rfl (Sx.ov_bin _ rfl rfl (Sx.binR_lss)) ?_
 refine Sx.wl_v rfl rfl (Sx.ov_move _ rfl) ?_
 refine Sx.wl_split 8 rfl (fun c2 => ?_) (fun c2 => ?_)
 ·
  refine Sx.wl_skip rfl rfl ?_
  refine Sx.wl_skip rfl rfl ?_
  refine Sx.wl_v rfl rfl (Sx.ov_pick_true _ rfl rfl) ?_
  refine Sx.wl_nil ?_
  refine Sx.qn_then ?_
  refine Sx.wc_cond_true rfl ?_
  refine Sx.wc_seq ?_
  refine Sx.wc_region ?_
  refine Sx.wl_v rfl rfl (Sx.ov_build [] [.slice (none) (0) (0), .int .i64 (0)] rfl rfl (by kernel_rfl)) ?_
  refine Sx.wl_storebN 0 [.slice (none) (0) (0), .int .i64 (0)] [.slice (none) (0) (0), .int .i64 (0)] h rfl rfl rfl rfl (by simp [Value.oneCell']) sh28 rfl rfl (fun _ h => ?_)
  refine Sx.wl_v rfl rfl (Sx.ov_assign _ rfl) ?_
  refine Sx.wl_nil ?_
  refine Sx.qn_then ?_
  refine Sx.wc_ret ?_
  refine Sx.qn_then_ret ?_
  have hend_ := h
  replace h := Sx.st_nilrow (Kd.int .i64) 3 h
  replace h := Sx.st_selT [true, false] h
  refine Sx.qn_ret [_, _] ⟨⟨_, rfl, Sx.loadVarN (vs := [.slice (none) (0) (0), .int .i64 (0)]) sh28 (Sx.blk_cells (cells := [.slice (none) (0) (0), .int .i64 (0)]) hend_ (i := 0) rfl 0 _ rfl)⟩, rfl, trivial⟩ ?_
  have e_ : newE n s = 1 := by unfold newE; rw [if_pos (by omega)]
  have e2_ : newL n s = ⟨[], 0⟩ := by unfold newL; rw [if_pos (by rw [e_]; decide)]
  rw [e2_, e_]
  exact ⟨_, _, rfl, h⟩
 ·
  refine Sx.wl_v rfl rfl (Sx.ov_move _ rfl) ?_
  refine Sx.wl_v rfl rfl (Sx.ov_bin _ rfl rfl (Sx.binR_gtr)) ?_
  refine Sx.wl_v rfl rfl (Sx.ov_pick_false _ rfl rfl) ?_
  refine Sx.wl_nil ?_
  refine Sx.qn_then ?_
  refine Sx.wc_cond (by rfl) (fun c3 => ?_) (fun c3 => ?_)
  ·
   refine Sx.wc_seq ?_
   refine Sx.wc_region ?_
   refine Sx.wl_v rfl rfl (Sx.ov_build [] [.slice (none) (0) (0), .int .i64 (0)] rfl rfl (by kernel_rfl)) ?_
   refine Sx.wl_storebN 0 [.slice (none) (0) (0), .int .i64 (0)] [.slice (none) (0) (0), .int .i64 (0)] h rfl rfl rfl rfl (by simp [Value.oneCell']) sh28 rfl rfl (fun _ h => ?_)
   refine Sx.wl_v rfl rfl (Sx.ov_assign _ rfl) ?_
   refine Sx.wl_nil ?_
   refine Sx.qn_then ?_
   refine Sx.wc_ret ?_
   refine Sx.qn_then_ret ?_
   have hend_ := h
   replace h := Sx.st_nilrow (Kd.int .i64) 3 h
   replace h := Sx.st_selT [true, false] h
   refine Sx.qn_ret [_, _] ⟨⟨_, rfl, Sx.loadVarN (vs := [.slice (none) (0) (0), .int .i64 (0)]) sh28 (Sx.blk_cells (cells := [.slice (none) (0) (0), .int .i64 (0)]) hend_ (i := 0) rfl 0 _ rfl)⟩, rfl, trivial⟩ ?_
   have e_ : newE n s = 1 := by unfold newE; rw [if_pos (by omega)]
   have e2_ : newL n s = ⟨[], 0⟩ := by unfold newL; rw [if_pos (by rw [e_]; decide)]
   rw [e2_, e_]
   exact ⟨_, _, rfl, h⟩
  ·
   refine Sx.wc_skip ?_
   refine Sx.qn_then ?_
   refine Sx.wc_seq ?_
   refine Sx.wc_seq ?_
   refine Sx.wc_region ?_
   refine Sx.wl_v rfl rfl (Sx.ov_move _ rfl) ?_
   refine Sx.wl_call _ rfl rfl rfl ent35 (Style_calls (R := [Sx.blk b1 [.slice (none) (0) (0), .int .i64 (0)] 28] ++ R) s h) ?_
   rintro e_ w_ ⟨rfl, h⟩
   refine ⟨_, rfl, ?_⟩
   refine Sx.wl_v rfl rfl (Sx.ov_not _ (¬ (styleP s)) rfl (by first | exact decide_not.symm | simp)) ?_
   refine Sx.wl_nil ?_
   refine Sx.qn_then ?_
   refine Sx.wc_cond (by rfl) (fun c4 => ?_) (fun c4 => ?_)
   ·
    refine Sx.wc_seq ?_
    refine Sx.wc_region ?_
    refine Sx.wl_v rfl rfl (Sx.ov_build [] [.slice (none) (0) (0), .int .i64 (0)] rfl rfl (by kernel_rfl)) ?_
    refine Sx.wl_storebN 0 [.slice (none) (0) (0), .int .i64 (0)] [.slice (none) (0) (0), .int .i64 (0)] h rfl rfl rfl rfl (by simp [Value.oneCell']) sh28 rfl rfl (fun _ h => ?_)
    refine Sx.wl_v rfl rfl (Sx.ov_assign _ rfl) ?_
    refine Sx.wl_nil ?_
    refine Sx.qn_then ?_
    refine Sx.wc_ret ?_
    refine Sx.qn_then_ret ?_
    have hend_ := h
    replace h := Sx.st_nilrow (Kd.int .i64) 3 h
    replace h := Sx.st_selT [true, false] h
    refine Sx.qn_ret [_, _] ⟨⟨_, rfl, Sx.loadVarN (vs := [.slice (none) (0) (0), .int .i64 (0)]) sh28 (Sx.blk_cells (cells := [.slice (none) (0) (0), .int .i64 (0)]) hend_ (i := 0) rfl 0 _ rfl)⟩, rfl, trivial⟩ ?_
    have e_ : newE n s = 43 := by unfold newE; rw [if_neg (by omega), if_pos (by omega)]
    have e2_ : newL n s = ⟨[], 0⟩ := by unfold newL; rw [if_pos (by rw [e_]; decide)]
    rw [e2_, e_]
    exact ⟨_, _, rfl, h⟩
   ·
    refine Sx.wc_skip ?_
    refine Sx.qn_then ?_
    refine Sx.wc_seq ?_
    refine Sx.wc_region ?_
    refine Sx.wl_v rfl rfl (Sx.ov_move _ rfl) ?_
    refine Sx.wl_v rfl rfl (Sx.ov_move _ rfl) ?_
    refine Sx.wl_call _ rfl rfl rfl ent41 (Many_calls (R := [Sx.blk b1 [.slice (none) (0) (0), .int .i64 (0)] 28] ++ R) n s (by omega) (by omega) h) ?_
    rintro e_ w_ ⟨A5, cp6, rfl, h⟩
    refine ⟨_, rfl, ?_⟩
    refine Sx.wl_v rfl rfl (Sx.ov_move _ rfl) ?_
    refine Sx.wl_v rfl rfl (Sx.ov_build [(0, .slice (A5) ((List.replicate (n : Int).toNat s).length) (cp6)), (1, .int .i64 (s))] [.slice (A5) ((List.replicate (n : Int).toNat s).length) (cp6), .int .i64 (s)] rfl rfl (by kernel_rfl)) ?_
    refine Sx.wl_storebN 1 [.slice (A5) ((List.replicate (n : Int).toNat s).length) (cp6), .int .i64 (s)] [.slice (A5) ((List.replicate (n : Int).toNat s).length) (cp6), .int .i64 (s)] h rfl rfl rfl rfl (by simp [Value.oneCell']) sh28 rfl rfl (fun _ h => ?_)
    refine Sx.wl_v rfl rfl (Sx.ov_assign _ rfl) ?_
    refine Sx.wl_nil ?_
    refine Sx.qn_then ?_
    refine Sx.wc_ret ?_
    have hend_ := h
    replace h := Sx.st_selT [true, false] h
    refine Sx.qn_ret [_, _] ⟨⟨_, rfl, Sx.loadVarN (vs := [.slice (A5) ((List.replicate (n : Int).toNat s).length) (cp6), .int .i64 (s)]) sh28 (Sx.blk_cells (cells := [.slice (A5) ((List.replicate (n : Int).toNat s).length) (cp6), .int .i64 (s)]) hend_ (i := 1) rfl 0 _ rfl)⟩, rfl, trivial⟩ ?_
    have e_ : newE n s = 0 := by unfold newE; rw [if_neg (by omega), if_neg (by omega)]
    have e2_ : newL n s = ⟨List.replicate n.toNat s, s⟩ := by unfold newL; rw [if_neg (by rw [e_]; decide)]
    rw [e2_, e_]
    exact ⟨_, _, rfl, h⟩
set_option maxRecDepth 100000 in
theorem rLay_calls {w0 w : World} {F0 : Nat → Prop} {R : List Sx.HP} (A : Option Addr) (c : Nat) (x : LS) (i : Int) (l : List Rn) (Al : Option Addr) (cl : Nat) (hx : x.st.length ≤ 65536) (hr : ∀ cs w, Sx.St w0 F0 (cs ++ R) w → k66.C w Al l.length l) (hll : l.length ≤ 1099511627776) (h : Sx.St w0 F0 ([Sx.row (Kd.int .i64) 3 (A) (c) ((x).st)] ++ R) w) : Calls Try.prog 48 #[.agg #[.slice (A) (((x).st).length) (c), .int .i64 ((x).base)], .int .i64 (i), .slice (Al) (l.length) (cl)] w (fun e w1 => ∃ A2 c2, e = .returned (.tuple #[.agg #[.slice A2 (((layV x i l).1).st).length c2, .int .i64 ((layV x i l).1).base], .int .i64 (layV x i l).2]) ∧ Sx.St w0 F0 (Sx.row (Kd.int .i64) 3 A2 c2 ((layV x i l).1).st :: R) w1) := by
 refine Sx.calls_fn (vs := [.agg #[.slice (A) (((x).st).length) (c), .int .i64 ((x).base)], .int .i64 (i), .slice (Al) (l.length) (cl)]) Try.func48 rfl Try.ntmps48 rfl ?_
 refine Sx.wc_seq ?_
 refine Sx.wc_region ?_
 refine Sx.wl_box _ h rfl rfl rfl (fun b1 _ h => ?_)
 replace h : Sx.St _ _ (Sx.blk b1 [.slice (A) (((x).st).length) (c), .int .i64 ((x).base)] 28 :: _) _ := h
 refine Sx.wl_alloc _ h rfl rfl zo28 (fun b2 _ h => ?_)
 replace h : Sx.St _ _ (Sx.blk b2 [.slice (none) (0) (0), .int .i64 (0)] 28 :: _) _ := h
 refine Sx.wl_v rfl rfl (Sx.ov_assign _ rfl) ?_
 refine Sx.wl_nil ?_
 refine Sx.qn_then ?_
 refine Sx.wc_seq ?_
 refine Sx.wc_seq ?_
 refine Sx.wc_region ?_
 refine Sx.wl_v rfl rfl (Sx.ov_move _ rfl) ?_
 refine Sx.wl_v rfl rfl (Sx.ov_bin _ rfl rfl (Sx.binR_lss)) ?_
 refine Sx.wl_v rfl rfl (Sx.ov_move _ rfl) ?_
 refine Sx.wl_split 14 rfl (fun c3 => ?_) (fun c3 => ?_)
 ·
  refine Sx.wl_skip rfl rfl ?_
  refine Sx.wl_skip rfl rfl ?_
  refine Sx.wl_skip rfl rfl ?_
  refine Sx.wl_skip rfl rfl ?_
  refine Sx.wl_skip rfl rfl ?_
  refine Sx.wl_v rfl rfl (Sx.ov_pick_true _ rfl rfl) ?_
  refine Sx.wl_nil ?_
  refine Sx.qn_then ?_
  refine Sx.wc_cond_true rfl ?_
  refine Sx.wc_seq ?_
  refine Sx.wc_region ?_
  refine Sx.wl_v rfl rfl (Sx.ov_loadbN 1 [.slice (A) (((x).st).length) (c), .int .i64 ((x).base)] h rfl rfl sh28 rfl) ?_
  refine Sx.wl_storebN 0 [.slice (A) (((x).st).length) (c), .int .i64 ((x).base)] [.slice (A) (((x).st).length) (c), .int .i64 ((x).base)] h rfl rfl rfl rfl (by simp [Value.oneCell']) sh28 rfl rfl (fun _ h => ?_)
  refine Sx.wl_v rfl rfl (Sx.ov_assign _ rfl) ?_
  refine Sx.wl_nil ?_
  refine Sx.qn_then ?_
  refine Sx.wc_ret ?_
  refine Sx.qn_then_ret ?_
  have hend_ := h
  replace h := Sx.st_front 2 h
  replace h := Sx.st_selT [true, false, false] h
  refine Sx.qn_ret [_, _] ⟨⟨_, rfl, Sx.loadVarN (vs := [.slice (A) (((x).st).length) (c), .int .i64 ((x).base)]) sh28 (Sx.blk_cells (cells := [.slice (A) (((x).st).length) (c), .int .i64 ((x).base)]) hend_ (i := 0) rfl 0 _ rfl)⟩, rfl, trivial⟩ ?_
  have e_ : layV x i l = (x, 30) := by unfold layV; rw [if_pos (by omega)]
  rw [e_]
  exact ⟨_, _, rfl, h⟩
 ·
  refine Sx.wl_v rfl rfl (Sx.ov_move _ rfl) ?_
  refine Sx.wl_v rfl rfl (Sx.ov_fieldAddr _ ⟨b1, 0, none⟩ _ rfl fo28_0 rfl) ?_
  refine Sx.wl_v rfl rfl (Sx.ov_loadb 1 _ h rfl rfl sh26 rfl) ?_
  refine Sx.wl_v rfl rfl (Sx.ov_len _ _ _ _ _ rfl es26) ?_
  refine Sx.wl_v rfl rfl (Sx.ov_bin _ rfl rfl (Sx.binR_gtr)) ?_
  refine Sx.wl_v rfl rfl (Sx.ov_pick_false _ rfl rfl) ?_
  refine Sx.wl_nil ?_
  refine Sx.qn_then ?_
  refine Sx.wc_cond (by rfl) (fun c4 => ?_) (fun c4 => ?_)
  ·
   refine Sx.wc_seq ?_
   refine Sx.wc_region ?_
   refine Sx.wl_v rfl rfl (Sx.ov_loadbN 1 [.slice (A) (((x).st).length) (c), .int .i64 ((x).base)] h rfl rfl sh28 rfl) ?_
   refine Sx.wl_storebN 0 [.slice (A) (((x).st).length) (c), .int .i64 ((x).base)] [.slice (A) (((x).st).length) (c), .int .i64 ((x).base)] h rfl rfl rfl rfl (by simp [Value.oneCell']) sh28 rfl rfl (fun _ h => ?_)
   refine Sx.wl_v rfl rfl (Sx.ov_assign _ rfl) ?_
   refine Sx.wl_nil ?_
   refine Sx.qn_then ?_
   refine Sx.wc_ret ?_
   refine Sx.qn_then_ret ?_
   have hend_ := h
   replace h := Sx.st_front 2 h
   replace h := Sx.st_selT [true, false, false] h
   refine Sx.qn_ret [_, _] ⟨⟨_, rfl, Sx.loadVarN (vs := [.slice (A) (((x).st).length) (c), .int .i64 ((x).base)]) sh28 (Sx.blk_cells (cells := [.slice (A) (((x).st).length) (c), .int .i64 ((x).base)]) hend_ (i := 0) rfl 0 _ rfl)⟩, rfl, trivial⟩ ?_
   have e_ : layV x i l = (x, 30) := by unfold layV; rw [if_pos (by omega)]
   rw [e_]
   exact ⟨_, _, rfl, h⟩
  ·
   refine Sx.wc_skip ?_
   refine Sx.qn_then ?_
   refine Sx.wc_seq ?_
   refine Sx.wc_region ?_
   refine Sx.wl_lit (d := (Kd.int .i64)) [] _ [] ([]) h rfl rfl rfl rfl Try.underlying26 infb3 rfl (by decide) (by kernel_rfl) rfl (fun _ _ _ => (Reps.none _ _)) (fun A5 cp6 _ h => ?_)
   refine Sx.wl_v rfl rfl (Sx.ov_fieldAddr _ ⟨b1, 0, none⟩ _ rfl fo28_0 rfl) ?_
   refine Sx.wl_v rfl rfl (Sx.ov_loadb 2 _ h rfl rfl sh26 rfl) ?_
   refine Sx.wl_append (d := (Kd.int .i64)) (L := []) 0 _ 8 _ _ _ ((x).st) (Sx.flat_int _) h rfl rfl rfl rfl rfl ((Sx.row_reads h (i := 3) rfl).2) Try.underlying26 inf3 rfl (by decide) (by decide) (by simp only [List.length_nil]; omega) (by first | rfl | simp) (fun A7 cp8 _ h => ?_)
   refine Sx.wl_v rfl rfl (Sx.ov_assign _ rfl) ?_
   refine Sx.wl_nil ?_
   refine Sx.qn_then ?_
   refine Sx.wc_seq ?_
   refine Sx.wc_region ?_
   refine Sx.wl_v rfl rfl (Sx.ov_move _ rfl) ?_
   refine Sx.wl_v rfl rfl (Sx.ov_assign _ rfl) ?_
   refine Sx.wl_nil ?_
   refine Sx.qn_then ?_
   refine Sx.wc_seq ?_
   refine Sx.wc_seq ?_
   refine Sx.wc_region ?_
   refine Sx.wl_v rfl rfl (Sx.ov_assign _ rfl) ?_
   refine Sx.wl_nil ?_
   refine Sx.qn_then ?_
   refine Sx.wc_block ?_
   have e_ : ([]) ++ ((x).st) = layS x.st i.toNat (expand (l.take 0)) := by simp [expand, layS_nil]
   replace h := Sx.st_cast (congrArg (fun z_ => ([Sx.row (Kd.int .i64) 3 (A7) (cp8) (z_), Sx.blk b2 [.slice (none) (0) (0), .int .i64 (0)] 28, Sx.blk b1 [.slice (A) (((x).st).length) (c), .int .i64 ((x).base)] 28, Sx.row (Kd.int .i64) 3 (A) (c) ((x).st)] ++ R)) e_) h
   clear e_
   replace h := Sx.st_front 3 h
   replace h := Sx.st_front 2 h
   replace h := Sx.st_front 3 h
   refine Sx.wc_loop (fun (x_ : Nat × (Option Addr) × Nat) => [(1, .int .i64 (i)), (2, .slice (Al) (l.length) (cl)), (3, .pointer (some ⟨b1, 0, none⟩)), (6, .pointer (some ⟨b2, 0, none⟩)), (7, .int .i64 (0)), (8, .slice (x_.2.1) (((x).st).length) (x_.2.2)), (9, .int .i64 (i + lenR (l.take x_.1))), (10, .int .i64 ((x_.1 : Int)))]) (fun (x_ : Nat × (Option Addr) × Nat) (w : World) => (x_.1 ≤ l.length ∧ layE ((x.st.length : Int) - i) (l.take x_.1) = 0) ∧ Sx.St w0 F0 ([Sx.blk b1 [.slice (A) (((x).st).length) (c), .int .i64 ((x).base)] 28, Sx.blk b2 [.slice (none) (0) (0), .int .i64 (0)] 28, Sx.row (Kd.int .i64) 3 (A) (c) ((x).st), Sx.row (Kd.int .i64) 3 (x_.2.1) (x_.2.2) (layS x.st i.toNat (expand (l.take x_.1)))] ++ R) w) (fun (x_ : Nat × (Option Addr) × Nat) => l.length - x_.1) (0, A7, cp8) ?_ ?_ ?_
   · exact ⟨rfl, rfl, rfl, rfl, rfl, (congrArg (fun z_ => some (Value.slice (A7) z_ (cp8))) (show ((([]) ++ ((x).st)).length : Nat) = ((x).st).length by first | rfl | simp)), (congrArg (fun z_ => some (Value.int .i64 z_)) (show (i : Int) = i + lenR (l.take 0) by simp [lenR])), (congrArg (fun z_ => some (Value.int .i64 z_)) (show (0 : Int) = (0 : Int) by omega)), trivial⟩
   · exact ⟨⟨Nat.zero_le _, rfl⟩, h⟩
   rintro ⟨k, A2, c2⟩ w h
   obtain ⟨hJ, h⟩ := h
   replace hJ : k ≤ l.length ∧ layE ((x.st.length : Int) - i) (l.take k) = 0 := hJ
   replace h : Sx.St w0 F0 ([Sx.blk b1 [.slice (A) (((x).st).length) (c), .int .i64 ((x).base)] 28, Sx.blk b2 [.slice (none) (0) (0), .int .i64 (0)] 28, Sx.row (Kd.int .i64) 3 (A) (c) ((x).st), Sx.row (Kd.int .i64) 3 (A2) (c2) (layS x.st i.toNat (expand (l.take k)))] ++ R) w := h
   show Sx.WC _ _ _ _ [(1, .int .i64 (i)), (2, .slice (Al) (l.length) (cl)), (3, .pointer (some ⟨b1, 0, none⟩)), (6, .pointer (some ⟨b2, 0, none⟩)), (7, .int .i64 (0)), (8, .slice (A2) (((x).st).length) (c2)), (9, .int .i64 (i + lenR (l.take k))), (10, .int .i64 ((k : Int)))] _
   refine Sx.wc_seq ?_
   refine Sx.wc_seq ?_
   refine Sx.wc_region ?_
   refine Sx.wl_v rfl rfl (Sx.ov_move _ rfl) ?_
   refine Sx.wl_v rfl rfl (Sx.ov_move _ rfl) ?_
   refine Sx.wl_v rfl rfl (Sx.ov_len _ _ _ _ _ rfl es33) ?_
   refine Sx.wl_v rfl rfl (Sx.ov_bin _ rfl rfl (Sx.binR_lss)) ?_
   refine Sx.wl_nil ?_
   refine Sx.qn_then ?_
   refine Sx.wc_cond (by rfl) (fun c9 => ?_) (fun c9 => ?_)
   ·
    have hk : k < l.length := by omega
    have hln := lenR_next hk z66
    have hly := lay_next hk z66 hJ.2
    have hrm := lay_room (l.take k) ((x.st.length : Int) - i) (by omega) hJ.2
    have hl2 := expand_len0 (L := l.take k) hrm.2.2
    have hxn := expand_next hk z66
    refine Sx.wc_skip ?_
    refine Sx.qn_then ?_
    refine Sx.wc_seq ?_
    refine Sx.wc_block ?_
    refine Sx.wc_seq ?_
    refine Sx.wc_seq ?_
    refine Sx.wc_region ?_
    refine Sx.wl_v rfl rfl (Sx.ov_move _ rfl) ?_
    refine Sx.wl_v rfl rfl (Sx.ov_move _ rfl) ?_
    obtain ⟨ad10, rfl⟩ := Sx.C_some ((hr [_, _, _, _] _ h)) (k := k) (by first | assumption | omega)
    refine Sx.wl_v rfl rfl (Sx.ov_indexAddrN _ _ _ _ _ k rfl rfl es33 rfl (by first | assumption | omega | (simp only [List.length_take, List.length_drop, List.length_set]; omega))) ?_
    refine Sx.wl_v rfl rfl (Sx.ov_fieldAddr _ ((ad10).add (k * 2 + 0)) _ rfl fo66_0 (by first | exact Deep.add_add _ _ _ | (rw [Deep.add_add]) | rfl)) ?_
    obtain ⟨cl13, _, hk12, hc11⟩ := Sx.C_cells ((hr [_, _, _, _] _ h)) (z := z66) (k := k) (by first | assumption | omega)
    obtain rfl := k66_open hk12
    refine Sx.wl_v rfl rfl (Sx.ov_load1 _ _ rfl sh3 ((hc11 0 _ rfl))) ?_
    refine Sx.wl_v rfl rfl (Sx.ov_bin _ rfl rfl (Sx.binR_lss)) ?_
    refine Sx.wl_nil ?_
    refine Sx.qn_then ?_
    refine Sx.wc_cond (by rfl) (fun c14 => ?_) (fun c14 => ?_)
    ·
     refine Sx.wc_seq ?_
     refine Sx.wc_region ?_
     refine Sx.wl_v rfl rfl (Sx.ov_loadbN 0 [.slice (A) (((x).st).length) (c), .int .i64 ((x).base)] h rfl rfl sh28 rfl) ?_
     refine Sx.wl_storebN 1 [.slice (A) (((x).st).length) (c), .int .i64 ((x).base)] [.slice (A) (((x).st).length) (c), .int .i64 ((x).base)] h rfl rfl rfl rfl (by simp [Value.oneCell']) sh28 rfl rfl (fun _ h => ?_)
     refine Sx.wl_v rfl rfl (Sx.ov_assign _ rfl) ?_
     refine Sx.wl_nil ?_
     refine Sx.qn_then ?_
     refine Sx.wc_ret ?_
     refine Sx.qn_then_ret ?_
     refine Sx.qn_block_ret ?_
     refine Sx.qn_then_ret ?_
     refine Sx.qn_then_ret ?_
     refine Sx.qn_block_ret ?_
     refine Sx.qn_then_ret ?_
     have hend_ := h
     replace h := Sx.st_front 2 h
     replace h := Sx.st_selT [true, false, false, false] h
     refine Sx.qn_ret [_, _] ⟨⟨_, rfl, Sx.loadVarN (vs := [.slice (A) (((x).st).length) (c), .int .i64 ((x).base)]) sh28 (Sx.blk_cells (cells := [.slice (A) (((x).st).length) (c), .int .i64 ((x).base)]) hend_ (i := 1) rfl 0 _ rfl)⟩, rfl, trivial⟩ ?_
     have e1_ : layE ((x.st.length : Int) - i) (l.take (k + 1)) = 1 := by rw [hly, layE, if_pos (by omega)]
     have e2_ : layE ((x.st.length : Int) - i) l = 1 := by rw [lay_first (k := k + 1) (by rw [e1_]; decide), e1_]
     have e_ : layV x i l = (x, 1) := by unfold layV; rw [if_neg (by omega), if_pos (by rw [e2_]; decide), e2_]
     rw [e_]
     exact ⟨_, _, rfl, h⟩
    ·
     refine Sx.wc_skip ?_
     refine Sx.qn_then ?_
     refine Sx.wc_seq ?_
     refine Sx.wc_seq ?_
     refine Sx.wc_region ?_
     refine Sx.wl_v rfl rfl (Sx.ov_move _ rfl) ?_
     refine Sx.wl_v rfl rfl (Sx.ov_move _ rfl) ?_
     refine Sx.wl_v rfl rfl (Sx.ov_indexAddrN _ _ _ _ _ k rfl rfl es33 rfl (by first | assumption | omega | (simp only [List.length_take, List.length_drop, List.length_set]; omega))) ?_
     refine Sx.wl_v rfl rfl (Sx.ov_fieldAddr _ ((ad10).add (k * 2 + 1)) _ rfl fo66_1 (by first | exact Deep.add_add _ _ _ | (rw [Deep.add_add]) | rfl)) ?_
     obtain ⟨cl17, _, hk16, hc15⟩ := Sx.C_cells ((hr [_, _, _, _] _ h)) (z := z66) (k := k) (by first | assumption | omega)
     obtain rfl := k66_open hk16
     refine Sx.wl_v rfl rfl (Sx.ov_load1 _ _ rfl sh3 ((hc15 1 _ rfl))) ?_
     refine Sx.wl_call _ rfl rfl rfl ent35 (Style_calls (R := [Sx.blk b1 [.slice (A) (((x).st).length) (c), .int .i64 ((x).base)] 28, Sx.blk b2 [.slice (none) (0) (0), .int .i64 (0)] 28, Sx.row (Kd.int .i64) 3 (A) (c) ((x).st), Sx.row (Kd.int .i64) 3 (A2) (c2) (layS x.st i.toNat (expand (l.take k)))] ++ R) (((l).getD k z66).f1) h) ?_
     rintro e_ w_ ⟨rfl, h⟩
     refine ⟨_, rfl, ?_⟩
     refine Sx.wl_v rfl rfl (Sx.ov_not _ (¬ (styleP (((l).getD k z66).f1))) rfl (by first | exact decide_not.symm | simp)) ?_
     refine Sx.wl_nil ?_
     refine Sx.qn_then ?_
     refine Sx.wc_cond (by rfl) (fun c18 => ?_) (fun c18 => ?_)
     ·
      refine Sx.wc_seq ?_
      refine Sx.wc_region ?_
      refine Sx.wl_v rfl rfl (Sx.ov_loadbN 0 [.slice (A) (((x).st).length) (c), .int .i64 ((x).base)] h rfl rfl sh28 rfl) ?_
      refine Sx.wl_storebN 1 [.slice (A) (((x).st).length) (c), .int .i64 ((x).base)] [.slice (A) (((x).st).length) (c), .int .i64 ((x).base)] h rfl rfl rfl rfl (by simp [Value.oneCell']) sh28 rfl rfl (fun _ h => ?_)
      refine Sx.wl_v rfl rfl (Sx.ov_assign _ rfl) ?_
      refine Sx.wl_nil ?_
      refine Sx.qn_then ?_
      refine Sx.wc_ret ?_
      refine Sx.qn_then_ret ?_
      refine Sx.qn_block_ret ?_
      refine Sx.qn_then_ret ?_
      refine Sx.qn_then_ret ?_
      refine Sx.qn_block_ret ?_
      refine Sx.qn_then_ret ?_
      have hend_ := h
      replace h := Sx.st_front 2 h
      replace h := Sx.st_selT [true, false, false, false] h
      refine Sx.qn_ret [_, _] ⟨⟨_, rfl, Sx.loadVarN (vs := [.slice (A) (((x).st).length) (c), .int .i64 ((x).base)]) sh28 (Sx.blk_cells (cells := [.slice (A) (((x).st).length) (c), .int .i64 ((x).base)]) hend_ (i := 1) rfl 0 _ rfl)⟩, rfl, trivial⟩ ?_
      have e1_ : layE ((x.st.length : Int) - i) (l.take (k + 1)) = 43 := by rw [hly, layE, if_neg (by omega), if_pos (by omega)]
      have e2_ : layE ((x.st.length : Int) - i) l = 43 := by rw [lay_first (k := k + 1) (by rw [e1_]; decide), e1_]
      have e_ : layV x i l = (x, 43) := by unfold layV; rw [if_neg (by omega), if_pos (by rw [e2_]; decide), e2_]
      rw [e_]
      exact ⟨_, _, rfl, h⟩
     ·
      refine Sx.wc_skip ?_
      refine Sx.qn_then ?_
      refine Sx.wc_seq ?_
      refine Sx.wc_seq ?_
      refine Sx.wc_region ?_
      refine Sx.wl_v rfl rfl (Sx.ov_move _ rfl) ?_
      refine Sx.wl_v rfl rfl (Sx.ov_move _ rfl) ?_
      refine Sx.wl_v rfl rfl (Sx.ov_indexAddrN _ _ _ _ _ k rfl rfl es33 rfl (by first | assumption | omega | (simp only [List.length_take, List.length_drop, List.length_set]; omega))) ?_
      refine Sx.wl_v rfl rfl (Sx.ov_fieldAddr _ ((ad10).add (k * 2 + 0)) _ rfl fo66_0 (by first | exact Deep.add_add _ _ _ | (rw [Deep.add_add]) | rfl)) ?_
      obtain ⟨cl21, _, hk20, hc19⟩ := Sx.C_cells ((hr [_, _, _, _] _ h)) (z := z66) (k := k) (by first | assumption | omega)
      obtain rfl := k66_open hk20
      refine Sx.wl_v rfl rfl (Sx.ov_load1 _ _ rfl sh3 ((hc19 0 _ rfl))) ?_
      refine Sx.wl_v rfl rfl (Sx.ov_move _ rfl) ?_
      refine Sx.wl_v rfl rfl (Sx.ov_len _ _ _ _ _ rfl es26) ?_
      refine Sx.wl_v rfl rfl (Sx.ov_move _ rfl) ?_
      refine Sx.wl_v rfl rfl (Sx.ov_bin _ rfl rfl (Sx.binR_sub (r := (((((x).st).length : Nat) : Int)) - (i + lenR (l.take k))) (Sx.w64 (by omega)))) ?_
      refine Sx.wl_v rfl rfl (Sx.ov_bin _ rfl rfl (Sx.binR_gtr)) ?_
      refine Sx.wl_nil ?_
      refine Sx.qn_then ?_
      refine Sx.wc_cond (by rfl) (fun c22 => ?_) (fun c22 => ?_)
      ·
       refine Sx.wc_seq ?_
       refine Sx.wc_region ?_
       refine Sx.wl_v rfl rfl (Sx.ov_loadbN 0 [.slice (A) (((x).st).length) (c), .int .i64 ((x).base)] h rfl rfl sh28 rfl) ?_
       refine Sx.wl_storebN 1 [.slice (A) (((x).st).length) (c), .int .i64 ((x).base)] [.slice (A) (((x).st).length) (c), .int .i64 ((x).base)] h rfl rfl rfl rfl (by simp [Value.oneCell']) sh28 rfl rfl (fun _ h => ?_)
       refine Sx.wl_v rfl rfl (Sx.ov_assign _ rfl) ?_
       refine Sx.wl_nil ?_
       refine Sx.qn_then ?_
       refine Sx.wc_ret ?_
       refine Sx.qn_then_ret ?_
       refine Sx.qn_block_ret ?_
       refine Sx.qn_then_ret ?_
       refine Sx.qn_then_ret ?_
       refine Sx.qn_block_ret ?_
       refine Sx.qn_then_ret ?_
       have hend_ := h
       replace h := Sx.st_front 2 h
       replace h := Sx.st_selT [true, false, false, false] h
       refine Sx.qn_ret [_, _] ⟨⟨_, rfl, Sx.loadVarN (vs := [.slice (A) (((x).st).length) (c), .int .i64 ((x).base)]) sh28 (Sx.blk_cells (cells := [.slice (A) (((x).st).length) (c), .int .i64 ((x).base)]) hend_ (i := 1) rfl 0 _ rfl)⟩, rfl, trivial⟩ ?_
       have e1_ : layE ((x.st.length : Int) - i) (l.take (k + 1)) = 30 := by rw [hly, layE, if_neg (by omega), if_neg (by omega), if_pos (by omega)]
       have e2_ : layE ((x.st.length : Int) - i) l = 30 := by rw [lay_first (k := k + 1) (by rw [e1_]; decide), e1_]
       have e_ : layV x i l = (x, 30) := by unfold layV; rw [if_neg (by omega), if_pos (by rw [e2_]; decide), e2_]
       rw [e_]
       exact ⟨_, _, rfl, h⟩
      ·
       refine Sx.wc_skip ?_
       refine Sx.qn_then ?_
       refine Sx.wc_seq ?_
       refine Sx.wc_region ?_
       refine Sx.wl_v rfl rfl (Sx.ov_assign _ rfl) ?_
       refine Sx.wl_nil ?_
       refine Sx.qn_then ?_
       refine Sx.wc_block ?_
       have e_ : layS x.st i.toNat (expand (l.take k)) = layS x.st i.toNat (expand (l.take k) ++ List.replicate 0 (l.getD k z66).f1) := by simp
       replace h := Sx.st_cast (congrArg (fun z_ => ([Sx.blk b1 [.slice (A) (((x).st).length) (c), .int .i64 ((x).base)] 28, Sx.blk b2 [.slice (none) (0) (0), .int .i64 (0)] 28, Sx.row (Kd.int .i64) 3 (A) (c) ((x).st), Sx.row (Kd.int .i64) 3 (A2) (c2) (z_)] ++ R)) e_) h
       clear e_
       replace h := Sx.st_front 3 h
       replace h := Sx.st_front 3 h
       replace h := Sx.st_front 3 h
       replace h := Sx.st_front 3 h
       refine Sx.wc_loop (fun (x_ : Nat × (Option Addr) × Nat) => [(1, .int .i64 (i)), (2, .slice (some ad10) (l.length) (cl)), (3, .pointer (some ⟨b1, 0, none⟩)), (6, .pointer (some ⟨b2, 0, none⟩)), (7, .int .i64 (0)), (8, .slice (x_.2.1) (((x).st).length) (x_.2.2)), (9, .int .i64 ((i + lenR (l.take k)) + x_.1)), (10, .int .i64 ((k : Int))), (11, .int .i64 ((x_.1 : Int)))]) (fun (x_ : Nat × (Option Addr) × Nat) (w : World) => (x_.1 ≤ (l.getD k z66).f0.toNat) ∧ Sx.St w0 F0 ([Sx.blk b1 [.slice (A) (((x).st).length) (c), .int .i64 ((x).base)] 28, Sx.blk b2 [.slice (none) (0) (0), .int .i64 (0)] 28, Sx.row (Kd.int .i64) 3 (A) (c) ((x).st), Sx.row (Kd.int .i64) 3 (x_.2.1) (x_.2.2) (layS x.st i.toNat (expand (l.take k) ++ List.replicate x_.1 (l.getD k z66).f1))] ++ R) w) (fun (x_ : Nat × (Option Addr) × Nat) => (l.getD k z66).f0.toNat - x_.1) (0, A2, c2) ?_ ?_ ?_
       · exact ⟨rfl, rfl, rfl, rfl, rfl, rfl, (congrArg (fun z_ => some (Value.int .i64 z_)) (show (i + lenR (l.take k) : Int) = (i + lenR (l.take k)) + 0 by omega)), rfl, (congrArg (fun z_ => some (Value.int .i64 z_)) (show (0 : Int) = (0 : Int) by omega)), trivial⟩
       · exact ⟨by first | omega | simp, h⟩
       rintro ⟨m, A3, c3⟩ w h
       obtain ⟨hJ, h⟩ := h
       replace hJ : m ≤ (l.getD k z66).f0.toNat := hJ
       replace h : Sx.St w0 F0 ([Sx.blk b1 [.slice (A) (((x).st).length) (c), .int .i64 ((x).base)] 28, Sx.blk b2 [.slice (none) (0) (0), .int .i64 (0)] 28, Sx.row (Kd.int .i64) 3 (A) (c) ((x).st), Sx.row (Kd.int .i64) 3 (A3) (c3) (layS x.st i.toNat (expand (l.take k) ++ List.replicate m (l.getD k z66).f1))] ++ R) w := h
       show Sx.WC _ _ _ _ [(1, .int .i64 (i)), (2, .slice (some ad10) (l.length) (cl)), (3, .pointer (some ⟨b1, 0, none⟩)), (6, .pointer (some ⟨b2, 0, none⟩)), (7, .int .i64 (0)), (8, .slice (A3) (((x).st).length) (c3)), (9, .int .i64 ((i + lenR (l.take k)) + m)), (10, .int .i64 ((k : Int))), (11, .int .i64 ((m : Int)))] _
       refine Sx.wc_seq ?_
       refine Sx.wc_seq ?_
       refine Sx.wc_region ?_
       refine Sx.wl_v rfl rfl (Sx.ov_move _ rfl) ?_
       refine Sx.wl_v rfl rfl (Sx.ov_move _ rfl) ?_
       refine Sx.wl_v rfl rfl (Sx.ov_move _ rfl) ?_
       refine Sx.wl_v rfl rfl (Sx.ov_indexAddrN _ _ _ _ _ k rfl rfl es33 rfl (by first | assumption | omega | (simp only [List.length_take, List.length_drop, List.length_set]; omega))) ?_
       refine Sx.wl_v rfl rfl (Sx.ov_fieldAddr _ ((ad10).add (k * 2 + 0)) _ rfl fo66_0 (by first | exact Deep.add_add _ _ _ | (rw [Deep.add_add]) | rfl)) ?_
       obtain ⟨cl25, _, hk24, hc23⟩ := Sx.C_cells ((hr [_, _, _, _] _ h)) (z := z66) (k := k) (by first | assumption | omega)
       obtain rfl := k66_open hk24
       refine Sx.wl_v rfl rfl (Sx.ov_load1 _ _ rfl sh3 ((hc23 0 _ rfl))) ?_
       refine Sx.wl_v rfl rfl (Sx.ov_bin _ rfl rfl (Sx.binR_lss)) ?_
       refine Sx.wl_nil ?_
       refine Sx.qn_then ?_
       refine Sx.wc_cond (by rfl) (fun c26 => ?_) (fun c26 => ?_)
       ·
        have hm : m < (l.getD k z66).f0.toNat := by omega
        have hlay : (layS x.st i.toNat (expand (l.take k) ++ List.replicate m (l.getD k z66).f1)).length = x.st.length := layS_len _ _ _ (by simp only [List.length_append, List.length_replicate]; omega)
        refine Sx.wc_skip ?_
        refine Sx.qn_then ?_
        refine Sx.wc_seq ?_
        refine Sx.wc_block ?_
        refine Sx.wc_seq ?_
        refine Sx.wc_region ?_
        refine Sx.wl_v rfl rfl (Sx.ov_move _ rfl) ?_
        refine Sx.wl_v rfl rfl (Sx.ov_move _ rfl) ?_
        refine Sx.wl_v rfl rfl (Sx.ov_move _ rfl) ?_
        refine Sx.wl_v rfl rfl (Sx.ov_move _ rfl) ?_
        refine Sx.wl_v rfl rfl (Sx.ov_indexAddrN _ _ _ _ _ k rfl rfl es33 rfl (by first | assumption | omega | (simp only [List.length_take, List.length_drop, List.length_set]; omega))) ?_
        refine Sx.wl_v rfl rfl (Sx.ov_fieldAddr _ ((ad10).add (k * 2 + 1)) _ rfl fo66_1 (by first | exact Deep.add_add _ _ _ | (rw [Deep.add_add]) | rfl)) ?_
        obtain ⟨cl29, _, hk28, hc27⟩ := Sx.C_cells ((hr [_, _, _, _] _ h)) (z := z66) (k := k) (by first | assumption | omega)
        obtain rfl := k66_open hk28
        refine Sx.wl_v rfl rfl (Sx.ov_load1 _ _ rfl sh3 ((hc27 1 _ rfl))) ?_
        obtain ⟨ad30, rfl⟩ := Sx.C_some ((Sx.row_reads h (i := 3) rfl).2) (k := ((i + lenR (l.take k)) + m : Int).toNat) (by first | assumption | omega)
        refine Sx.wl_v rfl rfl (Sx.ov_indexAddrN _ _ _ _ _ ((i + lenR (l.take k)) + m : Int).toNat rfl rfl es26 (by omega) (by first | assumption | omega | (simp only [List.length_take, List.length_drop, List.length_set]; omega))) ?_
        refine Sx.wl_storeeN 3 ((i + lenR (l.take k)) + m : Int).toNat 0 (.int .i64 (((l).getD k z66).f1)) [.int .i64 (((l).getD k z66).f1)] (0 : Int) (((l).getD k z66).f1) h rfl rfl rfl (by first | rfl | simp) rfl rfl (by simp [Value.oneCell']) szf3 (by first | assumption | omega) (Nat.le_of_ble_eq_true rfl) (by intro cl hcl hM; obtain ⟨_, _, _, hM⟩ := hM; obtain rfl : cl = [.int .i64 _] := hM; intro _ _ _; exact (Sx.mkInt .i64 (((l).getD k z66).f1))) (fun _ h => ?_)
        refine Sx.wl_nil ?_
        refine Sx.qn_then ?_
        refine Sx.wc_region ?_
        refine Sx.wl_v rfl rfl (Sx.ov_move _ rfl) ?_
        refine Sx.wl_v rfl rfl (Sx.ov_bin _ rfl rfl (Sx.binR_add (r := ((i + lenR (l.take k)) + m) + 1) (Sx.w64 (by omega)))) ?_
        refine Sx.wl_v rfl rfl (Sx.ov_assign _ rfl) ?_
        refine Sx.wl_nil ?_
        refine Sx.qn_block_normal ?_
        refine Sx.qn_then ?_
        refine Sx.wc_region ?_
        refine Sx.wl_v rfl rfl (Sx.ov_move _ rfl) ?_
        refine Sx.wl_v rfl rfl (Sx.ov_bin _ rfl rfl (Sx.binR_add (r := ((m : Int)) + 1) (Sx.w64 (by omega)))) ?_
        refine Sx.wl_v rfl rfl (Sx.ov_assign _ rfl) ?_
        refine Sx.wl_nil ?_
        have e_ : (layS x.st i.toNat (expand (l.take k) ++ List.replicate m (l.getD k z66).f1)).set ((i + lenR (l.take k)) + m : Int).toNat (((l).getD k z66).f1) = layS x.st i.toNat (expand (l.take k) ++ List.replicate (m + 1) (l.getD k z66).f1) := by rw [show ((i + lenR (l.take k)) + m : Int).toNat = i.toNat + (expand (l.take k) ++ List.replicate m (l.getD k z66).f1).length by simp only [List.length_append, List.length_replicate]; omega, layS_set _ _ _ _ (by simp only [List.length_append, List.length_replicate]; omega), List.append_assoc, ← List.replicate_succ']
        replace h := Sx.st_cast (congrArg (fun z_ => ([Sx.blk b1 [.slice (A) (((x).st).length) (c), .int .i64 ((x).base)] 28, Sx.blk b2 [.slice (none) (0) (0), .int .i64 (0)] 28, Sx.row (Kd.int .i64) 3 (A) (c) ((x).st), Sx.row (Kd.int .i64) 3 (some ad30) (c3) (z_)] ++ R)) e_) h
        clear e_
        replace h := Sx.st_front 3 h
        replace h := Sx.st_front 3 h
        replace h := Sx.st_front 3 h
        replace h := Sx.st_front 3 h
        refine Sx.qn_next ((m + 1), some ad30, c3) (by show (l.getD k z66).f0.toNat - (m + 1) < (l.getD k z66).f0.toNat - m; omega) ⟨rfl, rfl, rfl, rfl, rfl, (congrArg (fun z_ => some (Value.slice (some ad30) z_ (c3))) rfl), (congrArg (fun z_ => some (Value.int .i64 z_)) (show (((i + lenR (l.take k)) + m) + 1 : Int) = (i + lenR (l.take k)) + (m + 1) by omega)), rfl, (congrArg (fun z_ => some (Value.int .i64 z_)) (show (((m : Int)) + 1 : Int) = ((m + 1) : Int) by omega)), trivial⟩ ?_
        show ((m + 1) ≤ (l.getD k z66).f0.toNat) ∧ _
        exact ⟨by first | omega | simp, h⟩
       ·
        refine Sx.wc_exit ?_
        refine Sx.qn_then_exit ?_
        refine Sx.qn_then_exit ?_
        refine Sx.qn_block_exit ?_
        refine Sx.qn_block_normal ?_
        refine Sx.qn_then ?_
        refine Sx.wc_region ?_
        refine Sx.wl_v rfl rfl (Sx.ov_move _ rfl) ?_
        refine Sx.wl_v rfl rfl (Sx.ov_bin _ rfl rfl (Sx.binR_add (r := ((k : Int)) + 1) (Sx.w64 (by omega)))) ?_
        refine Sx.wl_v rfl rfl (Sx.ov_assign _ rfl) ?_
        refine Sx.wl_nil ?_
        have e_ : layS x.st i.toNat (expand (l.take k) ++ List.replicate m (l.getD k z66).f1) = layS x.st i.toNat (expand (l.take (k + 1))) := by rw [hxn, show (l.getD k z66).f0.toNat = m by omega]
        replace h := Sx.st_cast (congrArg (fun z_ => ([Sx.blk b1 [.slice (A) (((x).st).length) (c), .int .i64 ((x).base)] 28, Sx.blk b2 [.slice (none) (0) (0), .int .i64 (0)] 28, Sx.row (Kd.int .i64) 3 (A) (c) ((x).st), Sx.row (Kd.int .i64) 3 (A3) (c3) (z_)] ++ R)) e_) h
        clear e_
        replace h := Sx.st_front 3 h
        replace h := Sx.st_front 3 h
        replace h := Sx.st_front 3 h
        replace h := Sx.st_front 3 h
        refine Sx.qn_next ((k + 1), A3, c3) (by show l.length - (k + 1) < l.length - k; omega) ⟨rfl, (congrArg (fun z_ => some (Value.slice (some ad10) z_ (cl))) (show (l.length : Nat) = l.length by first | rfl | simp)), rfl, rfl, rfl, (congrArg (fun z_ => some (Value.slice (A3) z_ (c3))) rfl), (congrArg (fun z_ => some (Value.int .i64 z_)) (show ((i + lenR (l.take k)) + m : Int) = i + lenR (l.take (k + 1)) by omega)), (congrArg (fun z_ => some (Value.int .i64 z_)) (show (((k : Int)) + 1 : Int) = ((k + 1) : Int) by omega)), trivial⟩ ?_
        show ((k + 1) ≤ l.length ∧ layE ((x.st.length : Int) - i) (l.take (k + 1)) = 0) ∧ _
        exact ⟨⟨by omega, by rw [hly, layE, if_neg (by omega), if_neg (by omega), if_neg (by omega)]; rfl⟩, h⟩
   ·
    refine Sx.wc_exit ?_
    refine Sx.qn_then_exit ?_
    refine Sx.qn_then_exit ?_
    refine Sx.qn_block_exit ?_
    refine Sx.qn_then ?_
    refine Sx.wc_seq ?_
    refine Sx.wc_region ?_
    refine Sx.wl_v rfl rfl (Sx.ov_move _ rfl) ?_
    refine Sx.wl_v rfl rfl (Sx.ov_fieldAddr _ ⟨b1, 1, none⟩ _ rfl fo28_1 rfl) ?_
    refine Sx.wl_v rfl rfl (Sx.ov_loadb 0 _ h rfl rfl sh3 rfl) ?_
    refine Sx.wl_v rfl rfl (Sx.ov_build [(0, .slice (A2) (((x).st).length) (c2)), (1, .int .i64 ((x).base))] [.slice (A2) (((x).st).length) (c2), .int .i64 ((x).base)] rfl rfl (by kernel_rfl)) ?_
    refine Sx.wl_storebN 1 [.slice (A2) (((x).st).length) (c2), .int .i64 ((x).base)] [.slice (A2) (((x).st).length) (c2), .int .i64 ((x).base)] h rfl rfl rfl rfl (by simp [Value.oneCell']) sh28 rfl rfl (fun _ h => ?_)
    refine Sx.wl_v rfl rfl (Sx.ov_assign _ rfl) ?_
    refine Sx.wl_nil ?_
    refine Sx.qn_then ?_
    refine Sx.wc_ret ?_
    have hend_ := h
    have hlt : l.take k = l := by rw [show k = l.length by omega, List.take_length]
    have hok : layE ((x.st.length : Int) - i) l = 0 := by have h_ := hJ.2; rwa [hlt] at h_
    have hrm := lay_room l ((x.st.length : Int) - i) (by omega) hok
    have hxl := expand_len0 hrm.2.2
    have e_ : layS x.st i.toNat (expand (l.take k)) = layS x.st i.toNat (expand l) := by rw [hlt]
    replace h := Sx.st_cast (congrArg (fun z_ => ([Sx.blk b1 [.slice (A) (((x).st).length) (c), .int .i64 ((x).base)] 28, Sx.blk b2 [.slice (A2) (((x).st).length) (c2), .int .i64 ((x).base)] 28, Sx.row (Kd.int .i64) 3 (A) (c) ((x).st), Sx.row (Kd.int .i64) 3 (A2) (c2) (z_)] ++ R)) e_) h
    clear e_
    replace h := Sx.st_front 3 h
    replace h := Sx.st_selT [true, false, false, false] h
    refine Sx.qn_ret [_, _] ⟨⟨_, rfl, Sx.loadVarN (vs := [.slice (A2) (((x).st).length) (c2), .int .i64 ((x).base)]) sh28 (Sx.blk_cells (cells := [.slice (A2) (((x).st).length) (c2), .int .i64 ((x).base)]) hend_ (i := 1) rfl 0 _ rfl)⟩, rfl, trivial⟩ ?_
    have e_ : layV x i l = (⟨layS x.st i.toNat (expand l), x.base⟩, 0) := by unfold layV; rw [if_neg (by omega), if_neg (by rw [hok]; decide)]; rfl
    rw [e_]
    refine ⟨_, _, ?_, h⟩
    have hll_ : x.st.length = (layS x.st i.toNat (expand l)).length := (layS_len _ _ _ (by omega)).symm
    exact congrArg (fun z => Ending.returned (Value.tuple #[Value.agg #[Value.slice A2 z c2, .int .i64 ((x).base)], .int .i64 0])) hll_
set_option maxRecDepth 100000 in
theorem rRuns_calls {w0 w : World} {F0 : Nat → Prop} {R : List Sx.HP} (s : List Int) (As : Option Addr) (cs : Nat) (hl : s.length ≤ 1099511627776) (hs : ∀ cs w, Sx.St w0 F0 (cs ++ R) w → (Kd.int .i64).C w As s.length s) (h : Sx.St w0 F0 ([] ++ R) w) : Calls Try.prog 17 #[.slice (As) (s.length) (cs)] w (fun e w1 => ∃ A c, e = .returned (.slice A (runsOf s).length c) ∧ Sx.St w0 F0 (Sx.row k66 66 A c (runsOf s) :: R) w1) := by
 refine Sx.calls_fn (vs := [.slice (As) (s.length) (cs)]) Try.func17 rfl Try.ntmps17 rfl ?_
 refine Sx.wc_seq ?_
 refine Sx.wc_region ?_
 refine Sx.wl_v rfl rfl (Sx.ov_assign _ rfl) ?_
 refine Sx.wl_nil ?_
 refine Sx.qn_then ?_
 refine Sx.wc_seq ?_
 refine Sx.wc_region ?_
 refine Sx.wl_v rfl rfl (Sx.ov_assign _ rfl) ?_
 refine Sx.wl_nil ?_
 refine Sx.qn_then ?_
 refine Sx.wc_seq ?_
 refine Sx.wc_seq ?_
 refine Sx.wc_region ?_
 refine Sx.wl_v rfl rfl (Sx.ov_assign _ rfl) ?_
 refine Sx.wl_nil ?_
 refine Sx.qn_then ?_
 refine Sx.wc_block ?_
 replace h := Sx.st_nilrow k66 66 h
 have e_ : [] = runsOf (s.take 0) := by rfl
 replace h := Sx.st_cast (congrArg (fun z_ => ([Sx.row k66 66 (none) (0) (z_)] ++ R)) e_) h
 clear e_
 refine Sx.wc_loop (fun (x_ : Nat × (Option Addr) × Nat) => [(0, .slice (As) (s.length) (cs)), (3, .slice (x_.2.1) ((runsOf (s.take x_.1)).length) (x_.2.2)), (4, .int .i64 ((x_.1 : Int)))]) (fun (x_ : Nat × (Option Addr) × Nat) (w : World) => (x_.1 ≤ s.length) ∧ Sx.St w0 F0 ([Sx.row k66 66 (x_.2.1) (x_.2.2) (runsOf (s.take x_.1))] ++ R) w) (fun (x_ : Nat × (Option Addr) × Nat) => s.length - x_.1) (0, none, 0) ?_ ?_ ?_
 · exact ⟨rfl, rfl, (congrArg (fun z_ => some (Value.int .i64 z_)) (show (0 : Int) = (0 : Int) by omega)), trivial⟩
 · exact ⟨by first | omega | simp, h⟩
 rintro ⟨k, A, c⟩ w h
 obtain ⟨hJ, h⟩ := h
 replace hJ : k ≤ s.length := hJ
 replace h : Sx.St w0 F0 ([Sx.row k66 66 (A) (c) (runsOf (s.take k))] ++ R) w := h
 show Sx.WC _ _ _ _ [(0, .slice (As) (s.length) (cs)), (3, .slice (A) ((runsOf (s.take k)).length) (c)), (4, .int .i64 ((k : Int)))] _
 refine Sx.wc_seq ?_
 refine Sx.wc_seq ?_
 refine Sx.wc_region ?_
 refine Sx.wl_v rfl rfl (Sx.ov_move _ rfl) ?_
 refine Sx.wl_v rfl rfl (Sx.ov_move _ rfl) ?_
 refine Sx.wl_v rfl rfl (Sx.ov_len _ _ _ _ _ rfl es26) ?_
 refine Sx.wl_v rfl rfl (Sx.ov_bin _ rfl rfl (Sx.binR_lss)) ?_
 refine Sx.wl_nil ?_
 refine Sx.qn_then ?_
 refine Sx.wc_cond (by rfl) (fun c1 => ?_) (fun c1 => ?_)
 ·
  have hk : k < s.length := by omega
  have hrn := runs_next hk
  have hlb := last_bnd (s.take k) z66 rfl
  have hlb2 := runs_len (s.take k)
  have hlt : (s.take k).length = k := by rw [List.length_take]; omega
  refine Sx.wc_skip ?_
  refine Sx.qn_then ?_
  refine Sx.wc_seq ?_
  refine Sx.wc_block ?_
  refine Sx.wc_seq ?_
  refine Sx.wc_seq ?_
  refine Sx.wc_draw (fun w => Sx.St w0 F0 ([Sx.row k66 66 (A) (c) (runsOf (s.take k))] ++ R) w) (by kernel_rfl) ?_
  replace h := Sx.st_drew h
  refine Sx.wa_tk 0 rfl rfl rfl (Sx.st_selT [true] h) (fun w_ hS => Sx.ov_move _ rfl) ?_
  refine Sx.wa_tk 1 rfl rfl rfl (Sx.st_selT [true] h) (fun w_ hS => Sx.ov_len _ _ _ _ _ rfl es33) ?_
  refine Sx.wa_tk 2 rfl rfl rfl (Sx.st_selT [true] h) (fun w_ hS => Sx.ov_bin _ rfl rfl (Sx.binR_gtr)) ?_
  refine Sx.wa_tk 3 rfl rfl rfl (Sx.st_selT [true] h) (fun w_ hS => Sx.ov_move _ rfl) ?_
  refine Sx.wa_split 14 rfl (fun c2 => ?_) (fun c2 => ?_)
  ·
   refine Sx.wa_tk 4 rfl rfl rfl (Sx.st_selT [true] h) (fun w_ hS => Sx.ov_move _ rfl) ?_
   refine Sx.wa_tk 5 rfl rfl rfl (Sx.st_selT [true] h) (fun w_ hS => Sx.ov_move _ rfl) ?_
   refine Sx.wa_tk 6 rfl rfl rfl (Sx.st_selT [true] h) (fun w_ hS => Sx.ov_len _ _ _ _ _ rfl es33) ?_
   refine Sx.wa_tk 7 rfl rfl rfl (Sx.st_selT [true] h) (fun w_ hS => Sx.ov_bin _ rfl rfl (Sx.binR_sub (r := ((((runsOf (s.take k)).length : Nat) : Int)) - 1) (Sx.w64 (by omega)))) ?_
   obtain ⟨ad3, rfl⟩ := Sx.C_some ((Sx.row_reads h (i := 0) rfl).2) (k := (((runsOf (s.take k)).length) - 1)) (by first | assumption | omega)
   refine Sx.wa_tk 8 rfl rfl rfl (Sx.st_selT [true] h) (fun w_ hS => Sx.ov_indexAddrN _ _ _ _ _ (((runsOf (s.take k)).length) - 1) rfl rfl es33 (by omega) (by first | assumption | omega | (simp only [List.length_take, List.length_drop, List.length_set]; omega))) ?_
   refine Sx.wa_tk 9 rfl rfl rfl (Sx.st_selT [true] h) (fun w_ hS => Sx.ov_fieldAddr _ ((ad3).add ((((runsOf (s.take k)).length) - 1) * 2 + 1)) _ rfl fo66_1 (by first | exact Deep.add_add _ _ _ | (rw [Deep.add_add]) | rfl)) ?_
   refine Sx.wa_tk 10 rfl rfl rfl (Sx.st_selT [true] h) (fun w_ hS => by
       obtain ⟨cl6, _, hk5, hc4⟩ := Sx.C_cells ((Sx.row_reads hS (i := 0) rfl).2) (z := z66) (k := (((runsOf (s.take k)).length) - 1)) (by first | assumption | omega)
       obtain rfl := k66_open hk5
       exact Sx.ov_load1 _ _ rfl sh3 ((hc4 1 _ rfl))) ?_
   refine Sx.wa_tk 11 rfl rfl rfl (Sx.st_selT [true] h) (fun w_ hS => Sx.ov_move _ rfl) ?_
   refine Sx.wa_tk 12 rfl rfl rfl (Sx.st_selT [true] h) (fun w_ hS => Sx.ov_move _ rfl) ?_
   obtain ⟨ad7, rfl⟩ := Sx.C_some ((hs [_] _ h)) (k := k) (by first | assumption | omega)
   refine Sx.wa_tk 13 rfl rfl rfl (Sx.st_selT [true] h) (fun w_ hS => Sx.ov_indexAddrN _ _ _ _ _ k rfl rfl es26 rfl (by first | assumption | omega | (simp only [List.length_take, List.length_drop, List.length_set]; omega))) ?_
   refine Sx.wa_tk 14 rfl rfl rfl (Sx.st_selT [true] h) (fun w_ hS => by
       obtain ⟨cl10, _, hk9, hc8⟩ := Sx.C_cells ((hs [_] _ hS)) (z := (0 : Int)) (k := k) (by first | assumption | omega)
       obtain rfl : cl10 = [.int .i64 _] := hk9
       exact Sx.ov_load1 _ _ rfl sh3 ((hc8 0 _ rfl))) ?_
   refine Sx.wa_tk 15 rfl rfl rfl (Sx.st_selT [true] h) (fun w_ hS => Sx.ov_bin _ rfl rfl (Sx.binR_eql)) ?_
   refine Sx.wa_tk 16 rfl rfl rfl (Sx.st_selT [true] h) (fun w_ hS => Sx.ov_pick_true _ rfl rfl) ?_
   refine Sx.wa_done (by kernel_rfl) ?_
   refine Sx.qn_then ?_
   refine Sx.wc_cond (by rfl) (fun c11 => ?_) (fun c11 => ?_)
   ·
    refine Sx.wc_seq ?_
    refine Sx.wc_region ?_
    refine Sx.wl_v rfl rfl (Sx.ov_move _ rfl) ?_
    refine Sx.wl_v rfl rfl (Sx.ov_move _ rfl) ?_
    refine Sx.wl_v rfl rfl (Sx.ov_len _ _ _ _ _ rfl es33) ?_
    refine Sx.wl_v rfl rfl (Sx.ov_bin _ rfl rfl (Sx.binR_sub (r := ((((runsOf (s.take k)).length : Nat) : Int)) - 1) (Sx.w64 (by omega)))) ?_
    refine Sx.wl_v rfl rfl (Sx.ov_indexAddrN _ _ _ _ _ (((runsOf (s.take k)).length) - 1) rfl rfl es33 (by omega) (by first | assumption | omega | (simp only [List.length_take, List.length_drop, List.length_set]; omega))) ?_
    refine Sx.wl_v rfl rfl (Sx.ov_fieldAddr _ ((ad3).add ((((runsOf (s.take k)).length) - 1) * 2 + 0)) _ rfl fo66_0 (by first | exact Deep.add_add _ _ _ | (rw [Deep.add_add]) | rfl)) ?_
    obtain ⟨cl14, _, hk13, hc12⟩ := Sx.C_cells ((Sx.row_reads h (i := 0) rfl).2) (z := z66) (k := (((runsOf (s.take k)).length) - 1)) (by first | assumption | omega)
    obtain rfl := k66_open hk13
    refine Sx.wl_v rfl rfl (Sx.ov_load1 _ _ rfl sh3 ((hc12 0 _ rfl))) ?_
    refine Sx.wl_v rfl rfl (Sx.ov_bin _ rfl rfl (Sx.binR_add (r := (((runsOf (s.take k)).getD (((runsOf (s.take k)).length) - 1) z66).f0) + 1) (Sx.w64 (by omega)))) ?_
    refine Sx.wl_v rfl rfl (Sx.ov_indexAddrN _ _ _ _ _ (((runsOf (s.take k)).length) - 1) rfl rfl es33 (by omega) (by first | assumption | omega | (simp only [List.length_take, List.length_drop, List.length_set]; omega))) ?_
    refine Sx.wl_v rfl rfl (Sx.ov_fieldAddr _ ((ad3).add ((((runsOf (s.take k)).length) - 1) * 2 + 0)) _ rfl fo66_0 (by first | exact Deep.add_add _ _ _ | (rw [Deep.add_add]) | rfl)) ?_
    refine Sx.wl_storeeN 0 (((runsOf (s.take k)).length) - 1) 0 (.int .i64 ((((runsOf (s.take k)).getD (((runsOf (s.take k)).length) - 1) z66).f0) + 1)) [.int .i64 ((((runsOf (s.take k)).getD (((runsOf (s.take k)).length) - 1) z66).f0) + 1)] z66 ((⟨(((runsOf (s.take k)).getD (((runsOf (s.take k)).length) - 1) z66).f0) + 1, ((runsOf (s.take k)).getD (((runsOf (s.take k)).length) - 1) z66).f1⟩ : Rn)) h rfl rfl rfl (by first | rfl | simp) rfl rfl (by simp [Value.oneCell']) szf3 (by first | assumption | omega) (Nat.le_of_ble_eq_true rfl) (by intro cl hcl hM; obtain ⟨_, _, _, hM⟩ := hM; obtain rfl := k66_openM hM; intro _ _ _; exact k66_mkM _ _ _ ((⟨(((runsOf (s.take k)).getD (((runsOf (s.take k)).length) - 1) z66).f0) + 1, ((runsOf (s.take k)).getD (((runsOf (s.take k)).length) - 1) z66).f1⟩ : Rn))) (fun _ h => ?_)
    refine Sx.wl_nil ?_
    refine Sx.qn_then ?_
    refine Sx.wc_exit ?_
    refine Sx.qn_then_exit ?_
    refine Sx.qn_block_exit ?_
    refine Sx.qn_then ?_
    refine Sx.wc_region ?_
    refine Sx.wl_v rfl rfl (Sx.ov_move _ rfl) ?_
    refine Sx.wl_v rfl rfl (Sx.ov_bin _ rfl rfl (Sx.binR_add (r := ((k : Int)) + 1) (Sx.w64 (by omega)))) ?_
    refine Sx.wl_v rfl rfl (Sx.ov_assign _ rfl) ?_
    refine Sx.wl_nil ?_
    have hnx : runsOf (s.take (k + 1)) = (runsOf (s.take k)).set (((runsOf (s.take k)).length) - 1) ((⟨(((runsOf (s.take k)).getD (((runsOf (s.take k)).length) - 1) z66).f0) + 1, ((runsOf (s.take k)).getD (((runsOf (s.take k)).length) - 1) z66).f1⟩ : Rn)) := by rw [hrn]; first | exact snoc_set (z := z66) (by omega) (by omega) | exact snoc_app (z := z66) (by omega)
    have e_ : (runsOf (s.take k)).set (((runsOf (s.take k)).length) - 1) ((⟨(((runsOf (s.take k)).getD (((runsOf (s.take k)).length) - 1) z66).f0) + 1, ((runsOf (s.take k)).getD (((runsOf (s.take k)).length) - 1) z66).f1⟩ : Rn)) = runsOf (s.take (k + 1)) := by exact hnx.symm
    replace h := Sx.st_cast (congrArg (fun z_ => ([Sx.row k66 66 (some ad3) (c) (z_)] ++ R)) e_) h
    clear e_
    refine Sx.qn_next ((k + 1), some ad3, c) (by show s.length - (k + 1) < s.length - k; omega) ⟨(congrArg (fun z_ => some (Value.slice (some ad7) z_ (cs))) (show (s.length : Nat) = s.length by first | rfl | simp)), (congrArg (fun z_ => some (Value.slice (some ad3) z_ (c))) (by rw [hnx]; try simp)), (congrArg (fun z_ => some (Value.int .i64 z_)) (show (((k : Int)) + 1 : Int) = ((k + 1) : Int) by omega)), trivial⟩ ?_
    show ((k + 1) ≤ s.length) ∧ _
    exact ⟨by first | omega | simp, h⟩
   ·
    refine Sx.wc_skip ?_
    refine Sx.qn_then ?_
    refine Sx.wc_region ?_
    refine Sx.wl_v rfl rfl (Sx.ov_move _ rfl) ?_
    refine Sx.wl_v rfl rfl (Sx.ov_move _ rfl) ?_
    refine Sx.wl_v rfl rfl (Sx.ov_move _ rfl) ?_
    refine Sx.wl_v rfl rfl (Sx.ov_indexAddrN _ _ _ _ _ k rfl rfl es26 rfl (by first | assumption | omega | (simp only [List.length_take, List.length_drop, List.length_set]; omega))) ?_
    obtain ⟨cl17, _, hk16, hc15⟩ := Sx.C_cells ((hs [_] _ h)) (z := (0 : Int)) (k := k) (by first | assumption | omega)
    obtain rfl : cl17 = [.int .i64 _] := hk16
    refine Sx.wl_v rfl rfl (Sx.ov_load1 _ _ rfl sh3 ((hc15 0 _ rfl))) ?_
    refine Sx.wl_v rfl rfl (Sx.ov_build [(0, .int .i64 (1)), (1, .int .i64 ((s).getD k (0 : Int)))] [.int .i64 (1), .int .i64 ((s).getD k (0 : Int))] rfl rfl (by kernel_rfl)) ?_
    refine Sx.wl_lit (d := k66) [(0, .agg #[.int .i64 (1), .int .i64 ((s).getD k (0 : Int))])] _ [.int .i64 (1), .int .i64 ((s).getD k (0 : Int))] ([(⟨1, (s).getD k (0 : Int)⟩ : Rn)]) h rfl rfl rfl rfl Try.underlying33 infb66 rfl (by decide) (by kernel_rfl) rfl (fun _ _ _ => ((Reps.none _ _).snoc (k66_mkM _ _ _ ((⟨1, (s).getD k (0 : Int)⟩ : Rn))) rfl)) (fun A18 cp19 _ h => ?_)
    refine Sx.wl_append (d := k66) (L := runsOf (s.take k)) 1 _ 16 _ _ _ ([(⟨1, (s).getD k (0 : Int)⟩ : Rn)]) flat66 h rfl rfl rfl rfl rfl ((Sx.row_reads h (i := 0) rfl).2) Try.underlying33 inf66 rfl (by decide) (by decide) (by simp only [List.length_cons, List.length_nil]; omega) (by first | rfl | simp) (fun A20 cp21 _ h => ?_)
    replace h := Sx.st_selT [false, true] h
    refine Sx.wl_v rfl rfl (Sx.ov_assign _ rfl) ?_
    refine Sx.wl_nil ?_
    refine Sx.qn_block_normal ?_
    refine Sx.qn_then ?_
    refine Sx.wc_region ?_
    refine Sx.wl_v rfl rfl (Sx.ov_move _ rfl) ?_
    refine Sx.wl_v rfl rfl (Sx.ov_bin _ rfl rfl (Sx.binR_add (r := ((k : Int)) + 1) (Sx.w64 (by omega)))) ?_
    refine Sx.wl_v rfl rfl (Sx.ov_assign _ rfl) ?_
    refine Sx.wl_nil ?_
    have hnx : runsOf (s.take (k + 1)) = (runsOf (s.take k)) ++ ([(⟨1, (s).getD k (0 : Int)⟩ : Rn)]) := by rw [hrn]; first | exact snoc_set (z := z66) (by omega) (by omega) | exact snoc_app (z := z66) (by omega)
    have e_ : (runsOf (s.take k)) ++ ([(⟨1, (s).getD k (0 : Int)⟩ : Rn)]) = runsOf (s.take (k + 1)) := by exact hnx.symm
    replace h := Sx.st_cast (congrArg (fun z_ => ([Sx.row k66 66 (A20) (cp21) (z_)] ++ R)) e_) h
    clear e_
    refine Sx.qn_next ((k + 1), A20, cp21) (by show s.length - (k + 1) < s.length - k; omega) ⟨(congrArg (fun z_ => some (Value.slice (some ad7) z_ (cs))) (show (s.length : Nat) = s.length by first | rfl | simp)), (congrArg (fun z_ => some (Value.slice (A20) z_ (cp21))) (by rw [hnx]; try simp)), (congrArg (fun z_ => some (Value.int .i64 z_)) (show (((k : Int)) + 1 : Int) = ((k + 1) : Int) by omega)), trivial⟩ ?_
    show ((k + 1) ≤ s.length) ∧ _
    exact ⟨by first | omega | simp, h⟩
  ·
   refine Sx.wa_sk 4 rfl rfl rfl (Sx.st_selT [true] h) ?_
   refine Sx.wa_sk 5 rfl rfl rfl (Sx.st_selT [true] h) ?_
   refine Sx.wa_sk 6 rfl rfl rfl (Sx.st_selT [true] h) ?_
   refine Sx.wa_sk 7 rfl rfl rfl (Sx.st_selT [true] h) ?_
   refine Sx.wa_sk 8 rfl rfl rfl (Sx.st_selT [true] h) ?_
   refine Sx.wa_sk 9 rfl rfl rfl (Sx.st_selT [true] h) ?_
   refine Sx.wa_sk 10 rfl rfl rfl (Sx.st_selT [true] h) ?_
   refine Sx.wa_sk 11 rfl rfl rfl (Sx.st_selT [true] h) ?_
   refine Sx.wa_sk 12 rfl rfl rfl (Sx.st_selT [true] h) ?_
   refine Sx.wa_sk 13 rfl rfl rfl (Sx.st_selT [true] h) ?_
   refine Sx.wa_sk 14 rfl rfl rfl (Sx.st_selT [true] h) ?_
   refine Sx.wa_sk 15 rfl rfl rfl (Sx.st_selT [true] h) ?_
   refine Sx.wa_tk 16 rfl rfl rfl (Sx.st_selT [true] h) (fun w_ hS => Sx.ov_pick_false _ rfl rfl) ?_
   refine Sx.wa_done (by kernel_rfl) ?_
   refine Sx.qn_then ?_
   refine Sx.wc_cond_false rfl ?_
   refine Sx.wc_skip ?_
   refine Sx.qn_then ?_
   refine Sx.wc_region ?_
   refine Sx.wl_v rfl rfl (Sx.ov_move _ rfl) ?_
   refine Sx.wl_v rfl rfl (Sx.ov_move _ rfl) ?_
   refine Sx.wl_v rfl rfl (Sx.ov_move _ rfl) ?_
   obtain ⟨ad22, rfl⟩ := Sx.C_some ((hs [_] _ h)) (k := k) (by first | assumption | omega)
   refine Sx.wl_v rfl rfl (Sx.ov_indexAddrN _ _ _ _ _ k rfl rfl es26 rfl (by first | assumption | omega | (simp only [List.length_take, List.length_drop, List.length_set]; omega))) ?_
   obtain ⟨cl25, _, hk24, hc23⟩ := Sx.C_cells ((hs [_] _ h)) (z := (0 : Int)) (k := k) (by first | assumption | omega)
   obtain rfl : cl25 = [.int .i64 _] := hk24
   refine Sx.wl_v rfl rfl (Sx.ov_load1 _ _ rfl sh3 ((hc23 0 _ rfl))) ?_
   refine Sx.wl_v rfl rfl (Sx.ov_build [(0, .int .i64 (1)), (1, .int .i64 ((s).getD k (0 : Int)))] [.int .i64 (1), .int .i64 ((s).getD k (0 : Int))] rfl rfl (by kernel_rfl)) ?_
   refine Sx.wl_lit (d := k66) [(0, .agg #[.int .i64 (1), .int .i64 ((s).getD k (0 : Int))])] _ [.int .i64 (1), .int .i64 ((s).getD k (0 : Int))] ([(⟨1, (s).getD k (0 : Int)⟩ : Rn)]) h rfl rfl rfl rfl Try.underlying33 infb66 rfl (by decide) (by kernel_rfl) rfl (fun _ _ _ => ((Reps.none _ _).snoc (k66_mkM _ _ _ ((⟨1, (s).getD k (0 : Int)⟩ : Rn))) rfl)) (fun A26 cp27 _ h => ?_)
   refine Sx.wl_append (d := k66) (L := runsOf (s.take k)) 1 _ 16 _ _ _ ([(⟨1, (s).getD k (0 : Int)⟩ : Rn)]) flat66 h rfl rfl rfl rfl rfl ((Sx.row_reads h (i := 0) rfl).2) Try.underlying33 inf66 rfl (by decide) (by decide) (by simp only [List.length_cons, List.length_nil]; omega) (by first | rfl | simp) (fun A28 cp29 _ h => ?_)
   replace h := Sx.st_selT [false, true] h
   refine Sx.wl_v rfl rfl (Sx.ov_assign _ rfl) ?_
   refine Sx.wl_nil ?_
   refine Sx.qn_block_normal ?_
   refine Sx.qn_then ?_
   refine Sx.wc_region ?_
   refine Sx.wl_v rfl rfl (Sx.ov_move _ rfl) ?_
   refine Sx.wl_v rfl rfl (Sx.ov_bin _ rfl rfl (Sx.binR_add (r := ((k : Int)) + 1) (Sx.w64 (by omega)))) ?_
   refine Sx.wl_v rfl rfl (Sx.ov_assign _ rfl) ?_
   refine Sx.wl_nil ?_
   have hnx : runsOf (s.take (k + 1)) = (runsOf (s.take k)) ++ ([(⟨1, (s).getD k (0 : Int)⟩ : Rn)]) := by rw [hrn]; first | exact snoc_set (z := z66) (by omega) (by omega) | exact snoc_app (z := z66) (by omega)
   have e_ : (runsOf (s.take k)) ++ ([(⟨1, (s).getD k (0 : Int)⟩ : Rn)]) = runsOf (s.take (k + 1)) := by exact hnx.symm
   replace h := Sx.st_cast (congrArg (fun z_ => ([Sx.row k66 66 (A28) (cp29) (z_)] ++ R)) e_) h
   clear e_
   refine Sx.qn_next ((k + 1), A28, cp29) (by show s.length - (k + 1) < s.length - k; omega) ⟨(congrArg (fun z_ => some (Value.slice (some ad22) z_ (cs))) (show (s.length : Nat) = s.length by first | rfl | simp)), (congrArg (fun z_ => some (Value.slice (A28) z_ (cp29))) (by rw [hnx]; try simp)), (congrArg (fun z_ => some (Value.int .i64 z_)) (show (((k : Int)) + 1 : Int) = ((k + 1) : Int) by omega)), trivial⟩ ?_
   show ((k + 1) ≤ s.length) ∧ _
   exact ⟨by first | omega | simp, h⟩
 ·
  refine Sx.wc_exit ?_
  refine Sx.qn_then_exit ?_
  refine Sx.qn_then_exit ?_
  refine Sx.qn_block_exit ?_
  refine Sx.qn_then ?_
  refine Sx.wc_seq ?_
  refine Sx.wc_region ?_
  refine Sx.wl_v rfl rfl (Sx.ov_move _ rfl) ?_
  refine Sx.wl_v rfl rfl (Sx.ov_assign _ rfl) ?_
  refine Sx.wl_nil ?_
  refine Sx.qn_then ?_
  refine Sx.wc_ret ?_
  have e_ : runsOf (s.take k) = runsOf s := by rw [show k = s.length by omega, List.take_length]
  replace h := Sx.st_cast (congrArg (fun z_ => ([Sx.row k66 66 (A) (c) (z_)] ++ R)) e_) h
  clear e_
  refine Sx.qn_ret [_] ⟨rfl, trivial⟩ ?_
  exact ⟨_, _, congrArg (fun z => Ending.returned (Value.slice (A) z (c))) (by rw [show k = s.length by omega, List.take_length]), h⟩
set_option maxRecDepth 100000 in
theorem rMerged_calls {w0 w : World} {F0 : Nat → Prop} {R : List Sx.HP} (l : List Rn) (Al : Option Addr) (cl : Nat) (hl : (expand l).length ≤ 1152921504606846976 ∧ l.length ≤ 1099511627776) (hr : ∀ cs w, Sx.St w0 F0 (cs ++ R) w → k66.C w Al l.length l) (h : Sx.St w0 F0 ([] ++ R) w) : Calls Try.prog 34 #[.slice (Al) (l.length) (cl)] w (fun e w1 => ∃ A c, e = .returned (.slice A (runsOf (expand l)).length c) ∧ Sx.St w0 F0 (Sx.row k66 66 A c (runsOf (expand l)) :: R) w1) := by
 refine Sx.calls_fn (vs := [.slice (Al) (l.length) (cl)]) Try.func34 rfl Try.ntmps34 rfl ?_
 refine Sx.wc_seq ?_
 refine Sx.wc_region ?_
 refine Sx.wl_v rfl rfl (Sx.ov_assign _ rfl) ?_
 refine Sx.wl_nil ?_
 refine Sx.qn_then ?_
 refine Sx.wc_seq ?_
 refine Sx.wc_region ?_
 refine Sx.wl_v rfl rfl (Sx.ov_assign _ rfl) ?_
 refine Sx.wl_nil ?_
 refine Sx.qn_then ?_
 refine Sx.wc_seq ?_
 refine Sx.wc_seq ?_
 refine Sx.wc_region ?_
 refine Sx.wl_v rfl rfl (Sx.ov_assign _ rfl) ?_
 refine Sx.wl_nil ?_
 refine Sx.qn_then ?_
 refine Sx.wc_block ?_
 replace h := Sx.st_nilrow k66 66 h
 have e_ : [] = runsOf (expand (l.take 0)) := by rfl
 replace h := Sx.st_cast (congrArg (fun z_ => ([Sx.row k66 66 (none) (0) (z_)] ++ R)) e_) h
 clear e_
 refine Sx.wc_loop (fun (x_ : Nat × (Option Addr) × Nat) => [(0, .slice (Al) (l.length) (cl)), (3, .slice (x_.2.1) ((runsOf (expand (l.take x_.1))).length) (x_.2.2)), (4, .int .i64 ((x_.1 : Int)))]) (fun (x_ : Nat × (Option Addr) × Nat) (w : World) => (x_.1 ≤ l.length) ∧ Sx.St w0 F0 ([Sx.row k66 66 (x_.2.1) (x_.2.2) (runsOf (expand (l.take x_.1)))] ++ R) w) (fun (x_ : Nat × (Option Addr) × Nat) => l.length - x_.1) (0, none, 0) ?_ ?_ ?_
 · exact ⟨rfl, rfl, (congrArg (fun z_ => some (Value.int .i64 z_)) (show (0 : Int) = (0 : Int) by omega)), trivial⟩
 · exact ⟨by first | omega | simp, h⟩
 rintro ⟨k, A, c⟩ w h
 obtain ⟨hJ, h⟩ := h
 replace hJ : k ≤ l.length := hJ
 replace h : Sx.St w0 F0 ([Sx.row k66 66 (A) (c) (runsOf (expand (l.take k)))] ++ R) w := h
 show Sx.WC _ _ _ _ [(0, .slice (Al) (l.length) (cl)), (3, .slice (A) ((runsOf (expand (l.take k))).length) (c)), (4, .int .i64 ((k : Int)))] _
 refine Sx.wc_seq ?_
 refine Sx.wc_seq ?_
 refine Sx.wc_region ?_
 refine Sx.wl_v rfl rfl (Sx.ov_move _ rfl) ?_
 refine Sx.wl_v rfl rfl (Sx.ov_move _ rfl) ?_
 refine Sx.wl_v rfl rfl (Sx.ov_len _ _ _ _ _ rfl es33) ?_
 refine Sx.wl_v rfl rfl (Sx.ov_bin _ rfl rfl (Sx.binR_lss)) ?_
 refine Sx.wl_nil ?_
 refine Sx.qn_then ?_
 refine Sx.wc_cond (by rfl) (fun c1 => ?_) (fun c1 => ?_)
 ·
  have hk : k < l.length := by omega
  have hmn := merged_next hk z66
  have hlb := last_bnd (expand (l.take k)) z66 rfl
  have hlb2 := exp_runs_len (l.take k)
  have hl1 := exp_take_le l k
  have hl2 := exp_take_le l (k + 1)
  have hl4 : (expand (l.take (k + 1))).length = (expand (l.take k)).length + (l.getD k z66).f0.toNat := by rw [expand_next hk z66]; simp
  have hlt : (l.take k).length = k := by rw [List.length_take]; omega
  refine Sx.wc_skip ?_
  refine Sx.qn_then ?_
  refine Sx.wc_seq ?_
  refine Sx.wc_block ?_
  refine Sx.wc_seq ?_
  refine Sx.wc_seq ?_
  refine Sx.wc_region ?_
  refine Sx.wl_v rfl rfl (Sx.ov_move _ rfl) ?_
  refine Sx.wl_v rfl rfl (Sx.ov_move _ rfl) ?_
  obtain ⟨ad2, rfl⟩ := Sx.C_some ((hr [_] _ h)) (k := k) (by first | assumption | omega)
  refine Sx.wl_v rfl rfl (Sx.ov_indexAddrN _ _ _ _ _ k rfl rfl es33 rfl (by first | assumption | omega | (simp only [List.length_take, List.length_drop, List.length_set]; omega))) ?_
  refine Sx.wl_v rfl rfl (Sx.ov_fieldAddr _ ((ad2).add (k * 2 + 0)) _ rfl fo66_0 (by first | exact Deep.add_add _ _ _ | (rw [Deep.add_add]) | rfl)) ?_
  obtain ⟨cl5, _, hk4, hc3⟩ := Sx.C_cells ((hr [_] _ h)) (z := z66) (k := k) (by first | assumption | omega)
  obtain rfl := k66_open hk4
  refine Sx.wl_v rfl rfl (Sx.ov_load1 _ _ rfl sh3 ((hc3 0 _ rfl))) ?_
  refine Sx.wl_v rfl rfl (Sx.ov_bin _ rfl rfl (Sx.binR_leq)) ?_
  refine Sx.wl_nil ?_
  refine Sx.qn_then ?_
  refine Sx.wc_cond (by rfl) (fun c6 => ?_) (fun c6 => ?_)
  ·
   refine Sx.wc_exit ?_
   refine Sx.qn_then_exit ?_
   refine Sx.qn_block_exit ?_
   refine Sx.qn_then ?_
   refine Sx.wc_region ?_
   refine Sx.wl_v rfl rfl (Sx.ov_move _ rfl) ?_
   refine Sx.wl_v rfl rfl (Sx.ov_bin _ rfl rfl (Sx.binR_add (r := ((k : Int)) + 1) (Sx.w64 (by omega)))) ?_
   refine Sx.wl_v rfl rfl (Sx.ov_assign _ rfl) ?_
   refine Sx.wl_nil ?_
   have hnx : runsOf (expand (l.take (k + 1))) = runsOf (expand (l.take k)) := by
     rw [hmn]
     first
     | (rw [show (l.getD k z66).f0.toNat = 0 by omega]; rfl)
     | (rw [put_set (z := z66) (by omega) (by omega) (by omega), show (((l.getD k z66).f0.toNat : Nat) : Int) = (l.getD k z66).f0 by omega])
     | (rw [put_app (z := z66) (by omega) (by omega), show (((l.getD k z66).f0.toNat : Nat) : Int) = (l.getD k z66).f0 by omega])
   have e_ : runsOf (expand (l.take k)) = runsOf (expand (l.take (k + 1))) := by exact hnx.symm
   replace h := Sx.st_cast (congrArg (fun z_ => ([Sx.row k66 66 (A) (c) (z_)] ++ R)) e_) h
   clear e_
   refine Sx.qn_next ((k + 1), A, c) (by show l.length - (k + 1) < l.length - k; omega) ⟨(congrArg (fun z_ => some (Value.slice (some ad2) z_ (cl))) (show (l.length : Nat) = l.length by first | rfl | simp)), (congrArg (fun z_ => some (Value.slice (A) z_ (c))) (by rw [hnx]; try simp)), (congrArg (fun z_ => some (Value.int .i64 z_)) (show (((k : Int)) + 1 : Int) = ((k + 1) : Int) by omega)), trivial⟩ ?_
   show ((k + 1) ≤ l.length) ∧ _
   exact ⟨by first | omega | simp, h⟩
  ·
   refine Sx.wc_skip ?_
   refine Sx.qn_then ?_
   refine Sx.wc_seq ?_
   refine Sx.wc_seq ?_
   refine Sx.wc_draw (fun w => Sx.St w0 F0 ([Sx.row k66 66 (A) (c) (runsOf (expand (l.take k)))] ++ R) w) (by kernel_rfl) ?_
   replace h := Sx.st_drew h
   refine Sx.wa_tk 0 rfl rfl rfl (Sx.st_selT [true] h) (fun w_ hS => Sx.ov_move _ rfl) ?_
   refine Sx.wa_tk 1 rfl rfl rfl (Sx.st_selT [true] h) (fun w_ hS => Sx.ov_len _ _ _ _ _ rfl es33) ?_
   refine Sx.wa_tk 2 rfl rfl rfl (Sx.st_selT [true] h) (fun w_ hS => Sx.ov_bin _ rfl rfl (Sx.binR_gtr)) ?_
   refine Sx.wa_tk 3 rfl rfl rfl (Sx.st_selT [true] h) (fun w_ hS => Sx.ov_move _ rfl) ?_
   refine Sx.wa_split 20 rfl (fun c7 => ?_) (fun c7 => ?_)
   ·
    refine Sx.wa_tk 4 rfl rfl rfl (Sx.st_selT [true] h) (fun w_ hS => Sx.ov_move _ rfl) ?_
    refine Sx.wa_tk 5 rfl rfl rfl (Sx.st_selT [true] h) (fun w_ hS => Sx.ov_move _ rfl) ?_
    refine Sx.wa_tk 6 rfl rfl rfl (Sx.st_selT [true] h) (fun w_ hS => Sx.ov_len _ _ _ _ _ rfl es33) ?_
    refine Sx.wa_tk 7 rfl rfl rfl (Sx.st_selT [true] h) (fun w_ hS => Sx.ov_bin _ rfl rfl (Sx.binR_sub (r := ((((runsOf (expand (l.take k))).length : Nat) : Int)) - 1) (Sx.w64 (by omega)))) ?_
    obtain ⟨ad8, rfl⟩ := Sx.C_some ((Sx.row_reads h (i := 0) rfl).2) (k := (((runsOf (expand (l.take k))).length) - 1)) (by first | assumption | omega)
    refine Sx.wa_tk 8 rfl rfl rfl (Sx.st_selT [true] h) (fun w_ hS => Sx.ov_indexAddrN _ _ _ _ _ (((runsOf (expand (l.take k))).length) - 1) rfl rfl es33 (by omega) (by first | assumption | omega | (simp only [List.length_take, List.length_drop, List.length_set]; omega))) ?_
    refine Sx.wa_tk 9 rfl rfl rfl (Sx.st_selT [true] h) (fun w_ hS => Sx.ov_fieldAddr _ ((ad8).add ((((runsOf (expand (l.take k))).length) - 1) * 2 + 1)) _ rfl fo66_1 (by first | exact Deep.add_add _ _ _ | (rw [Deep.add_add]) | rfl)) ?_
    refine Sx.wa_tk 10 rfl rfl rfl (Sx.st_selT [true] h) (fun w_ hS => by
        obtain ⟨cl11, _, hk10, hc9⟩ := Sx.C_cells ((Sx.row_reads hS (i := 0) rfl).2) (z := z66) (k := (((runsOf (expand (l.take k))).length) - 1)) (by first | assumption | omega)
        obtain rfl := k66_open hk10
        exact Sx.ov_load1 _ _ rfl sh3 ((hc9 1 _ rfl))) ?_
    refine Sx.wa_tk 11 rfl rfl rfl (Sx.st_selT [true] h) (fun w_ hS => Sx.ov_move _ rfl) ?_
    refine Sx.wa_tk 12 rfl rfl rfl (Sx.st_selT [true] h) (fun w_ hS => Sx.ov_move _ rfl) ?_
    refine Sx.wa_tk 13 rfl rfl rfl (Sx.st_selT [true] h) (fun w_ hS => Sx.ov_indexAddrN _ _ _ _ _ k rfl rfl es33 rfl (by first | assumption | omega | (simp only [List.length_take, List.length_drop, List.length_set]; omega))) ?_
    refine Sx.wa_tk 14 rfl rfl rfl (Sx.st_selT [true] h) (fun w_ hS => Sx.ov_fieldAddr _ ((ad2).add (k * 2 + 1)) _ rfl fo66_1 (by first | exact Deep.add_add _ _ _ | (rw [Deep.add_add]) | rfl)) ?_
    refine Sx.wa_tk 15 rfl rfl rfl (Sx.st_selT [true] h) (fun w_ hS => by
        obtain ⟨cl14, _, hk13, hc12⟩ := Sx.C_cells ((hr [_] _ hS)) (z := z66) (k := k) (by first | assumption | omega)
        obtain rfl := k66_open hk13
        exact Sx.ov_load1 _ _ rfl sh3 ((hc12 1 _ rfl))) ?_
    refine Sx.wa_tk 16 rfl rfl rfl (Sx.st_selT [true] h) (fun w_ hS => Sx.ov_bin _ rfl rfl (Sx.binR_eql)) ?_
    refine Sx.wa_tk 17 rfl rfl rfl (Sx.st_selT [true] h) (fun w_ hS => Sx.ov_pick_true _ rfl rfl) ?_
    refine Sx.wa_done (by kernel_rfl) ?_
    refine Sx.qn_then ?_
    refine Sx.wc_cond (by rfl) (fun c15 => ?_) (fun c15 => ?_)
    ·
     refine Sx.wc_seq ?_
     refine Sx.wc_draw (fun w => Sx.St w0 F0 ([] ++ R) w) (by kernel_rfl) ?_
     replace h := Sx.st_drew h
     refine Sx.wa_tk 0 rfl rfl rfl (Sx.st_selT [false] h) (fun w_ hS => Sx.ov_move _ rfl) ?_
     refine Sx.wa_tk 1 rfl rfl rfl (Sx.st_selT [false] h) (fun w_ hS => Sx.ov_move _ rfl) ?_
     refine Sx.wa_tk 2 rfl rfl rfl (Sx.st_selT [false] h) (fun w_ hS => Sx.ov_len _ _ _ _ _ rfl es33) ?_
     refine Sx.wa_tk 3 rfl rfl rfl (Sx.st_selT [false] h) (fun w_ hS => Sx.ov_bin _ rfl rfl (Sx.binR_sub (r := ((((runsOf (expand (l.take k))).length : Nat) : Int)) - 1) (Sx.w64 (by omega)))) ?_
     refine Sx.wa_tk 4 rfl rfl rfl (Sx.st_selT [false] h) (fun w_ hS => Sx.ov_move _ rfl) ?_
     refine Sx.wa_tk 5 rfl rfl rfl (Sx.st_selT [false] h) (fun w_ hS => Sx.ov_move _ rfl) ?_
     refine Sx.wa_tk 6 rfl rfl rfl (Sx.st_selT [false] h) (fun w_ hS => Sx.ov_len _ _ _ _ _ rfl es33) ?_
     refine Sx.wa_tk 7 rfl rfl rfl (Sx.st_selT [false] h) (fun w_ hS => Sx.ov_bin _ rfl rfl (Sx.binR_sub (r := ((((runsOf (expand (l.take k))).length : Nat) : Int)) - 1) (Sx.w64 (by omega)))) ?_
     refine Sx.wa_tk 8 rfl rfl rfl (Sx.st_selT [false] h) (fun w_ hS => Sx.ov_indexAddrN _ _ _ _ _ (((runsOf (expand (l.take k))).length) - 1) rfl rfl es33 (by omega) (by first | assumption | omega | (simp only [List.length_take, List.length_drop, List.length_set]; omega))) ?_
     refine Sx.wa_tk 9 rfl rfl rfl (Sx.st_selT [false] h) (fun w_ hS => Sx.ov_fieldAddr _ ((ad8).add ((((runsOf (expand (l.take k))).length) - 1) * 2 + 0)) _ rfl fo66_0 (by first | exact Deep.add_add _ _ _ | (rw [Deep.add_add]) | rfl)) ?_
     refine Sx.wa_tk 11 rfl rfl rfl (Sx.st_selT [false] h) (fun w_ hS => Sx.ov_move _ rfl) ?_
     refine Sx.wa_tk 12 rfl rfl rfl (Sx.st_selT [false] h) (fun w_ hS => Sx.ov_move _ rfl) ?_
     refine Sx.wa_tk 13 rfl rfl rfl (Sx.st_selT [false] h) (fun w_ hS => Sx.ov_indexAddrN _ _ _ _ _ k rfl rfl es33 rfl (by first | assumption | omega | (simp only [List.length_take, List.length_drop, List.length_set]; omega))) ?_
     refine Sx.wa_tk 14 rfl rfl rfl (Sx.st_selT [false] h) (fun w_ hS => Sx.ov_fieldAddr _ ((ad2).add (k * 2 + 0)) _ rfl fo66_0 (by first | exact Deep.add_add _ _ _ | (rw [Deep.add_add]) | rfl)) ?_
     refine Sx.wa_tk 15 rfl rfl rfl (Sx.st_selT [false] h) (fun w_ hS => by
         obtain ⟨cl33, _, hk32, hc31⟩ := Sx.C_cells ((hr [] _ hS)) (z := z66) (k := k) (by first | assumption | omega)
         obtain rfl := k66_open hk32
         exact Sx.ov_load1 _ _ rfl sh3 ((hc31 0 _ rfl))) ?_
     refine Sx.wa_one 10 rfl (by kernel_rfl) ?_
     obtain ⟨cl39, _, hk38, hc37⟩ := Sx.C_cells ((Sx.row_reads h (i := 0) rfl).2) (z := z66) (k := (((runsOf (expand (l.take k))).length) - 1)) (by first | assumption | omega)
     obtain rfl := k66_open hk38
     refine Sx.wl_v rfl rfl (Sx.ov_load1 _ _ rfl sh3 ((hc37 0 _ rfl))) ?_
     refine Sx.wl_nil ?_
     refine Sx.qn_wa (Sx.st_selT [false] h) ?_
     refine Sx.wa_tk 16 rfl rfl rfl (Sx.st_selT [false] h) (fun w_ hS => Sx.ov_bin _ rfl rfl (Sx.binR_add (r := (((runsOf (expand (l.take k))).getD (((runsOf (expand (l.take k))).length) - 1) z66).f0) + (((l).getD k z66).f0)) (Sx.w64 (by omega)))) ?_
     refine Sx.wa_tk 17 rfl rfl rfl (Sx.st_selT [false] h) (fun w_ hS => Sx.ov_indexAddrN _ _ _ _ _ (((runsOf (expand (l.take k))).length) - 1) rfl rfl es33 (by omega) (by first | assumption | omega | (simp only [List.length_take, List.length_drop, List.length_set]; omega))) ?_
     refine Sx.wa_tk 18 rfl rfl rfl (Sx.st_selT [false] h) (fun w_ hS => Sx.ov_fieldAddr _ ((ad8).add ((((runsOf (expand (l.take k))).length) - 1) * 2 + 0)) _ rfl fo66_0 (by first | exact Deep.add_add _ _ _ | (rw [Deep.add_add]) | rfl)) ?_
     refine Sx.wa_one 19 rfl (by kernel_rfl) ?_
     refine Sx.wl_storeeN 0 (((runsOf (expand (l.take k))).length) - 1) 0 (.int .i64 ((((runsOf (expand (l.take k))).getD (((runsOf (expand (l.take k))).length) - 1) z66).f0) + (((l).getD k z66).f0))) [.int .i64 ((((runsOf (expand (l.take k))).getD (((runsOf (expand (l.take k))).length) - 1) z66).f0) + (((l).getD k z66).f0))] z66 ((⟨(((runsOf (expand (l.take k))).getD (((runsOf (expand (l.take k))).length) - 1) z66).f0) + (((l).getD k z66).f0), ((runsOf (expand (l.take k))).getD (((runsOf (expand (l.take k))).length) - 1) z66).f1⟩ : Rn)) h rfl rfl rfl (by first | rfl | simp) rfl rfl (by simp [Value.oneCell']) szf3 (by first | assumption | omega) (Nat.le_of_ble_eq_true rfl) (by intro cl hcl hM; obtain ⟨_, _, _, hM⟩ := hM; obtain rfl := k66_openM hM; intro _ _ _; exact k66_mkM _ _ _ ((⟨(((runsOf (expand (l.take k))).getD (((runsOf (expand (l.take k))).length) - 1) z66).f0) + (((l).getD k z66).f0), ((runsOf (expand (l.take k))).getD (((runsOf (expand (l.take k))).length) - 1) z66).f1⟩ : Rn))) (fun _ h => ?_)
     refine Sx.wl_nil ?_
     refine Sx.qn_wa (Sx.st_selT [false] h) ?_
     refine Sx.wa_done (by kernel_rfl) ?_
     refine Sx.qn_then ?_
     refine Sx.wc_exit ?_
     refine Sx.qn_then_exit ?_
     refine Sx.qn_block_exit ?_
     refine Sx.qn_then ?_
     refine Sx.wc_region ?_
     refine Sx.wl_v rfl rfl (Sx.ov_move _ rfl) ?_
     refine Sx.wl_v rfl rfl (Sx.ov_bin _ rfl rfl (Sx.binR_add (r := ((k : Int)) + 1) (Sx.w64 (by omega)))) ?_
     refine Sx.wl_v rfl rfl (Sx.ov_assign _ rfl) ?_
     refine Sx.wl_nil ?_
     have hnx : runsOf (expand (l.take (k + 1))) = (runsOf (expand (l.take k))).set (((runsOf (expand (l.take k))).length) - 1) ((⟨(((runsOf (expand (l.take k))).getD (((runsOf (expand (l.take k))).length) - 1) z66).f0) + (((l).getD k z66).f0), ((runsOf (expand (l.take k))).getD (((runsOf (expand (l.take k))).length) - 1) z66).f1⟩ : Rn)) := by
       rw [hmn]
       first
       | (rw [show (l.getD k z66).f0.toNat = 0 by omega]; rfl)
       | (rw [put_set (z := z66) (by omega) (by omega) (by omega), show (((l.getD k z66).f0.toNat : Nat) : Int) = (l.getD k z66).f0 by omega])
       | (rw [put_app (z := z66) (by omega) (by omega), show (((l.getD k z66).f0.toNat : Nat) : Int) = (l.getD k z66).f0 by omega])
     have e_ : (runsOf (expand (l.take k))).set (((runsOf (expand (l.take k))).length) - 1) ((⟨(((runsOf (expand (l.take k))).getD (((runsOf (expand (l.take k))).length) - 1) z66).f0) + (((l).getD k z66).f0), ((runsOf (expand (l.take k))).getD (((runsOf (expand (l.take k))).length) - 1) z66).f1⟩ : Rn)) = runsOf (expand (l.take (k + 1))) := by exact hnx.symm
     replace h := Sx.st_cast (congrArg (fun z_ => ([Sx.row k66 66 (some ad8) (c) (z_)] ++ R)) e_) h
     clear e_
     refine Sx.qn_next ((k + 1), some ad8, c) (by show l.length - (k + 1) < l.length - k; omega) ⟨(congrArg (fun z_ => some (Value.slice (some ad2) z_ (cl))) (show (l.length : Nat) = l.length by first | rfl | simp)), (congrArg (fun z_ => some (Value.slice (some ad8) z_ (c))) (by rw [hnx]; try simp)), (congrArg (fun z_ => some (Value.int .i64 z_)) (show (((k : Int)) + 1 : Int) = ((k + 1) : Int) by omega)), trivial⟩ ?_
     show ((k + 1) ≤ l.length) ∧ _
     exact ⟨by first | omega | simp, h⟩
    ·
     refine Sx.wc_skip ?_
     refine Sx.qn_then ?_
     refine Sx.wc_region ?_
     refine Sx.wl_v rfl rfl (Sx.ov_move _ rfl) ?_
     refine Sx.wl_v rfl rfl (Sx.ov_move _ rfl) ?_
     refine Sx.wl_v rfl rfl (Sx.ov_move _ rfl) ?_
     refine Sx.wl_v rfl rfl (Sx.ov_indexAddrN _ _ _ _ _ k rfl rfl es33 rfl (by first | assumption | omega | (simp only [List.length_take, List.length_drop, List.length_set]; omega))) ?_
     obtain ⟨cl42, _, hk41, hc40⟩ := Sx.C_cells ((hr [_] _ h)) (z := z66) (k := k) (by first | assumption | omega)
     obtain rfl := k66_open hk41
     refine Sx.wl_v rfl rfl (Sx.ov_loadN _ [.int .i64 (((l).getD k z66).f0), .int .i64 (((l).getD k z66).f1)] rfl sh66 (by intro j u hu; rw [Deep.add_add]; exact (hc40 _ _ hu))) ?_
     refine Sx.wl_lit (d := k66) [(0, .agg #[.int .i64 (((l).getD k z66).f0), .int .i64 (((l).getD k z66).f1)])] _ [.int .i64 (((l).getD k z66).f0), .int .i64 (((l).getD k z66).f1)] ([(⟨((l).getD k z66).f0, ((l).getD k z66).f1⟩ : Rn)]) h rfl rfl rfl rfl Try.underlying33 infb66 rfl (by decide) (by kernel_rfl) rfl (fun _ _ _ => ((Reps.none _ _).snoc (k66_mkM _ _ _ ((⟨((l).getD k z66).f0, ((l).getD k z66).f1⟩ : Rn))) rfl)) (fun A43 cp44 _ h => ?_)
     refine Sx.wl_append (d := k66) (L := runsOf (expand (l.take k))) 1 _ 16 _ _ _ ([(⟨((l).getD k z66).f0, ((l).getD k z66).f1⟩ : Rn)]) flat66 h rfl rfl rfl rfl rfl ((Sx.row_reads h (i := 0) rfl).2) Try.underlying33 inf66 rfl (by decide) (by decide) (by simp only [List.length_cons, List.length_nil]; omega) (by first | rfl | simp) (fun A45 cp46 _ h => ?_)
     replace h := Sx.st_selT [false, true] h
     refine Sx.wl_v rfl rfl (Sx.ov_assign _ rfl) ?_
     refine Sx.wl_nil ?_
     refine Sx.qn_block_normal ?_
     refine Sx.qn_then ?_
     refine Sx.wc_region ?_
     refine Sx.wl_v rfl rfl (Sx.ov_move _ rfl) ?_
     refine Sx.wl_v rfl rfl (Sx.ov_bin _ rfl rfl (Sx.binR_add (r := ((k : Int)) + 1) (Sx.w64 (by omega)))) ?_
     refine Sx.wl_v rfl rfl (Sx.ov_assign _ rfl) ?_
     refine Sx.wl_nil ?_
     have hnx : runsOf (expand (l.take (k + 1))) = (runsOf (expand (l.take k))) ++ ([(⟨((l).getD k z66).f0, ((l).getD k z66).f1⟩ : Rn)]) := by
       rw [hmn]
       first
       | (rw [show (l.getD k z66).f0.toNat = 0 by omega]; rfl)
       | (rw [put_set (z := z66) (by omega) (by omega) (by omega), show (((l.getD k z66).f0.toNat : Nat) : Int) = (l.getD k z66).f0 by omega])
       | (rw [put_app (z := z66) (by omega) (by omega), show (((l.getD k z66).f0.toNat : Nat) : Int) = (l.getD k z66).f0 by omega])
     have e_ : (runsOf (expand (l.take k))) ++ ([(⟨((l).getD k z66).f0, ((l).getD k z66).f1⟩ : Rn)]) = runsOf (expand (l.take (k + 1))) := by exact hnx.symm
     replace h := Sx.st_cast (congrArg (fun z_ => ([Sx.row k66 66 (A45) (cp46) (z_)] ++ R)) e_) h
     clear e_
     refine Sx.qn_next ((k + 1), A45, cp46) (by show l.length - (k + 1) < l.length - k; omega) ⟨(congrArg (fun z_ => some (Value.slice (some ad2) z_ (cl))) (show (l.length : Nat) = l.length by first | rfl | simp)), (congrArg (fun z_ => some (Value.slice (A45) z_ (cp46))) (by rw [hnx]; try simp)), (congrArg (fun z_ => some (Value.int .i64 z_)) (show (((k : Int)) + 1 : Int) = ((k + 1) : Int) by omega)), trivial⟩ ?_
     show ((k + 1) ≤ l.length) ∧ _
     exact ⟨by first | omega | simp, h⟩
   ·
    refine Sx.wa_sk 4 rfl rfl rfl (Sx.st_selT [true] h) ?_
    refine Sx.wa_sk 5 rfl rfl rfl (Sx.st_selT [true] h) ?_
    refine Sx.wa_sk 6 rfl rfl rfl (Sx.st_selT [true] h) ?_
    refine Sx.wa_sk 7 rfl rfl rfl (Sx.st_selT [true] h) ?_
    refine Sx.wa_sk 8 rfl rfl rfl (Sx.st_selT [true] h) ?_
    refine Sx.wa_sk 9 rfl rfl rfl (Sx.st_selT [true] h) ?_
    refine Sx.wa_sk 10 rfl rfl rfl (Sx.st_selT [true] h) ?_
    refine Sx.wa_sk 11 rfl rfl rfl (Sx.st_selT [true] h) ?_
    refine Sx.wa_sk 12 rfl rfl rfl (Sx.st_selT [true] h) ?_
    refine Sx.wa_sk 13 rfl rfl rfl (Sx.st_selT [true] h) ?_
    refine Sx.wa_sk 14 rfl rfl rfl (Sx.st_selT [true] h) ?_
    refine Sx.wa_sk 15 rfl rfl rfl (Sx.st_selT [true] h) ?_
    refine Sx.wa_sk 16 rfl rfl rfl (Sx.st_selT [true] h) ?_
    refine Sx.wa_tk 17 rfl rfl rfl (Sx.st_selT [true] h) (fun w_ hS => Sx.ov_pick_false _ rfl rfl) ?_
    refine Sx.wa_done (by kernel_rfl) ?_
    refine Sx.qn_then ?_
    refine Sx.wc_cond_false rfl ?_
    refine Sx.wc_skip ?_
    refine Sx.qn_then ?_
    refine Sx.wc_region ?_
    refine Sx.wl_v rfl rfl (Sx.ov_move _ rfl) ?_
    refine Sx.wl_v rfl rfl (Sx.ov_move _ rfl) ?_
    refine Sx.wl_v rfl rfl (Sx.ov_move _ rfl) ?_
    refine Sx.wl_v rfl rfl (Sx.ov_indexAddrN _ _ _ _ _ k rfl rfl es33 rfl (by first | assumption | omega | (simp only [List.length_take, List.length_drop, List.length_set]; omega))) ?_
    obtain ⟨cl49, _, hk48, hc47⟩ := Sx.C_cells ((hr [_] _ h)) (z := z66) (k := k) (by first | assumption | omega)
    obtain rfl := k66_open hk48
    refine Sx.wl_v rfl rfl (Sx.ov_loadN _ [.int .i64 (((l).getD k z66).f0), .int .i64 (((l).getD k z66).f1)] rfl sh66 (by intro j u hu; rw [Deep.add_add]; exact (hc47 _ _ hu))) ?_
    refine Sx.wl_lit (d := k66) [(0, .agg #[.int .i64 (((l).getD k z66).f0), .int .i64 (((l).getD k z66).f1)])] _ [.int .i64 (((l).getD k z66).f0), .int .i64 (((l).getD k z66).f1)] ([(⟨((l).getD k z66).f0, ((l).getD k z66).f1⟩ : Rn)]) h rfl rfl rfl rfl Try.underlying33 infb66 rfl (by decide) (by kernel_rfl) rfl (fun _ _ _ => ((Reps.none _ _).snoc (k66_mkM _ _ _ ((⟨((l).getD k z66).f0, ((l).getD k z66).f1⟩ : Rn))) rfl)) (fun A50 cp51 _ h => ?_)
    refine Sx.wl_append (d := k66) (L := runsOf (expand (l.take k))) 1 _ 16 _ _ _ ([(⟨((l).getD k z66).f0, ((l).getD k z66).f1⟩ : Rn)]) flat66 h rfl rfl rfl rfl rfl ((Sx.row_reads h (i := 0) rfl).2) Try.underlying33 inf66 rfl (by decide) (by decide) (by simp only [List.length_cons, List.length_nil]; omega) (by first | rfl | simp) (fun A52 cp53 _ h => ?_)
    replace h := Sx.st_selT [false, true] h
    refine Sx.wl_v rfl rfl (Sx.ov_assign _ rfl) ?_
    refine Sx.wl_nil ?_
    refine Sx.qn_block_normal ?_
    refine Sx.qn_then ?_
    refine Sx.wc_region ?_
    refine Sx.wl_v rfl rfl (Sx.ov_move _ rfl) ?_
    refine Sx.wl_v rfl rfl (Sx.ov_bin _ rfl rfl (Sx.binR_add (r := ((k : Int)) + 1) (Sx.w64 (by omega)))) ?_
    refine Sx.wl_v rfl rfl (Sx.ov_assign _ rfl) ?_
    refine Sx.wl_nil ?_
    have hnx : runsOf (expand (l.take (k + 1))) = (runsOf (expand (l.take k))) ++ ([(⟨((l).getD k z66).f0, ((l).getD k z66).f1⟩ : Rn)]) := by
      rw [hmn]
      first
      | (rw [show (l.getD k z66).f0.toNat = 0 by omega]; rfl)
      | (rw [put_set (z := z66) (by omega) (by omega) (by omega), show (((l.getD k z66).f0.toNat : Nat) : Int) = (l.getD k z66).f0 by omega])
      | (rw [put_app (z := z66) (by omega) (by omega), show (((l.getD k z66).f0.toNat : Nat) : Int) = (l.getD k z66).f0 by omega])
    have e_ : (runsOf (expand (l.take k))) ++ ([(⟨((l).getD k z66).f0, ((l).getD k z66).f1⟩ : Rn)]) = runsOf (expand (l.take (k + 1))) := by exact hnx.symm
    replace h := Sx.st_cast (congrArg (fun z_ => ([Sx.row k66 66 (A52) (cp53) (z_)] ++ R)) e_) h
    clear e_
    refine Sx.qn_next ((k + 1), A52, cp53) (by show l.length - (k + 1) < l.length - k; omega) ⟨(congrArg (fun z_ => some (Value.slice (some ad2) z_ (cl))) (show (l.length : Nat) = l.length by first | rfl | simp)), (congrArg (fun z_ => some (Value.slice (A52) z_ (cp53))) (by rw [hnx]; try simp)), (congrArg (fun z_ => some (Value.int .i64 z_)) (show (((k : Int)) + 1 : Int) = ((k + 1) : Int) by omega)), trivial⟩ ?_
    show ((k + 1) ≤ l.length) ∧ _
    exact ⟨by first | omega | simp, h⟩
 ·
  refine Sx.wc_exit ?_
  refine Sx.qn_then_exit ?_
  refine Sx.qn_then_exit ?_
  refine Sx.qn_block_exit ?_
  refine Sx.qn_then ?_
  refine Sx.wc_seq ?_
  refine Sx.wc_region ?_
  refine Sx.wl_v rfl rfl (Sx.ov_move _ rfl) ?_
  refine Sx.wl_v rfl rfl (Sx.ov_assign _ rfl) ?_
  refine Sx.wl_nil ?_
  refine Sx.qn_then ?_
  refine Sx.wc_ret ?_
  have e_ : runsOf (expand (l.take k)) = runsOf (expand l) := by rw [show k = l.length by omega, List.take_length]
  replace h := Sx.st_cast (congrArg (fun z_ => ([Sx.row k66 66 (A) (c) (z_)] ++ R)) e_) h
  clear e_
  refine Sx.qn_ret [_] ⟨rfl, trivial⟩ ?_
  exact ⟨_, _, congrArg (fun z => Ending.returned (Value.slice (A) z (c))) (by rw [show k = l.length by omega, List.take_length]), h⟩
set_option maxRecDepth 100000 in
theorem rSame_calls {w0 w : World} {F0 : Nat → Prop} {R : List Sx.HP} (a b : List Rn) (Aa Ab : Option Addr) (ca cb : Nat) (ha2 : a.length ≤ 1099511627776) (hb2 : b.length ≤ 1099511627776) (ha : ∀ cs w, Sx.St w0 F0 (cs ++ R) w → k66.C w Aa a.length a) (hb : ∀ cs w, Sx.St w0 F0 (cs ++ R) w → k66.C w Ab b.length b) (h : Sx.St w0 F0 ([] ++ R) w) : Calls Try.prog 15 #[.slice (Aa) (a.length) (ca), .slice (Ab) (b.length) (cb)] w (fun e w1 => e = .returned (.bool (sameB a b)) ∧ Sx.St w0 F0 R w1) := by
 refine Sx.calls_fn (vs := [.slice (Aa) (a.length) (ca), .slice (Ab) (b.length) (cb)]) Try.func15 rfl Try.ntmps15 rfl ?_
 refine Sx.wc_seq ?_
 refine Sx.wc_region ?_
 refine Sx.wl_v rfl rfl (Sx.ov_assign _ rfl) ?_
 refine Sx.wl_nil ?_
 refine Sx.qn_then ?_
 refine Sx.wc_seq ?_
 refine Sx.wc_seq ?_
 refine Sx.wc_region ?_
 refine Sx.wl_v rfl rfl (Sx.ov_move _ rfl) ?_
 refine Sx.wl_v rfl rfl (Sx.ov_len _ _ _ _ _ rfl es33) ?_
 refine Sx.wl_v rfl rfl (Sx.ov_move _ rfl) ?_
 refine Sx.wl_v rfl rfl (Sx.ov_len _ _ _ _ _ rfl es33) ?_
 refine Sx.wl_v rfl rfl (Sx.ov_bin _ rfl rfl (Sx.binR_neq)) ?_
 refine Sx.wl_nil ?_
 refine Sx.qn_then ?_
 refine Sx.wc_cond (by rfl) (fun c1 => ?_) (fun c1 => ?_)
 ·
  refine Sx.wc_seq ?_
  refine Sx.wc_region ?_
  refine Sx.wl_v rfl rfl (Sx.ov_assign _ rfl) ?_
  refine Sx.wl_nil ?_
  refine Sx.qn_then ?_
  refine Sx.wc_ret ?_
  refine Sx.qn_then_ret ?_
  refine Sx.qn_ret [_] ⟨rfl, trivial⟩ ?_
  have e_ : sameB a b = false := decide_eq_false (fun e => by have := congrArg List.length e; omega)
  rw [e_]
  exact ⟨rfl, h⟩
 ·
  refine Sx.wc_skip ?_
  refine Sx.qn_then ?_
  refine Sx.wc_seq ?_
  refine Sx.wc_seq ?_
  refine Sx.wc_region ?_
  refine Sx.wl_v rfl rfl (Sx.ov_assign _ rfl) ?_
  refine Sx.wl_nil ?_
  refine Sx.qn_then ?_
  refine Sx.wc_block ?_
  have hlen2 : a.length = b.length := by omega
  refine Sx.wc_loop (fun (x_ : Nat) => [(0, .slice (Aa) (a.length) (ca)), (1, .slice (Ab) (b.length) (cb)), (5, .int .i64 ((x_ : Int)))]) (fun (x_ : Nat) (w : World) => (x_ ≤ a.length ∧ a.take x_ = b.take x_) ∧ Sx.St w0 F0 ([] ++ R) w) (fun (x_ : Nat) => a.length - x_) (0) ?_ ?_ ?_
  · exact ⟨rfl, rfl, (congrArg (fun z_ => some (Value.int .i64 z_)) (show (0 : Int) = (0 : Int) by omega)), trivial⟩
  · exact ⟨⟨Nat.zero_le _, rfl⟩, h⟩
  intro m w h
  obtain ⟨hJ, h⟩ := h
  replace hJ : m ≤ a.length ∧ a.take m = b.take m := hJ
  replace h : Sx.St w0 F0 ([] ++ R) w := h
  show Sx.WC _ _ _ _ [(0, .slice (Aa) (a.length) (ca)), (1, .slice (Ab) (b.length) (cb)), (5, .int .i64 ((m : Int)))] _
  refine Sx.wc_seq ?_
  refine Sx.wc_seq ?_
  refine Sx.wc_region ?_
  refine Sx.wl_v rfl rfl (Sx.ov_move _ rfl) ?_
  refine Sx.wl_v rfl rfl (Sx.ov_move _ rfl) ?_
  refine Sx.wl_v rfl rfl (Sx.ov_len _ _ _ _ _ rfl es33) ?_
  refine Sx.wl_v rfl rfl (Sx.ov_bin _ rfl rfl (Sx.binR_lss)) ?_
  refine Sx.wl_nil ?_
  refine Sx.qn_then ?_
  refine Sx.wc_cond (by rfl) (fun c2 => ?_) (fun c2 => ?_)
  ·
   have hk : m < a.length := by omega
   refine Sx.wc_skip ?_
   refine Sx.qn_then ?_
   refine Sx.wc_seq ?_
   refine Sx.wc_block ?_
   refine Sx.wc_seq ?_
   refine Sx.wc_draw (fun w => Sx.St w0 F0 ([] ++ R) w) (by kernel_rfl) ?_
   replace h := Sx.st_drew h
   refine Sx.wa_tk 0 rfl rfl rfl (Sx.st_selT [] h) (fun w_ hS => Sx.ov_move _ rfl) ?_
   refine Sx.wa_tk 1 rfl rfl rfl (Sx.st_selT [] h) (fun w_ hS => Sx.ov_move _ rfl) ?_
   obtain ⟨ad3, rfl⟩ := Sx.C_some ((ha [] _ h)) (k := m) (by first | assumption | omega)
   refine Sx.wa_tk 2 rfl rfl rfl (Sx.st_selT [] h) (fun w_ hS => Sx.ov_indexAddrN _ _ _ _ _ m rfl rfl es33 rfl (by first | assumption | omega | (simp only [List.length_take, List.length_drop, List.length_set]; omega))) ?_
   refine Sx.wa_tk 3 rfl rfl rfl (Sx.st_selT [] h) (fun w_ hS => by
       obtain ⟨cl6, _, hk5, hc4⟩ := Sx.C_cells ((ha [] _ hS)) (z := z66) (k := m) (by first | assumption | omega)
       obtain rfl := k66_open hk5
       exact Sx.ov_loadN _ [.int .i64 (((a).getD m z66).f0), .int .i64 (((a).getD m z66).f1)] rfl sh66 (by intro j u hu; rw [Deep.add_add]; exact (hc4 _ _ hu))) ?_
   refine Sx.wa_tk 4 rfl rfl rfl (Sx.st_selT [] h) (fun w_ hS => Sx.ov_move _ rfl) ?_
   refine Sx.wa_tk 5 rfl rfl rfl (Sx.st_selT [] h) (fun w_ hS => Sx.ov_move _ rfl) ?_
   obtain ⟨ad7, rfl⟩ := Sx.C_some ((hb [] _ h)) (k := m) (by first | assumption | omega)
   refine Sx.wa_tk 6 rfl rfl rfl (Sx.st_selT [] h) (fun w_ hS => Sx.ov_indexAddrN _ _ _ _ _ m rfl rfl es33 rfl (by first | assumption | omega | (simp only [List.length_take, List.length_drop, List.length_set]; omega))) ?_
   refine Sx.wa_tk 7 rfl rfl rfl (Sx.st_selT [] h) (fun w_ hS => by
       obtain ⟨cl10, _, hk9, hc8⟩ := Sx.C_cells ((hb [] _ hS)) (z := z66) (k := m) (by first | assumption | omega)
       obtain rfl := k66_open hk9
       exact Sx.ov_loadN _ [.int .i64 (((b).getD m z66).f0), .int .i64 (((b).getD m z66).f1)] rfl sh66 (by intro j u hu; rw [Deep.add_add]; exact (hc8 _ _ hu))) ?_
   refine Sx.wa_tk 8 rfl rfl rfl (Sx.st_selT [] h) (fun w_ hS => Sx.ov_bin _ rfl rfl (Sx.binR_neS ((((((a).getD m z66).f0 : Int) == (((b).getD m z66).f0)) && (((((a).getD m z66).f1 : Int) == (((b).getD m z66).f1)) && true))) (¬ ((((a).getD m z66).f0 : Int) = (((b).getD m z66).f0) ∧ (((a).getD m z66).f1 : Int) = (((b).getD m z66).f1))) eqf66 eqs66 (by kernel_rfl) (by rw [Bool.eq_iff_iff]; simp))) ?_
   refine Sx.wa_done (by kernel_rfl) ?_
   refine Sx.qn_then ?_
   refine Sx.wc_cond (by rfl) (fun c11 => ?_) (fun c11 => ?_)
   ·
    refine Sx.wc_seq ?_
    refine Sx.wc_region ?_
    refine Sx.wl_v rfl rfl (Sx.ov_assign _ rfl) ?_
    refine Sx.wl_nil ?_
    refine Sx.qn_then ?_
    refine Sx.wc_ret ?_
    refine Sx.qn_block_ret ?_
    refine Sx.qn_then_ret ?_
    refine Sx.qn_then_ret ?_
    refine Sx.qn_block_ret ?_
    refine Sx.qn_then_ret ?_
    refine Sx.qn_ret [_] ⟨rfl, trivial⟩ ?_
    have e_ : sameB a b = false := decide_eq_false (fun e => by
      have h_ : a.getD m z66 = b.getD m z66 := by rw [e]
      have h1_ := congrArg S66.f0 h_; have h2_ := congrArg S66.f1 h_; omega)
    rw [e_]
    exact ⟨rfl, h⟩
   ·
    refine Sx.wc_skip ?_
    refine Sx.qn_block_normal ?_
    refine Sx.qn_then ?_
    refine Sx.wc_region ?_
    refine Sx.wl_v rfl rfl (Sx.ov_move _ rfl) ?_
    refine Sx.wl_v rfl rfl (Sx.ov_bin _ rfl rfl (Sx.binR_add (r := ((m : Int)) + 1) (Sx.w64 (by omega)))) ?_
    refine Sx.wl_v rfl rfl (Sx.ov_assign _ rfl) ?_
    refine Sx.wl_nil ?_
    refine Sx.qn_next ((m + 1)) (by show a.length - (m + 1) < a.length - m; omega) ⟨(congrArg (fun z_ => some (Value.slice (some ad3) z_ (ca))) (show (a.length : Nat) = a.length by first | rfl | simp)), (congrArg (fun z_ => some (Value.slice (some ad7) z_ (cb))) (show (b.length : Nat) = b.length by first | rfl | simp)), (congrArg (fun z_ => some (Value.int .i64 z_)) (show (((m : Int)) + 1 : Int) = ((m + 1) : Int) by omega)), trivial⟩ ?_
    show ((m + 1) ≤ a.length ∧ a.take (m + 1) = b.take (m + 1)) ∧ _
    have hn2 := take_next_eq hJ.2 hk hlen2 z66 (rn_ext (by omega))
    exact ⟨⟨by omega, hn2⟩, h⟩
  ·
   refine Sx.wc_exit ?_
   refine Sx.qn_then_exit ?_
   refine Sx.qn_then_exit ?_
   refine Sx.qn_block_exit ?_
   refine Sx.qn_then ?_
   refine Sx.wc_seq ?_
   refine Sx.wc_region ?_
   refine Sx.wl_v rfl rfl (Sx.ov_assign _ rfl) ?_
   refine Sx.wl_nil ?_
   refine Sx.qn_then ?_
   refine Sx.wc_ret ?_
   refine Sx.qn_ret [_] ⟨rfl, trivial⟩ ?_
   have e_ : sameB a b = true := decide_eq_true (take_all_eq hJ.2 (by omega) hlen2)
   rw [e_]
   exact ⟨rfl, h⟩
end Go.Proofs.Ytkliboeebookeaa.Runs.E
