/- The walk of Copy. -/
import Derived.Test.YteancplgfjhagaaProg
import Derived.Test.YteancplgfjhagaaSxGlue
import Derived.Test.YteancplgfjhagaaSxKinds
import Derived.Test.YteancplgfjhagaaParasTh
import Derived.Test.YteancplgfjhagaaSxParas
import Derived.Test.YteancplgfjhagaaSxParasB
import Derived.Test.YteancplgfjhagaaSxPlain
namespace Go.Proofs.Yteancplgfjhagaa.Paras.C2
open Go Go.RowKit Go.Proofs.YteancplgfjhagaaW.PrintWords Go.Proofs.Yteancplgfjhagaa.Kinds Go.Proofs.Yteancplgfjhagaa.Paras Go.Proofs.Yteancplgfjhagaa.Paras.B Go.Proofs.Yteancplgfjhagaa.Paras.C
set_option linter.unusedVariables false
set_option linter.unusedSimpArgs false
theorem infb3 : (Try.prog.info? 3).map (fun i => (i.zero, i.size)) = some (some (.int .i64 (0)), 1) := by kernel_rfl
theorem fo60_0 : Sx.fieldOff Try.prog 60 0 = some 0 := by kernel_rfl
theorem sh23 : Sx.shapeOf Try.prog 23 = some (false, 1) := by kernel_rfl
theorem inf3 : (Try.prog.info? 3).map (fun i => (i.zero, i.size, i.bytes)) = some (some (.int .i64 (0)), 1, 8) := by kernel_rfl
theorem fo60_1 : Sx.fieldOff Try.prog 60 1 = some 1 := by kernel_rfl
theorem sh3 : Sx.shapeOf Try.prog 3 = some (false, 1) := by kernel_rfl
theorem fo60_2 : Sx.fieldOff Try.prog 60 2 = some 2 := by kernel_rfl
theorem sh4 : Sx.shapeOf Try.prog 4 = some (false, 1) := by kernel_rfl
set_option maxRecDepth 100000 in
theorem Copy_calls {w0 w : World} {F0 : Nat → Prop} {R : List Sx.HP} (g : Nat) (x : IX) (hx : x.lens.length ≤ 1099511627776) (h : Sx.St w0 F0 ([ixB g (x)] ++ R) w) : Calls Try.prog 27 #[.pointer (some ⟨g, 0, none⟩)] w (fun e w1 => ∃ g2, e = .returned (.pointer (some ⟨g2, 0, none⟩)) ∧ Sx.St w0 F0 (ixB g x :: ixB g2 x :: R) w1) := by
 refine Sx.calls_fn (vs := [.pointer (some ⟨g, 0, none⟩)]) Try.func27 rfl Try.ntmps27 rfl ?_
 refine Sx.wc_seq ?_
 refine Sx.wc_region ?_
 refine Sx.wl_v rfl rfl (Sx.ov_assign _ rfl) ?_
 refine Sx.wl_nil ?_
 refine Sx.qn_then ?_
 refine Sx.wc_seq ?_
 obtain ⟨A1, c2, h⟩ := ixB_open h
 refine Sx.wc_draw (fun w => Sx.St w0 F0 ([Sx.blk g [.slice (A1) (((x).lens).length) (c2), .int .i64 ((x).size), .bool ((x).open_)] 60, Sx.row (Kd.int .i64) 3 (A1) (c2) ((x).lens)] ++ R) w) (by kernel_rfl) ?_
 replace h := Sx.st_drew h
 refine Sx.wa_take 1 rfl (by kernel_rfl) (by kernel_rfl) (by kernel_rfl) (fun _ _ _ h => h) rfl rfl (Sx.st_selT [true, true] h) (fun w_ hS => Sx.ov_move _ rfl) ?_
 refine Sx.wa_take 2 rfl (by kernel_rfl) (by kernel_rfl) (by kernel_rfl) (fun _ _ _ h => h) rfl rfl (Sx.st_selT [true, true] h) (fun w_ hS => Sx.ov_nilCheck _ rfl) ?_
 refine Sx.wa_take 3 rfl (by kernel_rfl) (by kernel_rfl) (by kernel_rfl) (fun _ _ _ h => h) rfl rfl (Sx.st_selT [true, true] h) (fun w_ hS => Sx.ov_fieldAddr _ ⟨g, 0, none⟩ _ rfl fo60_0 rfl) ?_
 refine Sx.wa_take 4 rfl (by kernel_rfl) (by kernel_rfl) (by kernel_rfl) (fun _ _ _ h => h) rfl rfl (Sx.st_selT [true, true] h) (fun w_ hS => Sx.ov_loadb 0 _ hS rfl rfl sh23 rfl) ?_
 refine Sx.wa_take 6 rfl (by kernel_rfl) (by kernel_rfl) (by kernel_rfl) (fun _ _ _ h => h) rfl rfl (Sx.st_selT [true, true] h) (fun w_ hS => Sx.ov_move _ rfl) ?_
 refine Sx.wa_take 7 rfl (by kernel_rfl) (by kernel_rfl) (by kernel_rfl) (fun _ _ _ h => h) rfl rfl (Sx.st_selT [true, true] h) (fun w_ hS => Sx.ov_nilCheck _ rfl) ?_
 refine Sx.wa_take 8 rfl (by kernel_rfl) (by kernel_rfl) (by kernel_rfl) (fun _ _ _ h => h) rfl rfl (Sx.st_selT [true, true] h) (fun w_ hS => Sx.ov_fieldAddr _ ⟨g, 1, none⟩ _ rfl fo60_1 rfl) ?_
 refine Sx.wa_take 9 rfl (by kernel_rfl) (by kernel_rfl) (by kernel_rfl) (fun _ _ _ h => h) rfl rfl (Sx.st_selT [true, true] h) (fun w_ hS => Sx.ov_loadb 0 _ hS rfl rfl sh3 rfl) ?_
 refine Sx.wa_take 10 rfl (by kernel_rfl) (by kernel_rfl) (by kernel_rfl) (fun _ _ _ h => h) rfl rfl (Sx.st_selT [true, true] h) (fun w_ hS => Sx.ov_move _ rfl) ?_
 refine Sx.wa_take 11 rfl (by kernel_rfl) (by kernel_rfl) (by kernel_rfl) (fun _ _ _ h => h) rfl rfl (Sx.st_selT [true, true] h) (fun w_ hS => Sx.ov_nilCheck _ rfl) ?_
 refine Sx.wa_take 12 rfl (by kernel_rfl) (by kernel_rfl) (by kernel_rfl) (fun _ _ _ h => h) rfl rfl (Sx.st_selT [true, true] h) (fun w_ hS => Sx.ov_fieldAddr _ ⟨g, 2, none⟩ _ rfl fo60_2 rfl) ?_
 refine Sx.wa_take 13 rfl (by kernel_rfl) (by kernel_rfl) (by kernel_rfl) (fun _ _ _ h => h) rfl rfl (Sx.st_selT [true, true] h) (fun w_ hS => Sx.ov_loadb 0 _ hS rfl rfl sh4 rfl) ?_
 refine Sx.wa_one 0 rfl (by kernel_rfl) ?_
 refine Sx.wl_lit (d := (Kd.int .i64)) [] _ [] ([]) h rfl rfl rfl rfl Try.underlying23 infb3 rfl (by decide) (by kernel_rfl) rfl (fun _ _ _ => (Reps.none _ _)) (fun A3 cp4 _ h => ?_)
 refine Sx.wl_nil ?_
 refine Sx.qn_wa (Sx.st_selT [false, true, true] h) ?_
 refine Sx.wa_one 5 rfl (by kernel_rfl) ?_
 refine Sx.wl_append (d := (Kd.int .i64)) (L := []) 0 _ 8 _ _ _ ((x).lens) (Sx.flat_int _) h rfl rfl rfl rfl rfl ((Sx.row_reads h (i := 2) rfl).2) Try.underlying23 inf3 rfl (by decide) (by decide) (by simp only [List.length_nil]; omega) (by first | rfl | simp) (fun A5 cp6 _ h => ?_)
 refine Sx.wl_nil ?_
 refine Sx.qn_wa (Sx.st_selT [false, true, true] h) ?_
 refine Sx.wa_take 14 rfl (by kernel_rfl) (by kernel_rfl) (by kernel_rfl) (fun _ _ _ h => h) rfl rfl (Sx.st_selT [false, true, true] h) (fun w_ hS => Sx.ov_build [(0, .slice (A5) ((([]) ++ ((x).lens)).length) (cp6)), (1, .int .i64 ((x).size)), (2, .bool ((x).open_))] [.slice (A5) ((([]) ++ ((x).lens)).length) (cp6), .int .i64 ((x).size), .bool ((x).open_)] rfl rfl (by kernel_rfl)) ?_
 refine Sx.wa_one 15 rfl (by kernel_rfl) ?_
 refine Sx.wl_box _ h rfl rfl rfl (fun b7 _ h => ?_)
 replace h : Sx.St _ _ (Sx.blk b7 [.slice (A5) ((([]) ++ ((x).lens)).length) (cp6), .int .i64 ((x).size), .bool ((x).open_)] 60 :: _) _ := h
 refine Sx.wl_nil ?_
 refine Sx.qn_wa (Sx.st_selT [false, false, true, true] h) ?_
 refine Sx.wa_take 16 rfl (by kernel_rfl) (by kernel_rfl) (by kernel_rfl) (fun _ _ _ h => h) rfl rfl (Sx.st_selT [false, false, true, true] h) (fun w_ hS => Sx.ov_assign _ rfl) ?_
 refine Sx.wa_done (by kernel_rfl) ?_
 refine Sx.qn_then ?_
 refine Sx.wc_ret ?_
 replace h := Sx.st_front 3 h
 replace h := Sx.st_front 3 h
 replace h := ixB_close ((x).lens) ((x).size) (((x).open_)) (by first | rfl | simp) h
 replace h := Sx.st_front 2 h
 replace h := Sx.st_front 2 h
 replace h := ixB_close (([]) ++ ((x).lens)) ((x).size) (((x).open_)) (by first | rfl | simp) h
 have e_ : (⟨([]) ++ ((x).lens), (x).size, ((x).open_)⟩ : IX) = x := by rfl
 replace h := Sx.st_cast (congrArg (fun z_ => ([ixB b7 (z_), ixB g (x)] ++ R)) e_) h
 clear e_
 replace h := Sx.st_front 1 h
 refine Sx.qn_ret [_] ⟨rfl, trivial⟩ ?_
 exact ⟨_, rfl, h⟩
end Go.Proofs.Yteancplgfjhagaa.Paras.C2
