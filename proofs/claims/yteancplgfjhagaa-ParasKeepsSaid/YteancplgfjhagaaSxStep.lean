/- The walk of a step. -/
import Derived.Test.YteancplgfjhagaaProg
import Derived.Test.YteancplgfjhagaaSxGlue
import Derived.Test.YteancplgfjhagaaSxKinds
import Derived.Test.YteancplgfjhagaaParasTh
import Derived.Test.YteancplgfjhagaaSxParas
import Derived.Test.YteancplgfjhagaaSxParasB
import Derived.Test.YteancplgfjhagaaSxPlain
import Derived.Test.YteancplgfjhagaaParasIns
import Derived.Test.YteancplgfjhagaaParasDel
import Derived.Test.YteancplgfjhagaaSxEdit
import Derived.Test.YteancplgfjhagaaSxEditB
namespace Go.Proofs.Yteancplgfjhagaa.Paras.F
open Go Go.RowKit Go.Proofs.YteancplgfjhagaaW.PrintWords Go.Proofs.Yteancplgfjhagaa.Kinds Go.Proofs.Yteancplgfjhagaa.Paras Go.Proofs.Yteancplgfjhagaa.Paras.B Go.Proofs.Yteancplgfjhagaa.Paras.C Go.Proofs.Yteancplgfjhagaa.Paras.D Go.Proofs.Yteancplgfjhagaa.Paras.E
set_option linter.unusedVariables false
set_option linter.unusedSimpArgs false
theorem zo41 : Sx.zeroOf Try.prog 41 = some (.agg #[.int .i64 (0), .int .i64 (0), .int .i64 (0)]) := by kernel_rfl
theorem fo49_0 : Sx.fieldOff Try.prog 49 0 = some 0 := by kernel_rfl
theorem sh4 : Sx.shapeOf Try.prog 4 = some (false, 1) := by kernel_rfl
theorem fo49_1 : Sx.fieldOff Try.prog 49 1 = some 1 := by kernel_rfl
theorem sh3 : Sx.shapeOf Try.prog 3 = some (false, 1) := by kernel_rfl
theorem fo49_2 : Sx.fieldOff Try.prog 49 2 = some 2 := by kernel_rfl
theorem ent33 : Sx.Ent Try.prog 33 := ⟨Try.f33, Try.func33, by kernel_rfl, by kernel_rfl⟩
theorem sh41 : Sx.shapeOf Try.prog 41 = some (true, 3) := by kernel_rfl
theorem ent25 : Sx.Ent Try.prog 25 := ⟨Try.f25, Try.func25, by kernel_rfl, by kernel_rfl⟩
theorem eqs41 : (Try.prog.stoodInHeld 41 || Try.prog.eqGuardType Try.prog.depth 41) = false := by kernel_rfl
theorem eqf41 : Try.prog.underlying 41 = some (.struct (Try.prog.fieldsOf 41)) := by kernel_rfl
theorem fo49_3 : Sx.fieldOff Try.prog 49 3 = some 3 := by kernel_rfl
theorem sh9 : Sx.shapeOf Try.prog 9 = some (false, 1) := by kernel_rfl
theorem ent34 : Sx.Ent Try.prog 34 := ⟨Try.f34, Try.func34, by kernel_rfl, by kernel_rfl⟩
theorem ent26 : Sx.Ent Try.prog 26 := ⟨Try.f26, Try.func26, by kernel_rfl, by kernel_rfl⟩

def stepS (s : ByteArray) (o : S49) : ByteArray := if o.f0 = true then delS s o.f1 o.f2 else insS s o.f1 o.f3
def stepI (s : ByteArray) (o : S49) : Int × Int × Int := if o.f0 = true then (delI (ixOf s) o.f1 o.f2).2.1 else (insI (ixOf s) o.f1 o.f3).2.1
theorem insS_size (s t : ByteArray) (a : Int) : (insS s a t).size ≤ s.size + t.size ∨ (insS s a t).size ≤ s.size + t.size + s.size := by
  unfold insS
  split
  · exact .inl (by omega)
  · have h1 := ext_le s 0 a.toNat
    have h2 := ext_le s a.toNat s.size
    rw [size_app, size_app]; exact .inr (by omega)
theorem delS_size (s : ByteArray) (a b : Int) : (delS s a b).size ≤ s.size + s.size := by
  unfold delS
  split
  · omega
  · have h1 := ext_le s 0 a.toNat
    have h2 := ext_le s b.toNat s.size
    rw [size_app]; omega
theorem step_size (s : ByteArray) (o : S49) : (stepS s o).size ≤ s.size + s.size + o.f3.size := by
  unfold stepS
  split
  · have := delS_size s o.f1 o.f2; omega
  · have := insS_size s o.f3 o.f1; omega
theorem ivB_eq {S S' : ByteArray} {f o n f' o' n' : Int} {b b' : Bool} (hS : S = S') (hf : f = f') (ho : o = o') (hn : n = n') (he : b = b') : Ending.returned (.tuple #[.string S, .agg #[.int .i64 f, .int .i64 o, .int .i64 n], .bool b]) = Ending.returned (.tuple #[.string S', .agg #[.int .i64 f', .int .i64 o', .int .i64 n'], .bool b']) := by
  subst hS; subst hf; subst ho; subst hn; subst he; rfl

set_option maxRecDepth 100000 in
theorem step_calls {w0 w : World} {F0 : Nat → Prop} {R : List Sx.HP} (g : Nat) (s : ByteArray) (o : S49) (hs : s.size ≤ 1099511627776) (ho : o.f3.size ≤ 1099511627776) (h : Sx.St w0 F0 ([ixB g (ixOf s)] ++ R) w) : Calls Try.prog 24 #[.pointer (some ⟨g, 0, none⟩), .string (s), .agg #[.bool ((o).f0), .int .i64 ((o).f1), .int .i64 ((o).f2), .string ((o).f3)]] w (fun e w1 => e = .returned (.tuple #[.string (stepS s o), .agg #[.int .i64 (stepI s o).1, .int .i64 (stepI s o).2.1, .int .i64 (stepI s o).2.2], .bool true]) ∧ Sx.St w0 F0 (ixB g (ixOf (stepS s o)) :: R) w1) := by
 have hix := ixOf_ok s hs
 have hop := ix_hop s
 refine Sx.calls_fn (vs := [.pointer (some ⟨g, 0, none⟩), .string (s), .agg #[.bool ((o).f0), .int .i64 ((o).f1), .int .i64 ((o).f2), .string ((o).f3)]]) Try.func24 rfl Try.ntmps24 rfl ?_
 refine Sx.wc_seq ?_
 refine Sx.wc_region ?_
 refine Sx.wl_box _ h rfl rfl rfl (fun b1 _ h => ?_)
 replace h : Sx.St _ _ (Sx.blk b1 [.bool ((o).f0), .int .i64 ((o).f1), .int .i64 ((o).f2), .string ((o).f3)] 49 :: _) _ := h
 refine Sx.wl_v rfl rfl (Sx.ov_assign _ rfl) ?_
 refine Sx.wl_alloc _ h rfl rfl zo41 (fun b2 _ h => ?_)
 replace h : Sx.St _ _ (Sx.blk b2 [.int .i64 (0), .int .i64 (0), .int .i64 (0)] 41 :: _) _ := h
 refine Sx.wl_v rfl rfl (Sx.ov_assign _ rfl) ?_
 refine Sx.wl_nil ?_
 refine Sx.qn_then ?_
 refine Sx.wc_seq ?_
 refine Sx.wc_seq ?_
 refine Sx.wc_region ?_
 refine Sx.wl_v rfl rfl (Sx.ov_fieldAddr _ ⟨b1, 0, none⟩ _ rfl fo49_0 rfl) ?_
 refine Sx.wl_v rfl rfl (Sx.ov_loadb 1 _ h rfl rfl sh4 rfl) ?_
 refine Sx.wl_nil ?_
 refine Sx.qn_then ?_
 refine Sx.wc_condb (by rfl) (fun c3 => ?_) (fun c3 => ?_)
 ·
  refine Sx.wc_seq ?_
  refine Sx.wc_region ?_
  refine Sx.wl_v rfl rfl (Sx.ov_move _ rfl) ?_
  refine Sx.wl_v rfl rfl (Sx.ov_fieldAddr _ ⟨b1, 1, none⟩ _ rfl fo49_1 rfl) ?_
  refine Sx.wl_v rfl rfl (Sx.ov_loadb 1 _ h rfl rfl sh3 rfl) ?_
  refine Sx.wl_v rfl rfl (Sx.ov_fieldAddr _ ⟨b1, 2, none⟩ _ rfl fo49_2 rfl) ?_
  refine Sx.wl_v rfl rfl (Sx.ov_loadb 1 _ h rfl rfl sh3 rfl) ?_
  refine Sx.wl_call _ rfl rfl rfl ent33 (rDelete_calls (R := [Sx.blk b2 [.int .i64 (0), .int .i64 (0), .int .i64 (0)] 41, Sx.blk b1 [.bool ((o).f0), .int .i64 ((o).f1), .int .i64 ((o).f2), .string ((o).f3)] 49, ixB g (ixOf s)] ++ R) s ((o).f1) ((o).f2) (by omega) h) ?_
  rintro e_ w_ ⟨rfl, h⟩
  refine ⟨_, rfl, ?_⟩
  refine Sx.wl_v rfl rfl (Sx.ov_move _ rfl) ?_
  refine Sx.wl_v rfl rfl (Sx.ov_extract [.string (delS s ((o).f1) ((o).f2)), .agg #[.int .i64 ((delI (ixOf s) ((o).f1) ((o).f2)).2.1.1), .int .i64 ((delI (ixOf s) ((o).f1) ((o).f2)).2.1.2.1), .int .i64 ((delI (ixOf s) ((o).f1) ((o).f2)).2.1.2.2)], .int .i64 ((delI (ixOf s) ((o).f1) ((o).f2)).2.2)] _ rfl rfl) ?_
  refine Sx.wl_v rfl rfl (Sx.ov_extract [.string (delS s ((o).f1) ((o).f2)), .agg #[.int .i64 ((delI (ixOf s) ((o).f1) ((o).f2)).2.1.1), .int .i64 ((delI (ixOf s) ((o).f1) ((o).f2)).2.1.2.1), .int .i64 ((delI (ixOf s) ((o).f1) ((o).f2)).2.1.2.2)], .int .i64 ((delI (ixOf s) ((o).f1) ((o).f2)).2.2)] _ rfl rfl) ?_
  refine Sx.wl_v rfl rfl (Sx.ov_extract [.string (delS s ((o).f1) ((o).f2)), .agg #[.int .i64 ((delI (ixOf s) ((o).f1) ((o).f2)).2.1.1), .int .i64 ((delI (ixOf s) ((o).f1) ((o).f2)).2.1.2.1), .int .i64 ((delI (ixOf s) ((o).f1) ((o).f2)).2.1.2.2)], .int .i64 ((delI (ixOf s) ((o).f1) ((o).f2)).2.2)] _ rfl rfl) ?_
  refine Sx.wl_alloc _ h rfl rfl zo41 (fun b4 _ h => ?_)
  replace h : Sx.St _ _ (Sx.blk b4 [.int .i64 (0), .int .i64 (0), .int .i64 (0)] 41 :: _) _ := h
  refine Sx.wl_v rfl rfl (Sx.ov_assign _ rfl) ?_
  refine Sx.wl_storebN 0 [.int .i64 ((delI (ixOf s) ((o).f1) ((o).f2)).2.1.1), .int .i64 ((delI (ixOf s) ((o).f1) ((o).f2)).2.1.2.1), .int .i64 ((delI (ixOf s) ((o).f1) ((o).f2)).2.1.2.2)] [.int .i64 ((delI (ixOf s) ((o).f1) ((o).f2)).2.1.1), .int .i64 ((delI (ixOf s) ((o).f1) ((o).f2)).2.1.2.1), .int .i64 ((delI (ixOf s) ((o).f1) ((o).f2)).2.1.2.2)] h rfl rfl rfl rfl (by simp [Value.oneCell']) sh41 rfl rfl (fun _ h => ?_)
  refine Sx.wl_v rfl rfl (Sx.ov_assign _ rfl) ?_
  refine Sx.wl_nil ?_
  refine Sx.qn_then ?_
  refine Sx.wc_seq ?_
  refine Sx.wc_region ?_
  refine Sx.wl_v rfl rfl (Sx.ov_move _ rfl) ?_
  refine Sx.wl_v rfl rfl (Sx.ov_fieldAddr _ ⟨b1, 1, none⟩ _ rfl fo49_1 rfl) ?_
  refine Sx.wl_v rfl rfl (Sx.ov_loadb 2 _ h rfl rfl sh3 rfl) ?_
  refine Sx.wl_v rfl rfl (Sx.ov_fieldAddr _ ⟨b1, 2, none⟩ _ rfl fo49_2 rfl) ?_
  refine Sx.wl_v rfl rfl (Sx.ov_loadb 2 _ h rfl rfl sh3 rfl) ?_
  replace h := Sx.st_front 3 h
  refine Sx.wl_call _ rfl rfl rfl ent25 (Delete_calls (R := [Sx.blk b4 [.int .i64 ((delI (ixOf s) ((o).f1) ((o).f2)).2.1.1), .int .i64 ((delI (ixOf s) ((o).f1) ((o).f2)).2.1.2.1), .int .i64 ((delI (ixOf s) ((o).f1) ((o).f2)).2.1.2.2)] 41, Sx.blk b2 [.int .i64 (0), .int .i64 (0), .int .i64 (0)] 41, Sx.blk b1 [.bool ((o).f0), .int .i64 ((o).f1), .int .i64 ((o).f2), .string ((o).f3)] 49] ++ R) g (ixOf s) ((o).f1) ((o).f2) (by assumption) h) ?_
  rintro e_ w_ ⟨rfl, h⟩
  refine ⟨_, rfl, ?_⟩
  refine Sx.wl_v rfl rfl (Sx.ov_move _ rfl) ?_
  refine Sx.wl_v rfl rfl (Sx.ov_extract [.agg #[.int .i64 ((delI (ixOf s) ((o).f1) ((o).f2)).2.1.1), .int .i64 ((delI (ixOf s) ((o).f1) ((o).f2)).2.1.2.1), .int .i64 ((delI (ixOf s) ((o).f1) ((o).f2)).2.1.2.2)], .int .i64 ((delI (ixOf s) ((o).f1) ((o).f2)).2.2)] _ rfl rfl) ?_
  refine Sx.wl_v rfl rfl (Sx.ov_extract [.agg #[.int .i64 ((delI (ixOf s) ((o).f1) ((o).f2)).2.1.1), .int .i64 ((delI (ixOf s) ((o).f1) ((o).f2)).2.1.2.1), .int .i64 ((delI (ixOf s) ((o).f1) ((o).f2)).2.1.2.2)], .int .i64 ((delI (ixOf s) ((o).f1) ((o).f2)).2.2)] _ rfl rfl) ?_
  refine Sx.wl_alloc _ h rfl rfl zo41 (fun b5 _ h => ?_)
  replace h : Sx.St _ _ (Sx.blk b5 [.int .i64 (0), .int .i64 (0), .int .i64 (0)] 41 :: _) _ := h
  refine Sx.wl_storebN 0 [.int .i64 ((delI (ixOf s) ((o).f1) ((o).f2)).2.1.1), .int .i64 ((delI (ixOf s) ((o).f1) ((o).f2)).2.1.2.1), .int .i64 ((delI (ixOf s) ((o).f1) ((o).f2)).2.1.2.2)] [.int .i64 ((delI (ixOf s) ((o).f1) ((o).f2)).2.1.1), .int .i64 ((delI (ixOf s) ((o).f1) ((o).f2)).2.1.2.1), .int .i64 ((delI (ixOf s) ((o).f1) ((o).f2)).2.1.2.2)] h rfl rfl rfl rfl (by simp [Value.oneCell']) sh41 rfl rfl (fun _ h => ?_)
  refine Sx.wl_v rfl rfl (Sx.ov_assign _ rfl) ?_
  refine Sx.wl_nil ?_
  refine Sx.qn_then ?_
  refine Sx.wc_seq ?_
  refine Sx.wc_draw (fun w => Sx.St w0 F0 ([Sx.blk b5 [.int .i64 ((delI (ixOf s) ((o).f1) ((o).f2)).2.1.1), .int .i64 ((delI (ixOf s) ((o).f1) ((o).f2)).2.1.2.1), .int .i64 ((delI (ixOf s) ((o).f1) ((o).f2)).2.1.2.2)] 41, ixB g ((delI (ixOf s) ((o).f1) ((o).f2)).1), Sx.blk b4 [.int .i64 ((delI (ixOf s) ((o).f1) ((o).f2)).2.1.1), .int .i64 ((delI (ixOf s) ((o).f1) ((o).f2)).2.1.2.1), .int .i64 ((delI (ixOf s) ((o).f1) ((o).f2)).2.1.2.2)] 41, Sx.blk b1 [.bool ((o).f0), .int .i64 ((o).f1), .int .i64 ((o).f2), .string ((o).f3)] 49] ++ R) w) (by kernel_rfl) ?_
  replace h := Sx.st_drew h
  refine Sx.wa_take 0 rfl (by kernel_rfl) (by kernel_rfl) (by kernel_rfl) (fun _ _ _ h => h) rfl rfl (Sx.st_selT [true, true, true, false, true] h) (fun w_ hS => Sx.ov_move _ rfl) ?_
  refine Sx.wa_take 1 rfl (by kernel_rfl) (by kernel_rfl) (by kernel_rfl) (fun _ _ _ h => h) rfl rfl (Sx.st_selT [true, true, true, false, true] h) (fun w_ hS => Sx.ov_loadbN 2 [.int .i64 ((delI (ixOf s) ((o).f1) ((o).f2)).2.1.1), .int .i64 ((delI (ixOf s) ((o).f1) ((o).f2)).2.1.2.1), .int .i64 ((delI (ixOf s) ((o).f1) ((o).f2)).2.1.2.2)] hS rfl rfl sh41 rfl) ?_
  refine Sx.wa_take 2 rfl (by kernel_rfl) (by kernel_rfl) (by kernel_rfl) (fun _ _ _ h => h) rfl rfl (Sx.st_selT [true, true, true, false, true] h) (fun w_ hS => Sx.ov_loadbN 0 [.int .i64 ((delI (ixOf s) ((o).f1) ((o).f2)).2.1.1), .int .i64 ((delI (ixOf s) ((o).f1) ((o).f2)).2.1.2.1), .int .i64 ((delI (ixOf s) ((o).f1) ((o).f2)).2.1.2.2)] hS rfl rfl sh41 rfl) ?_
  refine Sx.wa_take 3 rfl (by kernel_rfl) (by kernel_rfl) (by kernel_rfl) (fun _ _ _ h => h) rfl rfl (Sx.st_selT [true, true, true, false, true] h) (fun w_ hS => Sx.ov_loadbN 2 [.int .i64 ((delI (ixOf s) ((o).f1) ((o).f2)).2.1.1), .int .i64 ((delI (ixOf s) ((o).f1) ((o).f2)).2.1.2.1), .int .i64 ((delI (ixOf s) ((o).f1) ((o).f2)).2.1.2.2)] hS rfl rfl sh41 rfl) ?_
  refine Sx.wa_take 4 rfl (by kernel_rfl) (by kernel_rfl) (by kernel_rfl) (fun _ _ _ h => h) rfl rfl (Sx.st_selT [true, true, true, false, true] h) (fun w_ hS => Sx.ov_bin _ rfl rfl (Sx.binR_eqS (((((delI (ixOf s) ((o).f1) ((o).f2)).2.1.1 : Int) == ((delI (ixOf s) ((o).f1) ((o).f2)).2.1.1)) && ((((delI (ixOf s) ((o).f1) ((o).f2)).2.1.2.1 : Int) == ((delI (ixOf s) ((o).f1) ((o).f2)).2.1.2.1)) && ((((delI (ixOf s) ((o).f1) ((o).f2)).2.1.2.2 : Int) == ((delI (ixOf s) ((o).f1) ((o).f2)).2.1.2.2)) && true)))) (((delI (ixOf s) ((o).f1) ((o).f2)).2.1.1 : Int) = ((delI (ixOf s) ((o).f1) ((o).f2)).2.1.1) ∧ ((delI (ixOf s) ((o).f1) ((o).f2)).2.1.2.1 : Int) = ((delI (ixOf s) ((o).f1) ((o).f2)).2.1.2.1) ∧ ((delI (ixOf s) ((o).f1) ((o).f2)).2.1.2.2 : Int) = ((delI (ixOf s) ((o).f1) ((o).f2)).2.1.2.2)) eqf41 eqs41 (by kernel_rfl) (by rw [Bool.eq_iff_iff]; simp))) ?_
  refine Sx.wa_take 5 rfl (by kernel_rfl) (by kernel_rfl) (by kernel_rfl) (fun _ _ _ h => h) rfl rfl (Sx.st_selT [true, true, true, false, true] h) (fun w_ hS => Sx.ov_move _ rfl) ?_
  refine Sx.wa_split 45 rfl (fun c6 => ?_) (fun c6 => ?_)
  ·
   refine Sx.wa_take 6 rfl (by kernel_rfl) (by kernel_rfl) (by kernel_rfl) (fun _ _ _ h => h) rfl rfl (Sx.st_selT [true, true, true, false, true] h) (fun w_ hS => Sx.ov_move _ rfl) ?_
   refine Sx.wa_take 7 rfl (by kernel_rfl) (by kernel_rfl) (by kernel_rfl) (fun _ _ _ h => h) rfl rfl (Sx.st_selT [true, true, true, false, true] h) (fun w_ hS => Sx.ov_move _ rfl) ?_
   refine Sx.wa_take 8 rfl (by kernel_rfl) (by kernel_rfl) (by kernel_rfl) (fun _ _ _ h => h) rfl rfl (Sx.st_selT [true, true, true, false, true] h) (fun w_ hS => Sx.ov_bin _ rfl rfl (Sx.binR_eql)) ?_
   refine Sx.wa_take 9 rfl (by kernel_rfl) (by kernel_rfl) (by kernel_rfl) (fun _ _ _ h => h) rfl rfl (Sx.st_selT [true, true, true, false, true] h) (fun w_ hS => Sx.ov_pick_true _ rfl rfl) ?_
   refine Sx.wa_take 10 rfl (by kernel_rfl) (by kernel_rfl) (by kernel_rfl) (fun _ _ _ h => h) rfl rfl (Sx.st_selT [true, true, true, false, true] h) (fun w_ hS => Sx.ov_assign _ rfl) ?_
   refine Sx.wa_one 11 rfl (by kernel_rfl) ?_
   refine Sx.wl_storebN 3 [.int .i64 ((delI (ixOf s) ((o).f1) ((o).f2)).2.1.1), .int .i64 ((delI (ixOf s) ((o).f1) ((o).f2)).2.1.2.1), .int .i64 ((delI (ixOf s) ((o).f1) ((o).f2)).2.1.2.2)] [.int .i64 ((delI (ixOf s) ((o).f1) ((o).f2)).2.1.1), .int .i64 ((delI (ixOf s) ((o).f1) ((o).f2)).2.1.2.1), .int .i64 ((delI (ixOf s) ((o).f1) ((o).f2)).2.1.2.2)] h rfl rfl rfl rfl (by simp [Value.oneCell']) sh41 rfl rfl (fun _ h => ?_)
   refine Sx.wl_nil ?_
   refine Sx.qn_wa (Sx.st_selT [true, true, true, false, true] h) ?_
   refine Sx.wa_take 12 rfl (by kernel_rfl) (by kernel_rfl) (by kernel_rfl) (fun _ _ _ h => h) rfl rfl (Sx.st_selT [true, true, true, false, true] h) (fun w_ hS => Sx.ov_assign _ rfl) ?_
   refine Sx.wa_done (by kernel_rfl) ?_
   refine Sx.qn_then ?_
   refine Sx.wc_ret ?_
   refine Sx.qn_then_ret ?_
   have hend_ := h
   have e0_ : o.f0 = true := by first | assumption | simpa using ‹_›
   have e_ : (delI (ixOf s) ((o).f1) ((o).f2)).1 = ixOf (stepS s o) := by unfold stepS; rw [e0_]; rw [if_pos rfl]; exact del_all s o.f1 o.f2
   replace h := Sx.st_cast (congrArg (fun z_ => ([Sx.blk b5 [.int .i64 ((delI (ixOf s) ((o).f1) ((o).f2)).2.1.1), .int .i64 ((delI (ixOf s) ((o).f1) ((o).f2)).2.1.2.1), .int .i64 ((delI (ixOf s) ((o).f1) ((o).f2)).2.1.2.2)] 41, ixB g (z_), Sx.blk b4 [.int .i64 ((delI (ixOf s) ((o).f1) ((o).f2)).2.1.1), .int .i64 ((delI (ixOf s) ((o).f1) ((o).f2)).2.1.2.1), .int .i64 ((delI (ixOf s) ((o).f1) ((o).f2)).2.1.2.2)] 41, Sx.blk b2 [.int .i64 ((delI (ixOf s) ((o).f1) ((o).f2)).2.1.1), .int .i64 ((delI (ixOf s) ((o).f1) ((o).f2)).2.1.2.1), .int .i64 ((delI (ixOf s) ((o).f1) ((o).f2)).2.1.2.2)] 41, Sx.blk b1 [.bool ((o).f0), .int .i64 ((o).f1), .int .i64 ((o).f2), .string ((o).f3)] 49] ++ R)) e_) h
   clear e_
   replace h := Sx.st_front 1 h
   replace h := Sx.st_selT [true, false, false, false, false] h
   refine Sx.qn_ret [_, _, _] ⟨rfl, ⟨_, rfl, Sx.loadVarN (vs := [.int .i64 ((delI (ixOf s) ((o).f1) ((o).f2)).2.1.1), .int .i64 ((delI (ixOf s) ((o).f1) ((o).f2)).2.1.2.1), .int .i64 ((delI (ixOf s) ((o).f1) ((o).f2)).2.1.2.2)]) sh41 (Sx.blk_cells (cells := [.int .i64 ((delI (ixOf s) ((o).f1) ((o).f2)).2.1.1), .int .i64 ((delI (ixOf s) ((o).f1) ((o).f2)).2.1.2.1), .int .i64 ((delI (ixOf s) ((o).f1) ((o).f2)).2.1.2.2)]) hend_ (i := 3) rfl 0 _ rfl)⟩, rfl, trivial⟩ ?_
   have e1_ : stepS s o = delS s o.f1 o.f2 := by unfold stepS; rw [e0_]; rw [if_pos rfl]
   have e2_ : stepI s o = (delI (ixOf s) o.f1 o.f2).2.1 := by unfold stepI; rw [e0_]; rw [if_pos rfl]
   refine ⟨ivB_eq e1_.symm ?_ ?_ ?_ (by first | exact decide_eq_true rfl | exact decide_eq_true ⟨rfl, rfl, rfl⟩ | exact absurd rfl (by assumption) | exact absurd ⟨rfl, rfl, rfl⟩ (by assumption)), h⟩ <;> rw [e2_]
  ·
   first | exact absurd rfl c6 | exact absurd ⟨rfl, rfl, rfl⟩ c6
 ·
  refine Sx.wc_skip ?_
  refine Sx.qn_then ?_
  refine Sx.wc_seq ?_
  refine Sx.wc_region ?_
  refine Sx.wl_v rfl rfl (Sx.ov_move _ rfl) ?_
  refine Sx.wl_v rfl rfl (Sx.ov_fieldAddr _ ⟨b1, 1, none⟩ _ rfl fo49_1 rfl) ?_
  refine Sx.wl_v rfl rfl (Sx.ov_loadb 1 _ h rfl rfl sh3 rfl) ?_
  refine Sx.wl_v rfl rfl (Sx.ov_fieldAddr _ ⟨b1, 3, none⟩ _ rfl fo49_3 rfl) ?_
  refine Sx.wl_v rfl rfl (Sx.ov_loadb 1 _ h rfl rfl sh9 rfl) ?_
  refine Sx.wl_call _ rfl rfl rfl ent34 (rInsert_calls (R := [Sx.blk b2 [.int .i64 (0), .int .i64 (0), .int .i64 (0)] 41, Sx.blk b1 [.bool ((o).f0), .int .i64 ((o).f1), .int .i64 ((o).f2), .string ((o).f3)] 49, ixB g (ixOf s)] ++ R) s ((o).f1) ((o).f3) (by omega) (by omega) h) ?_
  rintro e_ w_ ⟨rfl, h⟩
  refine ⟨_, rfl, ?_⟩
  refine Sx.wl_v rfl rfl (Sx.ov_move _ rfl) ?_
  refine Sx.wl_v rfl rfl (Sx.ov_extract [.string (insS s ((o).f1) ((o).f3)), .agg #[.int .i64 ((insI (ixOf s) ((o).f1) ((o).f3)).2.1.1), .int .i64 ((insI (ixOf s) ((o).f1) ((o).f3)).2.1.2.1), .int .i64 ((insI (ixOf s) ((o).f1) ((o).f3)).2.1.2.2)], .int .i64 ((insI (ixOf s) ((o).f1) ((o).f3)).2.2)] _ rfl rfl) ?_
  refine Sx.wl_v rfl rfl (Sx.ov_extract [.string (insS s ((o).f1) ((o).f3)), .agg #[.int .i64 ((insI (ixOf s) ((o).f1) ((o).f3)).2.1.1), .int .i64 ((insI (ixOf s) ((o).f1) ((o).f3)).2.1.2.1), .int .i64 ((insI (ixOf s) ((o).f1) ((o).f3)).2.1.2.2)], .int .i64 ((insI (ixOf s) ((o).f1) ((o).f3)).2.2)] _ rfl rfl) ?_
  refine Sx.wl_v rfl rfl (Sx.ov_extract [.string (insS s ((o).f1) ((o).f3)), .agg #[.int .i64 ((insI (ixOf s) ((o).f1) ((o).f3)).2.1.1), .int .i64 ((insI (ixOf s) ((o).f1) ((o).f3)).2.1.2.1), .int .i64 ((insI (ixOf s) ((o).f1) ((o).f3)).2.1.2.2)], .int .i64 ((insI (ixOf s) ((o).f1) ((o).f3)).2.2)] _ rfl rfl) ?_
  refine Sx.wl_alloc _ h rfl rfl zo41 (fun b7 _ h => ?_)
  replace h : Sx.St _ _ (Sx.blk b7 [.int .i64 (0), .int .i64 (0), .int .i64 (0)] 41 :: _) _ := h
  refine Sx.wl_v rfl rfl (Sx.ov_assign _ rfl) ?_
  refine Sx.wl_storebN 0 [.int .i64 ((insI (ixOf s) ((o).f1) ((o).f3)).2.1.1), .int .i64 ((insI (ixOf s) ((o).f1) ((o).f3)).2.1.2.1), .int .i64 ((insI (ixOf s) ((o).f1) ((o).f3)).2.1.2.2)] [.int .i64 ((insI (ixOf s) ((o).f1) ((o).f3)).2.1.1), .int .i64 ((insI (ixOf s) ((o).f1) ((o).f3)).2.1.2.1), .int .i64 ((insI (ixOf s) ((o).f1) ((o).f3)).2.1.2.2)] h rfl rfl rfl rfl (by simp [Value.oneCell']) sh41 rfl rfl (fun _ h => ?_)
  refine Sx.wl_v rfl rfl (Sx.ov_assign _ rfl) ?_
  refine Sx.wl_nil ?_
  refine Sx.qn_then ?_
  refine Sx.wc_seq ?_
  refine Sx.wc_region ?_
  refine Sx.wl_v rfl rfl (Sx.ov_move _ rfl) ?_
  refine Sx.wl_v rfl rfl (Sx.ov_fieldAddr _ ⟨b1, 1, none⟩ _ rfl fo49_1 rfl) ?_
  refine Sx.wl_v rfl rfl (Sx.ov_loadb 2 _ h rfl rfl sh3 rfl) ?_
  refine Sx.wl_v rfl rfl (Sx.ov_fieldAddr _ ⟨b1, 3, none⟩ _ rfl fo49_3 rfl) ?_
  refine Sx.wl_v rfl rfl (Sx.ov_loadb 2 _ h rfl rfl sh9 rfl) ?_
  replace h := Sx.st_front 3 h
  refine Sx.wl_call _ rfl rfl rfl ent26 (Insert_calls (R := [Sx.blk b7 [.int .i64 ((insI (ixOf s) ((o).f1) ((o).f3)).2.1.1), .int .i64 ((insI (ixOf s) ((o).f1) ((o).f3)).2.1.2.1), .int .i64 ((insI (ixOf s) ((o).f1) ((o).f3)).2.1.2.2)] 41, Sx.blk b2 [.int .i64 (0), .int .i64 (0), .int .i64 (0)] 41, Sx.blk b1 [.bool ((o).f0), .int .i64 ((o).f1), .int .i64 ((o).f2), .string ((o).f3)] 49] ++ R) g (ixOf s) ((o).f1) ((o).f3) (by assumption) (by omega) (by assumption) h) ?_
  rintro e_ w_ ⟨rfl, h⟩
  refine ⟨_, rfl, ?_⟩
  refine Sx.wl_v rfl rfl (Sx.ov_move _ rfl) ?_
  refine Sx.wl_v rfl rfl (Sx.ov_extract [.agg #[.int .i64 ((insI (ixOf s) ((o).f1) ((o).f3)).2.1.1), .int .i64 ((insI (ixOf s) ((o).f1) ((o).f3)).2.1.2.1), .int .i64 ((insI (ixOf s) ((o).f1) ((o).f3)).2.1.2.2)], .int .i64 ((insI (ixOf s) ((o).f1) ((o).f3)).2.2)] _ rfl rfl) ?_
  refine Sx.wl_v rfl rfl (Sx.ov_extract [.agg #[.int .i64 ((insI (ixOf s) ((o).f1) ((o).f3)).2.1.1), .int .i64 ((insI (ixOf s) ((o).f1) ((o).f3)).2.1.2.1), .int .i64 ((insI (ixOf s) ((o).f1) ((o).f3)).2.1.2.2)], .int .i64 ((insI (ixOf s) ((o).f1) ((o).f3)).2.2)] _ rfl rfl) ?_
  refine Sx.wl_alloc _ h rfl rfl zo41 (fun b8 _ h => ?_)
  replace h : Sx.St _ _ (Sx.blk b8 [.int .i64 (0), .int .i64 (0), .int .i64 (0)] 41 :: _) _ := h
  refine Sx.wl_storebN 0 [.int .i64 ((insI (ixOf s) ((o).f1) ((o).f3)).2.1.1), .int .i64 ((insI (ixOf s) ((o).f1) ((o).f3)).2.1.2.1), .int .i64 ((insI (ixOf s) ((o).f1) ((o).f3)).2.1.2.2)] [.int .i64 ((insI (ixOf s) ((o).f1) ((o).f3)).2.1.1), .int .i64 ((insI (ixOf s) ((o).f1) ((o).f3)).2.1.2.1), .int .i64 ((insI (ixOf s) ((o).f1) ((o).f3)).2.1.2.2)] h rfl rfl rfl rfl (by simp [Value.oneCell']) sh41 rfl rfl (fun _ h => ?_)
  refine Sx.wl_v rfl rfl (Sx.ov_assign _ rfl) ?_
  refine Sx.wl_nil ?_
  refine Sx.qn_then ?_
  refine Sx.wc_seq ?_
  refine Sx.wc_draw (fun w => Sx.St w0 F0 ([Sx.blk b8 [.int .i64 ((insI (ixOf s) ((o).f1) ((o).f3)).2.1.1), .int .i64 ((insI (ixOf s) ((o).f1) ((o).f3)).2.1.2.1), .int .i64 ((insI (ixOf s) ((o).f1) ((o).f3)).2.1.2.2)] 41, ixB g ((insI (ixOf s) ((o).f1) ((o).f3)).1), Sx.blk b7 [.int .i64 ((insI (ixOf s) ((o).f1) ((o).f3)).2.1.1), .int .i64 ((insI (ixOf s) ((o).f1) ((o).f3)).2.1.2.1), .int .i64 ((insI (ixOf s) ((o).f1) ((o).f3)).2.1.2.2)] 41, Sx.blk b1 [.bool ((o).f0), .int .i64 ((o).f1), .int .i64 ((o).f2), .string ((o).f3)] 49] ++ R) w) (by kernel_rfl) ?_
  replace h := Sx.st_drew h
  refine Sx.wa_take 0 rfl (by kernel_rfl) (by kernel_rfl) (by kernel_rfl) (fun _ _ _ h => h) rfl rfl (Sx.st_selT [true, true, true, false, true] h) (fun w_ hS => Sx.ov_move _ rfl) ?_
  refine Sx.wa_take 1 rfl (by kernel_rfl) (by kernel_rfl) (by kernel_rfl) (fun _ _ _ h => h) rfl rfl (Sx.st_selT [true, true, true, false, true] h) (fun w_ hS => Sx.ov_loadbN 2 [.int .i64 ((insI (ixOf s) ((o).f1) ((o).f3)).2.1.1), .int .i64 ((insI (ixOf s) ((o).f1) ((o).f3)).2.1.2.1), .int .i64 ((insI (ixOf s) ((o).f1) ((o).f3)).2.1.2.2)] hS rfl rfl sh41 rfl) ?_
  refine Sx.wa_take 2 rfl (by kernel_rfl) (by kernel_rfl) (by kernel_rfl) (fun _ _ _ h => h) rfl rfl (Sx.st_selT [true, true, true, false, true] h) (fun w_ hS => Sx.ov_loadbN 0 [.int .i64 ((insI (ixOf s) ((o).f1) ((o).f3)).2.1.1), .int .i64 ((insI (ixOf s) ((o).f1) ((o).f3)).2.1.2.1), .int .i64 ((insI (ixOf s) ((o).f1) ((o).f3)).2.1.2.2)] hS rfl rfl sh41 rfl) ?_
  refine Sx.wa_take 3 rfl (by kernel_rfl) (by kernel_rfl) (by kernel_rfl) (fun _ _ _ h => h) rfl rfl (Sx.st_selT [true, true, true, false, true] h) (fun w_ hS => Sx.ov_loadbN 2 [.int .i64 ((insI (ixOf s) ((o).f1) ((o).f3)).2.1.1), .int .i64 ((insI (ixOf s) ((o).f1) ((o).f3)).2.1.2.1), .int .i64 ((insI (ixOf s) ((o).f1) ((o).f3)).2.1.2.2)] hS rfl rfl sh41 rfl) ?_
  refine Sx.wa_take 4 rfl (by kernel_rfl) (by kernel_rfl) (by kernel_rfl) (fun _ _ _ h => h) rfl rfl (Sx.st_selT [true, true, true, false, true] h) (fun w_ hS => Sx.ov_bin _ rfl rfl (Sx.binR_eqS (((((insI (ixOf s) ((o).f1) ((o).f3)).2.1.1 : Int) == ((insI (ixOf s) ((o).f1) ((o).f3)).2.1.1)) && ((((insI (ixOf s) ((o).f1) ((o).f3)).2.1.2.1 : Int) == ((insI (ixOf s) ((o).f1) ((o).f3)).2.1.2.1)) && ((((insI (ixOf s) ((o).f1) ((o).f3)).2.1.2.2 : Int) == ((insI (ixOf s) ((o).f1) ((o).f3)).2.1.2.2)) && true)))) (((insI (ixOf s) ((o).f1) ((o).f3)).2.1.1 : Int) = ((insI (ixOf s) ((o).f1) ((o).f3)).2.1.1) ∧ ((insI (ixOf s) ((o).f1) ((o).f3)).2.1.2.1 : Int) = ((insI (ixOf s) ((o).f1) ((o).f3)).2.1.2.1) ∧ ((insI (ixOf s) ((o).f1) ((o).f3)).2.1.2.2 : Int) = ((insI (ixOf s) ((o).f1) ((o).f3)).2.1.2.2)) eqf41 eqs41 (by kernel_rfl) (by rw [Bool.eq_iff_iff]; simp))) ?_
  refine Sx.wa_take 5 rfl (by kernel_rfl) (by kernel_rfl) (by kernel_rfl) (fun _ _ _ h => h) rfl rfl (Sx.st_selT [true, true, true, false, true] h) (fun w_ hS => Sx.ov_move _ rfl) ?_
  refine Sx.wa_split 74 rfl (fun c9 => ?_) (fun c9 => ?_)
  ·
   refine Sx.wa_take 6 rfl (by kernel_rfl) (by kernel_rfl) (by kernel_rfl) (fun _ _ _ h => h) rfl rfl (Sx.st_selT [true, true, true, false, true] h) (fun w_ hS => Sx.ov_move _ rfl) ?_
   refine Sx.wa_take 7 rfl (by kernel_rfl) (by kernel_rfl) (by kernel_rfl) (fun _ _ _ h => h) rfl rfl (Sx.st_selT [true, true, true, false, true] h) (fun w_ hS => Sx.ov_move _ rfl) ?_
   refine Sx.wa_take 8 rfl (by kernel_rfl) (by kernel_rfl) (by kernel_rfl) (fun _ _ _ h => h) rfl rfl (Sx.st_selT [true, true, true, false, true] h) (fun w_ hS => Sx.ov_bin _ rfl rfl (Sx.binR_eql)) ?_
   refine Sx.wa_take 9 rfl (by kernel_rfl) (by kernel_rfl) (by kernel_rfl) (fun _ _ _ h => h) rfl rfl (Sx.st_selT [true, true, true, false, true] h) (fun w_ hS => Sx.ov_pick_true _ rfl rfl) ?_
   refine Sx.wa_take 10 rfl (by kernel_rfl) (by kernel_rfl) (by kernel_rfl) (fun _ _ _ h => h) rfl rfl (Sx.st_selT [true, true, true, false, true] h) (fun w_ hS => Sx.ov_assign _ rfl) ?_
   refine Sx.wa_one 11 rfl (by kernel_rfl) ?_
   refine Sx.wl_storebN 3 [.int .i64 ((insI (ixOf s) ((o).f1) ((o).f3)).2.1.1), .int .i64 ((insI (ixOf s) ((o).f1) ((o).f3)).2.1.2.1), .int .i64 ((insI (ixOf s) ((o).f1) ((o).f3)).2.1.2.2)] [.int .i64 ((insI (ixOf s) ((o).f1) ((o).f3)).2.1.1), .int .i64 ((insI (ixOf s) ((o).f1) ((o).f3)).2.1.2.1), .int .i64 ((insI (ixOf s) ((o).f1) ((o).f3)).2.1.2.2)] h rfl rfl rfl rfl (by simp [Value.oneCell']) sh41 rfl rfl (fun _ h => ?_)
   refine Sx.wl_nil ?_
   refine Sx.qn_wa (Sx.st_selT [true, true, true, false, true] h) ?_
   refine Sx.wa_take 12 rfl (by kernel_rfl) (by kernel_rfl) (by kernel_rfl) (fun _ _ _ h => h) rfl rfl (Sx.st_selT [true, true, true, false, true] h) (fun w_ hS => Sx.ov_assign _ rfl) ?_
   refine Sx.wa_done (by kernel_rfl) ?_
   refine Sx.qn_then ?_
   refine Sx.wc_ret ?_
   have hend_ := h
   have e0_ : o.f0 = false := by first | assumption | simpa using ‹_›
   have e_ : (insI (ixOf s) ((o).f1) ((o).f3)).1 = ixOf (stepS s o) := by unfold stepS; rw [e0_]; rw [if_neg (by decide)]; exact ins_all s o.f3 o.f1
   replace h := Sx.st_cast (congrArg (fun z_ => ([Sx.blk b8 [.int .i64 ((insI (ixOf s) ((o).f1) ((o).f3)).2.1.1), .int .i64 ((insI (ixOf s) ((o).f1) ((o).f3)).2.1.2.1), .int .i64 ((insI (ixOf s) ((o).f1) ((o).f3)).2.1.2.2)] 41, ixB g (z_), Sx.blk b7 [.int .i64 ((insI (ixOf s) ((o).f1) ((o).f3)).2.1.1), .int .i64 ((insI (ixOf s) ((o).f1) ((o).f3)).2.1.2.1), .int .i64 ((insI (ixOf s) ((o).f1) ((o).f3)).2.1.2.2)] 41, Sx.blk b2 [.int .i64 ((insI (ixOf s) ((o).f1) ((o).f3)).2.1.1), .int .i64 ((insI (ixOf s) ((o).f1) ((o).f3)).2.1.2.1), .int .i64 ((insI (ixOf s) ((o).f1) ((o).f3)).2.1.2.2)] 41, Sx.blk b1 [.bool ((o).f0), .int .i64 ((o).f1), .int .i64 ((o).f2), .string ((o).f3)] 49] ++ R)) e_) h
   clear e_
   replace h := Sx.st_front 1 h
   replace h := Sx.st_selT [true, false, false, false, false] h
   refine Sx.qn_ret [_, _, _] ⟨rfl, ⟨_, rfl, Sx.loadVarN (vs := [.int .i64 ((insI (ixOf s) ((o).f1) ((o).f3)).2.1.1), .int .i64 ((insI (ixOf s) ((o).f1) ((o).f3)).2.1.2.1), .int .i64 ((insI (ixOf s) ((o).f1) ((o).f3)).2.1.2.2)]) sh41 (Sx.blk_cells (cells := [.int .i64 ((insI (ixOf s) ((o).f1) ((o).f3)).2.1.1), .int .i64 ((insI (ixOf s) ((o).f1) ((o).f3)).2.1.2.1), .int .i64 ((insI (ixOf s) ((o).f1) ((o).f3)).2.1.2.2)]) hend_ (i := 3) rfl 0 _ rfl)⟩, rfl, trivial⟩ ?_
   have e1_ : stepS s o = insS s o.f1 o.f3 := by unfold stepS; rw [e0_]; rw [if_neg (by decide)]
   have e2_ : stepI s o = (insI (ixOf s) o.f1 o.f3).2.1 := by unfold stepI; rw [e0_]; rw [if_neg (by decide)]
   refine ⟨ivB_eq e1_.symm ?_ ?_ ?_ (by first | exact decide_eq_true rfl | exact decide_eq_true ⟨rfl, rfl, rfl⟩ | exact absurd rfl (by assumption) | exact absurd ⟨rfl, rfl, rfl⟩ (by assumption)), h⟩ <;> rw [e2_]
  ·
   first | exact absurd rfl c9 | exact absurd ⟨rfl, rfl, rfl⟩ c9
end Go.Proofs.Yteancplgfjhagaa.Paras.F
