/- The walks of the package paras. -/
import Derived.Test.YteancplgfjhagaaProg
import Derived.Test.YteancplgfjhagaaSxGlue
import Derived.Test.YteancplgfjhagaaSxKinds
import Derived.Test.YteancplgfjhagaaParasTh
namespace Go.Proofs.Yteancplgfjhagaa.Paras
open Go Go.RowKit Go.Proofs.YteancplgfjhagaaW.PrintWords Go.Proofs.Yteancplgfjhagaa.Kinds
set_option linter.unusedVariables false
set_option linter.unusedSimpArgs false
theorem infb3 : (Try.prog.info? 3).map (fun i => (i.zero, i.size)) = some (some (.int .i64 (0)), 1) := by kernel_rfl
theorem inf3 : (Try.prog.info? 3).map (fun i => (i.zero, i.size, i.bytes)) = some (some (.int .i64 (0)), 1, 8) := by kernel_rfl
theorem ent12 : Sx.Ent Try.prog 12 := ⟨Try.f12, Try.func12, by kernel_rfl, by kernel_rfl⟩
theorem fo60_0 : Sx.fieldOff Try.prog 60 0 = some 0 := by kernel_rfl
theorem sh23 : Sx.shapeOf Try.prog 23 = some (false, 1) := by kernel_rfl
theorem es23 : Sx.elemSz Try.prog 23 = some (3, 1) := by kernel_rfl
theorem fo60_1 : Sx.fieldOff Try.prog 60 1 = some 1 := by kernel_rfl
theorem sh3 : Sx.shapeOf Try.prog 3 = some (false, 1) := by kernel_rfl
theorem fo60_2 : Sx.fieldOff Try.prog 60 2 = some 2 := by kernel_rfl
theorem sh4 : Sx.shapeOf Try.prog 4 = some (false, 1) := by kernel_rfl
structure IX where
  lens : List Int
  size : Int
  open_ : Bool
  deriving DecidableEq
def ixB (g : Nat) (x : IX) : Sx.HP := Sx.HP.ex fun A => Sx.HP.ex fun c => (Sx.blk g [.slice (A) (((x).lens).length) (c), .int .i64 ((x).size), .bool ((x).open_)] 60).star (Sx.row (Kd.int .i64) 3 A c x.lens)
theorem ixB_open {w0 w : World} {F0 : Nat → Prop} {cs : List Sx.HP} {g : Nat} {x : IX} (h : Sx.St w0 F0 (ixB g x :: cs) w) : ∃ A c, Sx.St w0 F0 (Sx.blk g [.slice (A) (((x).lens).length) (c), .int .i64 ((x).size), .bool ((x).open_)] 60 :: Sx.row (Kd.int .i64) 3 A c x.lens :: cs) w := by
  obtain ⟨A, h⟩ := Sx.st_unex h
  obtain ⟨c, h⟩ := Sx.st_unex h
  exact ⟨A, c, Sx.st_unstar h⟩
theorem ixB_close {w0 w : World} {F0 : Nat → Prop} {cs : List Sx.HP} {g n c : Nat} {A : Option Addr} (lens : List Int) (size : Int) (open_ : Bool) (hn : n = lens.length) (h : Sx.St w0 F0 (Sx.blk g [.slice A n c, .int .i64 size, .bool open_] 60 :: Sx.row (Kd.int .i64) 3 A c lens :: cs) w) : Sx.St w0 F0 (ixB g ⟨lens, size, open_⟩ :: cs) w := by
  subst hn
  exact Sx.st_ex A (Sx.st_ex c (Sx.st_star h))


theorem cut_next (s : ByteArray) (k : Nat) : cut s (k + 1) = if Sx.byteAt s k = 10 then ((cut s k).1 ++ [(k : Int) + 1 - ((cut s k).2 : Int)], k + 1) else cut s k := rfl

set_option maxRecDepth 100000 in
theorem Split_calls {w0 w : World} {F0 : Nat → Prop} {R : List Sx.HP} (s : ByteArray) (hs : s.size ≤ 1099511627776) (h : Sx.St w0 F0 ([] ++ R) w) : Calls Try.prog 12 #[.string (s)] w (fun e w1 => ∃ A c, e = .returned (.tuple #[.slice A (lensOf s).length c, .bool (openOf s)]) ∧ Sx.St w0 F0 (Sx.row (Kd.int .i64) 3 A c (lensOf s) :: R) w1) := by
 refine Sx.calls_fn (vs := [.string (s)]) Try.func12 rfl Try.ntmps12 rfl ?_
 refine Sx.wc_seq ?_
 refine Sx.wc_region ?_
 refine Sx.wl_v rfl rfl (Sx.ov_assign _ rfl) ?_
 refine Sx.wl_v rfl rfl (Sx.ov_assign _ rfl) ?_
 refine Sx.wl_nil ?_
 refine Sx.qn_then ?_
 refine Sx.wc_seq ?_
 refine Sx.wc_region ?_
 refine Sx.wl_v rfl rfl (Sx.ov_assign _ rfl) ?_
 refine Sx.wl_nil ?_
 refine Sx.qn_then ?_
 refine Sx.wc_seq ?_
 refine Sx.wc_region ?_
 refine Sx.wl_v rfl rfl (Sx.ov_assign _ rfl) ?_
 refine Sx.wl_nil ?_
 refine Sx.qn_then ?_
 refine Sx.wc_seq ?_
 refine Sx.wc_seq ?_
 refine Sx.wc_region ?_
 refine Sx.wl_v rfl rfl (Sx.ov_move _ rfl) ?_
 refine Sx.wl_v rfl rfl (Sx.ov_lens _ rfl Try.underlying9) ?_
 refine Sx.wl_v rfl rfl (Sx.ov_move _ rfl) ?_
 refine Sx.wl_nil ?_
 refine Sx.qn_then ?_
 refine Sx.wc_block ?_
 replace h := Sx.st_nilrow (Kd.int .i64) 3 h
 have e_ : [] = (cut s 0).1 := by rfl
 replace h := Sx.st_cast (congrArg (fun z_ => ([Sx.row (Kd.int .i64) 3 (none) (0) (z_)] ++ R)) e_) h
 clear e_
 refine Sx.wc_loop (fun (x_ : Nat × (Option Addr) × Nat) => [(0, .string (s)), (3, .bool false), (4, .slice (x_.2.1) (((cut s x_.1).1).length) (x_.2.2)), (5, .int .i64 (((cut s x_.1).2 : Int))), (8, .int .i64 ((s.size : Int))), (9, .int .i64 ((x_.1 : Int)))]) (fun (x_ : Nat × (Option Addr) × Nat) (w : World) => (x_.1 ≤ s.size) ∧ Sx.St w0 F0 ([Sx.row (Kd.int .i64) 3 (x_.2.1) (x_.2.2) ((cut s x_.1).1)] ++ R) w) (fun (x_ : Nat × (Option Addr) × Nat) => s.size - x_.1) (0, none, 0) ?_ ?_ ?_
 · exact ⟨rfl, rfl, rfl, (congrArg (fun z_ => some (Value.int .i64 z_)) (show (0 : Int) = ((cut s 0).2 : Int) by rfl)), (congrArg (fun z_ => some (Value.int .i64 z_)) (show (((s).size : Int) : Int) = (s.size : Int) by omega)), (congrArg (fun z_ => some (Value.int .i64 z_)) (show (0 : Int) = (0 : Int) by omega)), trivial⟩
 · exact ⟨by first | omega | simp, h⟩
 rintro ⟨k, A, c⟩ w h
 obtain ⟨hJ, h⟩ := h
 replace hJ : k ≤ s.size := hJ
 replace h : Sx.St w0 F0 ([Sx.row (Kd.int .i64) 3 (A) (c) ((cut s k).1)] ++ R) w := h
 show Sx.WC _ _ _ _ [(0, .string (s)), (3, .bool false), (4, .slice (A) (((cut s k).1).length) (c)), (5, .int .i64 (((cut s k).2 : Int))), (8, .int .i64 ((s.size : Int))), (9, .int .i64 ((k : Int)))] _
 refine Sx.wc_seq ?_
 refine Sx.wc_region ?_
 refine Sx.wl_v rfl rfl (Sx.ov_bin _ rfl rfl (Sx.binR_lss)) ?_
 refine Sx.wl_nil ?_
 refine Sx.qn_then ?_
 refine Sx.wc_seq ?_
 refine Sx.wc_cond (by rfl) (fun c1 => ?_) (fun c1 => ?_)
 ·
  have hk : k < s.size := by omega
  have hcl := cut_le s k
  refine Sx.wc_skip ?_
  refine Sx.qn_then ?_
  refine Sx.wc_seq ?_
  refine Sx.wc_block ?_
  refine Sx.wc_seq ?_
  refine Sx.wc_region ?_
  refine Sx.wl_v rfl rfl (Sx.ov_move _ rfl) ?_
  refine Sx.wl_v rfl rfl (Sx.ov_assign _ rfl) ?_
  refine Sx.wl_nil ?_
  refine Sx.qn_then ?_
  refine Sx.wc_seq ?_
  refine Sx.wc_region ?_
  refine Sx.wl_v rfl rfl (Sx.ov_move _ rfl) ?_
  refine Sx.wl_v rfl rfl (Sx.ov_move _ rfl) ?_
  refine Sx.wl_v rfl rfl (Sx.ov_indexs _ k rfl rfl Try.underlying9 rfl (by first | assumption | omega)) ?_
  refine Sx.wl_v rfl rfl (Sx.ov_bin _ rfl rfl (Sx.binR_eql)) ?_
  refine Sx.wl_nil ?_
  refine Sx.qn_then ?_
  refine Sx.wc_cond (by rfl) (fun c2 => ?_) (fun c2 => ?_)
  ·
   have hcn := cut_nl c2
   refine Sx.wc_seq ?_
   refine Sx.wc_region ?_
   refine Sx.wl_v rfl rfl (Sx.ov_move _ rfl) ?_
   refine Sx.wl_v rfl rfl (Sx.ov_move _ rfl) ?_
   refine Sx.wl_v rfl rfl (Sx.ov_bin _ rfl rfl (Sx.binR_add (r := ((k : Int)) + 1) (Sx.w64 (by omega)))) ?_
   refine Sx.wl_v rfl rfl (Sx.ov_move _ rfl) ?_
   refine Sx.wl_v rfl rfl (Sx.ov_bin _ rfl rfl (Sx.binR_sub (r := (((k : Int)) + 1) - (((cut s k).2 : Int))) (Sx.w64 (by omega)))) ?_
   refine Sx.wl_lit (d := (Kd.int .i64)) [(0, .int .i64 ((((k : Int)) + 1) - (((cut s k).2 : Int))))] _ [.int .i64 ((((k : Int)) + 1) - (((cut s k).2 : Int)))] ([(((k : Int)) + 1) - (((cut s k).2 : Int))]) h rfl rfl rfl rfl Try.underlying23 infb3 rfl (by decide) (by kernel_rfl) rfl (fun _ _ _ => ((Reps.none _ _).snoc ((Sx.mkInt .i64 ((((k : Int)) + 1) - (((cut s k).2 : Int))))) rfl)) (fun A3 cp4 _ h => ?_)
   refine Sx.wl_append (d := (Kd.int .i64)) (L := (cut s k).1) 1 _ 8 _ _ _ ([(((k : Int)) + 1) - (((cut s k).2 : Int))]) (Sx.flat_int _) h rfl rfl rfl rfl rfl ((Sx.row_reads h (i := 0) rfl).2) Try.underlying23 inf3 rfl (by decide) (by decide) (by simp only [List.length_cons, List.length_nil, List.length_append]; omega) (by first | rfl | simp) (fun A5 cp6 _ h => ?_)
   replace h := Sx.st_selT [false, true] h
   refine Sx.wl_v rfl rfl (Sx.ov_assign _ rfl) ?_
   refine Sx.wl_nil ?_
   refine Sx.qn_then ?_
   refine Sx.wc_region ?_
   refine Sx.wl_v rfl rfl (Sx.ov_move _ rfl) ?_
   refine Sx.wl_v rfl rfl (Sx.ov_bin _ rfl rfl (Sx.binR_add (r := ((k : Int)) + 1) (Sx.w64 (by omega)))) ?_
   refine Sx.wl_v rfl rfl (Sx.ov_assign _ rfl) ?_
   refine Sx.wl_nil ?_
   refine Sx.qn_block_normal ?_
   refine Sx.qn_then ?_
   refine Sx.wc_region ?_
   refine Sx.wl_v rfl rfl (Sx.ov_bin _ rfl rfl (Sx.binR_add (r := ((k : Int)) + 1) (Sx.w64 (by omega)))) ?_
   refine Sx.wl_v rfl rfl (Sx.ov_move _ rfl) ?_
   refine Sx.wl_nil ?_
   have e_ : ((cut s k).1) ++ ([(((k : Int)) + 1) - (((cut s k).2 : Int))]) = (cut s (k + 1)).1 := by rw [hcn]
   replace h := Sx.st_cast (congrArg (fun z_ => ([Sx.row (Kd.int .i64) 3 (A5) (cp6) (z_)] ++ R)) e_) h
   clear e_
   refine Sx.qn_next ((k + 1), A5, cp6) (by show s.size - (k + 1) < s.size - k; omega) ⟨rfl, rfl, (congrArg (fun z_ => some (Value.slice (A5) z_ (cp6))) (by rw [hcn])), (congrArg (fun z_ => some (Value.int .i64 z_)) (show (((k : Int)) + 1 : Int) = ((cut s (k + 1)).2 : Int) by rw [hcn]; first | done | rfl | simp)), rfl, (congrArg (fun z_ => some (Value.int .i64 z_)) (show (((k : Int)) + 1 : Int) = ((k + 1) : Int) by omega)), trivial⟩ ?_
   show ((k + 1) ≤ s.size) ∧ _
   exact ⟨by first | omega | simp, h⟩
  ·
   have hcn := cut_no c2
   refine Sx.wc_skip ?_
   refine Sx.qn_block_normal ?_
   refine Sx.qn_then ?_
   refine Sx.wc_region ?_
   refine Sx.wl_v rfl rfl (Sx.ov_bin _ rfl rfl (Sx.binR_add (r := ((k : Int)) + 1) (Sx.w64 (by omega)))) ?_
   refine Sx.wl_v rfl rfl (Sx.ov_move _ rfl) ?_
   refine Sx.wl_nil ?_
   have e_ : (cut s k).1 = (cut s (k + 1)).1 := by rw [hcn]
   replace h := Sx.st_cast (congrArg (fun z_ => ([Sx.row (Kd.int .i64) 3 (A) (c) (z_)] ++ R)) e_) h
   clear e_
   refine Sx.qn_next ((k + 1), A, c) (by show s.size - (k + 1) < s.size - k; omega) ⟨rfl, rfl, (congrArg (fun z_ => some (Value.slice (A) z_ (c))) (by rw [hcn])), (congrArg (fun z_ => some (Value.int .i64 z_)) (show (((cut s k).2 : Int) : Int) = ((cut s (k + 1)).2 : Int) by rw [hcn]; first | done | rfl | simp)), rfl, (congrArg (fun z_ => some (Value.int .i64 z_)) (show (((k : Int)) + 1 : Int) = ((k + 1) : Int) by omega)), trivial⟩ ?_
   show ((k + 1) ≤ s.size) ∧ _
   exact ⟨by first | omega | simp, h⟩
 ·
  have hke : k = s.size := by omega
  have hcl := cut_le s k
  refine Sx.wc_exit ?_
  refine Sx.qn_then_exit ?_
  refine Sx.qn_then_exit ?_
  refine Sx.qn_block_exit ?_
  refine Sx.qn_then ?_
  refine Sx.wc_seq ?_
  refine Sx.wc_seq ?_
  refine Sx.wc_region ?_
  refine Sx.wl_v rfl rfl (Sx.ov_move _ rfl) ?_
  refine Sx.wl_v rfl rfl (Sx.ov_move _ rfl) ?_
  refine Sx.wl_v rfl rfl (Sx.ov_lens _ rfl Try.underlying9) ?_
  refine Sx.wl_v rfl rfl (Sx.ov_bin _ rfl rfl (Sx.binR_lss)) ?_
  refine Sx.wl_nil ?_
  refine Sx.qn_then ?_
  refine Sx.wc_cond (by rfl) (fun c7 => ?_) (fun c7 => ?_)
  ·
   refine Sx.wc_seq ?_
   refine Sx.wc_region ?_
   refine Sx.wl_v rfl rfl (Sx.ov_move _ rfl) ?_
   refine Sx.wl_v rfl rfl (Sx.ov_move _ rfl) ?_
   refine Sx.wl_v rfl rfl (Sx.ov_lens _ rfl Try.underlying9) ?_
   refine Sx.wl_v rfl rfl (Sx.ov_move _ rfl) ?_
   refine Sx.wl_v rfl rfl (Sx.ov_bin _ rfl rfl (Sx.binR_sub (r := (((s).size : Int)) - (((cut s k).2 : Int))) (Sx.w64 (by omega)))) ?_
   refine Sx.wl_lit (d := (Kd.int .i64)) [(0, .int .i64 ((((s).size : Int)) - (((cut s k).2 : Int))))] _ [.int .i64 ((((s).size : Int)) - (((cut s k).2 : Int)))] ([(((s).size : Int)) - (((cut s k).2 : Int))]) h rfl rfl rfl rfl Try.underlying23 infb3 rfl (by decide) (by kernel_rfl) rfl (fun _ _ _ => ((Reps.none _ _).snoc ((Sx.mkInt .i64 ((((s).size : Int)) - (((cut s k).2 : Int))))) rfl)) (fun A8 cp9 _ h => ?_)
   refine Sx.wl_append (d := (Kd.int .i64)) (L := (cut s k).1) 1 _ 8 _ _ _ ([(((s).size : Int)) - (((cut s k).2 : Int))]) (Sx.flat_int _) h rfl rfl rfl rfl rfl ((Sx.row_reads h (i := 0) rfl).2) Try.underlying23 inf3 rfl (by decide) (by decide) (by simp only [List.length_cons, List.length_nil, List.length_append]; omega) (by first | rfl | simp) (fun A10 cp11 _ h => ?_)
   replace h := Sx.st_selT [false, true] h
   refine Sx.wl_v rfl rfl (Sx.ov_assign _ rfl) ?_
   refine Sx.wl_v rfl rfl (Sx.ov_assign _ rfl) ?_
   refine Sx.wl_nil ?_
   refine Sx.qn_then ?_
   refine Sx.wc_ret ?_
   refine Sx.qn_then_ret ?_
   subst hke
   have hl_ : lensOf s = ((cut s s.size).1) ++ ([(((s).size : Int)) - (((cut s s.size).2 : Int))]) := by unfold lensOf; rw [if_pos (by omega)]
   have ho_ : openOf s = true := by unfold openOf; exact decide_eq_true (by omega)
   refine Sx.qn_ret [_, _] ⟨rfl, rfl, trivial⟩ ?_
   rw [hl_, ho_]
   exact ⟨_, _, rfl, h⟩
  ·
   refine Sx.wc_skip ?_
   refine Sx.qn_then ?_
   refine Sx.wc_seq ?_
   refine Sx.wc_region ?_
   refine Sx.wl_v rfl rfl (Sx.ov_move _ rfl) ?_
   refine Sx.wl_v rfl rfl (Sx.ov_assign _ rfl) ?_
   refine Sx.wl_v rfl rfl (Sx.ov_assign _ rfl) ?_
   refine Sx.wl_nil ?_
   refine Sx.qn_then ?_
   refine Sx.wc_ret ?_
   subst hke
   have hl_ : lensOf s = (cut s s.size).1 := by unfold lensOf; rw [if_neg (by omega)]
   have ho_ : openOf s = false := by unfold openOf; exact decide_eq_false (by omega)
   refine Sx.qn_ret [_, _] ⟨rfl, rfl, trivial⟩ ?_
   rw [hl_, ho_]
   exact ⟨_, _, rfl, h⟩

def ixOf (s : ByteArray) : IX := ⟨lensOf s, (s.size : Int), openOf s⟩

set_option maxRecDepth 100000 in
theorem New_calls {w0 w : World} {F0 : Nat → Prop} {R : List Sx.HP} (s : ByteArray) (hs : s.size ≤ 1099511627776) (h : Sx.St w0 F0 ([] ++ R) w) : Calls Try.prog 15 #[.string (s)] w (fun e w1 => ∃ g, e = .returned (.pointer (some ⟨g, 0, none⟩)) ∧ Sx.St w0 F0 (ixB g (ixOf s) :: R) w1) := by
 refine Sx.calls_fn (vs := [.string (s)]) Try.func15 rfl Try.ntmps15 rfl ?_
 refine Sx.wc_seq ?_
 refine Sx.wc_region ?_
 refine Sx.wl_v rfl rfl (Sx.ov_assign _ rfl) ?_
 refine Sx.wl_nil ?_
 refine Sx.qn_then ?_
 refine Sx.wc_seq ?_
 refine Sx.wc_region ?_
 refine Sx.wl_v rfl rfl (Sx.ov_move _ rfl) ?_
 refine Sx.wl_call _ rfl rfl rfl ent12 (Split_calls (R := [] ++ R) s (by omega) h) ?_
 rintro e_ w_ ⟨A1, cp2, rfl, h⟩
 refine ⟨_, rfl, ?_⟩
 refine Sx.wl_v rfl rfl (Sx.ov_move _ rfl) ?_
 refine Sx.wl_v rfl rfl (Sx.ov_extract [.slice (A1) ((lensOf s).length) (cp2), .bool (openOf s)] _ rfl rfl) ?_
 refine Sx.wl_v rfl rfl (Sx.ov_extract [.slice (A1) ((lensOf s).length) (cp2), .bool (openOf s)] _ rfl rfl) ?_
 refine Sx.wl_v rfl rfl (Sx.ov_assign _ rfl) ?_
 refine Sx.wl_v rfl rfl (Sx.ov_assign _ rfl) ?_
 refine Sx.wl_nil ?_
 refine Sx.qn_then ?_
 refine Sx.wc_seq ?_
 refine Sx.wc_region ?_
 refine Sx.wl_v rfl rfl (Sx.ov_move _ rfl) ?_
 refine Sx.wl_v rfl rfl (Sx.ov_move _ rfl) ?_
 refine Sx.wl_v rfl rfl (Sx.ov_lens _ rfl Try.underlying9) ?_
 refine Sx.wl_v rfl rfl (Sx.ov_move _ rfl) ?_
 refine Sx.wl_v rfl rfl (Sx.ov_build [(0, .slice (A1) ((lensOf s).length) (cp2)), (1, .int .i64 (((s).size : Int))), (2, .bool (openOf s))] [.slice (A1) ((lensOf s).length) (cp2), .int .i64 (((s).size : Int)), .bool (openOf s)] rfl rfl (by kernel_rfl)) ?_
 refine Sx.wl_box _ h rfl rfl rfl (fun b3 _ h => ?_)
 replace h : Sx.St _ _ (Sx.blk b3 [.slice (A1) ((lensOf s).length) (cp2), .int .i64 (((s).size : Int)), .bool (openOf s)] 60 :: _) _ := h
 refine Sx.wl_v rfl rfl (Sx.ov_assign _ rfl) ?_
 refine Sx.wl_nil ?_
 refine Sx.qn_then ?_
 refine Sx.wc_ret ?_
 replace h := Sx.st_front 1 h
 replace h := Sx.st_front 1 h
 replace h := ixB_close (lensOf s) (((s).size : Int)) ((openOf s)) (by first | rfl | simp) h
 have e_ : (⟨lensOf s, ((s).size : Int), (openOf s)⟩ : IX) = ixOf s := by rfl
 replace h := Sx.st_cast (congrArg (fun z_ => ([ixB b3 (z_)] ++ R)) e_) h
 clear e_
 refine Sx.qn_ret [_] ⟨rfl, trivial⟩ ?_
 exact ⟨_, rfl, h⟩

abbrev okI (x : IX) : Prop := (∀ n ∈ x.lens, 1 ≤ n) ∧ x.lens.sum = x.size ∧ x.size ≤ 1099511627776
theorem ixOf_ok (s : ByteArray) (h : s.size ≤ 1099511627776) : okI (ixOf s) := by
  have := lensOf_ok s
  exact ⟨this.2.2, this.2.1, by show (s.size : Int) ≤ _; omega⟩
def spanI (x : IX) (p : Int) : Int × Int × Bool := if p < 0 ∨ (x.lens.length : Int) ≤ p then (0, 0, false) else ((x.lens.take p.toNat).sum, (x.lens.take (p.toNat + 1)).sum, true)
def findI (x : IX) (a : Int) : Int × Bool := if a < 0 ∨ x.size ≤ a then (0, false) else ((findP x.lens a : Nat), true)
def errI (x : IX) (a b : Int) : Int := if a < 0 ∨ x.size < b ∨ b < a then 30 else 0

set_option maxRecDepth 100000 in
theorem Count_calls {w0 w : World} {F0 : Nat → Prop} {R : List Sx.HP} (g : Nat) (x : IX)  (h : Sx.St w0 F0 ([ixB g (x)] ++ R) w) : Calls Try.prog 28 #[.pointer (some ⟨g, 0, none⟩)] w (fun e w1 => e = .returned (.int .i64 (x.lens.length : Int)) ∧ Sx.St w0 F0 (ixB g x :: R) w1) := by
 refine Sx.calls_fn (vs := [.pointer (some ⟨g, 0, none⟩)]) Try.func28 rfl Try.ntmps28 rfl ?_
 refine Sx.wc_seq ?_
 refine Sx.wc_region ?_
 refine Sx.wl_v rfl rfl (Sx.ov_assign _ rfl) ?_
 refine Sx.wl_nil ?_
 refine Sx.qn_then ?_
 refine Sx.wc_seq ?_
 refine Sx.wc_region ?_
 refine Sx.wl_v rfl rfl (Sx.ov_move _ rfl) ?_
 refine Sx.wl_v rfl rfl (Sx.ov_nilCheck _ rfl) ?_
 refine Sx.wl_v rfl rfl (Sx.ov_fieldAddr _ ⟨g, 0, none⟩ _ rfl fo60_0 rfl) ?_
 obtain ⟨A1, c2, h⟩ := ixB_open h
 refine Sx.wl_v rfl rfl (Sx.ov_loadb 0 _ h rfl rfl sh23 rfl) ?_
 refine Sx.wl_v rfl rfl (Sx.ov_len _ _ _ _ _ rfl es23) ?_
 refine Sx.wl_v rfl rfl (Sx.ov_assign _ rfl) ?_
 refine Sx.wl_nil ?_
 refine Sx.qn_then ?_
 refine Sx.wc_ret ?_
 replace h := Sx.st_front 1 h
 replace h := Sx.st_front 1 h
 replace h := ixB_close ((x).lens) ((x).size) (((x).open_)) (by first | rfl | simp) h
 refine Sx.qn_ret [_] ⟨rfl, trivial⟩ ?_
 exact ⟨rfl, h⟩
set_option maxRecDepth 100000 in
theorem Size_calls {w0 w : World} {F0 : Nat → Prop} {R : List Sx.HP} (g : Nat) (x : IX)  (h : Sx.St w0 F0 ([ixB g (x)] ++ R) w) : Calls Try.prog 32 #[.pointer (some ⟨g, 0, none⟩)] w (fun e w1 => e = .returned (.int .i64 x.size) ∧ Sx.St w0 F0 (ixB g x :: R) w1) := by
 refine Sx.calls_fn (vs := [.pointer (some ⟨g, 0, none⟩)]) Try.func32 rfl Try.ntmps32 rfl ?_
 refine Sx.wc_seq ?_
 refine Sx.wc_region ?_
 refine Sx.wl_v rfl rfl (Sx.ov_assign _ rfl) ?_
 refine Sx.wl_nil ?_
 refine Sx.qn_then ?_
 refine Sx.wc_seq ?_
 refine Sx.wc_region ?_
 refine Sx.wl_v rfl rfl (Sx.ov_move _ rfl) ?_
 refine Sx.wl_v rfl rfl (Sx.ov_nilCheck _ rfl) ?_
 refine Sx.wl_v rfl rfl (Sx.ov_fieldAddr _ ⟨g, 1, none⟩ _ rfl fo60_1 rfl) ?_
 obtain ⟨A1, c2, h⟩ := ixB_open h
 refine Sx.wl_v rfl rfl (Sx.ov_loadb 0 _ h rfl rfl sh3 rfl) ?_
 refine Sx.wl_v rfl rfl (Sx.ov_assign _ rfl) ?_
 refine Sx.wl_nil ?_
 refine Sx.qn_then ?_
 refine Sx.wc_ret ?_
 replace h := Sx.st_front 1 h
 replace h := Sx.st_front 1 h
 replace h := ixB_close ((x).lens) ((x).size) (((x).open_)) (by first | rfl | simp) h
 refine Sx.qn_ret [_] ⟨rfl, trivial⟩ ?_
 exact ⟨rfl, h⟩
set_option maxRecDepth 100000 in
theorem Open_calls {w0 w : World} {F0 : Nat → Prop} {R : List Sx.HP} (g : Nat) (x : IX)  (h : Sx.St w0 F0 ([ixB g (x)] ++ R) w) : Calls Try.prog 29 #[.pointer (some ⟨g, 0, none⟩)] w (fun e w1 => e = .returned (.bool x.open_) ∧ Sx.St w0 F0 (ixB g x :: R) w1) := by
 refine Sx.calls_fn (vs := [.pointer (some ⟨g, 0, none⟩)]) Try.func29 rfl Try.ntmps29 rfl ?_
 refine Sx.wc_seq ?_
 refine Sx.wc_region ?_
 refine Sx.wl_v rfl rfl (Sx.ov_assign _ rfl) ?_
 refine Sx.wl_nil ?_
 refine Sx.qn_then ?_
 refine Sx.wc_seq ?_
 refine Sx.wc_region ?_
 refine Sx.wl_v rfl rfl (Sx.ov_move _ rfl) ?_
 refine Sx.wl_v rfl rfl (Sx.ov_nilCheck _ rfl) ?_
 refine Sx.wl_v rfl rfl (Sx.ov_fieldAddr _ ⟨g, 2, none⟩ _ rfl fo60_2 rfl) ?_
 obtain ⟨A1, c2, h⟩ := ixB_open h
 refine Sx.wl_v rfl rfl (Sx.ov_loadb 0 _ h rfl rfl sh4 rfl) ?_
 refine Sx.wl_v rfl rfl (Sx.ov_assign _ rfl) ?_
 refine Sx.wl_nil ?_
 refine Sx.qn_then ?_
 refine Sx.wc_ret ?_
 replace h := Sx.st_front 1 h
 replace h := Sx.st_front 1 h
 replace h := ixB_close ((x).lens) ((x).size) (((x).open_)) (by first | rfl | simp) h
 refine Sx.qn_ret [_] ⟨rfl, trivial⟩ ?_
 exact ⟨rfl, h⟩
set_option maxRecDepth 100000 in
theorem Span_calls {w0 w : World} {F0 : Nat → Prop} {R : List Sx.HP} (g : Nat) (x : IX) (p : Int) (hok : okI x) (h : Sx.St w0 F0 ([ixB g (x)] ++ R) w) : Calls Try.prog 17 #[.pointer (some ⟨g, 0, none⟩), .int .i64 (p)] w (fun e w1 => e = .returned (.tuple #[.int .i64 (spanI x p).1, .int .i64 (spanI x p).2.1, .bool (spanI x p).2.2]) ∧ Sx.St w0 F0 (ixB g x :: R) w1) := by
 have hlen := len_le_sum hok.1
 refine Sx.calls_fn (vs := [.pointer (some ⟨g, 0, none⟩), .int .i64 (p)]) Try.func17 rfl Try.ntmps17 rfl ?_
 refine Sx.wc_seq ?_
 refine Sx.wc_region ?_
 refine Sx.wl_v rfl rfl (Sx.ov_assign _ rfl) ?_
 refine Sx.wl_v rfl rfl (Sx.ov_assign _ rfl) ?_
 refine Sx.wl_v rfl rfl (Sx.ov_assign _ rfl) ?_
 refine Sx.wl_nil ?_
 refine Sx.qn_then ?_
 refine Sx.wc_seq ?_
 refine Sx.wc_seq ?_
 refine Sx.wc_region ?_
 refine Sx.wl_v rfl rfl (Sx.ov_move _ rfl) ?_
 refine Sx.wl_v rfl rfl (Sx.ov_bin _ rfl rfl (Sx.binR_lss)) ?_
 refine Sx.wl_v rfl rfl (Sx.ov_move _ rfl) ?_
 refine Sx.wl_split 12 rfl (fun c1 => ?_) (fun c1 => ?_)
 ·
  refine Sx.wl_skip rfl rfl ?_
  refine Sx.wl_skip rfl rfl ?_
  refine Sx.wl_skip rfl rfl ?_
  refine Sx.wl_skip rfl rfl ?_
  refine Sx.wl_skip rfl rfl ?_
  refine Sx.wl_skip rfl rfl ?_
  refine Sx.wl_skip rfl rfl ?_
  refine Sx.wl_v rfl rfl (Sx.ov_pick_true _ rfl rfl) ?_
  refine Sx.wl_nil ?_
  refine Sx.qn_then ?_
  refine Sx.wc_cond_true rfl ?_
  refine Sx.wc_seq ?_
  refine Sx.wc_region ?_
  refine Sx.wl_v rfl rfl (Sx.ov_assign _ rfl) ?_
  refine Sx.wl_v rfl rfl (Sx.ov_assign _ rfl) ?_
  refine Sx.wl_v rfl rfl (Sx.ov_assign _ rfl) ?_
  refine Sx.wl_nil ?_
  refine Sx.qn_then ?_
  refine Sx.wc_ret ?_
  refine Sx.qn_then_ret ?_
  refine Sx.qn_ret [_, _, _] ⟨rfl, rfl, rfl, trivial⟩ ?_
  have e_ : spanI x p = (0, 0, false) := by unfold spanI; rw [if_pos (by omega)]
  rw [e_]
  exact ⟨rfl, h⟩
 ·
  refine Sx.wl_v rfl rfl (Sx.ov_move _ rfl) ?_
  refine Sx.wl_v rfl rfl (Sx.ov_move _ rfl) ?_
  refine Sx.wl_v rfl rfl (Sx.ov_nilCheck _ rfl) ?_
  refine Sx.wl_v rfl rfl (Sx.ov_fieldAddr _ ⟨g, 0, none⟩ _ rfl fo60_0 rfl) ?_
  obtain ⟨A2, c3, h⟩ := ixB_open h
  refine Sx.wl_v rfl rfl (Sx.ov_loadb 0 _ h rfl rfl sh23 rfl) ?_
  refine Sx.wl_v rfl rfl (Sx.ov_len _ _ _ _ _ rfl es23) ?_
  refine Sx.wl_v rfl rfl (Sx.ov_bin _ rfl rfl (Sx.binR_geq)) ?_
  refine Sx.wl_v rfl rfl (Sx.ov_pick_false _ rfl rfl) ?_
  refine Sx.wl_nil ?_
  refine Sx.qn_then ?_
  refine Sx.wc_cond (by rfl) (fun c4 => ?_) (fun c4 => ?_)
  ·
   refine Sx.wc_seq ?_
   refine Sx.wc_region ?_
   refine Sx.wl_v rfl rfl (Sx.ov_assign _ rfl) ?_
   refine Sx.wl_v rfl rfl (Sx.ov_assign _ rfl) ?_
   refine Sx.wl_v rfl rfl (Sx.ov_assign _ rfl) ?_
   refine Sx.wl_nil ?_
   refine Sx.qn_then ?_
   refine Sx.wc_ret ?_
   refine Sx.qn_then_ret ?_
   replace h := Sx.st_front 1 h
   replace h := Sx.st_front 1 h
   replace h := ixB_close ((x).lens) ((x).size) (((x).open_)) (by first | rfl | simp) h
   refine Sx.qn_ret [_, _, _] ⟨rfl, rfl, rfl, trivial⟩ ?_
   have e_ : spanI x p = (0, 0, false) := by unfold spanI; rw [if_pos (by omega)]
   rw [e_]
   exact ⟨rfl, h⟩
  ·
   refine Sx.wc_skip ?_
   refine Sx.qn_then ?_
   refine Sx.wc_seq ?_
   refine Sx.wc_region ?_
   refine Sx.wl_v rfl rfl (Sx.ov_assign _ rfl) ?_
   refine Sx.wl_nil ?_
   refine Sx.qn_then ?_
   refine Sx.wc_seq ?_
   refine Sx.wc_seq ?_
   refine Sx.wc_region ?_
   refine Sx.wl_v rfl rfl (Sx.ov_move _ rfl) ?_
   refine Sx.wl_v rfl rfl (Sx.ov_nilCheck _ rfl) ?_
   refine Sx.wl_v rfl rfl (Sx.ov_fieldAddr _ ⟨g, 0, none⟩ _ rfl fo60_0 rfl) ?_
   refine Sx.wl_v rfl rfl (Sx.ov_loadb 0 _ h rfl rfl sh23 rfl) ?_
   refine Sx.wl_v rfl rfl (Sx.ov_move _ rfl) ?_
   have hcap5 := (Sx.row_reads h (i := 1) rfl).1
   obtain ⟨A6, hA7⟩ : ∃ A_, (if c3 = 0 then A2 else Option.map (·.add (0 * 1)) (A2)) = A_ := ⟨_, rfl⟩
   refine Sx.wl_v rfl rfl (Sx.ov_slice _ _ _ 0 ((p : Int).toNat) (by rfl) (by exact rfl) (by exact ⟨_, _, rfl, (by omega)⟩) es23 (by omega) (by omega) hA7 (n' := ((((x).lens).take ((p : Int).toNat)).drop 0).length) (by simp only [List.length_drop, List.length_take]; omega)) ?_
   refine Sx.wl_v rfl rfl (Sx.ov_len _ _ _ _ _ rfl es23) ?_
   refine Sx.wl_v rfl rfl (Sx.ov_move _ rfl) ?_
   refine Sx.wl_nil ?_
   refine Sx.qn_then ?_
   refine Sx.wc_block ?_
   replace h := Sx.st_front 1 h
   replace h := Sx.st_front 1 h
   refine Sx.wc_loop (fun (x_ : Nat) => [(0, .pointer (some ⟨g, 0, none⟩)), (1, .int .i64 (p)), (7, .int .i64 (((x.lens.take x_).sum))), (26, .slice (A6) (((((x).lens).take ((p : Int).toNat)).drop 0).length) (c3 - 0)), (27, .int .i64 ((p.toNat : Int))), (28, .int .i64 ((x_ : Int)))]) (fun (x_ : Nat) (w : World) => (x_ ≤ p.toNat) ∧ Sx.St w0 F0 ([Sx.blk g [.slice (A2) (((x).lens).length) (c3), .int .i64 ((x).size), .bool ((x).open_)] 60, Sx.row (Kd.int .i64) 3 (A2) (c3) ((x).lens)] ++ R) w) (fun (x_ : Nat) => p.toNat - x_) (0) ?_ ?_ ?_
   · exact ⟨rfl, rfl, (congrArg (fun z_ => some (Value.int .i64 z_)) (show (0 : Int) = ((x.lens.take 0).sum) by rfl)), rfl, (congrArg (fun z_ => some (Value.int .i64 z_)) (show (((((((x).lens).take ((p : Int).toNat)).drop 0).length : Nat) : Int) : Int) = (p.toNat : Int) by simp only [List.length_drop, List.length_take]; omega)), (congrArg (fun z_ => some (Value.int .i64 z_)) (show (0 : Int) = (0 : Int) by omega)), trivial⟩
   · exact ⟨by first | omega | simp, h⟩
   intro k w h
   obtain ⟨hJ, h⟩ := h
   replace hJ : k ≤ p.toNat := hJ
   replace h : Sx.St w0 F0 ([Sx.blk g [.slice (A2) (((x).lens).length) (c3), .int .i64 ((x).size), .bool ((x).open_)] 60, Sx.row (Kd.int .i64) 3 (A2) (c3) ((x).lens)] ++ R) w := h
   show Sx.WC _ _ _ _ [(0, .pointer (some ⟨g, 0, none⟩)), (1, .int .i64 (p)), (7, .int .i64 (((x.lens.take k).sum))), (26, .slice (A6) (((((x).lens).take ((p : Int).toNat)).drop 0).length) (c3 - 0)), (27, .int .i64 ((p.toNat : Int))), (28, .int .i64 ((k : Int)))] _
   refine Sx.wc_seq ?_
   refine Sx.wc_region ?_
   refine Sx.wl_v rfl rfl (Sx.ov_bin _ rfl rfl (Sx.binR_lss)) ?_
   refine Sx.wl_nil ?_
   refine Sx.qn_then ?_
   refine Sx.wc_seq ?_
   refine Sx.wc_cond (by rfl) (fun c8 => ?_) (fun c8 => ?_)
   ·
    have hk : k < p.toNat := by omega
    have hsn := sum_take_succ x.lens k (by omega)
    have hs1 := sum_take_le hok.1 k
    have hs2 := sum_take_le hok.1 (k + 1)
    have hgd : ((x.lens.take p.toNat).drop 0).getD k 0 = x.lens.getD k 0 := by simp [List.getD, List.getElem?_take, hk]
    have hdl : ((x.lens.take p.toNat).drop 0).length = p.toNat := by simp only [List.drop_zero, List.length_take]; omega
    refine Sx.wc_skip ?_
    refine Sx.qn_then ?_
    refine Sx.wc_seq ?_
    refine Sx.wc_block ?_
    refine Sx.wc_seq ?_
    refine Sx.wc_region ?_
    obtain ⟨ad9, rfl⟩ := Sx.C_some ((Sx.mid_C (lo := 0) (hi := ((p : Int).toNat)) (by omega) (by omega) hcap5 hA7 ((Sx.row_reads h (i := 1) rfl).2))) (k := k) (by first | assumption | omega)
    refine Sx.wl_v rfl rfl (Sx.ov_indexAddrN _ _ _ _ _ k rfl rfl es23 rfl (by first | assumption | omega | (simp only [List.length_take, List.length_drop, List.length_set]; omega))) ?_
    obtain ⟨cl12, _, hk11, hc10⟩ := Sx.C_cells ((Sx.mid_C (lo := 0) (hi := ((p : Int).toNat)) (by omega) (by omega) hcap5 hA7 ((Sx.row_reads h (i := 1) rfl).2))) (z := (0 : Int)) (k := k) (by first | assumption | omega)
    obtain rfl : cl12 = [.int .i64 _] := hk11
    refine Sx.wl_v rfl rfl (Sx.ov_load1 _ _ rfl sh3 ((hc10 0 _ rfl))) ?_
    refine Sx.wl_v rfl rfl (Sx.ov_assign _ rfl) ?_
    refine Sx.wl_nil ?_
    refine Sx.qn_then ?_
    refine Sx.wc_region ?_
    refine Sx.wl_v rfl rfl (Sx.ov_move _ rfl) ?_
    refine Sx.wl_v rfl rfl (Sx.ov_move _ rfl) ?_
    refine Sx.wl_v rfl rfl (Sx.ov_bin _ rfl rfl (Sx.binR_add (r := (((x.lens.take k).sum)) + (((((x).lens).take ((p : Int).toNat)).drop 0).getD k (0 : Int))) (Sx.w64 (by omega)))) ?_
    refine Sx.wl_v rfl rfl (Sx.ov_assign _ rfl) ?_
    refine Sx.wl_nil ?_
    refine Sx.qn_block_normal ?_
    refine Sx.qn_then ?_
    refine Sx.wc_region ?_
    refine Sx.wl_v rfl rfl (Sx.ov_bin _ rfl rfl (Sx.binR_add (r := ((k : Int)) + 1) (Sx.w64 (by omega)))) ?_
    refine Sx.wl_v rfl rfl (Sx.ov_move _ rfl) ?_
    refine Sx.wl_nil ?_
    replace h := Sx.st_front 1 h
    replace h := Sx.st_front 1 h
    refine Sx.qn_next ((k + 1)) (by show p.toNat - (k + 1) < p.toNat - k; omega) ⟨rfl, rfl, (congrArg (fun z_ => some (Value.int .i64 z_)) (show ((((x.lens.take k).sum)) + (((((x).lens).take ((p : Int).toNat)).drop 0).getD k (0 : Int)) : Int) = ((x.lens.take (k + 1)).sum) by rw [hsn, hgd])), (congrArg (fun z_ => some (Value.slice (some ad9) z_ (c3 - 0))) (show (((((x).lens).take ((p : Int).toNat)).drop 0).length : Nat) = ((((x).lens).take ((p : Int).toNat)).drop 0).length by first | rfl | simp)), rfl, (congrArg (fun z_ => some (Value.int .i64 z_)) (show (((k : Int)) + 1 : Int) = ((k + 1) : Int) by omega)), trivial⟩ ?_
    show ((k + 1) ≤ p.toNat) ∧ _
    exact ⟨by first | omega | simp, h⟩
   ·
    have hke : k = p.toNat := by omega
    have hs1 := sum_take_le hok.1 k
    have hs2 := sum_take_le hok.1 (p.toNat + 1)
    have hsn := sum_take_succ x.lens p.toNat (by omega)
    have hsk : (x.lens.take k).sum = (x.lens.take p.toNat).sum := by rw [hke]
    refine Sx.wc_exit ?_
    refine Sx.qn_then_exit ?_
    refine Sx.qn_then_exit ?_
    refine Sx.qn_block_exit ?_
    refine Sx.qn_then ?_
    refine Sx.wc_seq ?_
    refine Sx.wc_draw (fun w => Sx.St w0 F0 ([Sx.blk g [.slice (A2) (((x).lens).length) (c3), .int .i64 ((x).size), .bool ((x).open_)] 60, Sx.row (Kd.int .i64) 3 (A2) (c3) ((x).lens)] ++ R) w) (by kernel_rfl) ?_
    replace h := Sx.st_drew h
    refine Sx.wa_tk 0 rfl rfl rfl (Sx.st_selT [true, true] h) (fun w_ hS => Sx.ov_move _ rfl) ?_
    refine Sx.wa_tk 1 rfl rfl rfl (Sx.st_selT [true, true] h) (fun w_ hS => Sx.ov_move _ rfl) ?_
    refine Sx.wa_tk 2 rfl rfl rfl (Sx.st_selT [true, true] h) (fun w_ hS => Sx.ov_move _ rfl) ?_
    refine Sx.wa_tk 3 rfl rfl rfl (Sx.st_selT [true, true] h) (fun w_ hS => Sx.ov_nilCheck _ rfl) ?_
    refine Sx.wa_tk 4 rfl rfl rfl (Sx.st_selT [true, true] h) (fun w_ hS => Sx.ov_fieldAddr _ ⟨g, 0, none⟩ _ rfl fo60_0 rfl) ?_
    refine Sx.wa_tk 5 rfl rfl rfl (Sx.st_selT [true, true] h) (fun w_ hS => Sx.ov_loadb 0 _ hS rfl rfl sh23 rfl) ?_
    refine Sx.wa_tk 6 rfl rfl rfl (Sx.st_selT [true, true] h) (fun w_ hS => Sx.ov_move _ rfl) ?_
    obtain ⟨ad13, rfl⟩ := Sx.C_some ((Sx.row_reads h (i := 1) rfl).2) (k := (p : Int).toNat) (by first | assumption | omega)
    refine Sx.wa_tk 7 rfl rfl rfl (Sx.st_selT [true, true] h) (fun w_ hS => Sx.ov_indexAddrN _ _ _ _ _ (p : Int).toNat rfl rfl es23 (by omega) (by first | assumption | omega | (simp only [List.length_take, List.length_drop, List.length_set]; omega))) ?_
    refine Sx.wa_tk 8 rfl rfl rfl (Sx.st_selT [true, true] h) (fun w_ hS => by
        obtain ⟨cl16, _, hk15, hc14⟩ := Sx.C_cells ((Sx.row_reads hS (i := 1) rfl).2) (z := (0 : Int)) (k := (p : Int).toNat) (by first | assumption | omega)
        obtain rfl : cl16 = [.int .i64 _] := hk15
        exact Sx.ov_load1 _ _ rfl sh3 ((hc14 0 _ rfl))) ?_
    refine Sx.wa_tk 9 rfl rfl rfl (Sx.st_selT [true, true] h) (fun w_ hS => Sx.ov_bin _ rfl rfl (Sx.binR_add (r := (((x.lens.take k).sum)) + (((x).lens).getD (p : Int).toNat (0 : Int))) (Sx.w64 (by omega)))) ?_
    refine Sx.wa_tk 10 rfl rfl rfl (Sx.st_selT [true, true] h) (fun w_ hS => Sx.ov_assign _ rfl) ?_
    refine Sx.wa_tk 11 rfl rfl rfl (Sx.st_selT [true, true] h) (fun w_ hS => Sx.ov_assign _ rfl) ?_
    refine Sx.wa_tk 12 rfl rfl rfl (Sx.st_selT [true, true] h) (fun w_ hS => Sx.ov_assign _ rfl) ?_
    refine Sx.wa_done (by kernel_rfl) ?_
    refine Sx.qn_then ?_
    refine Sx.wc_ret ?_
    have e_ : spanI x p = (((x.lens.take k).sum), (((x.lens.take k).sum)) + (((x).lens).getD (p : Int).toNat (0 : Int)), true) := by unfold spanI; rw [if_neg (by omega), hsn, hsk]
    replace h := Sx.st_front 1 h
    replace h := Sx.st_front 1 h
    replace h := ixB_close ((x).lens) ((x).size) (((x).open_)) (by first | rfl | simp) h
    refine Sx.qn_ret [_, _, _] ⟨rfl, rfl, rfl, trivial⟩ ?_
    rw [e_]
    exact ⟨rfl, h⟩
set_option maxRecDepth 100000 in
theorem Find_calls {w0 w : World} {F0 : Nat → Prop} {R : List Sx.HP} (g : Nat) (x : IX) (a : Int) (hok : okI x) (h : Sx.St w0 F0 ([ixB g (x)] ++ R) w) : Calls Try.prog 16 #[.pointer (some ⟨g, 0, none⟩), .int .i64 (a)] w (fun e w1 => e = .returned (.tuple #[.int .i64 (findI x a).1, .bool (findI x a).2]) ∧ Sx.St w0 F0 (ixB g x :: R) w1) := by
 have hlen := len_le_sum hok.1
 refine Sx.calls_fn (vs := [.pointer (some ⟨g, 0, none⟩), .int .i64 (a)]) Try.func16 rfl Try.ntmps16 rfl ?_
 refine Sx.wc_seq ?_
 refine Sx.wc_region ?_
 refine Sx.wl_v rfl rfl (Sx.ov_assign _ rfl) ?_
 refine Sx.wl_v rfl rfl (Sx.ov_assign _ rfl) ?_
 refine Sx.wl_nil ?_
 refine Sx.qn_then ?_
 refine Sx.wc_seq ?_
 refine Sx.wc_seq ?_
 refine Sx.wc_region ?_
 refine Sx.wl_v rfl rfl (Sx.ov_move _ rfl) ?_
 refine Sx.wl_v rfl rfl (Sx.ov_bin _ rfl rfl (Sx.binR_lss)) ?_
 refine Sx.wl_v rfl rfl (Sx.ov_move _ rfl) ?_
 refine Sx.wl_split 10 rfl (fun c1 => ?_) (fun c1 => ?_)
 ·
  refine Sx.wl_skip rfl rfl ?_
  refine Sx.wl_skip rfl rfl ?_
  refine Sx.wl_skip rfl rfl ?_
  refine Sx.wl_skip rfl rfl ?_
  refine Sx.wl_skip rfl rfl ?_
  refine Sx.wl_skip rfl rfl ?_
  refine Sx.wl_v rfl rfl (Sx.ov_pick_true _ rfl rfl) ?_
  refine Sx.wl_nil ?_
  refine Sx.qn_then ?_
  refine Sx.wc_cond_true rfl ?_
  refine Sx.wc_seq ?_
  refine Sx.wc_region ?_
  refine Sx.wl_v rfl rfl (Sx.ov_assign _ rfl) ?_
  refine Sx.wl_v rfl rfl (Sx.ov_assign _ rfl) ?_
  refine Sx.wl_nil ?_
  refine Sx.qn_then ?_
  refine Sx.wc_ret ?_
  refine Sx.qn_then_ret ?_
  refine Sx.qn_ret [_, _] ⟨rfl, rfl, trivial⟩ ?_
  have e_ : findI x a = (0, false) := by unfold findI; rw [if_pos (by omega)]
  rw [e_]
  exact ⟨rfl, h⟩
 ·
  refine Sx.wl_v rfl rfl (Sx.ov_move _ rfl) ?_
  refine Sx.wl_v rfl rfl (Sx.ov_move _ rfl) ?_
  refine Sx.wl_v rfl rfl (Sx.ov_nilCheck _ rfl) ?_
  refine Sx.wl_v rfl rfl (Sx.ov_fieldAddr _ ⟨g, 1, none⟩ _ rfl fo60_1 rfl) ?_
  obtain ⟨A2, c3, h⟩ := ixB_open h
  refine Sx.wl_v rfl rfl (Sx.ov_loadb 0 _ h rfl rfl sh3 rfl) ?_
  refine Sx.wl_v rfl rfl (Sx.ov_bin _ rfl rfl (Sx.binR_geq)) ?_
  refine Sx.wl_v rfl rfl (Sx.ov_pick_false _ rfl rfl) ?_
  refine Sx.wl_nil ?_
  refine Sx.qn_then ?_
  refine Sx.wc_cond (by rfl) (fun c4 => ?_) (fun c4 => ?_)
  ·
   refine Sx.wc_seq ?_
   refine Sx.wc_region ?_
   refine Sx.wl_v rfl rfl (Sx.ov_assign _ rfl) ?_
   refine Sx.wl_v rfl rfl (Sx.ov_assign _ rfl) ?_
   refine Sx.wl_nil ?_
   refine Sx.qn_then ?_
   refine Sx.wc_ret ?_
   refine Sx.qn_then_ret ?_
   replace h := Sx.st_front 1 h
   replace h := Sx.st_front 1 h
   replace h := ixB_close ((x).lens) ((x).size) (((x).open_)) (by first | rfl | simp) h
   refine Sx.qn_ret [_, _] ⟨rfl, rfl, trivial⟩ ?_
   have e_ : findI x a = (0, false) := by unfold findI; rw [if_pos (by omega)]
   rw [e_]
   exact ⟨rfl, h⟩
  ·
   refine Sx.wc_skip ?_
   refine Sx.qn_then ?_
   refine Sx.wc_seq ?_
   refine Sx.wc_seq ?_
   refine Sx.wc_region ?_
   refine Sx.wl_v rfl rfl (Sx.ov_move _ rfl) ?_
   refine Sx.wl_v rfl rfl (Sx.ov_nilCheck _ rfl) ?_
   refine Sx.wl_v rfl rfl (Sx.ov_fieldAddr _ ⟨g, 0, none⟩ _ rfl fo60_0 rfl) ?_
   refine Sx.wl_v rfl rfl (Sx.ov_loadb 0 _ h rfl rfl sh23 rfl) ?_
   refine Sx.wl_v rfl rfl (Sx.ov_len _ _ _ _ _ rfl es23) ?_
   refine Sx.wl_v rfl rfl (Sx.ov_move _ rfl) ?_
   refine Sx.wl_nil ?_
   refine Sx.qn_then ?_
   refine Sx.wc_block ?_
   replace h := Sx.st_front 1 h
   replace h := Sx.st_front 1 h
   refine Sx.wc_loop (fun (x_ : Nat) => [(0, .pointer (some ⟨g, 0, none⟩)), (1, .int .i64 ((a - (x.lens.take x_).sum))), (21, .slice (A2) (((x).lens).length) (c3)), (22, .int .i64 ((x.lens.length : Int))), (23, .int .i64 ((x_ : Int)))]) (fun (x_ : Nat) (w : World) => (x_ ≤ x.lens.length ∧ (x.lens.take x_).sum ≤ a) ∧ Sx.St w0 F0 ([Sx.blk g [.slice (A2) (((x).lens).length) (c3), .int .i64 ((x).size), .bool ((x).open_)] 60, Sx.row (Kd.int .i64) 3 (A2) (c3) ((x).lens)] ++ R) w) (fun (x_ : Nat) => x.lens.length - x_) (0) ?_ ?_ ?_
   · exact ⟨rfl, (congrArg (fun z_ => some (Value.int .i64 z_)) (show (a : Int) = (a - (x.lens.take 0).sum) by simp)), rfl, (congrArg (fun z_ => some (Value.int .i64 z_)) (show (((((x).lens).length : Nat) : Int) : Int) = (x.lens.length : Int) by omega)), (congrArg (fun z_ => some (Value.int .i64 z_)) (show (0 : Int) = (0 : Int) by omega)), trivial⟩
   · exact ⟨⟨Nat.zero_le _, by simp; omega⟩, h⟩
   intro k w h
   obtain ⟨hJ, h⟩ := h
   replace hJ : k ≤ x.lens.length ∧ (x.lens.take k).sum ≤ a := hJ
   replace h : Sx.St w0 F0 ([Sx.blk g [.slice (A2) (((x).lens).length) (c3), .int .i64 ((x).size), .bool ((x).open_)] 60, Sx.row (Kd.int .i64) 3 (A2) (c3) ((x).lens)] ++ R) w := h
   show Sx.WC _ _ _ _ [(0, .pointer (some ⟨g, 0, none⟩)), (1, .int .i64 ((a - (x.lens.take k).sum))), (21, .slice (A2) (((x).lens).length) (c3)), (22, .int .i64 ((x.lens.length : Int))), (23, .int .i64 ((k : Int)))] _
   refine Sx.wc_seq ?_
   refine Sx.wc_region ?_
   refine Sx.wl_v rfl rfl (Sx.ov_bin _ rfl rfl (Sx.binR_lss)) ?_
   refine Sx.wl_nil ?_
   refine Sx.qn_then ?_
   refine Sx.wc_seq ?_
   refine Sx.wc_cond (by rfl) (fun c5 => ?_) (fun c5 => ?_)
   ·
    have hk : k < x.lens.length := by omega
    have hsn := sum_take_succ x.lens k hk
    have hs1 := sum_take_le hok.1 k
    have hs2 := sum_take_le hok.1 (k + 1)
    refine Sx.wc_skip ?_
    refine Sx.qn_then ?_
    refine Sx.wc_seq ?_
    refine Sx.wc_block ?_
    refine Sx.wc_seq ?_
    refine Sx.wc_region ?_
    refine Sx.wl_v rfl rfl (Sx.ov_move _ rfl) ?_
    obtain ⟨ad6, rfl⟩ := Sx.C_some ((Sx.row_reads h (i := 1) rfl).2) (k := k) (by first | assumption | omega)
    refine Sx.wl_v rfl rfl (Sx.ov_indexAddrN _ _ _ _ _ k rfl rfl es23 rfl (by first | assumption | omega | (simp only [List.length_take, List.length_drop, List.length_set]; omega))) ?_
    obtain ⟨cl9, _, hk8, hc7⟩ := Sx.C_cells ((Sx.row_reads h (i := 1) rfl).2) (z := (0 : Int)) (k := k) (by first | assumption | omega)
    obtain rfl : cl9 = [.int .i64 _] := hk8
    refine Sx.wl_v rfl rfl (Sx.ov_load1 _ _ rfl sh3 ((hc7 0 _ rfl))) ?_
    refine Sx.wl_v rfl rfl (Sx.ov_assign _ rfl) ?_
    refine Sx.wl_v rfl rfl (Sx.ov_assign _ rfl) ?_
    refine Sx.wl_nil ?_
    refine Sx.qn_then ?_
    refine Sx.wc_seq ?_
    refine Sx.wc_seq ?_
    refine Sx.wc_region ?_
    refine Sx.wl_v rfl rfl (Sx.ov_move _ rfl) ?_
    refine Sx.wl_v rfl rfl (Sx.ov_move _ rfl) ?_
    refine Sx.wl_v rfl rfl (Sx.ov_bin _ rfl rfl (Sx.binR_lss)) ?_
    refine Sx.wl_nil ?_
    refine Sx.qn_then ?_
    refine Sx.wc_cond (by rfl) (fun c10 => ?_) (fun c10 => ?_)
    ·
     refine Sx.wc_seq ?_
     refine Sx.wc_region ?_
     refine Sx.wl_v rfl rfl (Sx.ov_move _ rfl) ?_
     refine Sx.wl_v rfl rfl (Sx.ov_assign _ rfl) ?_
     refine Sx.wl_v rfl rfl (Sx.ov_assign _ rfl) ?_
     refine Sx.wl_nil ?_
     refine Sx.qn_then ?_
     refine Sx.wc_ret ?_
     refine Sx.qn_then_ret ?_
     refine Sx.qn_block_ret ?_
     refine Sx.qn_then_ret ?_
     refine Sx.qn_then_ret ?_
     refine Sx.qn_block_ret ?_
     refine Sx.qn_then_ret ?_
     replace h := Sx.st_front 1 h
     replace h := Sx.st_front 1 h
     replace h := ixB_close ((x).lens) ((x).size) (((x).open_)) (by first | rfl | simp) h
     refine Sx.qn_ret [_, _] ⟨rfl, rfl, trivial⟩ ?_
     have e_ : findI x a = (((k : Nat) : Int), true) := by unfold findI; rw [if_neg (by omega), findP_eq hok.1 (by omega) hk hJ.2 (by omega)]
     rw [e_]
     exact ⟨rfl, h⟩
    ·
     refine Sx.wc_skip ?_
     refine Sx.qn_then ?_
     refine Sx.wc_region ?_
     refine Sx.wl_v rfl rfl (Sx.ov_move _ rfl) ?_
     refine Sx.wl_v rfl rfl (Sx.ov_move _ rfl) ?_
     refine Sx.wl_v rfl rfl (Sx.ov_bin _ rfl rfl (Sx.binR_sub (r := ((a - (x.lens.take k).sum)) - (((x).lens).getD k (0 : Int))) (Sx.w64 (by omega)))) ?_
     refine Sx.wl_v rfl rfl (Sx.ov_assign _ rfl) ?_
     refine Sx.wl_nil ?_
     refine Sx.qn_block_normal ?_
     refine Sx.qn_then ?_
     refine Sx.wc_region ?_
     refine Sx.wl_v rfl rfl (Sx.ov_bin _ rfl rfl (Sx.binR_add (r := ((k : Int)) + 1) (Sx.w64 (by omega)))) ?_
     refine Sx.wl_v rfl rfl (Sx.ov_move _ rfl) ?_
     refine Sx.wl_nil ?_
     replace h := Sx.st_front 1 h
     replace h := Sx.st_front 1 h
     refine Sx.qn_next ((k + 1)) (by show x.lens.length - (k + 1) < x.lens.length - k; omega) ⟨rfl, (congrArg (fun z_ => some (Value.int .i64 z_)) (show (((a - (x.lens.take k).sum)) - (((x).lens).getD k (0 : Int)) : Int) = (a - (x.lens.take (k + 1)).sum) by rw [hsn]; omega)), (congrArg (fun z_ => some (Value.slice (some ad6) z_ (c3))) (show (((x).lens).length : Nat) = ((x).lens).length by first | rfl | simp)), rfl, (congrArg (fun z_ => some (Value.int .i64 z_)) (show (((k : Int)) + 1 : Int) = ((k + 1) : Int) by omega)), trivial⟩ ?_
     show ((k + 1) ≤ x.lens.length ∧ (x.lens.take (k + 1)).sum ≤ a) ∧ _
     exact ⟨by first | omega | simp, h⟩
   ·
    exfalso
    obtain rfl : k = x.lens.length := by omega
    rw [List.take_length] at hJ
    omega
set_option maxRecDepth 100000 in
theorem span_calls {w0 w : World} {F0 : Nat → Prop} {R : List Sx.HP} (g : Nat) (x : IX) (a b : Int)  (h : Sx.St w0 F0 ([ixB g (x)] ++ R) w) : Calls Try.prog 31 #[.pointer (some ⟨g, 0, none⟩), .int .i64 (a), .int .i64 (b)] w (fun e w1 => e = .returned (.int .i64 (errI x a b)) ∧ Sx.St w0 F0 (ixB g x :: R) w1) := by
 refine Sx.calls_fn (vs := [.pointer (some ⟨g, 0, none⟩), .int .i64 (a), .int .i64 (b)]) Try.func31 rfl Try.ntmps31 rfl ?_
 refine Sx.wc_seq ?_
 refine Sx.wc_region ?_
 refine Sx.wl_v rfl rfl (Sx.ov_assign _ rfl) ?_
 refine Sx.wl_nil ?_
 refine Sx.qn_then ?_
 refine Sx.wc_seq ?_
 refine Sx.wc_seq ?_
 refine Sx.wc_region ?_
 refine Sx.wl_v rfl rfl (Sx.ov_move _ rfl) ?_
 refine Sx.wl_v rfl rfl (Sx.ov_bin _ rfl rfl (Sx.binR_lss)) ?_
 refine Sx.wl_v rfl rfl (Sx.ov_move _ rfl) ?_
 refine Sx.wl_split 9 rfl (fun c1 => ?_) (fun c1 => ?_)
 ·
  refine Sx.wl_skip rfl rfl ?_
  refine Sx.wl_skip rfl rfl ?_
  refine Sx.wl_skip rfl rfl ?_
  refine Sx.wl_skip rfl rfl ?_
  refine Sx.wl_skip rfl rfl ?_
  refine Sx.wl_skip rfl rfl ?_
  refine Sx.wl_v rfl rfl (Sx.ov_pick_true _ rfl rfl) ?_
  refine Sx.wl_v rfl rfl (Sx.ov_move _ rfl) ?_
  refine Sx.wl_skip rfl rfl ?_
  refine Sx.wl_skip rfl rfl ?_
  refine Sx.wl_skip rfl rfl ?_
  refine Sx.wl_v rfl rfl (Sx.ov_pick_true _ rfl rfl) ?_
  refine Sx.wl_nil ?_
  refine Sx.qn_then ?_
  refine Sx.wc_cond_true rfl ?_
  refine Sx.wc_seq ?_
  refine Sx.wc_region ?_
  refine Sx.wl_v rfl rfl (Sx.ov_assign _ rfl) ?_
  refine Sx.wl_nil ?_
  refine Sx.qn_then ?_
  refine Sx.wc_ret ?_
  refine Sx.qn_then_ret ?_
  refine Sx.qn_ret [_] ⟨rfl, trivial⟩ ?_
  exact ⟨congrArg (fun z => Ending.returned (Value.int .i64 z)) (by unfold errI; first | rw [if_pos (by omega)] | rw [if_neg (by omega)]), h⟩
 ·
  refine Sx.wl_v rfl rfl (Sx.ov_move _ rfl) ?_
  refine Sx.wl_v rfl rfl (Sx.ov_move _ rfl) ?_
  refine Sx.wl_v rfl rfl (Sx.ov_nilCheck _ rfl) ?_
  refine Sx.wl_v rfl rfl (Sx.ov_fieldAddr _ ⟨g, 1, none⟩ _ rfl fo60_1 rfl) ?_
  obtain ⟨A2, c3, h⟩ := ixB_open h
  refine Sx.wl_v rfl rfl (Sx.ov_loadb 0 _ h rfl rfl sh3 rfl) ?_
  refine Sx.wl_v rfl rfl (Sx.ov_bin _ rfl rfl (Sx.binR_gtr)) ?_
  refine Sx.wl_v rfl rfl (Sx.ov_pick_false _ rfl rfl) ?_
  refine Sx.wl_v rfl rfl (Sx.ov_move _ rfl) ?_
  refine Sx.wl_split 17 rfl (fun c4 => ?_) (fun c4 => ?_)
  ·
   refine Sx.wl_skip rfl rfl ?_
   refine Sx.wl_skip rfl rfl ?_
   refine Sx.wl_skip rfl rfl ?_
   refine Sx.wl_v rfl rfl (Sx.ov_pick_true _ rfl rfl) ?_
   refine Sx.wl_nil ?_
   refine Sx.qn_then ?_
   refine Sx.wc_cond_true rfl ?_
   refine Sx.wc_seq ?_
   refine Sx.wc_region ?_
   refine Sx.wl_v rfl rfl (Sx.ov_assign _ rfl) ?_
   refine Sx.wl_nil ?_
   refine Sx.qn_then ?_
   refine Sx.wc_ret ?_
   refine Sx.qn_then_ret ?_
   replace h := Sx.st_front 1 h
   replace h := Sx.st_front 1 h
   replace h := ixB_close ((x).lens) ((x).size) (((x).open_)) (by first | rfl | simp) h
   refine Sx.qn_ret [_] ⟨rfl, trivial⟩ ?_
   exact ⟨congrArg (fun z => Ending.returned (Value.int .i64 z)) (by unfold errI; first | rw [if_pos (by omega)] | rw [if_neg (by omega)]), h⟩
  ·
   refine Sx.wl_v rfl rfl (Sx.ov_move _ rfl) ?_
   refine Sx.wl_v rfl rfl (Sx.ov_move _ rfl) ?_
   refine Sx.wl_v rfl rfl (Sx.ov_bin _ rfl rfl (Sx.binR_gtr)) ?_
   refine Sx.wl_v rfl rfl (Sx.ov_pick_false _ rfl rfl) ?_
   refine Sx.wl_nil ?_
   refine Sx.qn_then ?_
   refine Sx.wc_cond (by rfl) (fun c5 => ?_) (fun c5 => ?_)
   ·
    refine Sx.wc_seq ?_
    refine Sx.wc_region ?_
    refine Sx.wl_v rfl rfl (Sx.ov_assign _ rfl) ?_
    refine Sx.wl_nil ?_
    refine Sx.qn_then ?_
    refine Sx.wc_ret ?_
    refine Sx.qn_then_ret ?_
    replace h := Sx.st_front 1 h
    replace h := Sx.st_front 1 h
    replace h := ixB_close ((x).lens) ((x).size) (((x).open_)) (by first | rfl | simp) h
    refine Sx.qn_ret [_] ⟨rfl, trivial⟩ ?_
    exact ⟨congrArg (fun z => Ending.returned (Value.int .i64 z)) (by unfold errI; first | rw [if_pos (by omega)] | rw [if_neg (by omega)]), h⟩
   ·
    refine Sx.wc_skip ?_
    refine Sx.qn_then ?_
    refine Sx.wc_seq ?_
    refine Sx.wc_region ?_
    refine Sx.wl_v rfl rfl (Sx.ov_assign _ rfl) ?_
    refine Sx.wl_nil ?_
    refine Sx.qn_then ?_
    refine Sx.wc_ret ?_
    replace h := Sx.st_front 1 h
    replace h := Sx.st_front 1 h
    replace h := ixB_close ((x).lens) ((x).size) (((x).open_)) (by first | rfl | simp) h
    refine Sx.qn_ret [_] ⟨rfl, trivial⟩ ?_
    exact ⟨congrArg (fun z => Ending.returned (Value.int .i64 z)) (by unfold errI; first | rw [if_pos (by omega)] | rw [if_neg (by omega)]), h⟩
end Go.Proofs.Yteancplgfjhagaa.Paras
