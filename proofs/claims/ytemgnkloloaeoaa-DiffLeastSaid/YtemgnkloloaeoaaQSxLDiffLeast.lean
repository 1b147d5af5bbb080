/- Pruned by wip/prune.py. -/
import Derived.Test.YtemgnkloloaeoaaProg
import Derived.Test.YtemgnkloloaeoaaQSxGlue
import Derived.Test.YtemgnkloloaeoaaQSxKinds
import Derived.Test.YtemgnkloloaeoaaQPureLeast
import Derived.Test.YtemgnkloloaeoaaQPAllx6
namespace Go.Proofs.Ytemgnkloloaeoaa.L
open Go Go.RowKit Go.Proofs.YtemgnkloloaeoaaW.PrintWords Go.Proofs.Ytemgnkloloaeoaa.Kinds Go.Proofs.Ytemgnkloloaeoaa.PAll Go.Proofs.Ytemgnkloloaeoaa.Sx 
set_option linter.unusedVariables false
set_option linter.unusedSimpArgs false
theorem ent8 : Sx.Ent Try.prog 8 := ⟨Try.f8, Try.func8, by kernel_rfl, by kernel_rfl⟩
theorem ent9 : Sx.Ent Try.prog 9 := ⟨Try.f9, Try.func9, by kernel_rfl, by kernel_rfl⟩
theorem ent11 : Sx.Ent Try.prog 11 := ⟨Try.f11, Try.func11, by kernel_rfl, by kernel_rfl⟩
theorem es22 : Sx.elemSz Try.prog 22 = some (31, 1) := by kernel_rfl
theorem es27 : Sx.elemSz Try.prog 27 = some (34, 5) := by kernel_rfl
theorem fo34_0 : Sx.fieldOff Try.prog 34 0 = some 0 := by kernel_rfl
theorem sh3 : Sx.shapeOf Try.prog 3 = some (false, 1) := by kernel_rfl
theorem fo34_1 : Sx.fieldOff Try.prog 34 1 = some 1 := by kernel_rfl
theorem sh31 : Sx.shapeOf Try.prog 31 = some (true, 1) := by kernel_rfl
theorem ent12 : Sx.Ent Try.prog 12 := ⟨Try.f12, Try.func12, by kernel_rfl, by kernel_rfl⟩
theorem ent13 : Sx.Ent Try.prog 13 := ⟨Try.f13, Try.func13, by kernel_rfl, by kernel_rfl⟩
theorem sh34 : Sx.shapeOf Try.prog 34 = some (true, 5) := by kernel_rfl
theorem zo34 : Sx.zeroOf Try.prog 34 = some (.agg #[.int .i64 (0), .int .i64 (0), .int .i64 (0), .int .i64 (0), .slice (none) (0) (0)]) := by kernel_rfl
theorem fo34_2 : Sx.fieldOff Try.prog 34 2 = some 2 := by kernel_rfl
theorem fo34_3 : Sx.fieldOff Try.prog 34 3 = some 3 := by kernel_rfl
theorem fo31_0 : Sx.fieldOff Try.prog 31 0 = some 0 := by kernel_rfl
theorem sh29 : Sx.shapeOf Try.prog 29 = some (false, 1) := by kernel_rfl
theorem es29 : Sx.elemSz Try.prog 29 = some (39, 9) := by kernel_rfl
theorem fo34_4 : Sx.fieldOff Try.prog 34 4 = some 4 := by kernel_rfl
theorem sh39 : Sx.shapeOf Try.prog 39 = some (true, 9) := by kernel_rfl
theorem ent14 : Sx.Ent Try.prog 14 := ⟨Try.f14, Try.func14, by kernel_rfl, by kernel_rfl⟩
set_option maxHeartbeats 8000000 in
set_option maxRecDepth 100000 in
theorem DiffLeast_calls {w0 w : World} {F0 : Nat → Prop} {R : List Sx.HP} {v0 : World} (a : List S31) (Aa : Option Addr) (ca : Nat) (b : List S31) (Ab : Option Addr) (cb : Nat) (hv : Sx.RO v0 w0 F0) (hla : a.length ≤ ca) (hCa : k31.C v0 Aa a.length a) (hma : a.length ≤ 9223372036854775807) (hlb : b.length ≤ cb) (hCb : k31.C v0 Ab b.length b) (hmb : b.length ≤ 9223372036854775807) (h : Sx.St w0 F0 ([] ++ R) w) : Calls Try.prog 4 #[.slice (Aa) (a.length) (ca), .slice (Ab) (b.length) (cb)] w (fun e w1 => e = .returned (.bool true) ∧ Sx.St w0 F0 R w1) := by
 refine Sx.calls_fn (vs := [.slice (Aa) (a.length) (ca), .slice (Ab) (b.length) (cb)]) Try.func4 rfl Try.ntmps4 rfl ?_
 refine wc_seq ?_
 refine wc_region ?_
 refine wl_v rfl rfl (ov_assign _ rfl) ?_
 refine wl_nil ?_
 refine qn_then ?_
 refine wc_seq ?_
 refine wc_seq ?_
 refine wc_region ?_
 refine wl_call _ rfl rfl rfl ent8 (regletlaw14_awake.calls 100 true _ Pure.awake_100) ?_
 rintro e_ w_ ⟨rfl, hB_⟩
 refine ⟨_, rfl, ?_⟩
 replace h := st_below h hB_
 refine wl_v rfl rfl (ov_notb _ rfl) ?_
 refine wl_nil ?_
 refine qn_then ?_
 refine wc_cond_false rfl ?_
 refine wc_skip ?_
 refine qn_then ?_
 refine wc_seq ?_
 refine wc_seq ?_
 refine wc_region ?_
 refine wl_v rfl rfl (ov_move _ rfl) ?_
 obtain ⟨bf1, hb2, gf3⟩ := Pure.few_val a 1200 (by omega)
 refine wl_call _ rfl rfl rfl ent9 (regletlaw14_few.calls 1200 _ _ a bf1 _ ((Sx.ro_C hv h hCa)) hla hb2) ?_
 rintro e_ w_ ⟨rfl, hB_⟩
 refine ⟨_, rfl, ?_⟩
 replace h := st_below h hB_.below
 refine wl_v rfl rfl (ov_notb _ rfl) ?_
 refine wl_v rfl rfl (ov_move _ rfl) ?_
 refine wl_splitb 15 rfl (fun c4 => ?_) (fun c4 => ?_)
 ·
  refine wl_skip rfl rfl ?_
  refine wl_skip rfl rfl ?_
  refine wl_skip rfl rfl ?_
  refine wl_v rfl rfl (ov_pick_true _ rfl rfl) ?_
  refine wl_nil ?_
  refine qn_then ?_
  refine wc_cond_true rfl ?_
  refine wc_seq ?_
  refine wc_region ?_
  refine wl_v rfl rfl (ov_assign _ rfl) ?_
  refine wl_nil ?_
  refine qn_then ?_
  refine wc_ret ?_
  refine qn_then_ret ?_
  refine qn_ret [_] ⟨rfl, trivial⟩ ?_
  exact ⟨rfl, h⟩
 ·
  have hFa := gf3 (by simpa using c4)
  refine wl_v rfl rfl (ov_move _ rfl) ?_
  obtain ⟨bf5, hb6, gf7⟩ := Pure.few_val b 1200 (by omega)
  refine wl_call _ rfl rfl rfl ent9 (regletlaw14_few.calls 1200 _ _ b bf5 _ ((Sx.ro_C hv h hCb)) hlb hb6) ?_
  rintro e_ w_ ⟨rfl, hB_⟩
  refine ⟨_, rfl, ?_⟩
  replace h := st_below h hB_.below
  refine wl_v rfl rfl (ov_notb _ rfl) ?_
  refine wl_v rfl rfl (ov_pick_false _ rfl rfl) ?_
  refine wl_nil ?_
  refine qn_then ?_
  refine wc_condb (by rfl) (fun c8 => ?_) (fun c8 => ?_)
  ·
   refine wc_seq ?_
   refine wc_region ?_
   refine wl_v rfl rfl (ov_assign _ rfl) ?_
   refine wl_nil ?_
   refine qn_then ?_
   refine wc_ret ?_
   refine qn_then_ret ?_
   refine qn_ret [_] ⟨rfl, trivial⟩ ?_
   exact ⟨rfl, h⟩
  ·
   have hFb := gf7 (by simpa using c8)
   refine wc_skip ?_
   refine qn_then ?_
   refine wc_seq ?_
   refine wc_region ?_
   refine wl_v rfl rfl (ov_move _ rfl) ?_
   refine wl_v rfl rfl (ov_move _ rfl) ?_
   have hold_ := h
   refine wl_call _ rfl rfl rfl ent11 (diff_Diff.calls 200 _ _ a _ _ b 0 (Pure.diffV a b) _ ((Sx.ro_C hv h hCa)) hla ((Sx.ro_C hv h hCb)) hlb (Pure.diff_val a b hFa hFb 200 (by omega))) ?_
   rintro e_ w_ ⟨v_, rfl, hR_, hB_⟩
   refine ⟨_, rfl, ?_⟩
   replace h := st_below h hB_
   obtain ⟨Al, cl, rfl, hll, hCl⟩ := Kd.R_reads hR_
   generalize hdl : Pure.diffV a b = l at hll hCl ⊢
   replace hCa := Sx.ro_C hv h hCa
   replace hCb := Sx.ro_C hv h hCb
   have hfin_ : ∀ w2_, Below w_.heap.size w_ w2_ → Sx.St w0 F0 R w2_ := fun w2_ hb_ => st_below h hb_
   obtain ⟨F0, hF0_, h, hv⟩ : ∃ F_ : Nat → Prop, F_ = (fun _ => False) ∧ Sx.St w_ F_ [] w_ ∧ Sx.RO w_ w_ F_ := ⟨_, rfl, st_start w_, Sx.ro_self w_⟩
   obtain ⟨R, hR0_, h⟩ : ∃ R_ : List Sx.HP, R_ = [] ∧ Sx.St w_ F0 R_ w_ := ⟨_, rfl, h⟩
   obtain ⟨w0, hw0_, h, hv, hCa, hCb, hCl⟩ : ∃ z_, z_ = w_ ∧ Sx.St z_ F0 R w_ ∧ Sx.RO z_ z_ F0 ∧ k31.C z_ Aa a.length a ∧ k31.C z_ Ab b.length b ∧ k34.C z_ Al l.length l := ⟨w_, rfl, h, hv, hCa, hCb, hCl⟩
   refine wl_v rfl rfl (ov_assign _ rfl) ?_
   refine wl_nil ?_
   refine qn_then ?_
   refine wc_seq ?_
   refine wc_region ?_
   refine wl_v rfl rfl (ov_assign _ rfl) ?_
   refine wl_nil ?_
   refine qn_then ?_
   refine wc_seq ?_
   refine wc_seq ?_
   refine wc_region ?_
   refine wl_v rfl rfl (ov_assign _ rfl) ?_
   refine wl_nil ?_
   refine qn_then ?_
   refine wc_block ?_
   refine wc_loop (fun (x_ : Nat × Nat) => [(0, .slice (Aa) (a.length) (ca)), (1, .slice (Ab) (b.length) (cb)), (5, .slice (Al) (l.length) (cl)), (6, .int .i64 ((x_.2 : Int))), (7, .int .i64 ((x_.1 : Int)))]) (fun (x_ : Nat × Nat) (w : World) => (x_.2 = Pure.kat a b x_.1 ∧ x_.1 ≤ max a.length b.length) ∧ Sx.St w0 F0 ([] ++ R) w) (fun (x_ : Nat × Nat) => max a.length b.length - x_.1) (0, 0) ?_ ?_ ?_
   · exact ⟨rfl, rfl, rfl, (congrArg (fun z_ => some (Value.int .i64 z_)) (show (0 : Int) = (0 : Int) by omega)), (congrArg (fun z_ => some (Value.int .i64 z_)) (show (0 : Int) = (0 : Int) by omega)), trivial⟩
   · exact ⟨⟨(Pure.kat_zero a b).symm, by omega⟩, h⟩
   rintro ⟨n, k⟩ w h
   obtain ⟨hJ, h⟩ := h
   replace hJ : k = Pure.kat a b n ∧ n ≤ max a.length b.length := hJ
   replace h : Sx.St w0 F0 ([] ++ R) w := h
   show Sx.WC _ _ _ _ [(0, .slice (Aa) (a.length) (ca)), (1, .slice (Ab) (b.length) (cb)), (5, .slice (Al) (l.length) (cl)), (6, .int .i64 ((k : Int))), (7, .int .i64 ((n : Int)))] _
   have hout := Pure.at_out (x := a) (y := b) (n := n) (k := k) hdl hJ.1
   have hin := Pure.at_in (x := a) (y := b) (n := n) (k := k) hFa hFb hdl hJ.1
   have hFl1 := hFa.1
   have hFl2 := hFb.1
   have hlL := (Pure.diff_mild a b hFa hFb).2.2
   rw [hdl] at hlL
   refine wc_seq ?_
   refine wc_seq ?_
   refine wc_region ?_
   refine wl_v rfl rfl (ov_move _ rfl) ?_
   refine wl_v rfl rfl (ov_move _ rfl) ?_
   refine wl_v rfl rfl (ov_len _ _ _ _ _ rfl es22) ?_
   refine wl_v rfl rfl (ov_bin _ rfl rfl (binR_lss)) ?_
   refine wl_v rfl rfl (ov_move _ rfl) ?_
   refine wl_split 27 rfl (fun c9 => ?_) (fun c9 => ?_)
   ·
    refine wl_skip rfl rfl ?_
    refine wl_skip rfl rfl ?_
    refine wl_skip rfl rfl ?_
    refine wl_skip rfl rfl ?_
    refine wl_v rfl rfl (ov_pick_true _ rfl rfl) ?_
    refine wl_nil ?_
    refine qn_then ?_
    refine wc_cond_true rfl ?_
    refine wc_skip ?_
    refine qn_then ?_
    refine wc_seq ?_
    refine wc_block ?_
    refine wc_seq ?_
    refine wc_region ?_
    refine wl_v rfl rfl (ov_move _ rfl) ?_
    refine wl_v rfl rfl (ov_move _ rfl) ?_
    refine wl_v rfl rfl (ov_len _ _ _ _ _ rfl es27) ?_
    refine wl_v rfl rfl (ov_bin _ rfl rfl (binR_lss)) ?_
    refine wl_v rfl rfl (ov_move _ rfl) ?_
    refine wl_split 39 rfl (fun c10 => ?_) (fun c10 => ?_)
    ·
     refine wl_v rfl rfl (ov_move _ rfl) ?_
     refine wl_v rfl rfl (ov_move _ rfl) ?_
     obtain ⟨ad11, rfl⟩ := Sx.C_some ((Sx.ro_C hv h hCl)) (k := k) (by first | assumption | omega)
     refine wl_v rfl rfl (ov_indexAddrN _ _ _ _ _ k rfl rfl es27 rfl (by first | assumption | omega | (simp only [List.length_take, List.length_drop, List.length_set]; omega))) ?_
     refine wl_v rfl rfl (ov_fieldAddr _ ((ad11).add (k * 5 + 0)) _ rfl fo34_0 (by first | exact Deep.add_add _ _ _ | (rw [Deep.add_add]) | rfl)) ?_
     obtain ⟨cl14, _, hk13, hc12⟩ := Sx.C_cells (hCl) (z := z34) (k := k) (by first | assumption | omega)
     obtain ⟨A15, cp16, rfl, hl17, hn18⟩ := k34_open hk13
     refine wl_v rfl rfl (ov_load1 _ _ rfl sh3 (Sx.ro_cell hv h (hc12 0 _ rfl))) ?_
     refine wl_v rfl rfl (ov_move _ rfl) ?_
     refine wl_v rfl rfl (ov_bin _ rfl rfl (binR_eql)) ?_
     refine wl_v rfl rfl (ov_pick_true _ rfl rfl) ?_
     refine wl_v rfl rfl (ov_assign _ rfl) ?_
     refine wl_nil ?_
     refine qn_then ?_
     refine wc_seq ?_
     refine wc_seq ?_
     refine wc_region ?_
     refine wl_v rfl rfl (ov_move _ rfl) ?_
     refine wl_v rfl rfl (ov_move _ rfl) ?_
     refine wl_v rfl rfl (ov_len _ _ _ _ _ rfl es22) ?_
     refine wl_v rfl rfl (ov_bin _ rfl rfl (binR_geq)) ?_
     refine wl_v rfl rfl (ov_move _ rfl) ?_
     refine wl_split 52 rfl (fun c19 => ?_) (fun c19 => ?_)
     ·
      refine wl_skip rfl rfl ?_
      refine wl_skip rfl rfl ?_
      refine wl_skip rfl rfl ?_
      refine wl_skip rfl rfl ?_
      refine wl_v rfl rfl (ov_pick_true _ rfl rfl) ?_
      refine wl_nil ?_
      refine qn_then ?_
      refine wc_cond_true rfl ?_
      refine wc_seq ?_
      refine wc_seq ?_
      refine wc_region ?_
      refine wl_v rfl rfl (ov_move _ rfl) ?_
      refine wl_v rfl rfl (ov_not _ (¬ (((((l).getD k z34)).f0 : Int) = ((n : Int)))) rfl (by first | exact decide_not.symm | simp)) ?_
      refine wl_v rfl rfl (ov_move _ rfl) ?_
      refine wl_split 60 rfl (fun c20 => ?_) (fun c20 => ?_)
      ·
       exfalso
       have ho_ := hout (by omega) (by omega)
       omega
      ·
       refine wl_v rfl rfl (ov_move _ rfl) ?_
       refine wl_v rfl rfl (ov_move _ rfl) ?_
       refine wl_v rfl rfl (ov_indexAddrN _ _ _ _ _ k rfl rfl es27 rfl (by first | assumption | omega | (simp only [List.length_take, List.length_drop, List.length_set]; omega))) ?_
       refine wl_v rfl rfl (ov_fieldAddr _ ((ad11).add (k * 5 + 1)) _ rfl fo34_1 (by first | exact Deep.add_add _ _ _ | (rw [Deep.add_add]) | rfl)) ?_
       refine wl_v rfl rfl (ov_load1 _ _ rfl sh3 (Sx.ro_cell hv h (hc12 1 _ rfl))) ?_
       refine wl_v rfl rfl (ov_bin _ rfl rfl (binR_eql)) ?_
       refine wl_v rfl rfl (ov_move _ rfl) ?_
       refine wl_v rfl rfl (ov_move _ rfl) ?_
       refine wl_v rfl rfl (ov_len _ _ _ _ _ rfl es22) ?_
       refine wl_v rfl rfl (ov_bin _ rfl rfl (binR_geq)) ?_
       refine wl_v rfl rfl (ov_bin _ rfl rfl (binR_neb Try.underlying4)) ?_
       refine wl_v rfl rfl (ov_pick_false _ rfl rfl) ?_
       refine wl_v rfl rfl (ov_move _ rfl) ?_
       refine wl_split 73 rfl (fun c21 => ?_) (fun c21 => ?_)
       ·
        exfalso
        have ho_ := hout (by omega) (by omega)
        apply c21
        rw [decide_eq_decide]
        omega
       ·
        refine wl_v rfl rfl (ov_move _ rfl) ?_
        refine wl_v rfl rfl (ov_move _ rfl) ?_
        refine wl_v rfl rfl (ov_indexAddrN _ _ _ _ _ k rfl rfl es27 rfl (by first | assumption | omega | (simp only [List.length_take, List.length_drop, List.length_set]; omega))) ?_
        refine wl_v rfl rfl (ov_fieldAddr _ ((ad11).add (k * 5 + 1)) _ rfl fo34_1 (by first | exact Deep.add_add _ _ _ | (rw [Deep.add_add]) | rfl)) ?_
        refine wl_v rfl rfl (ov_load1 _ _ rfl sh3 (Sx.ro_cell hv h (hc12 1 _ rfl))) ?_
        refine wl_v rfl rfl (ov_bin _ rfl rfl (binR_eql)) ?_
        refine wl_v rfl rfl (ov_move _ rfl) ?_
        refine wl_v rfl rfl (ov_move _ rfl) ?_
        refine wl_v rfl rfl (ov_len _ _ _ _ _ rfl es22) ?_
        refine wl_v rfl rfl (ov_bin _ rfl rfl (binR_geq)) ?_
        refine wl_v rfl rfl (ov_bin _ rfl rfl (binR_neb Try.underlying4)) ?_
        refine wl_v rfl rfl (ov_pick_false _ rfl rfl) ?_
        refine wl_nil ?_
        refine qn_then ?_
        refine wc_cond (by rfl) (fun c22 => ?_) (fun c22 => ?_)
        ·
         exfalso
         have ho_ := hout (by omega) (by omega)
         apply c22
         rw [decide_eq_decide]
         omega
        ·
         refine wc_skip ?_
         refine qn_then ?_
         refine wc_seq ?_
         refine wc_region ?_
         refine wl_v rfl rfl (ov_move _ rfl) ?_
         refine wl_v rfl rfl (ov_bin _ rfl rfl (binR_add (r := ((k : Int)) + 1) (Sx.w64 (by omega)))) ?_
         refine wl_v rfl rfl (ov_assign _ rfl) ?_
         refine wl_nil ?_
         refine qn_then ?_
         refine wc_exit ?_
         refine qn_then_exit ?_
         refine qn_block_exit ?_
         refine qn_then ?_
         refine wc_region ?_
         refine wl_v rfl rfl (ov_move _ rfl) ?_
         refine wl_v rfl rfl (ov_bin _ rfl rfl (binR_add (r := ((n : Int)) + 1) (Sx.w64 (by omega)))) ?_
         refine wl_v rfl rfl (ov_assign _ rfl) ?_
         refine wl_nil ?_
         refine qn_next ((n + 1), (k + 1)) (by show max a.length b.length - (n + 1) < max a.length b.length - n; omega) ⟨rfl, rfl, (congrArg (fun z_ => some (Value.slice (some ad11) z_ (cl))) (show (l.length : Nat) = l.length by first | rfl | simp)), (congrArg (fun z_ => some (Value.int .i64 z_)) (show (((k : Int)) + 1 : Int) = ((k + 1) : Int) by omega)), (congrArg (fun z_ => some (Value.int .i64 z_)) (show (((n : Int)) + 1 : Int) = ((n + 1) : Int) by omega)), trivial⟩ ?_
         show ((k + 1) = Pure.kat a b (n + 1) ∧ (n + 1) ≤ max a.length b.length) ∧ _
         exact ⟨⟨by first | omega | (have ho_ := hout (by omega) (by omega); omega) | (rcases hin (by omega) (by omega) with ⟨_, _, _, _, _⟩ | ⟨_, _, _⟩ <;> first | omega), by omega⟩, h⟩
     ·
      refine wl_v rfl rfl (ov_move _ rfl) ?_
      refine wl_v rfl rfl (ov_move _ rfl) ?_
      refine wl_v rfl rfl (ov_len _ _ _ _ _ rfl es22) ?_
      refine wl_v rfl rfl (ov_bin _ rfl rfl (binR_geq)) ?_
      refine wl_v rfl rfl (ov_pick_false _ rfl rfl) ?_
      refine wl_nil ?_
      refine qn_then ?_
      refine wc_cond (by rfl) (fun c23 => ?_) (fun c23 => ?_)
      ·
       refine wc_seq ?_
       refine wc_seq ?_
       refine wc_region ?_
       refine wl_v rfl rfl (ov_move _ rfl) ?_
       refine wl_v rfl rfl (ov_not _ (¬ (((((l).getD k z34)).f0 : Int) = ((n : Int)))) rfl (by first | exact decide_not.symm | simp)) ?_
       refine wl_v rfl rfl (ov_move _ rfl) ?_
       refine wl_split 60 rfl (fun c24 => ?_) (fun c24 => ?_)
       ·
        exfalso
        have ho_ := hout (by omega) (by omega)
        omega
       ·
        refine wl_v rfl rfl (ov_move _ rfl) ?_
        refine wl_v rfl rfl (ov_move _ rfl) ?_
        refine wl_v rfl rfl (ov_indexAddrN _ _ _ _ _ k rfl rfl es27 rfl (by first | assumption | omega | (simp only [List.length_take, List.length_drop, List.length_set]; omega))) ?_
        refine wl_v rfl rfl (ov_fieldAddr _ ((ad11).add (k * 5 + 1)) _ rfl fo34_1 (by first | exact Deep.add_add _ _ _ | (rw [Deep.add_add]) | rfl)) ?_
        refine wl_v rfl rfl (ov_load1 _ _ rfl sh3 (Sx.ro_cell hv h (hc12 1 _ rfl))) ?_
        refine wl_v rfl rfl (ov_bin _ rfl rfl (binR_eql)) ?_
        refine wl_v rfl rfl (ov_move _ rfl) ?_
        refine wl_v rfl rfl (ov_move _ rfl) ?_
        refine wl_v rfl rfl (ov_len _ _ _ _ _ rfl es22) ?_
        refine wl_v rfl rfl (ov_bin _ rfl rfl (binR_geq)) ?_
        refine wl_v rfl rfl (ov_bin _ rfl rfl (binR_neb Try.underlying4)) ?_
        refine wl_v rfl rfl (ov_pick_false _ rfl rfl) ?_
        refine wl_v rfl rfl (ov_move _ rfl) ?_
        refine wl_split 73 rfl (fun c25 => ?_) (fun c25 => ?_)
        ·
         exfalso
         have ho_ := hout (by omega) (by omega)
         apply c25
         rw [decide_eq_decide]
         omega
        ·
         refine wl_v rfl rfl (ov_move _ rfl) ?_
         refine wl_v rfl rfl (ov_move _ rfl) ?_
         refine wl_v rfl rfl (ov_indexAddrN _ _ _ _ _ k rfl rfl es27 rfl (by first | assumption | omega | (simp only [List.length_take, List.length_drop, List.length_set]; omega))) ?_
         refine wl_v rfl rfl (ov_fieldAddr _ ((ad11).add (k * 5 + 1)) _ rfl fo34_1 (by first | exact Deep.add_add _ _ _ | (rw [Deep.add_add]) | rfl)) ?_
         refine wl_v rfl rfl (ov_load1 _ _ rfl sh3 (Sx.ro_cell hv h (hc12 1 _ rfl))) ?_
         refine wl_v rfl rfl (ov_bin _ rfl rfl (binR_eql)) ?_
         refine wl_v rfl rfl (ov_move _ rfl) ?_
         refine wl_v rfl rfl (ov_move _ rfl) ?_
         refine wl_v rfl rfl (ov_len _ _ _ _ _ rfl es22) ?_
         refine wl_v rfl rfl (ov_bin _ rfl rfl (binR_geq)) ?_
         refine wl_v rfl rfl (ov_bin _ rfl rfl (binR_neb Try.underlying4)) ?_
         refine wl_v rfl rfl (ov_pick_false _ rfl rfl) ?_
         refine wl_nil ?_
         refine qn_then ?_
         refine wc_cond (by rfl) (fun c26 => ?_) (fun c26 => ?_)
         ·
          exfalso
          have ho_ := hout (by omega) (by omega)
          apply c26
          rw [decide_eq_decide]
          omega
         ·
          refine wc_skip ?_
          refine qn_then ?_
          refine wc_seq ?_
          refine wc_region ?_
          refine wl_v rfl rfl (ov_move _ rfl) ?_
          refine wl_v rfl rfl (ov_bin _ rfl rfl (binR_add (r := ((k : Int)) + 1) (Sx.w64 (by omega)))) ?_
          refine wl_v rfl rfl (ov_assign _ rfl) ?_
          refine wl_nil ?_
          refine qn_then ?_
          refine wc_exit ?_
          refine qn_then_exit ?_
          refine qn_block_exit ?_
          refine qn_then ?_
          refine wc_region ?_
          refine wl_v rfl rfl (ov_move _ rfl) ?_
          refine wl_v rfl rfl (ov_bin _ rfl rfl (binR_add (r := ((n : Int)) + 1) (Sx.w64 (by omega)))) ?_
          refine wl_v rfl rfl (ov_assign _ rfl) ?_
          refine wl_nil ?_
          refine qn_next ((n + 1), (k + 1)) (by show max a.length b.length - (n + 1) < max a.length b.length - n; omega) ⟨rfl, rfl, (congrArg (fun z_ => some (Value.slice (some ad11) z_ (cl))) (show (l.length : Nat) = l.length by first | rfl | simp)), (congrArg (fun z_ => some (Value.int .i64 z_)) (show (((k : Int)) + 1 : Int) = ((k + 1) : Int) by omega)), (congrArg (fun z_ => some (Value.int .i64 z_)) (show (((n : Int)) + 1 : Int) = ((n + 1) : Int) by omega)), trivial⟩ ?_
          show ((k + 1) = Pure.kat a b (n + 1) ∧ (n + 1) ≤ max a.length b.length) ∧ _
          exact ⟨⟨by first | omega | (have ho_ := hout (by omega) (by omega); omega) | (rcases hin (by omega) (by omega) with ⟨_, _, _, _, _⟩ | ⟨_, _, _⟩ <;> first | omega), by omega⟩, h⟩
      ·
       refine wc_skip ?_
       refine qn_then ?_
       refine wc_seq ?_
       refine wc_seq ?_
       refine wc_draw (fun w => Sx.St w0 F0 ([] ++ R) w) (by kernel_rfl) ?_
       replace h := st_drew h
       refine wa_tk 0 rfl rfl rfl (st_selT [] h) (fun w_ hS => ov_move _ rfl) ?_
       refine wa_tk 1 rfl rfl rfl (st_selT [] h) (fun w_ hS => ov_move _ rfl) ?_
       refine wa_tk 2 rfl rfl rfl (st_selT [] h) (fun w_ hS => ov_move _ rfl) ?_
       obtain ⟨ad27, rfl⟩ := Sx.C_some ((Sx.ro_C hv h hCa)) (k := n) (by first | assumption | omega)
       refine wa_tk 3 rfl rfl rfl (st_selT [] h) (fun w_ hS => ov_indexAddrN _ _ _ _ _ n rfl rfl es22 rfl (by first | assumption | omega | (simp only [List.length_take, List.length_drop, List.length_set]; omega))) ?_
       obtain ⟨cl30, _, hk29, hc28⟩ := Sx.C_cells (hCa) (z := z31) (k := n) (by first | assumption | omega)
       obtain ⟨A31, cp32, rfl, hl33, hn34⟩ := k31_open hk29
       refine wa_tk 4 rfl rfl rfl (st_selT [] h) (fun w_ hS => ov_loadN _ [.slice (A31) (((((a).getD n z31)).f0).length) (cp32)] rfl sh31 (by intro j u hu; rw [Deep.add_add]; exact Sx.ro_cell hv hS (hc28 _ _ hu))) ?_
       refine wa_tk 5 rfl rfl rfl (st_selT [] h) (fun w_ hS => ov_move _ rfl) ?_
       refine wa_tk 6 rfl rfl rfl (st_selT [] h) (fun w_ hS => ov_move _ rfl) ?_
       obtain ⟨ad35, rfl⟩ := Sx.C_some ((Sx.ro_C hv h hCb)) (k := n) (by first | assumption | omega)
       refine wa_tk 7 rfl rfl rfl (st_selT [] h) (fun w_ hS => ov_indexAddrN _ _ _ _ _ n rfl rfl es22 rfl (by first | assumption | omega | (simp only [List.length_take, List.length_drop, List.length_set]; omega))) ?_
       obtain ⟨cl38, _, hk37, hc36⟩ := Sx.C_cells (hCb) (z := z31) (k := n) (by first | assumption | omega)
       obtain ⟨A39, cp40, rfl, hl41, hn42⟩ := k31_open hk37
       refine wa_tk 8 rfl rfl rfl (st_selT [] h) (fun w_ hS => ov_loadN _ [.slice (A39) (((((b).getD n z31)).f0).length) (cp40)] rfl sh31 (by intro j u hu; rw [Deep.add_add]; exact Sx.ro_cell hv hS (hc36 _ _ hu))) ?_
       refine wa_one 9 rfl (by kernel_rfl) ?_
       refine wl_call _ rfl rfl rfl ent12 (regletref14_Page.calls 100 _ _ ((((a).getD n z31)).f0) _ _ ((((b).getD n z31)).f0) _ _ ((Sx.ro_C hv h hn34)) hl33 ((Sx.ro_C hv h hn42)) hl41 (Pure.page14_val _ _ (Pure.few_get hFa n (by omega)) (Pure.few_get hFb n (by omega)) 100 (by omega))) ?_
       rintro e_ w_ ⟨rfl, hB_⟩
       refine ⟨_, rfl, ?_⟩
       replace h := st_below h hB_
       refine wl_nil ?_
       refine qn_wa (st_selT [] h) ?_
       refine wa_tk 10 rfl rfl rfl (st_selT [] h) (fun w_ hS => ov_bin _ rfl rfl (binR_eqb Try.underlying4)) ?_
       refine wa_tk 11 rfl rfl rfl (st_selT [] h) (fun w_ hS => ov_move _ rfl) ?_
       refine wa_split 99 rfl (fun c43 => ?_) (fun c43 => ?_)
       ·
        exfalso
        rcases hin (by omega) (by omega) with ⟨hd_, hk_, he_, _⟩ | ⟨hd_, hk_, _⟩
        · rw [hd_] at c43; first | omega | (rw [decide_eq_true he_] at c43; exact absurd c43 (by decide)) | exact c43 (by decide)
        · rw [hd_] at c43; first | exact absurd c43 (by decide) | (rw [decide_eq_false (hk_ (by omega))] at c43; exact absurd c43 (by decide))
       ·
        refine wa_tk 12 rfl rfl rfl (st_selT [] h) (fun w_ hS => ov_move _ rfl) ?_
        refine wa_tk 13 rfl rfl rfl (st_selT [] h) (fun w_ hS => ov_move _ rfl) ?_
        refine wa_tk 14 rfl rfl rfl (st_selT [] h) (fun w_ hS => ov_move _ rfl) ?_
        refine wa_tk 15 rfl rfl rfl (st_selT [] h) (fun w_ hS => ov_indexAddrN _ _ _ _ _ n rfl rfl es22 rfl (by first | assumption | omega | (simp only [List.length_take, List.length_drop, List.length_set]; omega))) ?_
        refine wa_tk 16 rfl rfl rfl (st_selT [] h) (fun w_ hS => ov_loadN _ [.slice (A31) (((((a).getD n z31)).f0).length) (cp32)] rfl sh31 (by intro j u hu; rw [Deep.add_add]; exact Sx.ro_cell hv hS (hc28 _ _ hu))) ?_
        refine wa_tk 17 rfl rfl rfl (st_selT [] h) (fun w_ hS => ov_move _ rfl) ?_
        refine wa_tk 18 rfl rfl rfl (st_selT [] h) (fun w_ hS => ov_move _ rfl) ?_
        refine wa_tk 19 rfl rfl rfl (st_selT [] h) (fun w_ hS => ov_indexAddrN _ _ _ _ _ n rfl rfl es22 rfl (by first | assumption | omega | (simp only [List.length_take, List.length_drop, List.length_set]; omega))) ?_
        refine wa_tk 20 rfl rfl rfl (st_selT [] h) (fun w_ hS => ov_loadN _ [.slice (A39) (((((b).getD n z31)).f0).length) (cp40)] rfl sh31 (by intro j u hu; rw [Deep.add_add]; exact Sx.ro_cell hv hS (hc36 _ _ hu))) ?_
        refine wa_one 21 rfl (by kernel_rfl) ?_
        refine wl_call _ rfl rfl rfl ent13 (diff_Alike.calls 100 _ _ ((((a).getD n z31)).f0) _ _ ((((b).getD n z31)).f0) _ _ ((Sx.ro_C hv h hn34)) hl33 ((Sx.ro_C hv h hn42)) hl41 (Pure.alike_val _ _ (Pure.few_get hFa n (by omega)) (Pure.few_get hFb n (by omega)) 100 (by omega))) ?_
        rintro e_ w_ ⟨rfl, hB_⟩
        refine ⟨_, rfl, ?_⟩
        replace h := st_below h hB_
        refine wl_nil ?_
        refine qn_wa (st_selT [] h) ?_
        refine wa_tk 22 rfl rfl rfl (st_selT [] h) (fun w_ hS => ov_notb _ rfl) ?_
        refine wa_tk 23 rfl rfl rfl (st_selT [] h) (fun w_ hS => ov_bin _ rfl rfl (binR_neb Try.underlying4)) ?_
        refine wa_tk 24 rfl rfl rfl (st_selT [] h) (fun w_ hS => ov_pick_false _ rfl rfl) ?_
        refine wa_done (by kernel_rfl) ?_
        refine qn_then ?_
        refine wc_cond (by rfl) (fun c44 => ?_) (fun c44 => ?_)
        ·
         exfalso
         rcases hin (by omega) (by omega) with ⟨hd_, hk_, he_, _⟩ | ⟨hd_, hk_, _⟩
         · rw [hd_] at c44; first | omega | (rw [decide_eq_true he_] at c44; exact absurd c44 (by decide)) | exact c44 (by decide)
         · rw [hd_] at c44; first | exact absurd c44 (by decide) | (rw [decide_eq_false (hk_ (by omega))] at c44; exact absurd c44 (by decide))
        ·
         refine wc_skip ?_
         refine qn_then ?_
         refine wc_seq ?_
         refine wc_seq ?_
         refine wc_region ?_
         refine wl_v rfl rfl (ov_move _ rfl) ?_
         refine wl_v rfl rfl (ov_not _ (¬ (((((l).getD k z34)).f0 : Int) = ((n : Int)))) rfl (by first | exact decide_not.symm | simp)) ?_
         refine wl_nil ?_
         refine qn_then ?_
         refine wc_cond (by rfl) (fun c45 => ?_) (fun c45 => ?_)
         ·
          refine wc_exit ?_
          refine qn_then_exit ?_
          refine qn_block_exit ?_
          refine qn_then ?_
          refine wc_region ?_
          refine wl_v rfl rfl (ov_move _ rfl) ?_
          refine wl_v rfl rfl (ov_bin _ rfl rfl (binR_add (r := ((n : Int)) + 1) (Sx.w64 (by omega)))) ?_
          refine wl_v rfl rfl (ov_assign _ rfl) ?_
          refine wl_nil ?_
          refine qn_next ((n + 1), k) (by show max a.length b.length - (n + 1) < max a.length b.length - n; omega) ⟨(congrArg (fun z_ => some (Value.slice (some ad27) z_ (ca))) (show (a.length : Nat) = a.length by first | rfl | simp)), (congrArg (fun z_ => some (Value.slice (some ad35) z_ (cb))) (show (b.length : Nat) = b.length by first | rfl | simp)), (congrArg (fun z_ => some (Value.slice (some ad11) z_ (cl))) (show (l.length : Nat) = l.length by first | rfl | simp)), rfl, (congrArg (fun z_ => some (Value.int .i64 z_)) (show (((n : Int)) + 1 : Int) = ((n + 1) : Int) by omega)), trivial⟩ ?_
          show (k = Pure.kat a b (n + 1) ∧ (n + 1) ≤ max a.length b.length) ∧ _
          exact ⟨⟨by first | omega | (have ho_ := hout (by omega) (by omega); omega) | (rcases hin (by omega) (by omega) with ⟨_, _, _, _, _⟩ | ⟨_, _, _⟩ <;> first | omega), by omega⟩, h⟩
         ·
          obtain ⟨hdf, hk1, he1, hk2, ht⟩ := (hin (by omega) (by omega)).resolve_right (fun h_ => h_.2.1 (by omega) (by omega))
          have t1 := ht.kind
          have t2 := ht.f0
          have t3 := ht.o0
          have t4 := ht.le
          have t5 := ht.eq
          have t6 := ht.la
          have t7 := ht.lb
          have t8 := ht.sh.1
          refine wc_skip ?_
          refine qn_then ?_
          refine wc_seq ?_
          refine wc_region ?_
          refine wl_v rfl rfl (ov_move _ rfl) ?_
          refine wl_v rfl rfl (ov_move _ rfl) ?_
          refine wl_v rfl rfl (ov_indexAddrN _ _ _ _ _ k rfl rfl es27 rfl (by first | assumption | omega | (simp only [List.length_take, List.length_drop, List.length_set]; omega))) ?_
          refine wl_v rfl rfl (ov_loadN _ [.int .i64 ((((l).getD k z34)).f0), .int .i64 ((((l).getD k z34)).f1), .int .i64 ((((l).getD k z34)).f2), .int .i64 ((((l).getD k z34)).f3), .slice (A15) (((((l).getD k z34)).f4).length) (cp16)] rfl sh34 (by intro j u hu; rw [Deep.add_add]; exact Sx.ro_cell hv h (hc12 _ _ hu))) ?_
          refine wl_alloc _ h rfl rfl zo34 (fun b46 _ h => ?_)
          replace h : Sx.St _ _ (Sx.blk b46 [.int .i64 (0), .int .i64 (0), .int .i64 (0), .int .i64 (0), .slice (none) (0) (0)] 34 :: _) _ := h
          refine wl_storebN 0 [.int .i64 ((((l).getD k z34)).f0), .int .i64 ((((l).getD k z34)).f1), .int .i64 ((((l).getD k z34)).f2), .int .i64 ((((l).getD k z34)).f3), .slice (A15) (((((l).getD k z34)).f4).length) (cp16)] [.int .i64 ((((l).getD k z34)).f0), .int .i64 ((((l).getD k z34)).f1), .int .i64 ((((l).getD k z34)).f2), .int .i64 ((((l).getD k z34)).f3), .slice (A15) (((((l).getD k z34)).f4).length) (cp16)] h rfl rfl rfl rfl (by simp [Value.oneCell']) sh34 rfl rfl (fun _ h => ?_)
          refine wl_nil ?_
          refine qn_then ?_
          refine wc_seq ?_
          refine wc_region ?_
          refine wl_v rfl rfl (ov_move _ rfl) ?_
          refine wl_v rfl rfl (ov_bin _ rfl rfl (binR_add (r := ((k : Int)) + 1) (Sx.w64 (by omega)))) ?_
          refine wl_v rfl rfl (ov_assign _ rfl) ?_
          refine wl_nil ?_
          refine qn_then ?_
          refine wc_seq ?_
          refine wc_seq ?_
          refine wc_draw (fun w => Sx.St w0 F0 ([Sx.blk b46 [.int .i64 ((((l).getD k z34)).f0), .int .i64 ((((l).getD k z34)).f1), .int .i64 ((((l).getD k z34)).f2), .int .i64 ((((l).getD k z34)).f3), .slice (A15) (((((l).getD k z34)).f4).length) (cp16)] 34] ++ R) w) (by kernel_rfl) ?_
          replace h := st_drew h
          refine wa_tk 0 rfl rfl rfl (st_selT [true] h) (fun w_ hS => ov_fieldAddr _ ⟨b46, 1, none⟩ _ rfl fo34_1 rfl) ?_
          refine wa_tk 1 rfl rfl rfl (st_selT [true] h) (fun w_ hS => ov_loadb 0 _ hS rfl rfl sh3 rfl) ?_
          refine wa_tk 2 rfl rfl rfl (st_selT [true] h) (fun w_ hS => ov_bin _ rfl rfl (binR_neq)) ?_
          refine wa_tk 3 rfl rfl rfl (st_selT [true] h) (fun w_ hS => ov_move _ rfl) ?_
          refine wa_split 124 rfl (fun c47 => ?_) (fun c47 => ?_)
          ·
           exfalso
           omega
          ·
           refine wa_tk 4 rfl rfl rfl (st_selT [true] h) (fun w_ hS => ov_fieldAddr _ ⟨b46, 2, none⟩ _ rfl fo34_2 rfl) ?_
           refine wa_tk 5 rfl rfl rfl (st_selT [true] h) (fun w_ hS => ov_loadb 0 _ hS rfl rfl sh3 rfl) ?_
           refine wa_tk 6 rfl rfl rfl (st_selT [true] h) (fun w_ hS => ov_bin _ rfl rfl (binR_lss)) ?_
           refine wa_tk 7 rfl rfl rfl (st_selT [true] h) (fun w_ hS => ov_pick_false _ rfl rfl) ?_
           refine wa_tk 8 rfl rfl rfl (st_selT [true] h) (fun w_ hS => ov_move _ rfl) ?_
           refine wa_split 129 rfl (fun c48 => ?_) (fun c48 => ?_)
           ·
            exfalso
            omega
           ·
            refine wa_tk 9 rfl rfl rfl (st_selT [true] h) (fun w_ hS => ov_fieldAddr _ ⟨b46, 3, none⟩ _ rfl fo34_3 rfl) ?_
            refine wa_tk 10 rfl rfl rfl (st_selT [true] h) (fun w_ hS => ov_loadb 0 _ hS rfl rfl sh3 rfl) ?_
            refine wa_tk 11 rfl rfl rfl (st_selT [true] h) (fun w_ hS => ov_bin _ rfl rfl (binR_lss)) ?_
            refine wa_tk 12 rfl rfl rfl (st_selT [true] h) (fun w_ hS => ov_pick_false _ rfl rfl) ?_
            refine wa_tk 13 rfl rfl rfl (st_selT [true] h) (fun w_ hS => ov_move _ rfl) ?_
            refine wa_split 134 rfl (fun c49 => ?_) (fun c49 => ?_)
            ·
             exfalso
             omega
            ·
             refine wa_tk 14 rfl rfl rfl (st_selT [true] h) (fun w_ hS => ov_fieldAddr _ ⟨b46, 2, none⟩ _ rfl fo34_2 rfl) ?_
             refine wa_tk 15 rfl rfl rfl (st_selT [true] h) (fun w_ hS => ov_loadb 0 _ hS rfl rfl sh3 rfl) ?_
             refine wa_tk 16 rfl rfl rfl (st_selT [true] h) (fun w_ hS => ov_fieldAddr _ ⟨b46, 3, none⟩ _ rfl fo34_3 rfl) ?_
             refine wa_tk 17 rfl rfl rfl (st_selT [true] h) (fun w_ hS => ov_loadb 0 _ hS rfl rfl sh3 rfl) ?_
             refine wa_tk 18 rfl rfl rfl (st_selT [true] h) (fun w_ hS => ov_bin _ rfl rfl (binR_add (r := ((((l).getD k z34)).f2) + ((((l).getD k z34)).f3)) (Sx.w64 (by omega)))) ?_
             refine wa_tk 19 rfl rfl rfl (st_selT [true] h) (fun w_ hS => ov_move _ rfl) ?_
             refine wa_tk 20 rfl rfl rfl (st_selT [true] h) (fun w_ hS => ov_move _ rfl) ?_
             refine wa_tk 21 rfl rfl rfl (st_selT [true] h) (fun w_ hS => ov_indexAddrN _ _ _ _ _ n rfl rfl es22 rfl (by first | assumption | omega | (simp only [List.length_take, List.length_drop, List.length_set]; omega))) ?_
             refine wa_tk 22 rfl rfl rfl (st_selT [true] h) (fun w_ hS => ov_fieldAddr _ ((ad27).add (n * 1 + 0)) _ rfl fo31_0 (by first | exact Deep.add_add _ _ _ | (rw [Deep.add_add]) | rfl)) ?_
             refine wa_tk 23 rfl rfl rfl (st_selT [true] h) (fun w_ hS => ov_load1 _ _ rfl sh29 (Sx.ro_cell hv hS (hc28 0 _ rfl))) ?_
             refine wa_tk 24 rfl rfl rfl (st_selT [true] h) (fun w_ hS => ov_len _ _ _ _ _ rfl es29) ?_
             refine wa_tk 25 rfl rfl rfl (st_selT [true] h) (fun w_ hS => ov_bin _ rfl rfl (binR_gtr)) ?_
             refine wa_tk 26 rfl rfl rfl (st_selT [true] h) (fun w_ hS => ov_pick_false _ rfl rfl) ?_
             refine wa_tk 27 rfl rfl rfl (st_selT [true] h) (fun w_ hS => ov_move _ rfl) ?_
             refine wa_split 148 rfl (fun c50 => ?_) (fun c50 => ?_)
             ·
              exfalso
              omega
             ·
              refine wa_tk 28 rfl rfl rfl (st_selT [true] h) (fun w_ hS => ov_move _ rfl) ?_
              refine wa_tk 29 rfl rfl rfl (st_selT [true] h) (fun w_ hS => ov_move _ rfl) ?_
              refine wa_tk 30 rfl rfl rfl (st_selT [true] h) (fun w_ hS => ov_indexAddrN _ _ _ _ _ n rfl rfl es22 rfl (by first | assumption | omega | (simp only [List.length_take, List.length_drop, List.length_set]; omega))) ?_
              refine wa_tk 31 rfl rfl rfl (st_selT [true] h) (fun w_ hS => ov_fieldAddr _ ((ad27).add (n * 1 + 0)) _ rfl fo31_0 (by first | exact Deep.add_add _ _ _ | (rw [Deep.add_add]) | rfl)) ?_
              refine wa_tk 32 rfl rfl rfl (st_selT [true] h) (fun w_ hS => ov_load1 _ _ rfl sh29 (Sx.ro_cell hv hS (hc28 0 _ rfl))) ?_
              refine wa_tk 33 rfl rfl rfl (st_selT [true] h) (fun w_ hS => ov_len _ _ _ _ _ rfl es29) ?_
              refine wa_tk 34 rfl rfl rfl (st_selT [true] h) (fun w_ hS => ov_fieldAddr _ ⟨b46, 3, none⟩ _ rfl fo34_3 rfl) ?_
              refine wa_tk 35 rfl rfl rfl (st_selT [true] h) (fun w_ hS => ov_loadb 0 _ hS rfl rfl sh3 rfl) ?_
              refine wa_tk 36 rfl rfl rfl (st_selT [true] h) (fun w_ hS => ov_bin _ rfl rfl (binR_sub (r := (((((((a).getD n z31)).f0).length : Nat) : Int)) - ((((l).getD k z34)).f3)) (Sx.w64 (by omega)))) ?_
              refine wa_tk 37 rfl rfl rfl (st_selT [true] h) (fun w_ hS => ov_move _ rfl) ?_
              refine wa_tk 38 rfl rfl rfl (st_selT [true] h) (fun w_ hS => ov_move _ rfl) ?_
              refine wa_tk 39 rfl rfl rfl (st_selT [true] h) (fun w_ hS => ov_indexAddrN _ _ _ _ _ n rfl rfl es22 rfl (by first | assumption | omega | (simp only [List.length_take, List.length_drop, List.length_set]; omega))) ?_
              refine wa_tk 40 rfl rfl rfl (st_selT [true] h) (fun w_ hS => ov_fieldAddr _ ((ad35).add (n * 1 + 0)) _ rfl fo31_0 (by first | exact Deep.add_add _ _ _ | (rw [Deep.add_add]) | rfl)) ?_
              refine wa_tk 41 rfl rfl rfl (st_selT [true] h) (fun w_ hS => ov_load1 _ _ rfl sh29 (Sx.ro_cell hv hS (hc36 0 _ rfl))) ?_
              refine wa_tk 42 rfl rfl rfl (st_selT [true] h) (fun w_ hS => ov_len _ _ _ _ _ rfl es29) ?_
              refine wa_tk 43 rfl rfl rfl (st_selT [true] h) (fun w_ hS => ov_fieldAddr _ ⟨b46, 4, none⟩ _ rfl fo34_4 rfl) ?_
              refine wa_tk 44 rfl rfl rfl (st_selT [true] h) (fun w_ hS => ov_loadb 0 _ hS rfl rfl sh29 rfl) ?_
              refine wa_tk 45 rfl rfl rfl (st_selT [true] h) (fun w_ hS => ov_len _ _ _ _ _ rfl es29) ?_
              refine wa_tk 46 rfl rfl rfl (st_selT [true] h) (fun w_ hS => ov_bin _ rfl rfl (binR_sub (r := (((((((b).getD n z31)).f0).length : Nat) : Int)) - (((((((l).getD k z34)).f4).length : Nat) : Int))) (Sx.w64 (by omega)))) ?_
              refine wa_tk 47 rfl rfl rfl (st_selT [true] h) (fun w_ hS => ov_bin _ rfl rfl (binR_neq)) ?_
              refine wa_tk 48 rfl rfl rfl (st_selT [true] h) (fun w_ hS => ov_pick_false _ rfl rfl) ?_
              refine wa_done (by kernel_rfl) ?_
              refine qn_then ?_
              refine wc_cond (by rfl) (fun c51 => ?_) (fun c51 => ?_)
              ·
               exfalso
               omega
              ·
               refine wc_skip ?_
               refine qn_then ?_
               refine wc_seq ?_
               refine wc_region ?_
               refine wl_v rfl rfl (ov_fieldAddr _ ⟨b46, 3, none⟩ _ rfl fo34_3 rfl) ?_
               refine wl_v rfl rfl (ov_loadb 0 _ h rfl rfl sh3 rfl) ?_
               refine wl_v rfl rfl (ov_bin _ rfl rfl (binR_gtr)) ?_
               refine wl_v rfl rfl (ov_move _ rfl) ?_
               refine wl_split 173 rfl (fun c52 => ?_) (fun c52 => ?_)
               ·
                refine wl_v rfl rfl (ov_fieldAddr _ ⟨b46, 4, none⟩ _ rfl fo34_4 rfl) ?_
                refine wl_v rfl rfl (ov_loadb 0 _ h rfl rfl sh29 rfl) ?_
                refine wl_v rfl rfl (ov_len _ _ _ _ _ rfl es29) ?_
                refine wl_v rfl rfl (ov_bin _ rfl rfl (binR_gtr)) ?_
                refine wl_v rfl rfl (ov_pick_true _ rfl rfl) ?_
                refine wl_nil ?_
                refine qn_then ?_
                refine wc_cond (by rfl) (fun c53 => ?_) (fun c53 => ?_)
                ·
                 refine wc_seq ?_
                 refine wc_draw (fun w => Sx.St w0 F0 ([Sx.blk b46 [.int .i64 ((((l).getD k z34)).f0), .int .i64 ((((l).getD k z34)).f1), .int .i64 ((((l).getD k z34)).f2), .int .i64 ((((l).getD k z34)).f3), .slice (A15) (((((l).getD k z34)).f4).length) (cp16)] 34] ++ R) w) (by kernel_rfl) ?_
                 replace h := st_drew h
                 refine wa_tk 0 rfl rfl rfl (st_selT [true] h) (fun w_ hS => ov_move _ rfl) ?_
                 refine wa_tk 1 rfl rfl rfl (st_selT [true] h) (fun w_ hS => ov_move _ rfl) ?_
                 refine wa_tk 2 rfl rfl rfl (st_selT [true] h) (fun w_ hS => ov_indexAddrN _ _ _ _ _ n rfl rfl es22 rfl (by first | assumption | omega | (simp only [List.length_take, List.length_drop, List.length_set]; omega))) ?_
                 refine wa_tk 3 rfl rfl rfl (st_selT [true] h) (fun w_ hS => ov_fieldAddr _ ((ad27).add (n * 1 + 0)) _ rfl fo31_0 (by first | exact Deep.add_add _ _ _ | (rw [Deep.add_add]) | rfl)) ?_
                 refine wa_tk 4 rfl rfl rfl (st_selT [true] h) (fun w_ hS => ov_load1 _ _ rfl sh29 (Sx.ro_cell hv hS (hc28 0 _ rfl))) ?_
                 refine wa_tk 5 rfl rfl rfl (st_selT [true] h) (fun w_ hS => ov_fieldAddr _ ⟨b46, 2, none⟩ _ rfl fo34_2 rfl) ?_
                 refine wa_tk 6 rfl rfl rfl (st_selT [true] h) (fun w_ hS => ov_loadb 0 _ hS rfl rfl sh3 rfl) ?_
                 obtain ⟨ad54, rfl⟩ := Sx.C_some ((Sx.ro_C hv h hn34)) (k := ((((l).getD k z34)).f2 : Int).toNat) (by first | assumption | omega)
                 refine wa_tk 7 rfl rfl rfl (st_selT [true] h) (fun w_ hS => ov_indexAddrN _ _ _ _ _ ((((l).getD k z34)).f2 : Int).toNat rfl rfl es29 (by omega) (by first | assumption | omega | (simp only [List.length_take, List.length_drop, List.length_set]; omega))) ?_
                 obtain ⟨cl57, _, hk56, hc55⟩ := Sx.C_cells (hn34) (z := z39) (k := ((((l).getD k z34)).f2 : Int).toNat) (by first | assumption | omega)
                 obtain ⟨A58, cp59, rfl, hl60, hn61⟩ := k39_open hk56
                 refine wa_tk 8 rfl rfl rfl (st_selT [true] h) (fun w_ hS => ov_loadN _ [.string (((((((a).getD n z31)).f0).getD ((((l).getD k z34)).f2 : Int).toNat z39)).f0), .slice (A58) ((((((((a).getD n z31)).f0).getD ((((l).getD k z34)).f2 : Int).toNat z39)).f1).length) (cp59), .int .i64 (((((((a).getD n z31)).f0).getD ((((l).getD k z34)).f2 : Int).toNat z39)).f2), .int .i64 (((((((a).getD n z31)).f0).getD ((((l).getD k z34)).f2 : Int).toNat z39)).f3), .int .i64 (((((((a).getD n z31)).f0).getD ((((l).getD k z34)).f2 : Int).toNat z39)).f4), .bool (((((((a).getD n z31)).f0).getD ((((l).getD k z34)).f2 : Int).toNat z39)).f5), .int .i64 (((((((a).getD n z31)).f0).getD ((((l).getD k z34)).f2 : Int).toNat z39)).f6), .bool (((((((a).getD n z31)).f0).getD ((((l).getD k z34)).f2 : Int).toNat z39)).f7), .bool (((((((a).getD n z31)).f0).getD ((((l).getD k z34)).f2 : Int).toNat z39)).f8)] rfl sh39 (by intro j u hu; rw [Deep.add_add]; exact Sx.ro_cell hv hS (hc55 _ _ hu))) ?_
                 refine wa_tk 9 rfl rfl rfl (st_selT [true] h) (fun w_ hS => ov_fieldAddr _ ⟨b46, 4, none⟩ _ rfl fo34_4 rfl) ?_
                 refine wa_tk 10 rfl rfl rfl (st_selT [true] h) (fun w_ hS => ov_loadb 0 _ hS rfl rfl sh29 rfl) ?_
                 obtain ⟨ad62, rfl⟩ := Sx.C_some ((Sx.ro_C hv h hn18)) (k := 0) (by first | assumption | omega)
                 refine wa_tk 11 rfl rfl rfl (st_selT [true] h) (fun w_ hS => ov_indexAddrN _ _ _ _ _ 0 rfl rfl es29 rfl (by first | assumption | omega | (simp only [List.length_take, List.length_drop, List.length_set]; omega))) ?_
                 obtain ⟨cl65, _, hk64, hc63⟩ := Sx.C_cells (hn18) (z := z39) (k := 0) (by first | assumption | omega)
                 obtain ⟨A66, cp67, rfl, hl68, hn69⟩ := k39_open hk64
                 refine wa_tk 12 rfl rfl rfl (st_selT [true] h) (fun w_ hS => ov_loadN _ [.string (((((((l).getD k z34)).f4).getD 0 z39)).f0), .slice (A66) ((((((((l).getD k z34)).f4).getD 0 z39)).f1).length) (cp67), .int .i64 (((((((l).getD k z34)).f4).getD 0 z39)).f2), .int .i64 (((((((l).getD k z34)).f4).getD 0 z39)).f3), .int .i64 (((((((l).getD k z34)).f4).getD 0 z39)).f4), .bool (((((((l).getD k z34)).f4).getD 0 z39)).f5), .int .i64 (((((((l).getD k z34)).f4).getD 0 z39)).f6), .bool (((((((l).getD k z34)).f4).getD 0 z39)).f7), .bool (((((((l).getD k z34)).f4).getD 0 z39)).f8)] rfl sh39 (by intro j u hu; rw [Deep.add_add]; exact Sx.ro_cell hv hS (hc63 _ _ hu))) ?_
                 refine wa_one 13 rfl (by kernel_rfl) ?_
                 refine wl_call _ rfl rfl rfl ent14 (regletref14_Line.calls 30 ((((((a).getD n z31)).f0).getD ((((l).getD k z34)).f2 : Int).toNat z39)).f0 _ _ ((((((a).getD n z31)).f0).getD ((((l).getD k z34)).f2 : Int).toNat z39)).f1 ((((((a).getD n z31)).f0).getD ((((l).getD k z34)).f2 : Int).toNat z39)).f2 ((((((a).getD n z31)).f0).getD ((((l).getD k z34)).f2 : Int).toNat z39)).f3 ((((((a).getD n z31)).f0).getD ((((l).getD k z34)).f2 : Int).toNat z39)).f4 ((((((a).getD n z31)).f0).getD ((((l).getD k z34)).f2 : Int).toNat z39)).f5 ((((((a).getD n z31)).f0).getD ((((l).getD k z34)).f2 : Int).toNat z39)).f6 ((((((a).getD n z31)).f0).getD ((((l).getD k z34)).f2 : Int).toNat z39)).f7 ((((((a).getD n z31)).f0).getD ((((l).getD k z34)).f2 : Int).toNat z39)).f8 ((((((l).getD k z34)).f4).getD 0 z39)).f0 _ _ ((((((l).getD k z34)).f4).getD 0 z39)).f1 ((((((l).getD k z34)).f4).getD 0 z39)).f2 ((((((l).getD k z34)).f4).getD 0 z39)).f3 ((((((l).getD k z34)).f4).getD 0 z39)).f4 ((((((l).getD k z34)).f4).getD 0 z39)).f5 ((((((l).getD k z34)).f4).getD 0 z39)).f6 ((((((l).getD k z34)).f4).getD 0 z39)).f7 ((((((l).getD k z34)).f4).getD 0 z39)).f8 _ _ ((Sx.ro_C hv h hn61)) hl60 ((Sx.ro_C hv h hn69)) hl68 (Pure.line_val ((((((a).getD n z31)).f0).getD ((((l).getD k z34)).f2 : Int).toNat z39)) ((((((l).getD k z34)).f4).getD 0 z39)) (Pure.short_get (Pure.few_get hFa n (by omega)) _ (by omega)) (Pure.short_get ht.sh _ (by omega)) 30 (by omega))) ?_
                 rintro e_ w_ ⟨rfl, hB_⟩
                 refine ⟨_, rfl, ?_⟩
                 replace h := st_below h hB_
                 refine wl_nil ?_
                 refine qn_wa (st_selT [true] h) ?_
                 refine wa_tk 14 rfl rfl rfl (st_selT [true] h) (fun w_ hS => ov_move _ rfl) ?_
                 refine wa_splitb 193 rfl (fun c70 => ?_) (fun c70 => ?_)
                 ·
                  exact absurd c70 (by rw [ht.first (by omega) (by omega)]; decide)
                 ·
                  refine wa_tk 15 rfl rfl rfl (st_selT [true] h) (fun w_ hS => ov_move _ rfl) ?_
                  refine wa_tk 16 rfl rfl rfl (st_selT [true] h) (fun w_ hS => ov_move _ rfl) ?_
                  refine wa_tk 17 rfl rfl rfl (st_selT [true] h) (fun w_ hS => ov_indexAddrN _ _ _ _ _ n rfl rfl es22 rfl (by first | assumption | omega | (simp only [List.length_take, List.length_drop, List.length_set]; omega))) ?_
                  refine wa_tk 18 rfl rfl rfl (st_selT [true] h) (fun w_ hS => ov_fieldAddr _ ((ad27).add (n * 1 + 0)) _ rfl fo31_0 (by first | exact Deep.add_add _ _ _ | (rw [Deep.add_add]) | rfl)) ?_
                  refine wa_tk 19 rfl rfl rfl (st_selT [true] h) (fun w_ hS => ov_load1 _ _ rfl sh29 (Sx.ro_cell hv hS (hc28 0 _ rfl))) ?_
                  refine wa_tk 20 rfl rfl rfl (st_selT [true] h) (fun w_ hS => ov_fieldAddr _ ⟨b46, 2, none⟩ _ rfl fo34_2 rfl) ?_
                  refine wa_tk 21 rfl rfl rfl (st_selT [true] h) (fun w_ hS => ov_loadb 0 _ hS rfl rfl sh3 rfl) ?_
                  refine wa_tk 22 rfl rfl rfl (st_selT [true] h) (fun w_ hS => ov_fieldAddr _ ⟨b46, 3, none⟩ _ rfl fo34_3 rfl) ?_
                  refine wa_tk 23 rfl rfl rfl (st_selT [true] h) (fun w_ hS => ov_loadb 0 _ hS rfl rfl sh3 rfl) ?_
                  refine wa_tk 24 rfl rfl rfl (st_selT [true] h) (fun w_ hS => ov_bin _ rfl rfl (binR_add (r := ((((l).getD k z34)).f2) + ((((l).getD k z34)).f3)) (Sx.w64 (by omega)))) ?_
                  refine wa_tk 25 rfl rfl rfl (st_selT [true] h) (fun w_ hS => ov_bin _ rfl rfl (binR_sub (r := (((((l).getD k z34)).f2) + ((((l).getD k z34)).f3)) - 1) (Sx.w64 (by omega)))) ?_
                  refine wa_tk 26 rfl rfl rfl (st_selT [true] h) (fun w_ hS => ov_indexAddrN _ _ _ _ _ ((((((l).getD k z34)).f2) + ((((l).getD k z34)).f3)) - 1 : Int).toNat rfl rfl es29 (by omega) (by first | assumption | omega | (simp only [List.length_take, List.length_drop, List.length_set]; omega))) ?_
                  obtain ⟨cl73, _, hk72, hc71⟩ := Sx.C_cells (hn34) (z := z39) (k := ((((((l).getD k z34)).f2) + ((((l).getD k z34)).f3)) - 1 : Int).toNat) (by first | assumption | omega)
                  obtain ⟨A74, cp75, rfl, hl76, hn77⟩ := k39_open hk72
                  refine wa_tk 27 rfl rfl rfl (st_selT [true] h) (fun w_ hS => ov_loadN _ [.string (((((((a).getD n z31)).f0).getD ((((((l).getD k z34)).f2) + ((((l).getD k z34)).f3)) - 1 : Int).toNat z39)).f0), .slice (A74) ((((((((a).getD n z31)).f0).getD ((((((l).getD k z34)).f2) + ((((l).getD k z34)).f3)) - 1 : Int).toNat z39)).f1).length) (cp75), .int .i64 (((((((a).getD n z31)).f0).getD ((((((l).getD k z34)).f2) + ((((l).getD k z34)).f3)) - 1 : Int).toNat z39)).f2), .int .i64 (((((((a).getD n z31)).f0).getD ((((((l).getD k z34)).f2) + ((((l).getD k z34)).f3)) - 1 : Int).toNat z39)).f3), .int .i64 (((((((a).getD n z31)).f0).getD ((((((l).getD k z34)).f2) + ((((l).getD k z34)).f3)) - 1 : Int).toNat z39)).f4), .bool (((((((a).getD n z31)).f0).getD ((((((l).getD k z34)).f2) + ((((l).getD k z34)).f3)) - 1 : Int).toNat z39)).f5), .int .i64 (((((((a).getD n z31)).f0).getD ((((((l).getD k z34)).f2) + ((((l).getD k z34)).f3)) - 1 : Int).toNat z39)).f6), .bool (((((((a).getD n z31)).f0).getD ((((((l).getD k z34)).f2) + ((((l).getD k z34)).f3)) - 1 : Int).toNat z39)).f7), .bool (((((((a).getD n z31)).f0).getD ((((((l).getD k z34)).f2) + ((((l).getD k z34)).f3)) - 1 : Int).toNat z39)).f8)] rfl sh39 (by intro j u hu; rw [Deep.add_add]; exact Sx.ro_cell hv hS (hc71 _ _ hu))) ?_
                  refine wa_tk 28 rfl rfl rfl (st_selT [true] h) (fun w_ hS => ov_fieldAddr _ ⟨b46, 4, none⟩ _ rfl fo34_4 rfl) ?_
                  refine wa_tk 29 rfl rfl rfl (st_selT [true] h) (fun w_ hS => ov_loadb 0 _ hS rfl rfl sh29 rfl) ?_
                  refine wa_tk 30 rfl rfl rfl (st_selT [true] h) (fun w_ hS => ov_fieldAddr _ ⟨b46, 4, none⟩ _ rfl fo34_4 rfl) ?_
                  refine wa_tk 31 rfl rfl rfl (st_selT [true] h) (fun w_ hS => ov_loadb 0 _ hS rfl rfl sh29 rfl) ?_
                  refine wa_tk 32 rfl rfl rfl (st_selT [true] h) (fun w_ hS => ov_len _ _ _ _ _ rfl es29) ?_
                  refine wa_tk 33 rfl rfl rfl (st_selT [true] h) (fun w_ hS => ov_bin _ rfl rfl (binR_sub (r := (((((((l).getD k z34)).f4).length : Nat) : Int)) - 1) (Sx.w64 (by omega)))) ?_
                  refine wa_tk 34 rfl rfl rfl (st_selT [true] h) (fun w_ hS => ov_indexAddrN _ _ _ _ _ ((((((l).getD k z34)).f4).length) - 1) rfl rfl es29 (by omega) (by first | assumption | omega | (simp only [List.length_take, List.length_drop, List.length_set]; omega))) ?_
                  obtain ⟨cl80, _, hk79, hc78⟩ := Sx.C_cells (hn18) (z := z39) (k := ((((((l).getD k z34)).f4).length) - 1)) (by first | assumption | omega)
                  obtain ⟨A81, cp82, rfl, hl83, hn84⟩ := k39_open hk79
                  refine wa_tk 35 rfl rfl rfl (st_selT [true] h) (fun w_ hS => ov_loadN _ [.string (((((((l).getD k z34)).f4).getD ((((((l).getD k z34)).f4).length) - 1) z39)).f0), .slice (A81) ((((((((l).getD k z34)).f4).getD ((((((l).getD k z34)).f4).length) - 1) z39)).f1).length) (cp82), .int .i64 (((((((l).getD k z34)).f4).getD ((((((l).getD k z34)).f4).length) - 1) z39)).f2), .int .i64 (((((((l).getD k z34)).f4).getD ((((((l).getD k z34)).f4).length) - 1) z39)).f3), .int .i64 (((((((l).getD k z34)).f4).getD ((((((l).getD k z34)).f4).length) - 1) z39)).f4), .bool (((((((l).getD k z34)).f4).getD ((((((l).getD k z34)).f4).length) - 1) z39)).f5), .int .i64 (((((((l).getD k z34)).f4).getD ((((((l).getD k z34)).f4).length) - 1) z39)).f6), .bool (((((((l).getD k z34)).f4).getD ((((((l).getD k z34)).f4).length) - 1) z39)).f7), .bool (((((((l).getD k z34)).f4).getD ((((((l).getD k z34)).f4).length) - 1) z39)).f8)] rfl sh39 (by intro j u hu; rw [Deep.add_add]; exact Sx.ro_cell hv hS (hc78 _ _ hu))) ?_
                  refine wa_one 36 rfl (by kernel_rfl) ?_
                  refine wl_call _ rfl rfl rfl ent14 (regletref14_Line.calls 30 ((((((a).getD n z31)).f0).getD ((((((l).getD k z34)).f2) + ((((l).getD k z34)).f3)) - 1 : Int).toNat z39)).f0 _ _ ((((((a).getD n z31)).f0).getD ((((((l).getD k z34)).f2) + ((((l).getD k z34)).f3)) - 1 : Int).toNat z39)).f1 ((((((a).getD n z31)).f0).getD ((((((l).getD k z34)).f2) + ((((l).getD k z34)).f3)) - 1 : Int).toNat z39)).f2 ((((((a).getD n z31)).f0).getD ((((((l).getD k z34)).f2) + ((((l).getD k z34)).f3)) - 1 : Int).toNat z39)).f3 ((((((a).getD n z31)).f0).getD ((((((l).getD k z34)).f2) + ((((l).getD k z34)).f3)) - 1 : Int).toNat z39)).f4 ((((((a).getD n z31)).f0).getD ((((((l).getD k z34)).f2) + ((((l).getD k z34)).f3)) - 1 : Int).toNat z39)).f5 ((((((a).getD n z31)).f0).getD ((((((l).getD k z34)).f2) + ((((l).getD k z34)).f3)) - 1 : Int).toNat z39)).f6 ((((((a).getD n z31)).f0).getD ((((((l).getD k z34)).f2) + ((((l).getD k z34)).f3)) - 1 : Int).toNat z39)).f7 ((((((a).getD n z31)).f0).getD ((((((l).getD k z34)).f2) + ((((l).getD k z34)).f3)) - 1 : Int).toNat z39)).f8 ((((((l).getD k z34)).f4).getD ((((((l).getD k z34)).f4).length) - 1) z39)).f0 _ _ ((((((l).getD k z34)).f4).getD ((((((l).getD k z34)).f4).length) - 1) z39)).f1 ((((((l).getD k z34)).f4).getD ((((((l).getD k z34)).f4).length) - 1) z39)).f2 ((((((l).getD k z34)).f4).getD ((((((l).getD k z34)).f4).length) - 1) z39)).f3 ((((((l).getD k z34)).f4).getD ((((((l).getD k z34)).f4).length) - 1) z39)).f4 ((((((l).getD k z34)).f4).getD ((((((l).getD k z34)).f4).length) - 1) z39)).f5 ((((((l).getD k z34)).f4).getD ((((((l).getD k z34)).f4).length) - 1) z39)).f6 ((((((l).getD k z34)).f4).getD ((((((l).getD k z34)).f4).length) - 1) z39)).f7 ((((((l).getD k z34)).f4).getD ((((((l).getD k z34)).f4).length) - 1) z39)).f8 _ _ ((Sx.ro_C hv h hn77)) hl76 ((Sx.ro_C hv h hn84)) hl83 (Pure.line_val ((((((a).getD n z31)).f0).getD ((((((l).getD k z34)).f2) + ((((l).getD k z34)).f3)) - 1 : Int).toNat z39)) ((((((l).getD k z34)).f4).getD ((((((l).getD k z34)).f4).length) - 1) z39)) (Pure.short_get (Pure.few_get hFa n (by omega)) _ (by omega)) (Pure.short_get ht.sh _ (by omega)) 30 (by omega))) ?_
                  rintro e_ w_ ⟨rfl, hB_⟩
                  refine ⟨_, rfl, ?_⟩
                  replace h := st_below h hB_
                  refine wl_nil ?_
                  refine qn_wa (st_selT [true] h) ?_
                  refine wa_tk 37 rfl rfl rfl (st_selT [true] h) (fun w_ hS => ov_pick_false _ rfl rfl) ?_
                  refine wa_done (by kernel_rfl) ?_
                  refine qn_then ?_
                  refine wc_condb (by rfl) (fun c85 => ?_) (fun c85 => ?_)
                  ·
                   exact absurd c85 (by rw [ht.last (by omega) (by omega)]; decide)
                  ·
                   refine wc_skip ?_
                   refine qn_block_normal ?_
                   refine qn_then ?_
                   refine wc_region ?_
                   refine wl_v rfl rfl (ov_move _ rfl) ?_
                   refine wl_v rfl rfl (ov_bin _ rfl rfl (binR_add (r := ((n : Int)) + 1) (Sx.w64 (by omega)))) ?_
                   refine wl_v rfl rfl (ov_assign _ rfl) ?_
                   refine wl_nil ?_
                   replace h := st_selT [false] h
                   refine qn_next ((n + 1), (k + 1)) (by show max a.length b.length - (n + 1) < max a.length b.length - n; omega) ⟨(congrArg (fun z_ => some (Value.slice (some ad27) z_ (ca))) (show (a.length : Nat) = a.length by first | rfl | simp)), (congrArg (fun z_ => some (Value.slice (some ad35) z_ (cb))) (show (b.length : Nat) = b.length by first | rfl | simp)), (congrArg (fun z_ => some (Value.slice (some ad11) z_ (cl))) (show (l.length : Nat) = l.length by first | rfl | simp)), (congrArg (fun z_ => some (Value.int .i64 z_)) (show (((k : Int)) + 1 : Int) = ((k + 1) : Int) by omega)), (congrArg (fun z_ => some (Value.int .i64 z_)) (show (((n : Int)) + 1 : Int) = ((n + 1) : Int) by omega)), trivial⟩ ?_
                   show ((k + 1) = Pure.kat a b (n + 1) ∧ (n + 1) ≤ max a.length b.length) ∧ _
                   exact ⟨⟨by first | omega | (have ho_ := hout (by omega) (by omega); omega) | (rcases hin (by omega) (by omega) with ⟨_, _, _, _, _⟩ | ⟨_, _, _⟩ <;> first | omega), by omega⟩, h⟩
                ·
                 refine wc_skip ?_
                 refine qn_block_normal ?_
                 refine qn_then ?_
                 refine wc_region ?_
                 refine wl_v rfl rfl (ov_move _ rfl) ?_
                 refine wl_v rfl rfl (ov_bin _ rfl rfl (binR_add (r := ((n : Int)) + 1) (Sx.w64 (by omega)))) ?_
                 refine wl_v rfl rfl (ov_assign _ rfl) ?_
                 refine wl_nil ?_
                 replace h := st_selT [false] h
                 refine qn_next ((n + 1), (k + 1)) (by show max a.length b.length - (n + 1) < max a.length b.length - n; omega) ⟨(congrArg (fun z_ => some (Value.slice (some ad27) z_ (ca))) (show (a.length : Nat) = a.length by first | rfl | simp)), (congrArg (fun z_ => some (Value.slice (some ad35) z_ (cb))) (show (b.length : Nat) = b.length by first | rfl | simp)), (congrArg (fun z_ => some (Value.slice (some ad11) z_ (cl))) (show (l.length : Nat) = l.length by first | rfl | simp)), (congrArg (fun z_ => some (Value.int .i64 z_)) (show (((k : Int)) + 1 : Int) = ((k + 1) : Int) by omega)), (congrArg (fun z_ => some (Value.int .i64 z_)) (show (((n : Int)) + 1 : Int) = ((n + 1) : Int) by omega)), trivial⟩ ?_
                 show ((k + 1) = Pure.kat a b (n + 1) ∧ (n + 1) ≤ max a.length b.length) ∧ _
                 exact ⟨⟨by first | omega | (have ho_ := hout (by omega) (by omega); omega) | (rcases hin (by omega) (by omega) with ⟨_, _, _, _, _⟩ | ⟨_, _, _⟩ <;> first | omega), by omega⟩, h⟩
               ·
                refine wl_skip rfl rfl ?_
                refine wl_skip rfl rfl ?_
                refine wl_skip rfl rfl ?_
                refine wl_skip rfl rfl ?_
                refine wl_v rfl rfl (ov_pick_false _ rfl rfl) ?_
                refine wl_nil ?_
                refine qn_then ?_
                refine wc_cond_false rfl ?_
                refine wc_skip ?_
                refine qn_block_normal ?_
                refine qn_then ?_
                refine wc_region ?_
                refine wl_v rfl rfl (ov_move _ rfl) ?_
                refine wl_v rfl rfl (ov_bin _ rfl rfl (binR_add (r := ((n : Int)) + 1) (Sx.w64 (by omega)))) ?_
                refine wl_v rfl rfl (ov_assign _ rfl) ?_
                refine wl_nil ?_
                replace h := st_selT [false] h
                refine qn_next ((n + 1), (k + 1)) (by show max a.length b.length - (n + 1) < max a.length b.length - n; omega) ⟨(congrArg (fun z_ => some (Value.slice (some ad27) z_ (ca))) (show (a.length : Nat) = a.length by first | rfl | simp)), (congrArg (fun z_ => some (Value.slice (some ad35) z_ (cb))) (show (b.length : Nat) = b.length by first | rfl | simp)), (congrArg (fun z_ => some (Value.slice (some ad11) z_ (cl))) (show (l.length : Nat) = l.length by first | rfl | simp)), (congrArg (fun z_ => some (Value.int .i64 z_)) (show (((k : Int)) + 1 : Int) = ((k + 1) : Int) by omega)), (congrArg (fun z_ => some (Value.int .i64 z_)) (show (((n : Int)) + 1 : Int) = ((n + 1) : Int) by omega)), trivial⟩ ?_
                show ((k + 1) = Pure.kat a b (n + 1) ∧ (n + 1) ≤ max a.length b.length) ∧ _
                exact ⟨⟨by first | omega | (have ho_ := hout (by omega) (by omega); omega) | (rcases hin (by omega) (by omega) with ⟨_, _, _, _, _⟩ | ⟨_, _, _⟩ <;> first | omega), by omega⟩, h⟩
    ·
     refine wl_skip rfl rfl ?_
     refine wl_skip rfl rfl ?_
     refine wl_skip rfl rfl ?_
     refine wl_skip rfl rfl ?_
     refine wl_skip rfl rfl ?_
     refine wl_skip rfl rfl ?_
     refine wl_skip rfl rfl ?_
     refine wl_v rfl rfl (ov_pick_false _ rfl rfl) ?_
     refine wl_v rfl rfl (ov_assign _ rfl) ?_
     refine wl_nil ?_
     refine qn_then ?_
     refine wc_seq ?_
     refine wc_seq ?_
     refine wc_region ?_
     refine wl_v rfl rfl (ov_move _ rfl) ?_
     refine wl_v rfl rfl (ov_move _ rfl) ?_
     refine wl_v rfl rfl (ov_len _ _ _ _ _ rfl es22) ?_
     refine wl_v rfl rfl (ov_bin _ rfl rfl (binR_geq)) ?_
     refine wl_v rfl rfl (ov_move _ rfl) ?_
     refine wl_split 52 rfl (fun c86 => ?_) (fun c86 => ?_)
     ·
      refine wl_skip rfl rfl ?_
      refine wl_skip rfl rfl ?_
      refine wl_skip rfl rfl ?_
      refine wl_skip rfl rfl ?_
      refine wl_v rfl rfl (ov_pick_true _ rfl rfl) ?_
      refine wl_nil ?_
      refine qn_then ?_
      refine wc_cond_true rfl ?_
      refine wc_seq ?_
      refine wc_seq ?_
      refine wc_region ?_
      refine wl_v rfl rfl (ov_move _ rfl) ?_
      refine wl_v rfl rfl (ov_notb _ rfl) ?_
      refine wl_v rfl rfl (ov_move _ rfl) ?_
      refine wl_skip rfl rfl ?_
      refine wl_skip rfl rfl ?_
      refine wl_skip rfl rfl ?_
      refine wl_skip rfl rfl ?_
      refine wl_skip rfl rfl ?_
      refine wl_skip rfl rfl ?_
      refine wl_skip rfl rfl ?_
      refine wl_skip rfl rfl ?_
      refine wl_skip rfl rfl ?_
      refine wl_skip rfl rfl ?_
      refine wl_skip rfl rfl ?_
      refine wl_v rfl rfl (ov_pick_true _ rfl rfl) ?_
      refine wl_v rfl rfl (ov_move _ rfl) ?_
      refine wl_skip rfl rfl ?_
      refine wl_skip rfl rfl ?_
      refine wl_skip rfl rfl ?_
      refine wl_skip rfl rfl ?_
      refine wl_skip rfl rfl ?_
      refine wl_skip rfl rfl ?_
      refine wl_skip rfl rfl ?_
      refine wl_skip rfl rfl ?_
      refine wl_skip rfl rfl ?_
      refine wl_skip rfl rfl ?_
      refine wl_skip rfl rfl ?_
      refine wl_v rfl rfl (ov_pick_true _ rfl rfl) ?_
      refine wl_nil ?_
      refine qn_then ?_
      refine wc_cond_true rfl ?_
      refine wc_seq ?_
      refine wc_region ?_
      refine wl_v rfl rfl (ov_assign _ rfl) ?_
      refine wl_nil ?_
      refine qn_then ?_
      refine wc_ret ?_
      refine qn_then_ret ?_
      refine qn_then_ret ?_
      refine qn_block_ret ?_
      refine qn_then_ret ?_
      refine qn_then_ret ?_
      refine qn_block_ret ?_
      refine qn_then_ret ?_
      refine qn_ret [_] ⟨rfl, trivial⟩ ?_
      exfalso
      first | (have ho_ := hout (by omega) (by omega); omega) | omega
     ·
      refine wl_v rfl rfl (ov_move _ rfl) ?_
      refine wl_v rfl rfl (ov_move _ rfl) ?_
      refine wl_v rfl rfl (ov_len _ _ _ _ _ rfl es22) ?_
      refine wl_v rfl rfl (ov_bin _ rfl rfl (binR_geq)) ?_
      refine wl_v rfl rfl (ov_pick_false _ rfl rfl) ?_
      refine wl_nil ?_
      refine qn_then ?_
      refine wc_cond (by rfl) (fun c87 => ?_) (fun c87 => ?_)
      ·
       refine wc_seq ?_
       refine wc_seq ?_
       refine wc_region ?_
       refine wl_v rfl rfl (ov_move _ rfl) ?_
       refine wl_v rfl rfl (ov_notb _ rfl) ?_
       refine wl_v rfl rfl (ov_move _ rfl) ?_
       refine wl_skip rfl rfl ?_
       refine wl_skip rfl rfl ?_
       refine wl_skip rfl rfl ?_
       refine wl_skip rfl rfl ?_
       refine wl_skip rfl rfl ?_
       refine wl_skip rfl rfl ?_
       refine wl_skip rfl rfl ?_
       refine wl_skip rfl rfl ?_
       refine wl_skip rfl rfl ?_
       refine wl_skip rfl rfl ?_
       refine wl_skip rfl rfl ?_
       refine wl_v rfl rfl (ov_pick_true _ rfl rfl) ?_
       refine wl_v rfl rfl (ov_move _ rfl) ?_
       refine wl_skip rfl rfl ?_
       refine wl_skip rfl rfl ?_
       refine wl_skip rfl rfl ?_
       refine wl_skip rfl rfl ?_
       refine wl_skip rfl rfl ?_
       refine wl_skip rfl rfl ?_
       refine wl_skip rfl rfl ?_
       refine wl_skip rfl rfl ?_
       refine wl_skip rfl rfl ?_
       refine wl_skip rfl rfl ?_
       refine wl_skip rfl rfl ?_
       refine wl_v rfl rfl (ov_pick_true _ rfl rfl) ?_
       refine wl_nil ?_
       refine qn_then ?_
       refine wc_cond_true rfl ?_
       refine wc_seq ?_
       refine wc_region ?_
       refine wl_v rfl rfl (ov_assign _ rfl) ?_
       refine wl_nil ?_
       refine qn_then ?_
       refine wc_ret ?_
       refine qn_then_ret ?_
       refine qn_then_ret ?_
       refine qn_block_ret ?_
       refine qn_then_ret ?_
       refine qn_then_ret ?_
       refine qn_block_ret ?_
       refine qn_then_ret ?_
       refine qn_ret [_] ⟨rfl, trivial⟩ ?_
       exfalso
       first | (have ho_ := hout (by omega) (by omega); omega) | omega
      ·
       refine wc_skip ?_
       refine qn_then ?_
       refine wc_seq ?_
       refine wc_seq ?_
       refine wc_draw (fun w => Sx.St w0 F0 ([] ++ R) w) (by kernel_rfl) ?_
       replace h := st_drew h
       refine wa_tk 0 rfl rfl rfl (st_selT [] h) (fun w_ hS => ov_move _ rfl) ?_
       refine wa_tk 1 rfl rfl rfl (st_selT [] h) (fun w_ hS => ov_move _ rfl) ?_
       refine wa_tk 2 rfl rfl rfl (st_selT [] h) (fun w_ hS => ov_move _ rfl) ?_
       obtain ⟨ad88, rfl⟩ := Sx.C_some ((Sx.ro_C hv h hCa)) (k := n) (by first | assumption | omega)
       refine wa_tk 3 rfl rfl rfl (st_selT [] h) (fun w_ hS => ov_indexAddrN _ _ _ _ _ n rfl rfl es22 rfl (by first | assumption | omega | (simp only [List.length_take, List.length_drop, List.length_set]; omega))) ?_
       obtain ⟨cl91, _, hk90, hc89⟩ := Sx.C_cells (hCa) (z := z31) (k := n) (by first | assumption | omega)
       obtain ⟨A92, cp93, rfl, hl94, hn95⟩ := k31_open hk90
       refine wa_tk 4 rfl rfl rfl (st_selT [] h) (fun w_ hS => ov_loadN _ [.slice (A92) (((((a).getD n z31)).f0).length) (cp93)] rfl sh31 (by intro j u hu; rw [Deep.add_add]; exact Sx.ro_cell hv hS (hc89 _ _ hu))) ?_
       refine wa_tk 5 rfl rfl rfl (st_selT [] h) (fun w_ hS => ov_move _ rfl) ?_
       refine wa_tk 6 rfl rfl rfl (st_selT [] h) (fun w_ hS => ov_move _ rfl) ?_
       obtain ⟨ad96, rfl⟩ := Sx.C_some ((Sx.ro_C hv h hCb)) (k := n) (by first | assumption | omega)
       refine wa_tk 7 rfl rfl rfl (st_selT [] h) (fun w_ hS => ov_indexAddrN _ _ _ _ _ n rfl rfl es22 rfl (by first | assumption | omega | (simp only [List.length_take, List.length_drop, List.length_set]; omega))) ?_
       obtain ⟨cl99, _, hk98, hc97⟩ := Sx.C_cells (hCb) (z := z31) (k := n) (by first | assumption | omega)
       obtain ⟨A100, cp101, rfl, hl102, hn103⟩ := k31_open hk98
       refine wa_tk 8 rfl rfl rfl (st_selT [] h) (fun w_ hS => ov_loadN _ [.slice (A100) (((((b).getD n z31)).f0).length) (cp101)] rfl sh31 (by intro j u hu; rw [Deep.add_add]; exact Sx.ro_cell hv hS (hc97 _ _ hu))) ?_
       refine wa_one 9 rfl (by kernel_rfl) ?_
       refine wl_call _ rfl rfl rfl ent12 (regletref14_Page.calls 100 _ _ ((((a).getD n z31)).f0) _ _ ((((b).getD n z31)).f0) _ _ ((Sx.ro_C hv h hn95)) hl94 ((Sx.ro_C hv h hn103)) hl102 (Pure.page14_val _ _ (Pure.few_get hFa n (by omega)) (Pure.few_get hFb n (by omega)) 100 (by omega))) ?_
       rintro e_ w_ ⟨rfl, hB_⟩
       refine ⟨_, rfl, ?_⟩
       replace h := st_below h hB_
       refine wl_nil ?_
       refine qn_wa (st_selT [] h) ?_
       refine wa_tk 10 rfl rfl rfl (st_selT [] h) (fun w_ hS => ov_bin _ rfl rfl (binR_eqb Try.underlying4)) ?_
       refine wa_tk 11 rfl rfl rfl (st_selT [] h) (fun w_ hS => ov_move _ rfl) ?_
       refine wa_split 99 rfl (fun c104 => ?_) (fun c104 => ?_)
       ·
        exfalso
        rcases hin (by omega) (by omega) with ⟨hd_, hk_, he_, _⟩ | ⟨hd_, hk_, _⟩
        · rw [hd_] at c104; first | omega | (rw [decide_eq_true he_] at c104; exact absurd c104 (by decide)) | exact c104 (by decide)
        · rw [hd_] at c104; first | exact absurd c104 (by decide) | (rw [decide_eq_false (hk_ (by omega))] at c104; exact absurd c104 (by decide))
       ·
        refine wa_tk 12 rfl rfl rfl (st_selT [] h) (fun w_ hS => ov_move _ rfl) ?_
        refine wa_tk 13 rfl rfl rfl (st_selT [] h) (fun w_ hS => ov_move _ rfl) ?_
        refine wa_tk 14 rfl rfl rfl (st_selT [] h) (fun w_ hS => ov_move _ rfl) ?_
        refine wa_tk 15 rfl rfl rfl (st_selT [] h) (fun w_ hS => ov_indexAddrN _ _ _ _ _ n rfl rfl es22 rfl (by first | assumption | omega | (simp only [List.length_take, List.length_drop, List.length_set]; omega))) ?_
        refine wa_tk 16 rfl rfl rfl (st_selT [] h) (fun w_ hS => ov_loadN _ [.slice (A92) (((((a).getD n z31)).f0).length) (cp93)] rfl sh31 (by intro j u hu; rw [Deep.add_add]; exact Sx.ro_cell hv hS (hc89 _ _ hu))) ?_
        refine wa_tk 17 rfl rfl rfl (st_selT [] h) (fun w_ hS => ov_move _ rfl) ?_
        refine wa_tk 18 rfl rfl rfl (st_selT [] h) (fun w_ hS => ov_move _ rfl) ?_
        refine wa_tk 19 rfl rfl rfl (st_selT [] h) (fun w_ hS => ov_indexAddrN _ _ _ _ _ n rfl rfl es22 rfl (by first | assumption | omega | (simp only [List.length_take, List.length_drop, List.length_set]; omega))) ?_
        refine wa_tk 20 rfl rfl rfl (st_selT [] h) (fun w_ hS => ov_loadN _ [.slice (A100) (((((b).getD n z31)).f0).length) (cp101)] rfl sh31 (by intro j u hu; rw [Deep.add_add]; exact Sx.ro_cell hv hS (hc97 _ _ hu))) ?_
        refine wa_one 21 rfl (by kernel_rfl) ?_
        refine wl_call _ rfl rfl rfl ent13 (diff_Alike.calls 100 _ _ ((((a).getD n z31)).f0) _ _ ((((b).getD n z31)).f0) _ _ ((Sx.ro_C hv h hn95)) hl94 ((Sx.ro_C hv h hn103)) hl102 (Pure.alike_val _ _ (Pure.few_get hFa n (by omega)) (Pure.few_get hFb n (by omega)) 100 (by omega))) ?_
        rintro e_ w_ ⟨rfl, hB_⟩
        refine ⟨_, rfl, ?_⟩
        replace h := st_below h hB_
        refine wl_nil ?_
        refine qn_wa (st_selT [] h) ?_
        refine wa_tk 22 rfl rfl rfl (st_selT [] h) (fun w_ hS => ov_notb _ rfl) ?_
        refine wa_tk 23 rfl rfl rfl (st_selT [] h) (fun w_ hS => ov_bin _ rfl rfl (binR_neb Try.underlying4)) ?_
        refine wa_tk 24 rfl rfl rfl (st_selT [] h) (fun w_ hS => ov_pick_false _ rfl rfl) ?_
        refine wa_done (by kernel_rfl) ?_
        refine qn_then ?_
        refine wc_cond (by rfl) (fun c105 => ?_) (fun c105 => ?_)
        ·
         exfalso
         rcases hin (by omega) (by omega) with ⟨hd_, hk_, he_, _⟩ | ⟨hd_, hk_, _⟩
         · rw [hd_] at c105; first | omega | (rw [decide_eq_true he_] at c105; exact absurd c105 (by decide)) | exact c105 (by decide)
         · rw [hd_] at c105; first | exact absurd c105 (by decide) | (rw [decide_eq_false (hk_ (by omega))] at c105; exact absurd c105 (by decide))
        ·
         refine wc_skip ?_
         refine qn_then ?_
         refine wc_seq ?_
         refine wc_seq ?_
         refine wc_region ?_
         refine wl_v rfl rfl (ov_move _ rfl) ?_
         refine wl_v rfl rfl (ov_notb _ rfl) ?_
         refine wl_nil ?_
         refine qn_then ?_
         refine wc_cond_true rfl ?_
         refine wc_exit ?_
         refine qn_then_exit ?_
         refine qn_block_exit ?_
         refine qn_then ?_
         refine wc_region ?_
         refine wl_v rfl rfl (ov_move _ rfl) ?_
         refine wl_v rfl rfl (ov_bin _ rfl rfl (binR_add (r := ((n : Int)) + 1) (Sx.w64 (by omega)))) ?_
         refine wl_v rfl rfl (ov_assign _ rfl) ?_
         refine wl_nil ?_
         refine qn_next ((n + 1), k) (by show max a.length b.length - (n + 1) < max a.length b.length - n; omega) ⟨(congrArg (fun z_ => some (Value.slice (some ad88) z_ (ca))) (show (a.length : Nat) = a.length by first | rfl | simp)), (congrArg (fun z_ => some (Value.slice (some ad96) z_ (cb))) (show (b.length : Nat) = b.length by first | rfl | simp)), rfl, rfl, (congrArg (fun z_ => some (Value.int .i64 z_)) (show (((n : Int)) + 1 : Int) = ((n + 1) : Int) by omega)), trivial⟩ ?_
         show (k = Pure.kat a b (n + 1) ∧ (n + 1) ≤ max a.length b.length) ∧ _
         exact ⟨⟨by first | omega | (have ho_ := hout (by omega) (by omega); omega) | (rcases hin (by omega) (by omega) with ⟨_, _, _, _, _⟩ | ⟨_, _, _⟩ <;> first | omega), by omega⟩, h⟩
   ·
    refine wl_v rfl rfl (ov_move _ rfl) ?_
    refine wl_v rfl rfl (ov_move _ rfl) ?_
    refine wl_v rfl rfl (ov_len _ _ _ _ _ rfl es22) ?_
    refine wl_v rfl rfl (ov_bin _ rfl rfl (binR_lss)) ?_
    refine wl_v rfl rfl (ov_pick_false _ rfl rfl) ?_
    refine wl_nil ?_
    refine qn_then ?_
    refine wc_cond (by rfl) (fun c106 => ?_) (fun c106 => ?_)
    ·
     refine wc_skip ?_
     refine qn_then ?_
     refine wc_seq ?_
     refine wc_block ?_
     refine wc_seq ?_
     refine wc_region ?_
     refine wl_v rfl rfl (ov_move _ rfl) ?_
     refine wl_v rfl rfl (ov_move _ rfl) ?_
     refine wl_v rfl rfl (ov_len _ _ _ _ _ rfl es27) ?_
     refine wl_v rfl rfl (ov_bin _ rfl rfl (binR_lss)) ?_
     refine wl_v rfl rfl (ov_move _ rfl) ?_
     refine wl_split 39 rfl (fun c107 => ?_) (fun c107 => ?_)
     ·
      refine wl_v rfl rfl (ov_move _ rfl) ?_
      refine wl_v rfl rfl (ov_move _ rfl) ?_
      obtain ⟨ad108, rfl⟩ := Sx.C_some ((Sx.ro_C hv h hCl)) (k := k) (by first | assumption | omega)
      refine wl_v rfl rfl (ov_indexAddrN _ _ _ _ _ k rfl rfl es27 rfl (by first | assumption | omega | (simp only [List.length_take, List.length_drop, List.length_set]; omega))) ?_
      refine wl_v rfl rfl (ov_fieldAddr _ ((ad108).add (k * 5 + 0)) _ rfl fo34_0 (by first | exact Deep.add_add _ _ _ | (rw [Deep.add_add]) | rfl)) ?_
      obtain ⟨cl111, _, hk110, hc109⟩ := Sx.C_cells (hCl) (z := z34) (k := k) (by first | assumption | omega)
      obtain ⟨A112, cp113, rfl, hl114, hn115⟩ := k34_open hk110
      refine wl_v rfl rfl (ov_load1 _ _ rfl sh3 (Sx.ro_cell hv h (hc109 0 _ rfl))) ?_
      refine wl_v rfl rfl (ov_move _ rfl) ?_
      refine wl_v rfl rfl (ov_bin _ rfl rfl (binR_eql)) ?_
      refine wl_v rfl rfl (ov_pick_true _ rfl rfl) ?_
      refine wl_v rfl rfl (ov_assign _ rfl) ?_
      refine wl_nil ?_
      refine qn_then ?_
      refine wc_seq ?_
      refine wc_seq ?_
      refine wc_region ?_
      refine wl_v rfl rfl (ov_move _ rfl) ?_
      refine wl_v rfl rfl (ov_move _ rfl) ?_
      refine wl_v rfl rfl (ov_len _ _ _ _ _ rfl es22) ?_
      refine wl_v rfl rfl (ov_bin _ rfl rfl (binR_geq)) ?_
      refine wl_v rfl rfl (ov_move _ rfl) ?_
      refine wl_split 52 rfl (fun c116 => ?_) (fun c116 => ?_)
      ·
       refine wl_skip rfl rfl ?_
       refine wl_skip rfl rfl ?_
       refine wl_skip rfl rfl ?_
       refine wl_skip rfl rfl ?_
       refine wl_v rfl rfl (ov_pick_true _ rfl rfl) ?_
       refine wl_nil ?_
       refine qn_then ?_
       refine wc_cond_true rfl ?_
       refine wc_seq ?_
       refine wc_seq ?_
       refine wc_region ?_
       refine wl_v rfl rfl (ov_move _ rfl) ?_
       refine wl_v rfl rfl (ov_not _ (¬ (((((l).getD k z34)).f0 : Int) = ((n : Int)))) rfl (by first | exact decide_not.symm | simp)) ?_
       refine wl_v rfl rfl (ov_move _ rfl) ?_
       refine wl_split 60 rfl (fun c117 => ?_) (fun c117 => ?_)
       ·
        exfalso
        have ho_ := hout (by omega) (by omega)
        omega
       ·
        refine wl_v rfl rfl (ov_move _ rfl) ?_
        refine wl_v rfl rfl (ov_move _ rfl) ?_
        refine wl_v rfl rfl (ov_indexAddrN _ _ _ _ _ k rfl rfl es27 rfl (by first | assumption | omega | (simp only [List.length_take, List.length_drop, List.length_set]; omega))) ?_
        refine wl_v rfl rfl (ov_fieldAddr _ ((ad108).add (k * 5 + 1)) _ rfl fo34_1 (by first | exact Deep.add_add _ _ _ | (rw [Deep.add_add]) | rfl)) ?_
        refine wl_v rfl rfl (ov_load1 _ _ rfl sh3 (Sx.ro_cell hv h (hc109 1 _ rfl))) ?_
        refine wl_v rfl rfl (ov_bin _ rfl rfl (binR_eql)) ?_
        refine wl_v rfl rfl (ov_move _ rfl) ?_
        refine wl_v rfl rfl (ov_move _ rfl) ?_
        refine wl_v rfl rfl (ov_len _ _ _ _ _ rfl es22) ?_
        refine wl_v rfl rfl (ov_bin _ rfl rfl (binR_geq)) ?_
        refine wl_v rfl rfl (ov_bin _ rfl rfl (binR_neb Try.underlying4)) ?_
        refine wl_v rfl rfl (ov_pick_false _ rfl rfl) ?_
        refine wl_v rfl rfl (ov_move _ rfl) ?_
        refine wl_split 73 rfl (fun c118 => ?_) (fun c118 => ?_)
        ·
         exfalso
         have ho_ := hout (by omega) (by omega)
         apply c118
         rw [decide_eq_decide]
         omega
        ·
         refine wl_v rfl rfl (ov_move _ rfl) ?_
         refine wl_v rfl rfl (ov_move _ rfl) ?_
         refine wl_v rfl rfl (ov_indexAddrN _ _ _ _ _ k rfl rfl es27 rfl (by first | assumption | omega | (simp only [List.length_take, List.length_drop, List.length_set]; omega))) ?_
         refine wl_v rfl rfl (ov_fieldAddr _ ((ad108).add (k * 5 + 1)) _ rfl fo34_1 (by first | exact Deep.add_add _ _ _ | (rw [Deep.add_add]) | rfl)) ?_
         refine wl_v rfl rfl (ov_load1 _ _ rfl sh3 (Sx.ro_cell hv h (hc109 1 _ rfl))) ?_
         refine wl_v rfl rfl (ov_bin _ rfl rfl (binR_eql)) ?_
         refine wl_v rfl rfl (ov_move _ rfl) ?_
         refine wl_v rfl rfl (ov_move _ rfl) ?_
         refine wl_v rfl rfl (ov_len _ _ _ _ _ rfl es22) ?_
         refine wl_v rfl rfl (ov_bin _ rfl rfl (binR_geq)) ?_
         refine wl_v rfl rfl (ov_bin _ rfl rfl (binR_neb Try.underlying4)) ?_
         refine wl_v rfl rfl (ov_pick_false _ rfl rfl) ?_
         refine wl_nil ?_
         refine qn_then ?_
         refine wc_cond (by rfl) (fun c119 => ?_) (fun c119 => ?_)
         ·
          exfalso
          have ho_ := hout (by omega) (by omega)
          apply c119
          rw [decide_eq_decide]
          omega
         ·
          refine wc_skip ?_
          refine qn_then ?_
          refine wc_seq ?_
          refine wc_region ?_
          refine wl_v rfl rfl (ov_move _ rfl) ?_
          refine wl_v rfl rfl (ov_bin _ rfl rfl (binR_add (r := ((k : Int)) + 1) (Sx.w64 (by omega)))) ?_
          refine wl_v rfl rfl (ov_assign _ rfl) ?_
          refine wl_nil ?_
          refine qn_then ?_
          refine wc_exit ?_
          refine qn_then_exit ?_
          refine qn_block_exit ?_
          refine qn_then ?_
          refine wc_region ?_
          refine wl_v rfl rfl (ov_move _ rfl) ?_
          refine wl_v rfl rfl (ov_bin _ rfl rfl (binR_add (r := ((n : Int)) + 1) (Sx.w64 (by omega)))) ?_
          refine wl_v rfl rfl (ov_assign _ rfl) ?_
          refine wl_nil ?_
          refine qn_next ((n + 1), (k + 1)) (by show max a.length b.length - (n + 1) < max a.length b.length - n; omega) ⟨rfl, rfl, (congrArg (fun z_ => some (Value.slice (some ad108) z_ (cl))) (show (l.length : Nat) = l.length by first | rfl | simp)), (congrArg (fun z_ => some (Value.int .i64 z_)) (show (((k : Int)) + 1 : Int) = ((k + 1) : Int) by omega)), (congrArg (fun z_ => some (Value.int .i64 z_)) (show (((n : Int)) + 1 : Int) = ((n + 1) : Int) by omega)), trivial⟩ ?_
          show ((k + 1) = Pure.kat a b (n + 1) ∧ (n + 1) ≤ max a.length b.length) ∧ _
          exact ⟨⟨by first | omega | (have ho_ := hout (by omega) (by omega); omega) | (rcases hin (by omega) (by omega) with ⟨_, _, _, _, _⟩ | ⟨_, _, _⟩ <;> first | omega), by omega⟩, h⟩
      ·
       refine wl_v rfl rfl (ov_move _ rfl) ?_
       refine wl_v rfl rfl (ov_move _ rfl) ?_
       refine wl_v rfl rfl (ov_len _ _ _ _ _ rfl es22) ?_
       refine wl_v rfl rfl (ov_bin _ rfl rfl (binR_geq)) ?_
       refine wl_v rfl rfl (ov_pick_false _ rfl rfl) ?_
       refine wl_nil ?_
       refine qn_then ?_
       refine wc_cond (by rfl) (fun c120 => ?_) (fun c120 => ?_)
       ·
        refine wc_seq ?_
        refine wc_seq ?_
        refine wc_region ?_
        refine wl_v rfl rfl (ov_move _ rfl) ?_
        refine wl_v rfl rfl (ov_not _ (¬ (((((l).getD k z34)).f0 : Int) = ((n : Int)))) rfl (by first | exact decide_not.symm | simp)) ?_
        refine wl_v rfl rfl (ov_move _ rfl) ?_
        refine wl_split 60 rfl (fun c121 => ?_) (fun c121 => ?_)
        ·
         exfalso
         have ho_ := hout (by omega) (by omega)
         omega
        ·
         refine wl_v rfl rfl (ov_move _ rfl) ?_
         refine wl_v rfl rfl (ov_move _ rfl) ?_
         refine wl_v rfl rfl (ov_indexAddrN _ _ _ _ _ k rfl rfl es27 rfl (by first | assumption | omega | (simp only [List.length_take, List.length_drop, List.length_set]; omega))) ?_
         refine wl_v rfl rfl (ov_fieldAddr _ ((ad108).add (k * 5 + 1)) _ rfl fo34_1 (by first | exact Deep.add_add _ _ _ | (rw [Deep.add_add]) | rfl)) ?_
         refine wl_v rfl rfl (ov_load1 _ _ rfl sh3 (Sx.ro_cell hv h (hc109 1 _ rfl))) ?_
         refine wl_v rfl rfl (ov_bin _ rfl rfl (binR_eql)) ?_
         refine wl_v rfl rfl (ov_move _ rfl) ?_
         refine wl_v rfl rfl (ov_move _ rfl) ?_
         refine wl_v rfl rfl (ov_len _ _ _ _ _ rfl es22) ?_
         refine wl_v rfl rfl (ov_bin _ rfl rfl (binR_geq)) ?_
         refine wl_v rfl rfl (ov_bin _ rfl rfl (binR_neb Try.underlying4)) ?_
         refine wl_v rfl rfl (ov_pick_false _ rfl rfl) ?_
         refine wl_v rfl rfl (ov_move _ rfl) ?_
         refine wl_split 73 rfl (fun c122 => ?_) (fun c122 => ?_)
         ·
          exfalso
          have ho_ := hout (by omega) (by omega)
          apply c122
          rw [decide_eq_decide]
          omega
         ·
          refine wl_v rfl rfl (ov_move _ rfl) ?_
          refine wl_v rfl rfl (ov_move _ rfl) ?_
          refine wl_v rfl rfl (ov_indexAddrN _ _ _ _ _ k rfl rfl es27 rfl (by first | assumption | omega | (simp only [List.length_take, List.length_drop, List.length_set]; omega))) ?_
          refine wl_v rfl rfl (ov_fieldAddr _ ((ad108).add (k * 5 + 1)) _ rfl fo34_1 (by first | exact Deep.add_add _ _ _ | (rw [Deep.add_add]) | rfl)) ?_
          refine wl_v rfl rfl (ov_load1 _ _ rfl sh3 (Sx.ro_cell hv h (hc109 1 _ rfl))) ?_
          refine wl_v rfl rfl (ov_bin _ rfl rfl (binR_eql)) ?_
          refine wl_v rfl rfl (ov_move _ rfl) ?_
          refine wl_v rfl rfl (ov_move _ rfl) ?_
          refine wl_v rfl rfl (ov_len _ _ _ _ _ rfl es22) ?_
          refine wl_v rfl rfl (ov_bin _ rfl rfl (binR_geq)) ?_
          refine wl_v rfl rfl (ov_bin _ rfl rfl (binR_neb Try.underlying4)) ?_
          refine wl_v rfl rfl (ov_pick_false _ rfl rfl) ?_
          refine wl_nil ?_
          refine qn_then ?_
          refine wc_cond (by rfl) (fun c123 => ?_) (fun c123 => ?_)
          ·
           exfalso
           have ho_ := hout (by omega) (by omega)
           apply c123
           rw [decide_eq_decide]
           omega
          ·
           refine wc_skip ?_
           refine qn_then ?_
           refine wc_seq ?_
           refine wc_region ?_
           refine wl_v rfl rfl (ov_move _ rfl) ?_
           refine wl_v rfl rfl (ov_bin _ rfl rfl (binR_add (r := ((k : Int)) + 1) (Sx.w64 (by omega)))) ?_
           refine wl_v rfl rfl (ov_assign _ rfl) ?_
           refine wl_nil ?_
           refine qn_then ?_
           refine wc_exit ?_
           refine qn_then_exit ?_
           refine qn_block_exit ?_
           refine qn_then ?_
           refine wc_region ?_
           refine wl_v rfl rfl (ov_move _ rfl) ?_
           refine wl_v rfl rfl (ov_bin _ rfl rfl (binR_add (r := ((n : Int)) + 1) (Sx.w64 (by omega)))) ?_
           refine wl_v rfl rfl (ov_assign _ rfl) ?_
           refine wl_nil ?_
           refine qn_next ((n + 1), (k + 1)) (by show max a.length b.length - (n + 1) < max a.length b.length - n; omega) ⟨rfl, rfl, (congrArg (fun z_ => some (Value.slice (some ad108) z_ (cl))) (show (l.length : Nat) = l.length by first | rfl | simp)), (congrArg (fun z_ => some (Value.int .i64 z_)) (show (((k : Int)) + 1 : Int) = ((k + 1) : Int) by omega)), (congrArg (fun z_ => some (Value.int .i64 z_)) (show (((n : Int)) + 1 : Int) = ((n + 1) : Int) by omega)), trivial⟩ ?_
           show ((k + 1) = Pure.kat a b (n + 1) ∧ (n + 1) ≤ max a.length b.length) ∧ _
           exact ⟨⟨by first | omega | (have ho_ := hout (by omega) (by omega); omega) | (rcases hin (by omega) (by omega) with ⟨_, _, _, _, _⟩ | ⟨_, _, _⟩ <;> first | omega), by omega⟩, h⟩
       ·
        refine wc_skip ?_
        refine qn_then ?_
        refine wc_seq ?_
        refine wc_seq ?_
        refine wc_draw (fun w => Sx.St w0 F0 ([] ++ R) w) (by kernel_rfl) ?_
        replace h := st_drew h
        refine wa_tk 0 rfl rfl rfl (st_selT [] h) (fun w_ hS => ov_move _ rfl) ?_
        refine wa_tk 1 rfl rfl rfl (st_selT [] h) (fun w_ hS => ov_move _ rfl) ?_
        refine wa_tk 2 rfl rfl rfl (st_selT [] h) (fun w_ hS => ov_move _ rfl) ?_
        obtain ⟨ad124, rfl⟩ := Sx.C_some ((Sx.ro_C hv h hCa)) (k := n) (by first | assumption | omega)
        refine wa_tk 3 rfl rfl rfl (st_selT [] h) (fun w_ hS => ov_indexAddrN _ _ _ _ _ n rfl rfl es22 rfl (by first | assumption | omega | (simp only [List.length_take, List.length_drop, List.length_set]; omega))) ?_
        obtain ⟨cl127, _, hk126, hc125⟩ := Sx.C_cells (hCa) (z := z31) (k := n) (by first | assumption | omega)
        obtain ⟨A128, cp129, rfl, hl130, hn131⟩ := k31_open hk126
        refine wa_tk 4 rfl rfl rfl (st_selT [] h) (fun w_ hS => ov_loadN _ [.slice (A128) (((((a).getD n z31)).f0).length) (cp129)] rfl sh31 (by intro j u hu; rw [Deep.add_add]; exact Sx.ro_cell hv hS (hc125 _ _ hu))) ?_
        refine wa_tk 5 rfl rfl rfl (st_selT [] h) (fun w_ hS => ov_move _ rfl) ?_
        refine wa_tk 6 rfl rfl rfl (st_selT [] h) (fun w_ hS => ov_move _ rfl) ?_
        obtain ⟨ad132, rfl⟩ := Sx.C_some ((Sx.ro_C hv h hCb)) (k := n) (by first | assumption | omega)
        refine wa_tk 7 rfl rfl rfl (st_selT [] h) (fun w_ hS => ov_indexAddrN _ _ _ _ _ n rfl rfl es22 rfl (by first | assumption | omega | (simp only [List.length_take, List.length_drop, List.length_set]; omega))) ?_
        obtain ⟨cl135, _, hk134, hc133⟩ := Sx.C_cells (hCb) (z := z31) (k := n) (by first | assumption | omega)
        obtain ⟨A136, cp137, rfl, hl138, hn139⟩ := k31_open hk134
        refine wa_tk 8 rfl rfl rfl (st_selT [] h) (fun w_ hS => ov_loadN _ [.slice (A136) (((((b).getD n z31)).f0).length) (cp137)] rfl sh31 (by intro j u hu; rw [Deep.add_add]; exact Sx.ro_cell hv hS (hc133 _ _ hu))) ?_
        refine wa_one 9 rfl (by kernel_rfl) ?_
        refine wl_call _ rfl rfl rfl ent12 (regletref14_Page.calls 100 _ _ ((((a).getD n z31)).f0) _ _ ((((b).getD n z31)).f0) _ _ ((Sx.ro_C hv h hn131)) hl130 ((Sx.ro_C hv h hn139)) hl138 (Pure.page14_val _ _ (Pure.few_get hFa n (by omega)) (Pure.few_get hFb n (by omega)) 100 (by omega))) ?_
        rintro e_ w_ ⟨rfl, hB_⟩
        refine ⟨_, rfl, ?_⟩
        replace h := st_below h hB_
        refine wl_nil ?_
        refine qn_wa (st_selT [] h) ?_
        refine wa_tk 10 rfl rfl rfl (st_selT [] h) (fun w_ hS => ov_bin _ rfl rfl (binR_eqb Try.underlying4)) ?_
        refine wa_tk 11 rfl rfl rfl (st_selT [] h) (fun w_ hS => ov_move _ rfl) ?_
        refine wa_split 99 rfl (fun c140 => ?_) (fun c140 => ?_)
        ·
         exfalso
         rcases hin (by omega) (by omega) with ⟨hd_, hk_, he_, _⟩ | ⟨hd_, hk_, _⟩
         · rw [hd_] at c140; first | omega | (rw [decide_eq_true he_] at c140; exact absurd c140 (by decide)) | exact c140 (by decide)
         · rw [hd_] at c140; first | exact absurd c140 (by decide) | (rw [decide_eq_false (hk_ (by omega))] at c140; exact absurd c140 (by decide))
        ·
         refine wa_tk 12 rfl rfl rfl (st_selT [] h) (fun w_ hS => ov_move _ rfl) ?_
         refine wa_tk 13 rfl rfl rfl (st_selT [] h) (fun w_ hS => ov_move _ rfl) ?_
         refine wa_tk 14 rfl rfl rfl (st_selT [] h) (fun w_ hS => ov_move _ rfl) ?_
         refine wa_tk 15 rfl rfl rfl (st_selT [] h) (fun w_ hS => ov_indexAddrN _ _ _ _ _ n rfl rfl es22 rfl (by first | assumption | omega | (simp only [List.length_take, List.length_drop, List.length_set]; omega))) ?_
         refine wa_tk 16 rfl rfl rfl (st_selT [] h) (fun w_ hS => ov_loadN _ [.slice (A128) (((((a).getD n z31)).f0).length) (cp129)] rfl sh31 (by intro j u hu; rw [Deep.add_add]; exact Sx.ro_cell hv hS (hc125 _ _ hu))) ?_
         refine wa_tk 17 rfl rfl rfl (st_selT [] h) (fun w_ hS => ov_move _ rfl) ?_
         refine wa_tk 18 rfl rfl rfl (st_selT [] h) (fun w_ hS => ov_move _ rfl) ?_
         refine wa_tk 19 rfl rfl rfl (st_selT [] h) (fun w_ hS => ov_indexAddrN _ _ _ _ _ n rfl rfl es22 rfl (by first | assumption | omega | (simp only [List.length_take, List.length_drop, List.length_set]; omega))) ?_
         refine wa_tk 20 rfl rfl rfl (st_selT [] h) (fun w_ hS => ov_loadN _ [.slice (A136) (((((b).getD n z31)).f0).length) (cp137)] rfl sh31 (by intro j u hu; rw [Deep.add_add]; exact Sx.ro_cell hv hS (hc133 _ _ hu))) ?_
         refine wa_one 21 rfl (by kernel_rfl) ?_
         refine wl_call _ rfl rfl rfl ent13 (diff_Alike.calls 100 _ _ ((((a).getD n z31)).f0) _ _ ((((b).getD n z31)).f0) _ _ ((Sx.ro_C hv h hn131)) hl130 ((Sx.ro_C hv h hn139)) hl138 (Pure.alike_val _ _ (Pure.few_get hFa n (by omega)) (Pure.few_get hFb n (by omega)) 100 (by omega))) ?_
         rintro e_ w_ ⟨rfl, hB_⟩
         refine ⟨_, rfl, ?_⟩
         replace h := st_below h hB_
         refine wl_nil ?_
         refine qn_wa (st_selT [] h) ?_
         refine wa_tk 22 rfl rfl rfl (st_selT [] h) (fun w_ hS => ov_notb _ rfl) ?_
         refine wa_tk 23 rfl rfl rfl (st_selT [] h) (fun w_ hS => ov_bin _ rfl rfl (binR_neb Try.underlying4)) ?_
         refine wa_tk 24 rfl rfl rfl (st_selT [] h) (fun w_ hS => ov_pick_false _ rfl rfl) ?_
         refine wa_done (by kernel_rfl) ?_
         refine qn_then ?_
         refine wc_cond (by rfl) (fun c141 => ?_) (fun c141 => ?_)
         ·
          exfalso
          rcases hin (by omega) (by omega) with ⟨hd_, hk_, he_, _⟩ | ⟨hd_, hk_, _⟩
          · rw [hd_] at c141; first | omega | (rw [decide_eq_true he_] at c141; exact absurd c141 (by decide)) | exact c141 (by decide)
          · rw [hd_] at c141; first | exact absurd c141 (by decide) | (rw [decide_eq_false (hk_ (by omega))] at c141; exact absurd c141 (by decide))
         ·
          refine wc_skip ?_
          refine qn_then ?_
          refine wc_seq ?_
          refine wc_seq ?_
          refine wc_region ?_
          refine wl_v rfl rfl (ov_move _ rfl) ?_
          refine wl_v rfl rfl (ov_not _ (¬ (((((l).getD k z34)).f0 : Int) = ((n : Int)))) rfl (by first | exact decide_not.symm | simp)) ?_
          refine wl_nil ?_
          refine qn_then ?_
          refine wc_cond (by rfl) (fun c142 => ?_) (fun c142 => ?_)
          ·
           refine wc_exit ?_
           refine qn_then_exit ?_
           refine qn_block_exit ?_
           refine qn_then ?_
           refine wc_region ?_
           refine wl_v rfl rfl (ov_move _ rfl) ?_
           refine wl_v rfl rfl (ov_bin _ rfl rfl (binR_add (r := ((n : Int)) + 1) (Sx.w64 (by omega)))) ?_
           refine wl_v rfl rfl (ov_assign _ rfl) ?_
           refine wl_nil ?_
           refine qn_next ((n + 1), k) (by show max a.length b.length - (n + 1) < max a.length b.length - n; omega) ⟨(congrArg (fun z_ => some (Value.slice (some ad124) z_ (ca))) (show (a.length : Nat) = a.length by first | rfl | simp)), (congrArg (fun z_ => some (Value.slice (some ad132) z_ (cb))) (show (b.length : Nat) = b.length by first | rfl | simp)), (congrArg (fun z_ => some (Value.slice (some ad108) z_ (cl))) (show (l.length : Nat) = l.length by first | rfl | simp)), rfl, (congrArg (fun z_ => some (Value.int .i64 z_)) (show (((n : Int)) + 1 : Int) = ((n + 1) : Int) by omega)), trivial⟩ ?_
           show (k = Pure.kat a b (n + 1) ∧ (n + 1) ≤ max a.length b.length) ∧ _
           exact ⟨⟨by first | omega | (have ho_ := hout (by omega) (by omega); omega) | (rcases hin (by omega) (by omega) with ⟨_, _, _, _, _⟩ | ⟨_, _, _⟩ <;> first | omega), by omega⟩, h⟩
          ·
           obtain ⟨hdf, hk1, he1, hk2, ht⟩ := (hin (by omega) (by omega)).resolve_right (fun h_ => h_.2.1 (by omega) (by omega))
           have t1 := ht.kind
           have t2 := ht.f0
           have t3 := ht.o0
           have t4 := ht.le
           have t5 := ht.eq
           have t6 := ht.la
           have t7 := ht.lb
           have t8 := ht.sh.1
           refine wc_skip ?_
           refine qn_then ?_
           refine wc_seq ?_
           refine wc_region ?_
           refine wl_v rfl rfl (ov_move _ rfl) ?_
           refine wl_v rfl rfl (ov_move _ rfl) ?_
           refine wl_v rfl rfl (ov_indexAddrN _ _ _ _ _ k rfl rfl es27 rfl (by first | assumption | omega | (simp only [List.length_take, List.length_drop, List.length_set]; omega))) ?_
           refine wl_v rfl rfl (ov_loadN _ [.int .i64 ((((l).getD k z34)).f0), .int .i64 ((((l).getD k z34)).f1), .int .i64 ((((l).getD k z34)).f2), .int .i64 ((((l).getD k z34)).f3), .slice (A112) (((((l).getD k z34)).f4).length) (cp113)] rfl sh34 (by intro j u hu; rw [Deep.add_add]; exact Sx.ro_cell hv h (hc109 _ _ hu))) ?_
           refine wl_alloc _ h rfl rfl zo34 (fun b143 _ h => ?_)
           replace h : Sx.St _ _ (Sx.blk b143 [.int .i64 (0), .int .i64 (0), .int .i64 (0), .int .i64 (0), .slice (none) (0) (0)] 34 :: _) _ := h
           refine wl_storebN 0 [.int .i64 ((((l).getD k z34)).f0), .int .i64 ((((l).getD k z34)).f1), .int .i64 ((((l).getD k z34)).f2), .int .i64 ((((l).getD k z34)).f3), .slice (A112) (((((l).getD k z34)).f4).length) (cp113)] [.int .i64 ((((l).getD k z34)).f0), .int .i64 ((((l).getD k z34)).f1), .int .i64 ((((l).getD k z34)).f2), .int .i64 ((((l).getD k z34)).f3), .slice (A112) (((((l).getD k z34)).f4).length) (cp113)] h rfl rfl rfl rfl (by simp [Value.oneCell']) sh34 rfl rfl (fun _ h => ?_)
           refine wl_nil ?_
           refine qn_then ?_
           refine wc_seq ?_
           refine wc_region ?_
           refine wl_v rfl rfl (ov_move _ rfl) ?_
           refine wl_v rfl rfl (ov_bin _ rfl rfl (binR_add (r := ((k : Int)) + 1) (Sx.w64 (by omega)))) ?_
           refine wl_v rfl rfl (ov_assign _ rfl) ?_
           refine wl_nil ?_
           refine qn_then ?_
           refine wc_seq ?_
           refine wc_seq ?_
           refine wc_draw (fun w => Sx.St w0 F0 ([Sx.blk b143 [.int .i64 ((((l).getD k z34)).f0), .int .i64 ((((l).getD k z34)).f1), .int .i64 ((((l).getD k z34)).f2), .int .i64 ((((l).getD k z34)).f3), .slice (A112) (((((l).getD k z34)).f4).length) (cp113)] 34] ++ R) w) (by kernel_rfl) ?_
           replace h := st_drew h
           refine wa_tk 0 rfl rfl rfl (st_selT [true] h) (fun w_ hS => ov_fieldAddr _ ⟨b143, 1, none⟩ _ rfl fo34_1 rfl) ?_
           refine wa_tk 1 rfl rfl rfl (st_selT [true] h) (fun w_ hS => ov_loadb 0 _ hS rfl rfl sh3 rfl) ?_
           refine wa_tk 2 rfl rfl rfl (st_selT [true] h) (fun w_ hS => ov_bin _ rfl rfl (binR_neq)) ?_
           refine wa_tk 3 rfl rfl rfl (st_selT [true] h) (fun w_ hS => ov_move _ rfl) ?_
           refine wa_split 124 rfl (fun c144 => ?_) (fun c144 => ?_)
           ·
            exfalso
            omega
           ·
            refine wa_tk 4 rfl rfl rfl (st_selT [true] h) (fun w_ hS => ov_fieldAddr _ ⟨b143, 2, none⟩ _ rfl fo34_2 rfl) ?_
            refine wa_tk 5 rfl rfl rfl (st_selT [true] h) (fun w_ hS => ov_loadb 0 _ hS rfl rfl sh3 rfl) ?_
            refine wa_tk 6 rfl rfl rfl (st_selT [true] h) (fun w_ hS => ov_bin _ rfl rfl (binR_lss)) ?_
            refine wa_tk 7 rfl rfl rfl (st_selT [true] h) (fun w_ hS => ov_pick_false _ rfl rfl) ?_
            refine wa_tk 8 rfl rfl rfl (st_selT [true] h) (fun w_ hS => ov_move _ rfl) ?_
            refine wa_split 129 rfl (fun c145 => ?_) (fun c145 => ?_)
            ·
             exfalso
             omega
            ·
             refine wa_tk 9 rfl rfl rfl (st_selT [true] h) (fun w_ hS => ov_fieldAddr _ ⟨b143, 3, none⟩ _ rfl fo34_3 rfl) ?_
             refine wa_tk 10 rfl rfl rfl (st_selT [true] h) (fun w_ hS => ov_loadb 0 _ hS rfl rfl sh3 rfl) ?_
             refine wa_tk 11 rfl rfl rfl (st_selT [true] h) (fun w_ hS => ov_bin _ rfl rfl (binR_lss)) ?_
             refine wa_tk 12 rfl rfl rfl (st_selT [true] h) (fun w_ hS => ov_pick_false _ rfl rfl) ?_
             refine wa_tk 13 rfl rfl rfl (st_selT [true] h) (fun w_ hS => ov_move _ rfl) ?_
             refine wa_split 134 rfl (fun c146 => ?_) (fun c146 => ?_)
             ·
              exfalso
              omega
             ·
              refine wa_tk 14 rfl rfl rfl (st_selT [true] h) (fun w_ hS => ov_fieldAddr _ ⟨b143, 2, none⟩ _ rfl fo34_2 rfl) ?_
              refine wa_tk 15 rfl rfl rfl (st_selT [true] h) (fun w_ hS => ov_loadb 0 _ hS rfl rfl sh3 rfl) ?_
              refine wa_tk 16 rfl rfl rfl (st_selT [true] h) (fun w_ hS => ov_fieldAddr _ ⟨b143, 3, none⟩ _ rfl fo34_3 rfl) ?_
              refine wa_tk 17 rfl rfl rfl (st_selT [true] h) (fun w_ hS => ov_loadb 0 _ hS rfl rfl sh3 rfl) ?_
              refine wa_tk 18 rfl rfl rfl (st_selT [true] h) (fun w_ hS => ov_bin _ rfl rfl (binR_add (r := ((((l).getD k z34)).f2) + ((((l).getD k z34)).f3)) (Sx.w64 (by omega)))) ?_
              refine wa_tk 19 rfl rfl rfl (st_selT [true] h) (fun w_ hS => ov_move _ rfl) ?_
              refine wa_tk 20 rfl rfl rfl (st_selT [true] h) (fun w_ hS => ov_move _ rfl) ?_
              refine wa_tk 21 rfl rfl rfl (st_selT [true] h) (fun w_ hS => ov_indexAddrN _ _ _ _ _ n rfl rfl es22 rfl (by first | assumption | omega | (simp only [List.length_take, List.length_drop, List.length_set]; omega))) ?_
              refine wa_tk 22 rfl rfl rfl (st_selT [true] h) (fun w_ hS => ov_fieldAddr _ ((ad124).add (n * 1 + 0)) _ rfl fo31_0 (by first | exact Deep.add_add _ _ _ | (rw [Deep.add_add]) | rfl)) ?_
              refine wa_tk 23 rfl rfl rfl (st_selT [true] h) (fun w_ hS => ov_load1 _ _ rfl sh29 (Sx.ro_cell hv hS (hc125 0 _ rfl))) ?_
              refine wa_tk 24 rfl rfl rfl (st_selT [true] h) (fun w_ hS => ov_len _ _ _ _ _ rfl es29) ?_
              refine wa_tk 25 rfl rfl rfl (st_selT [true] h) (fun w_ hS => ov_bin _ rfl rfl (binR_gtr)) ?_
              refine wa_tk 26 rfl rfl rfl (st_selT [true] h) (fun w_ hS => ov_pick_false _ rfl rfl) ?_
              refine wa_tk 27 rfl rfl rfl (st_selT [true] h) (fun w_ hS => ov_move _ rfl) ?_
              refine wa_split 148 rfl (fun c147 => ?_) (fun c147 => ?_)
              ·
               exfalso
               omega
              ·
               refine wa_tk 28 rfl rfl rfl (st_selT [true] h) (fun w_ hS => ov_move _ rfl) ?_
               refine wa_tk 29 rfl rfl rfl (st_selT [true] h) (fun w_ hS => ov_move _ rfl) ?_
               refine wa_tk 30 rfl rfl rfl (st_selT [true] h) (fun w_ hS => ov_indexAddrN _ _ _ _ _ n rfl rfl es22 rfl (by first | assumption | omega | (simp only [List.length_take, List.length_drop, List.length_set]; omega))) ?_
               refine wa_tk 31 rfl rfl rfl (st_selT [true] h) (fun w_ hS => ov_fieldAddr _ ((ad124).add (n * 1 + 0)) _ rfl fo31_0 (by first | exact Deep.add_add _ _ _ | (rw [Deep.add_add]) | rfl)) ?_
               refine wa_tk 32 rfl rfl rfl (st_selT [true] h) (fun w_ hS => ov_load1 _ _ rfl sh29 (Sx.ro_cell hv hS (hc125 0 _ rfl))) ?_
               refine wa_tk 33 rfl rfl rfl (st_selT [true] h) (fun w_ hS => ov_len _ _ _ _ _ rfl es29) ?_
               refine wa_tk 34 rfl rfl rfl (st_selT [true] h) (fun w_ hS => ov_fieldAddr _ ⟨b143, 3, none⟩ _ rfl fo34_3 rfl) ?_
               refine wa_tk 35 rfl rfl rfl (st_selT [true] h) (fun w_ hS => ov_loadb 0 _ hS rfl rfl sh3 rfl) ?_
               refine wa_tk 36 rfl rfl rfl (st_selT [true] h) (fun w_ hS => ov_bin _ rfl rfl (binR_sub (r := (((((((a).getD n z31)).f0).length : Nat) : Int)) - ((((l).getD k z34)).f3)) (Sx.w64 (by omega)))) ?_
               refine wa_tk 37 rfl rfl rfl (st_selT [true] h) (fun w_ hS => ov_move _ rfl) ?_
               refine wa_tk 38 rfl rfl rfl (st_selT [true] h) (fun w_ hS => ov_move _ rfl) ?_
               refine wa_tk 39 rfl rfl rfl (st_selT [true] h) (fun w_ hS => ov_indexAddrN _ _ _ _ _ n rfl rfl es22 rfl (by first | assumption | omega | (simp only [List.length_take, List.length_drop, List.length_set]; omega))) ?_
               refine wa_tk 40 rfl rfl rfl (st_selT [true] h) (fun w_ hS => ov_fieldAddr _ ((ad132).add (n * 1 + 0)) _ rfl fo31_0 (by first | exact Deep.add_add _ _ _ | (rw [Deep.add_add]) | rfl)) ?_
               refine wa_tk 41 rfl rfl rfl (st_selT [true] h) (fun w_ hS => ov_load1 _ _ rfl sh29 (Sx.ro_cell hv hS (hc133 0 _ rfl))) ?_
               refine wa_tk 42 rfl rfl rfl (st_selT [true] h) (fun w_ hS => ov_len _ _ _ _ _ rfl es29) ?_
               refine wa_tk 43 rfl rfl rfl (st_selT [true] h) (fun w_ hS => ov_fieldAddr _ ⟨b143, 4, none⟩ _ rfl fo34_4 rfl) ?_
               refine wa_tk 44 rfl rfl rfl (st_selT [true] h) (fun w_ hS => ov_loadb 0 _ hS rfl rfl sh29 rfl) ?_
               refine wa_tk 45 rfl rfl rfl (st_selT [true] h) (fun w_ hS => ov_len _ _ _ _ _ rfl es29) ?_
               refine wa_tk 46 rfl rfl rfl (st_selT [true] h) (fun w_ hS => ov_bin _ rfl rfl (binR_sub (r := (((((((b).getD n z31)).f0).length : Nat) : Int)) - (((((((l).getD k z34)).f4).length : Nat) : Int))) (Sx.w64 (by omega)))) ?_
               refine wa_tk 47 rfl rfl rfl (st_selT [true] h) (fun w_ hS => ov_bin _ rfl rfl (binR_neq)) ?_
               refine wa_tk 48 rfl rfl rfl (st_selT [true] h) (fun w_ hS => ov_pick_false _ rfl rfl) ?_
               refine wa_done (by kernel_rfl) ?_
               refine qn_then ?_
               refine wc_cond (by rfl) (fun c148 => ?_) (fun c148 => ?_)
               ·
                exfalso
                omega
               ·
                refine wc_skip ?_
                refine qn_then ?_
                refine wc_seq ?_
                refine wc_region ?_
                refine wl_v rfl rfl (ov_fieldAddr _ ⟨b143, 3, none⟩ _ rfl fo34_3 rfl) ?_
                refine wl_v rfl rfl (ov_loadb 0 _ h rfl rfl sh3 rfl) ?_
                refine wl_v rfl rfl (ov_bin _ rfl rfl (binR_gtr)) ?_
                refine wl_v rfl rfl (ov_move _ rfl) ?_
                refine wl_split 173 rfl (fun c149 => ?_) (fun c149 => ?_)
                ·
                 refine wl_v rfl rfl (ov_fieldAddr _ ⟨b143, 4, none⟩ _ rfl fo34_4 rfl) ?_
                 refine wl_v rfl rfl (ov_loadb 0 _ h rfl rfl sh29 rfl) ?_
                 refine wl_v rfl rfl (ov_len _ _ _ _ _ rfl es29) ?_
                 refine wl_v rfl rfl (ov_bin _ rfl rfl (binR_gtr)) ?_
                 refine wl_v rfl rfl (ov_pick_true _ rfl rfl) ?_
                 refine wl_nil ?_
                 refine qn_then ?_
                 refine wc_cond (by rfl) (fun c150 => ?_) (fun c150 => ?_)
                 ·
                  refine wc_seq ?_
                  refine wc_draw (fun w => Sx.St w0 F0 ([Sx.blk b143 [.int .i64 ((((l).getD k z34)).f0), .int .i64 ((((l).getD k z34)).f1), .int .i64 ((((l).getD k z34)).f2), .int .i64 ((((l).getD k z34)).f3), .slice (A112) (((((l).getD k z34)).f4).length) (cp113)] 34] ++ R) w) (by kernel_rfl) ?_
                  replace h := st_drew h
                  refine wa_tk 0 rfl rfl rfl (st_selT [true] h) (fun w_ hS => ov_move _ rfl) ?_
                  refine wa_tk 1 rfl rfl rfl (st_selT [true] h) (fun w_ hS => ov_move _ rfl) ?_
                  refine wa_tk 2 rfl rfl rfl (st_selT [true] h) (fun w_ hS => ov_indexAddrN _ _ _ _ _ n rfl rfl es22 rfl (by first | assumption | omega | (simp only [List.length_take, List.length_drop, List.length_set]; omega))) ?_
                  refine wa_tk 3 rfl rfl rfl (st_selT [true] h) (fun w_ hS => ov_fieldAddr _ ((ad124).add (n * 1 + 0)) _ rfl fo31_0 (by first | exact Deep.add_add _ _ _ | (rw [Deep.add_add]) | rfl)) ?_
                  refine wa_tk 4 rfl rfl rfl (st_selT [true] h) (fun w_ hS => ov_load1 _ _ rfl sh29 (Sx.ro_cell hv hS (hc125 0 _ rfl))) ?_
                  refine wa_tk 5 rfl rfl rfl (st_selT [true] h) (fun w_ hS => ov_fieldAddr _ ⟨b143, 2, none⟩ _ rfl fo34_2 rfl) ?_
                  refine wa_tk 6 rfl rfl rfl (st_selT [true] h) (fun w_ hS => ov_loadb 0 _ hS rfl rfl sh3 rfl) ?_
                  obtain ⟨ad151, rfl⟩ := Sx.C_some ((Sx.ro_C hv h hn131)) (k := ((((l).getD k z34)).f2 : Int).toNat) (by first | assumption | omega)
                  refine wa_tk 7 rfl rfl rfl (st_selT [true] h) (fun w_ hS => ov_indexAddrN _ _ _ _ _ ((((l).getD k z34)).f2 : Int).toNat rfl rfl es29 (by omega) (by first | assumption | omega | (simp only [List.length_take, List.length_drop, List.length_set]; omega))) ?_
                  obtain ⟨cl154, _, hk153, hc152⟩ := Sx.C_cells (hn131) (z := z39) (k := ((((l).getD k z34)).f2 : Int).toNat) (by first | assumption | omega)
                  obtain ⟨A155, cp156, rfl, hl157, hn158⟩ := k39_open hk153
                  refine wa_tk 8 rfl rfl rfl (st_selT [true] h) (fun w_ hS => ov_loadN _ [.string (((((((a).getD n z31)).f0).getD ((((l).getD k z34)).f2 : Int).toNat z39)).f0), .slice (A155) ((((((((a).getD n z31)).f0).getD ((((l).getD k z34)).f2 : Int).toNat z39)).f1).length) (cp156), .int .i64 (((((((a).getD n z31)).f0).getD ((((l).getD k z34)).f2 : Int).toNat z39)).f2), .int .i64 (((((((a).getD n z31)).f0).getD ((((l).getD k z34)).f2 : Int).toNat z39)).f3), .int .i64 (((((((a).getD n z31)).f0).getD ((((l).getD k z34)).f2 : Int).toNat z39)).f4), .bool (((((((a).getD n z31)).f0).getD ((((l).getD k z34)).f2 : Int).toNat z39)).f5), .int .i64 (((((((a).getD n z31)).f0).getD ((((l).getD k z34)).f2 : Int).toNat z39)).f6), .bool (((((((a).getD n z31)).f0).getD ((((l).getD k z34)).f2 : Int).toNat z39)).f7), .bool (((((((a).getD n z31)).f0).getD ((((l).getD k z34)).f2 : Int).toNat z39)).f8)] rfl sh39 (by intro j u hu; rw [Deep.add_add]; exact Sx.ro_cell hv hS (hc152 _ _ hu))) ?_
                  refine wa_tk 9 rfl rfl rfl (st_selT [true] h) (fun w_ hS => ov_fieldAddr _ ⟨b143, 4, none⟩ _ rfl fo34_4 rfl) ?_
                  refine wa_tk 10 rfl rfl rfl (st_selT [true] h) (fun w_ hS => ov_loadb 0 _ hS rfl rfl sh29 rfl) ?_
                  obtain ⟨ad159, rfl⟩ := Sx.C_some ((Sx.ro_C hv h hn115)) (k := 0) (by first | assumption | omega)
                  refine wa_tk 11 rfl rfl rfl (st_selT [true] h) (fun w_ hS => ov_indexAddrN _ _ _ _ _ 0 rfl rfl es29 rfl (by first | assumption | omega | (simp only [List.length_take, List.length_drop, List.length_set]; omega))) ?_
                  obtain ⟨cl162, _, hk161, hc160⟩ := Sx.C_cells (hn115) (z := z39) (k := 0) (by first | assumption | omega)
                  obtain ⟨A163, cp164, rfl, hl165, hn166⟩ := k39_open hk161
                  refine wa_tk 12 rfl rfl rfl (st_selT [true] h) (fun w_ hS => ov_loadN _ [.string (((((((l).getD k z34)).f4).getD 0 z39)).f0), .slice (A163) ((((((((l).getD k z34)).f4).getD 0 z39)).f1).length) (cp164), .int .i64 (((((((l).getD k z34)).f4).getD 0 z39)).f2), .int .i64 (((((((l).getD k z34)).f4).getD 0 z39)).f3), .int .i64 (((((((l).getD k z34)).f4).getD 0 z39)).f4), .bool (((((((l).getD k z34)).f4).getD 0 z39)).f5), .int .i64 (((((((l).getD k z34)).f4).getD 0 z39)).f6), .bool (((((((l).getD k z34)).f4).getD 0 z39)).f7), .bool (((((((l).getD k z34)).f4).getD 0 z39)).f8)] rfl sh39 (by intro j u hu; rw [Deep.add_add]; exact Sx.ro_cell hv hS (hc160 _ _ hu))) ?_
                  refine wa_one 13 rfl (by kernel_rfl) ?_
                  refine wl_call _ rfl rfl rfl ent14 (regletref14_Line.calls 30 ((((((a).getD n z31)).f0).getD ((((l).getD k z34)).f2 : Int).toNat z39)).f0 _ _ ((((((a).getD n z31)).f0).getD ((((l).getD k z34)).f2 : Int).toNat z39)).f1 ((((((a).getD n z31)).f0).getD ((((l).getD k z34)).f2 : Int).toNat z39)).f2 ((((((a).getD n z31)).f0).getD ((((l).getD k z34)).f2 : Int).toNat z39)).f3 ((((((a).getD n z31)).f0).getD ((((l).getD k z34)).f2 : Int).toNat z39)).f4 ((((((a).getD n z31)).f0).getD ((((l).getD k z34)).f2 : Int).toNat z39)).f5 ((((((a).getD n z31)).f0).getD ((((l).getD k z34)).f2 : Int).toNat z39)).f6 ((((((a).getD n z31)).f0).getD ((((l).getD k z34)).f2 : Int).toNat z39)).f7 ((((((a).getD n z31)).f0).getD ((((l).getD k z34)).f2 : Int).toNat z39)).f8 ((((((l).getD k z34)).f4).getD 0 z39)).f0 _ _ ((((((l).getD k z34)).f4).getD 0 z39)).f1 ((((((l).getD k z34)).f4).getD 0 z39)).f2 ((((((l).getD k z34)).f4).getD 0 z39)).f3 ((((((l).getD k z34)).f4).getD 0 z39)).f4 ((((((l).getD k z34)).f4).getD 0 z39)).f5 ((((((l).getD k z34)).f4).getD 0 z39)).f6 ((((((l).getD k z34)).f4).getD 0 z39)).f7 ((((((l).getD k z34)).f4).getD 0 z39)).f8 _ _ ((Sx.ro_C hv h hn158)) hl157 ((Sx.ro_C hv h hn166)) hl165 (Pure.line_val ((((((a).getD n z31)).f0).getD ((((l).getD k z34)).f2 : Int).toNat z39)) ((((((l).getD k z34)).f4).getD 0 z39)) (Pure.short_get (Pure.few_get hFa n (by omega)) _ (by omega)) (Pure.short_get ht.sh _ (by omega)) 30 (by omega))) ?_
                  rintro e_ w_ ⟨rfl, hB_⟩
                  refine ⟨_, rfl, ?_⟩
                  replace h := st_below h hB_
                  refine wl_nil ?_
                  refine qn_wa (st_selT [true] h) ?_
                  refine wa_tk 14 rfl rfl rfl (st_selT [true] h) (fun w_ hS => ov_move _ rfl) ?_
                  refine wa_splitb 193 rfl (fun c167 => ?_) (fun c167 => ?_)
                  ·
                   exact absurd c167 (by rw [ht.first (by omega) (by omega)]; decide)
                  ·
                   refine wa_tk 15 rfl rfl rfl (st_selT [true] h) (fun w_ hS => ov_move _ rfl) ?_
                   refine wa_tk 16 rfl rfl rfl (st_selT [true] h) (fun w_ hS => ov_move _ rfl) ?_
                   refine wa_tk 17 rfl rfl rfl (st_selT [true] h) (fun w_ hS => ov_indexAddrN _ _ _ _ _ n rfl rfl es22 rfl (by first | assumption | omega | (simp only [List.length_take, List.length_drop, List.length_set]; omega))) ?_
                   refine wa_tk 18 rfl rfl rfl (st_selT [true] h) (fun w_ hS => ov_fieldAddr _ ((ad124).add (n * 1 + 0)) _ rfl fo31_0 (by first | exact Deep.add_add _ _ _ | (rw [Deep.add_add]) | rfl)) ?_
                   refine wa_tk 19 rfl rfl rfl (st_selT [true] h) (fun w_ hS => ov_load1 _ _ rfl sh29 (Sx.ro_cell hv hS (hc125 0 _ rfl))) ?_
                   refine wa_tk 20 rfl rfl rfl (st_selT [true] h) (fun w_ hS => ov_fieldAddr _ ⟨b143, 2, none⟩ _ rfl fo34_2 rfl) ?_
                   refine wa_tk 21 rfl rfl rfl (st_selT [true] h) (fun w_ hS => ov_loadb 0 _ hS rfl rfl sh3 rfl) ?_
                   refine wa_tk 22 rfl rfl rfl (st_selT [true] h) (fun w_ hS => ov_fieldAddr _ ⟨b143, 3, none⟩ _ rfl fo34_3 rfl) ?_
                   refine wa_tk 23 rfl rfl rfl (st_selT [true] h) (fun w_ hS => ov_loadb 0 _ hS rfl rfl sh3 rfl) ?_
                   refine wa_tk 24 rfl rfl rfl (st_selT [true] h) (fun w_ hS => ov_bin _ rfl rfl (binR_add (r := ((((l).getD k z34)).f2) + ((((l).getD k z34)).f3)) (Sx.w64 (by omega)))) ?_
                   refine wa_tk 25 rfl rfl rfl (st_selT [true] h) (fun w_ hS => ov_bin _ rfl rfl (binR_sub (r := (((((l).getD k z34)).f2) + ((((l).getD k z34)).f3)) - 1) (Sx.w64 (by omega)))) ?_
                   refine wa_tk 26 rfl rfl rfl (st_selT [true] h) (fun w_ hS => ov_indexAddrN _ _ _ _ _ ((((((l).getD k z34)).f2) + ((((l).getD k z34)).f3)) - 1 : Int).toNat rfl rfl es29 (by omega) (by first | assumption | omega | (simp only [List.length_take, List.length_drop, List.length_set]; omega))) ?_
                   obtain ⟨cl170, _, hk169, hc168⟩ := Sx.C_cells (hn131) (z := z39) (k := ((((((l).getD k z34)).f2) + ((((l).getD k z34)).f3)) - 1 : Int).toNat) (by first | assumption | omega)
                   obtain ⟨A171, cp172, rfl, hl173, hn174⟩ := k39_open hk169
                   refine wa_tk 27 rfl rfl rfl (st_selT [true] h) (fun w_ hS => ov_loadN _ [.string (((((((a).getD n z31)).f0).getD ((((((l).getD k z34)).f2) + ((((l).getD k z34)).f3)) - 1 : Int).toNat z39)).f0), .slice (A171) ((((((((a).getD n z31)).f0).getD ((((((l).getD k z34)).f2) + ((((l).getD k z34)).f3)) - 1 : Int).toNat z39)).f1).length) (cp172), .int .i64 (((((((a).getD n z31)).f0).getD ((((((l).getD k z34)).f2) + ((((l).getD k z34)).f3)) - 1 : Int).toNat z39)).f2), .int .i64 (((((((a).getD n z31)).f0).getD ((((((l).getD k z34)).f2) + ((((l).getD k z34)).f3)) - 1 : Int).toNat z39)).f3), .int .i64 (((((((a).getD n z31)).f0).getD ((((((l).getD k z34)).f2) + ((((l).getD k z34)).f3)) - 1 : Int).toNat z39)).f4), .bool (((((((a).getD n z31)).f0).getD ((((((l).getD k z34)).f2) + ((((l).getD k z34)).f3)) - 1 : Int).toNat z39)).f5), .int .i64 (((((((a).getD n z31)).f0).getD ((((((l).getD k z34)).f2) + ((((l).getD k z34)).f3)) - 1 : Int).toNat z39)).f6), .bool (((((((a).getD n z31)).f0).getD ((((((l).getD k z34)).f2) + ((((l).getD k z34)).f3)) - 1 : Int).toNat z39)).f7), .bool (((((((a).getD n z31)).f0).getD ((((((l).getD k z34)).f2) + ((((l).getD k z34)).f3)) - 1 : Int).toNat z39)).f8)] rfl sh39 (by intro j u hu; rw [Deep.add_add]; exact Sx.ro_cell hv hS (hc168 _ _ hu))) ?_
                   refine wa_tk 28 rfl rfl rfl (st_selT [true] h) (fun w_ hS => ov_fieldAddr _ ⟨b143, 4, none⟩ _ rfl fo34_4 rfl) ?_
                   refine wa_tk 29 rfl rfl rfl (st_selT [true] h) (fun w_ hS => ov_loadb 0 _ hS rfl rfl sh29 rfl) ?_
                   refine wa_tk 30 rfl rfl rfl (st_selT [true] h) (fun w_ hS => ov_fieldAddr _ ⟨b143, 4, none⟩ _ rfl fo34_4 rfl) ?_
                   refine wa_tk 31 rfl rfl rfl (st_selT [true] h) (fun w_ hS => ov_loadb 0 _ hS rfl rfl sh29 rfl) ?_
                   refine wa_tk 32 rfl rfl rfl (st_selT [true] h) (fun w_ hS => ov_len _ _ _ _ _ rfl es29) ?_
                   refine wa_tk 33 rfl rfl rfl (st_selT [true] h) (fun w_ hS => ov_bin _ rfl rfl (binR_sub (r := (((((((l).getD k z34)).f4).length : Nat) : Int)) - 1) (Sx.w64 (by omega)))) ?_
                   refine wa_tk 34 rfl rfl rfl (st_selT [true] h) (fun w_ hS => ov_indexAddrN _ _ _ _ _ ((((((l).getD k z34)).f4).length) - 1) rfl rfl es29 (by omega) (by first | assumption | omega | (simp only [List.length_take, List.length_drop, List.length_set]; omega))) ?_
                   obtain ⟨cl177, _, hk176, hc175⟩ := Sx.C_cells (hn115) (z := z39) (k := ((((((l).getD k z34)).f4).length) - 1)) (by first | assumption | omega)
                   obtain ⟨A178, cp179, rfl, hl180, hn181⟩ := k39_open hk176
                   refine wa_tk 35 rfl rfl rfl (st_selT [true] h) (fun w_ hS => ov_loadN _ [.string (((((((l).getD k z34)).f4).getD ((((((l).getD k z34)).f4).length) - 1) z39)).f0), .slice (A178) ((((((((l).getD k z34)).f4).getD ((((((l).getD k z34)).f4).length) - 1) z39)).f1).length) (cp179), .int .i64 (((((((l).getD k z34)).f4).getD ((((((l).getD k z34)).f4).length) - 1) z39)).f2), .int .i64 (((((((l).getD k z34)).f4).getD ((((((l).getD k z34)).f4).length) - 1) z39)).f3), .int .i64 (((((((l).getD k z34)).f4).getD ((((((l).getD k z34)).f4).length) - 1) z39)).f4), .bool (((((((l).getD k z34)).f4).getD ((((((l).getD k z34)).f4).length) - 1) z39)).f5), .int .i64 (((((((l).getD k z34)).f4).getD ((((((l).getD k z34)).f4).length) - 1) z39)).f6), .bool (((((((l).getD k z34)).f4).getD ((((((l).getD k z34)).f4).length) - 1) z39)).f7), .bool (((((((l).getD k z34)).f4).getD ((((((l).getD k z34)).f4).length) - 1) z39)).f8)] rfl sh39 (by intro j u hu; rw [Deep.add_add]; exact Sx.ro_cell hv hS (hc175 _ _ hu))) ?_
                   refine wa_one 36 rfl (by kernel_rfl) ?_
                   refine wl_call _ rfl rfl rfl ent14 (regletref14_Line.calls 30 ((((((a).getD n z31)).f0).getD ((((((l).getD k z34)).f2) + ((((l).getD k z34)).f3)) - 1 : Int).toNat z39)).f0 _ _ ((((((a).getD n z31)).f0).getD ((((((l).getD k z34)).f2) + ((((l).getD k z34)).f3)) - 1 : Int).toNat z39)).f1 ((((((a).getD n z31)).f0).getD ((((((l).getD k z34)).f2) + ((((l).getD k z34)).f3)) - 1 : Int).toNat z39)).f2 ((((((a).getD n z31)).f0).getD ((((((l).getD k z34)).f2) + ((((l).getD k z34)).f3)) - 1 : Int).toNat z39)).f3 ((((((a).getD n z31)).f0).getD ((((((l).getD k z34)).f2) + ((((l).getD k z34)).f3)) - 1 : Int).toNat z39)).f4 ((((((a).getD n z31)).f0).getD ((((((l).getD k z34)).f2) + ((((l).getD k z34)).f3)) - 1 : Int).toNat z39)).f5 ((((((a).getD n z31)).f0).getD ((((((l).getD k z34)).f2) + ((((l).getD k z34)).f3)) - 1 : Int).toNat z39)).f6 ((((((a).getD n z31)).f0).getD ((((((l).getD k z34)).f2) + ((((l).getD k z34)).f3)) - 1 : Int).toNat z39)).f7 ((((((a).getD n z31)).f0).getD ((((((l).getD k z34)).f2) + ((((l).getD k z34)).f3)) - 1 : Int).toNat z39)).f8 ((((((l).getD k z34)).f4).getD ((((((l).getD k z34)).f4).length) - 1) z39)).f0 _ _ ((((((l).getD k z34)).f4).getD ((((((l).getD k z34)).f4).length) - 1) z39)).f1 ((((((l).getD k z34)).f4).getD ((((((l).getD k z34)).f4).length) - 1) z39)).f2 ((((((l).getD k z34)).f4).getD ((((((l).getD k z34)).f4).length) - 1) z39)).f3 ((((((l).getD k z34)).f4).getD ((((((l).getD k z34)).f4).length) - 1) z39)).f4 ((((((l).getD k z34)).f4).getD ((((((l).getD k z34)).f4).length) - 1) z39)).f5 ((((((l).getD k z34)).f4).getD ((((((l).getD k z34)).f4).length) - 1) z39)).f6 ((((((l).getD k z34)).f4).getD ((((((l).getD k z34)).f4).length) - 1) z39)).f7 ((((((l).getD k z34)).f4).getD ((((((l).getD k z34)).f4).length) - 1) z39)).f8 _ _ ((Sx.ro_C hv h hn174)) hl173 ((Sx.ro_C hv h hn181)) hl180 (Pure.line_val ((((((a).getD n z31)).f0).getD ((((((l).getD k z34)).f2) + ((((l).getD k z34)).f3)) - 1 : Int).toNat z39)) ((((((l).getD k z34)).f4).getD ((((((l).getD k z34)).f4).length) - 1) z39)) (Pure.short_get (Pure.few_get hFa n (by omega)) _ (by omega)) (Pure.short_get ht.sh _ (by omega)) 30 (by omega))) ?_
                   rintro e_ w_ ⟨rfl, hB_⟩
                   refine ⟨_, rfl, ?_⟩
                   replace h := st_below h hB_
                   refine wl_nil ?_
                   refine qn_wa (st_selT [true] h) ?_
                   refine wa_tk 37 rfl rfl rfl (st_selT [true] h) (fun w_ hS => ov_pick_false _ rfl rfl) ?_
                   refine wa_done (by kernel_rfl) ?_
                   refine qn_then ?_
                   refine wc_condb (by rfl) (fun c182 => ?_) (fun c182 => ?_)
                   ·
                    exact absurd c182 (by rw [ht.last (by omega) (by omega)]; decide)
                   ·
                    refine wc_skip ?_
                    refine qn_block_normal ?_
                    refine qn_then ?_
                    refine wc_region ?_
                    refine wl_v rfl rfl (ov_move _ rfl) ?_
                    refine wl_v rfl rfl (ov_bin _ rfl rfl (binR_add (r := ((n : Int)) + 1) (Sx.w64 (by omega)))) ?_
                    refine wl_v rfl rfl (ov_assign _ rfl) ?_
                    refine wl_nil ?_
                    replace h := st_selT [false] h
                    refine qn_next ((n + 1), (k + 1)) (by show max a.length b.length - (n + 1) < max a.length b.length - n; omega) ⟨(congrArg (fun z_ => some (Value.slice (some ad124) z_ (ca))) (show (a.length : Nat) = a.length by first | rfl | simp)), (congrArg (fun z_ => some (Value.slice (some ad132) z_ (cb))) (show (b.length : Nat) = b.length by first | rfl | simp)), (congrArg (fun z_ => some (Value.slice (some ad108) z_ (cl))) (show (l.length : Nat) = l.length by first | rfl | simp)), (congrArg (fun z_ => some (Value.int .i64 z_)) (show (((k : Int)) + 1 : Int) = ((k + 1) : Int) by omega)), (congrArg (fun z_ => some (Value.int .i64 z_)) (show (((n : Int)) + 1 : Int) = ((n + 1) : Int) by omega)), trivial⟩ ?_
                    show ((k + 1) = Pure.kat a b (n + 1) ∧ (n + 1) ≤ max a.length b.length) ∧ _
                    exact ⟨⟨by first | omega | (have ho_ := hout (by omega) (by omega); omega) | (rcases hin (by omega) (by omega) with ⟨_, _, _, _, _⟩ | ⟨_, _, _⟩ <;> first | omega), by omega⟩, h⟩
                 ·
                  refine wc_skip ?_
                  refine qn_block_normal ?_
                  refine qn_then ?_
                  refine wc_region ?_
                  refine wl_v rfl rfl (ov_move _ rfl) ?_
                  refine wl_v rfl rfl (ov_bin _ rfl rfl (binR_add (r := ((n : Int)) + 1) (Sx.w64 (by omega)))) ?_
                  refine wl_v rfl rfl (ov_assign _ rfl) ?_
                  refine wl_nil ?_
                  replace h := st_selT [false] h
                  refine qn_next ((n + 1), (k + 1)) (by show max a.length b.length - (n + 1) < max a.length b.length - n; omega) ⟨(congrArg (fun z_ => some (Value.slice (some ad124) z_ (ca))) (show (a.length : Nat) = a.length by first | rfl | simp)), (congrArg (fun z_ => some (Value.slice (some ad132) z_ (cb))) (show (b.length : Nat) = b.length by first | rfl | simp)), (congrArg (fun z_ => some (Value.slice (some ad108) z_ (cl))) (show (l.length : Nat) = l.length by first | rfl | simp)), (congrArg (fun z_ => some (Value.int .i64 z_)) (show (((k : Int)) + 1 : Int) = ((k + 1) : Int) by omega)), (congrArg (fun z_ => some (Value.int .i64 z_)) (show (((n : Int)) + 1 : Int) = ((n + 1) : Int) by omega)), trivial⟩ ?_
                  show ((k + 1) = Pure.kat a b (n + 1) ∧ (n + 1) ≤ max a.length b.length) ∧ _
                  exact ⟨⟨by first | omega | (have ho_ := hout (by omega) (by omega); omega) | (rcases hin (by omega) (by omega) with ⟨_, _, _, _, _⟩ | ⟨_, _, _⟩ <;> first | omega), by omega⟩, h⟩
                ·
                 refine wl_skip rfl rfl ?_
                 refine wl_skip rfl rfl ?_
                 refine wl_skip rfl rfl ?_
                 refine wl_skip rfl rfl ?_
                 refine wl_v rfl rfl (ov_pick_false _ rfl rfl) ?_
                 refine wl_nil ?_
                 refine qn_then ?_
                 refine wc_cond_false rfl ?_
                 refine wc_skip ?_
                 refine qn_block_normal ?_
                 refine qn_then ?_
                 refine wc_region ?_
                 refine wl_v rfl rfl (ov_move _ rfl) ?_
                 refine wl_v rfl rfl (ov_bin _ rfl rfl (binR_add (r := ((n : Int)) + 1) (Sx.w64 (by omega)))) ?_
                 refine wl_v rfl rfl (ov_assign _ rfl) ?_
                 refine wl_nil ?_
                 replace h := st_selT [false] h
                 refine qn_next ((n + 1), (k + 1)) (by show max a.length b.length - (n + 1) < max a.length b.length - n; omega) ⟨(congrArg (fun z_ => some (Value.slice (some ad124) z_ (ca))) (show (a.length : Nat) = a.length by first | rfl | simp)), (congrArg (fun z_ => some (Value.slice (some ad132) z_ (cb))) (show (b.length : Nat) = b.length by first | rfl | simp)), (congrArg (fun z_ => some (Value.slice (some ad108) z_ (cl))) (show (l.length : Nat) = l.length by first | rfl | simp)), (congrArg (fun z_ => some (Value.int .i64 z_)) (show (((k : Int)) + 1 : Int) = ((k + 1) : Int) by omega)), (congrArg (fun z_ => some (Value.int .i64 z_)) (show (((n : Int)) + 1 : Int) = ((n + 1) : Int) by omega)), trivial⟩ ?_
                 show ((k + 1) = Pure.kat a b (n + 1) ∧ (n + 1) ≤ max a.length b.length) ∧ _
                 exact ⟨⟨by first | omega | (have ho_ := hout (by omega) (by omega); omega) | (rcases hin (by omega) (by omega) with ⟨_, _, _, _, _⟩ | ⟨_, _, _⟩ <;> first | omega), by omega⟩, h⟩
     ·
      refine wl_skip rfl rfl ?_
      refine wl_skip rfl rfl ?_
      refine wl_skip rfl rfl ?_
      refine wl_skip rfl rfl ?_
      refine wl_skip rfl rfl ?_
      refine wl_skip rfl rfl ?_
      refine wl_skip rfl rfl ?_
      refine wl_v rfl rfl (ov_pick_false _ rfl rfl) ?_
      refine wl_v rfl rfl (ov_assign _ rfl) ?_
      refine wl_nil ?_
      refine qn_then ?_
      refine wc_seq ?_
      refine wc_seq ?_
      refine wc_region ?_
      refine wl_v rfl rfl (ov_move _ rfl) ?_
      refine wl_v rfl rfl (ov_move _ rfl) ?_
      refine wl_v rfl rfl (ov_len _ _ _ _ _ rfl es22) ?_
      refine wl_v rfl rfl (ov_bin _ rfl rfl (binR_geq)) ?_
      refine wl_v rfl rfl (ov_move _ rfl) ?_
      refine wl_split 52 rfl (fun c183 => ?_) (fun c183 => ?_)
      ·
       refine wl_skip rfl rfl ?_
       refine wl_skip rfl rfl ?_
       refine wl_skip rfl rfl ?_
       refine wl_skip rfl rfl ?_
       refine wl_v rfl rfl (ov_pick_true _ rfl rfl) ?_
       refine wl_nil ?_
       refine qn_then ?_
       refine wc_cond_true rfl ?_
       refine wc_seq ?_
       refine wc_seq ?_
       refine wc_region ?_
       refine wl_v rfl rfl (ov_move _ rfl) ?_
       refine wl_v rfl rfl (ov_notb _ rfl) ?_
       refine wl_v rfl rfl (ov_move _ rfl) ?_
       refine wl_skip rfl rfl ?_
       refine wl_skip rfl rfl ?_
       refine wl_skip rfl rfl ?_
       refine wl_skip rfl rfl ?_
       refine wl_skip rfl rfl ?_
       refine wl_skip rfl rfl ?_
       refine wl_skip rfl rfl ?_
       refine wl_skip rfl rfl ?_
       refine wl_skip rfl rfl ?_
       refine wl_skip rfl rfl ?_
       refine wl_skip rfl rfl ?_
       refine wl_v rfl rfl (ov_pick_true _ rfl rfl) ?_
       refine wl_v rfl rfl (ov_move _ rfl) ?_
       refine wl_skip rfl rfl ?_
       refine wl_skip rfl rfl ?_
       refine wl_skip rfl rfl ?_
       refine wl_skip rfl rfl ?_
       refine wl_skip rfl rfl ?_
       refine wl_skip rfl rfl ?_
       refine wl_skip rfl rfl ?_
       refine wl_skip rfl rfl ?_
       refine wl_skip rfl rfl ?_
       refine wl_skip rfl rfl ?_
       refine wl_skip rfl rfl ?_
       refine wl_v rfl rfl (ov_pick_true _ rfl rfl) ?_
       refine wl_nil ?_
       refine qn_then ?_
       refine wc_cond_true rfl ?_
       refine wc_seq ?_
       refine wc_region ?_
       refine wl_v rfl rfl (ov_assign _ rfl) ?_
       refine wl_nil ?_
       refine qn_then ?_
       refine wc_ret ?_
       refine qn_then_ret ?_
       refine qn_then_ret ?_
       refine qn_block_ret ?_
       refine qn_then_ret ?_
       refine qn_then_ret ?_
       refine qn_block_ret ?_
       refine qn_then_ret ?_
       refine qn_ret [_] ⟨rfl, trivial⟩ ?_
       exfalso
       first | (have ho_ := hout (by omega) (by omega); omega) | omega
      ·
       refine wl_v rfl rfl (ov_move _ rfl) ?_
       refine wl_v rfl rfl (ov_move _ rfl) ?_
       refine wl_v rfl rfl (ov_len _ _ _ _ _ rfl es22) ?_
       refine wl_v rfl rfl (ov_bin _ rfl rfl (binR_geq)) ?_
       refine wl_v rfl rfl (ov_pick_false _ rfl rfl) ?_
       refine wl_nil ?_
       refine qn_then ?_
       refine wc_cond (by rfl) (fun c184 => ?_) (fun c184 => ?_)
       ·
        refine wc_seq ?_
        refine wc_seq ?_
        refine wc_region ?_
        refine wl_v rfl rfl (ov_move _ rfl) ?_
        refine wl_v rfl rfl (ov_notb _ rfl) ?_
        refine wl_v rfl rfl (ov_move _ rfl) ?_
        refine wl_skip rfl rfl ?_
        refine wl_skip rfl rfl ?_
        refine wl_skip rfl rfl ?_
        refine wl_skip rfl rfl ?_
        refine wl_skip rfl rfl ?_
        refine wl_skip rfl rfl ?_
        refine wl_skip rfl rfl ?_
        refine wl_skip rfl rfl ?_
        refine wl_skip rfl rfl ?_
        refine wl_skip rfl rfl ?_
        refine wl_skip rfl rfl ?_
        refine wl_v rfl rfl (ov_pick_true _ rfl rfl) ?_
        refine wl_v rfl rfl (ov_move _ rfl) ?_
        refine wl_skip rfl rfl ?_
        refine wl_skip rfl rfl ?_
        refine wl_skip rfl rfl ?_
        refine wl_skip rfl rfl ?_
        refine wl_skip rfl rfl ?_
        refine wl_skip rfl rfl ?_
        refine wl_skip rfl rfl ?_
        refine wl_skip rfl rfl ?_
        refine wl_skip rfl rfl ?_
        refine wl_skip rfl rfl ?_
        refine wl_skip rfl rfl ?_
        refine wl_v rfl rfl (ov_pick_true _ rfl rfl) ?_
        refine wl_nil ?_
        refine qn_then ?_
        refine wc_cond_true rfl ?_
        refine wc_seq ?_
        refine wc_region ?_
        refine wl_v rfl rfl (ov_assign _ rfl) ?_
        refine wl_nil ?_
        refine qn_then ?_
        refine wc_ret ?_
        refine qn_then_ret ?_
        refine qn_then_ret ?_
        refine qn_block_ret ?_
        refine qn_then_ret ?_
        refine qn_then_ret ?_
        refine qn_block_ret ?_
        refine qn_then_ret ?_
        refine qn_ret [_] ⟨rfl, trivial⟩ ?_
        exfalso
        first | (have ho_ := hout (by omega) (by omega); omega) | omega
       ·
        refine wc_skip ?_
        refine qn_then ?_
        refine wc_seq ?_
        refine wc_seq ?_
        refine wc_draw (fun w => Sx.St w0 F0 ([] ++ R) w) (by kernel_rfl) ?_
        replace h := st_drew h
        refine wa_tk 0 rfl rfl rfl (st_selT [] h) (fun w_ hS => ov_move _ rfl) ?_
        refine wa_tk 1 rfl rfl rfl (st_selT [] h) (fun w_ hS => ov_move _ rfl) ?_
        refine wa_tk 2 rfl rfl rfl (st_selT [] h) (fun w_ hS => ov_move _ rfl) ?_
        obtain ⟨ad185, rfl⟩ := Sx.C_some ((Sx.ro_C hv h hCa)) (k := n) (by first | assumption | omega)
        refine wa_tk 3 rfl rfl rfl (st_selT [] h) (fun w_ hS => ov_indexAddrN _ _ _ _ _ n rfl rfl es22 rfl (by first | assumption | omega | (simp only [List.length_take, List.length_drop, List.length_set]; omega))) ?_
        obtain ⟨cl188, _, hk187, hc186⟩ := Sx.C_cells (hCa) (z := z31) (k := n) (by first | assumption | omega)
        obtain ⟨A189, cp190, rfl, hl191, hn192⟩ := k31_open hk187
        refine wa_tk 4 rfl rfl rfl (st_selT [] h) (fun w_ hS => ov_loadN _ [.slice (A189) (((((a).getD n z31)).f0).length) (cp190)] rfl sh31 (by intro j u hu; rw [Deep.add_add]; exact Sx.ro_cell hv hS (hc186 _ _ hu))) ?_
        refine wa_tk 5 rfl rfl rfl (st_selT [] h) (fun w_ hS => ov_move _ rfl) ?_
        refine wa_tk 6 rfl rfl rfl (st_selT [] h) (fun w_ hS => ov_move _ rfl) ?_
        obtain ⟨ad193, rfl⟩ := Sx.C_some ((Sx.ro_C hv h hCb)) (k := n) (by first | assumption | omega)
        refine wa_tk 7 rfl rfl rfl (st_selT [] h) (fun w_ hS => ov_indexAddrN _ _ _ _ _ n rfl rfl es22 rfl (by first | assumption | omega | (simp only [List.length_take, List.length_drop, List.length_set]; omega))) ?_
        obtain ⟨cl196, _, hk195, hc194⟩ := Sx.C_cells (hCb) (z := z31) (k := n) (by first | assumption | omega)
        obtain ⟨A197, cp198, rfl, hl199, hn200⟩ := k31_open hk195
        refine wa_tk 8 rfl rfl rfl (st_selT [] h) (fun w_ hS => ov_loadN _ [.slice (A197) (((((b).getD n z31)).f0).length) (cp198)] rfl sh31 (by intro j u hu; rw [Deep.add_add]; exact Sx.ro_cell hv hS (hc194 _ _ hu))) ?_
        refine wa_one 9 rfl (by kernel_rfl) ?_
        refine wl_call _ rfl rfl rfl ent12 (regletref14_Page.calls 100 _ _ ((((a).getD n z31)).f0) _ _ ((((b).getD n z31)).f0) _ _ ((Sx.ro_C hv h hn192)) hl191 ((Sx.ro_C hv h hn200)) hl199 (Pure.page14_val _ _ (Pure.few_get hFa n (by omega)) (Pure.few_get hFb n (by omega)) 100 (by omega))) ?_
        rintro e_ w_ ⟨rfl, hB_⟩
        refine ⟨_, rfl, ?_⟩
        replace h := st_below h hB_
        refine wl_nil ?_
        refine qn_wa (st_selT [] h) ?_
        refine wa_tk 10 rfl rfl rfl (st_selT [] h) (fun w_ hS => ov_bin _ rfl rfl (binR_eqb Try.underlying4)) ?_
        refine wa_tk 11 rfl rfl rfl (st_selT [] h) (fun w_ hS => ov_move _ rfl) ?_
        refine wa_split 99 rfl (fun c201 => ?_) (fun c201 => ?_)
        ·
         exfalso
         rcases hin (by omega) (by omega) with ⟨hd_, hk_, he_, _⟩ | ⟨hd_, hk_, _⟩
         · rw [hd_] at c201; first | omega | (rw [decide_eq_true he_] at c201; exact absurd c201 (by decide)) | exact c201 (by decide)
         · rw [hd_] at c201; first | exact absurd c201 (by decide) | (rw [decide_eq_false (hk_ (by omega))] at c201; exact absurd c201 (by decide))
        ·
         refine wa_tk 12 rfl rfl rfl (st_selT [] h) (fun w_ hS => ov_move _ rfl) ?_
         refine wa_tk 13 rfl rfl rfl (st_selT [] h) (fun w_ hS => ov_move _ rfl) ?_
         refine wa_tk 14 rfl rfl rfl (st_selT [] h) (fun w_ hS => ov_move _ rfl) ?_
         refine wa_tk 15 rfl rfl rfl (st_selT [] h) (fun w_ hS => ov_indexAddrN _ _ _ _ _ n rfl rfl es22 rfl (by first | assumption | omega | (simp only [List.length_take, List.length_drop, List.length_set]; omega))) ?_
         refine wa_tk 16 rfl rfl rfl (st_selT [] h) (fun w_ hS => ov_loadN _ [.slice (A189) (((((a).getD n z31)).f0).length) (cp190)] rfl sh31 (by intro j u hu; rw [Deep.add_add]; exact Sx.ro_cell hv hS (hc186 _ _ hu))) ?_
         refine wa_tk 17 rfl rfl rfl (st_selT [] h) (fun w_ hS => ov_move _ rfl) ?_
         refine wa_tk 18 rfl rfl rfl (st_selT [] h) (fun w_ hS => ov_move _ rfl) ?_
         refine wa_tk 19 rfl rfl rfl (st_selT [] h) (fun w_ hS => ov_indexAddrN _ _ _ _ _ n rfl rfl es22 rfl (by first | assumption | omega | (simp only [List.length_take, List.length_drop, List.length_set]; omega))) ?_
         refine wa_tk 20 rfl rfl rfl (st_selT [] h) (fun w_ hS => ov_loadN _ [.slice (A197) (((((b).getD n z31)).f0).length) (cp198)] rfl sh31 (by intro j u hu; rw [Deep.add_add]; exact Sx.ro_cell hv hS (hc194 _ _ hu))) ?_
         refine wa_one 21 rfl (by kernel_rfl) ?_
         refine wl_call _ rfl rfl rfl ent13 (diff_Alike.calls 100 _ _ ((((a).getD n z31)).f0) _ _ ((((b).getD n z31)).f0) _ _ ((Sx.ro_C hv h hn192)) hl191 ((Sx.ro_C hv h hn200)) hl199 (Pure.alike_val _ _ (Pure.few_get hFa n (by omega)) (Pure.few_get hFb n (by omega)) 100 (by omega))) ?_
         rintro e_ w_ ⟨rfl, hB_⟩
         refine ⟨_, rfl, ?_⟩
         replace h := st_below h hB_
         refine wl_nil ?_
         refine qn_wa (st_selT [] h) ?_
         refine wa_tk 22 rfl rfl rfl (st_selT [] h) (fun w_ hS => ov_notb _ rfl) ?_
         refine wa_tk 23 rfl rfl rfl (st_selT [] h) (fun w_ hS => ov_bin _ rfl rfl (binR_neb Try.underlying4)) ?_
         refine wa_tk 24 rfl rfl rfl (st_selT [] h) (fun w_ hS => ov_pick_false _ rfl rfl) ?_
         refine wa_done (by kernel_rfl) ?_
         refine qn_then ?_
         refine wc_cond (by rfl) (fun c202 => ?_) (fun c202 => ?_)
         ·
          exfalso
          rcases hin (by omega) (by omega) with ⟨hd_, hk_, he_, _⟩ | ⟨hd_, hk_, _⟩
          · rw [hd_] at c202; first | omega | (rw [decide_eq_true he_] at c202; exact absurd c202 (by decide)) | exact c202 (by decide)
          · rw [hd_] at c202; first | exact absurd c202 (by decide) | (rw [decide_eq_false (hk_ (by omega))] at c202; exact absurd c202 (by decide))
         ·
          refine wc_skip ?_
          refine qn_then ?_
          refine wc_seq ?_
          refine wc_seq ?_
          refine wc_region ?_
          refine wl_v rfl rfl (ov_move _ rfl) ?_
          refine wl_v rfl rfl (ov_notb _ rfl) ?_
          refine wl_nil ?_
          refine qn_then ?_
          refine wc_cond_true rfl ?_
          refine wc_exit ?_
          refine qn_then_exit ?_
          refine qn_block_exit ?_
          refine qn_then ?_
          refine wc_region ?_
          refine wl_v rfl rfl (ov_move _ rfl) ?_
          refine wl_v rfl rfl (ov_bin _ rfl rfl (binR_add (r := ((n : Int)) + 1) (Sx.w64 (by omega)))) ?_
          refine wl_v rfl rfl (ov_assign _ rfl) ?_
          refine wl_nil ?_
          refine qn_next ((n + 1), k) (by show max a.length b.length - (n + 1) < max a.length b.length - n; omega) ⟨(congrArg (fun z_ => some (Value.slice (some ad185) z_ (ca))) (show (a.length : Nat) = a.length by first | rfl | simp)), (congrArg (fun z_ => some (Value.slice (some ad193) z_ (cb))) (show (b.length : Nat) = b.length by first | rfl | simp)), rfl, rfl, (congrArg (fun z_ => some (Value.int .i64 z_)) (show (((n : Int)) + 1 : Int) = ((n + 1) : Int) by omega)), trivial⟩ ?_
          show (k = Pure.kat a b (n + 1) ∧ (n + 1) ≤ max a.length b.length) ∧ _
          exact ⟨⟨by first | omega | (have ho_ := hout (by omega) (by omega); omega) | (rcases hin (by omega) (by omega) with ⟨_, _, _, _, _⟩ | ⟨_, _, _⟩ <;> first | omega), by omega⟩, h⟩
    ·
     refine wc_exit ?_
     refine qn_then_exit ?_
     refine qn_then_exit ?_
     refine qn_block_exit ?_
     refine qn_then ?_
     refine wc_seq ?_
     refine wc_region ?_
     refine wl_v rfl rfl (ov_move _ rfl) ?_
     refine wl_v rfl rfl (ov_move _ rfl) ?_
     refine wl_v rfl rfl (ov_len _ _ _ _ _ rfl es27) ?_
     refine wl_v rfl rfl (ov_bin _ rfl rfl (binR_eql)) ?_
     refine wl_v rfl rfl (ov_assign _ rfl) ?_
     refine wl_nil ?_
     refine qn_then ?_
     refine wc_ret ?_
     refine qn_ret [_] ⟨rfl, trivial⟩ ?_
     have b_ : (decide (((k : Int) : Int) = (((l.length : Nat) : Int)))) = true := by (have e1_ : n = max a.length b.length := (by omega); have e2_ := Pure.kat_end a b; rw [hdl, ← e1_] at e2_; exact decide_eq_true (by omega))
     exact ⟨congrArg (fun z => Ending.returned (Value.bool z)) b_, hfin_ _ (by have hz_ := h; rw [hF0_, hR0_, hw0_] at hz_; exact st_below0 hz_)⟩
end Go.Proofs.Ytemgnkloloaeoaa.L
