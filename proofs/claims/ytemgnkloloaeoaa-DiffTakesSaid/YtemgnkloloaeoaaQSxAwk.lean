/- Pruned by wip/prune.py. -/
import Derived.Test.YtemgnkloloaeoaaProg
import Derived.Test.YtemgnkloloaeoaaQSxGlue
import Derived.Test.YtemgnkloloaeoaaQSxKinds
import Derived.Test.YtemgnkloloaeoaaQDiffLib
import Derived.Test.YtemgnkloloaeoaaQPAllx5
import Derived.Test.YtemgnkloloaeoaaQPAllx6
namespace Go.Proofs.Ytemgnkloloaeoaa.W
open Go Go.RowKit Go.Proofs.YtemgnkloloaeoaaW.PrintWords Go.Proofs.Ytemgnkloloaeoaa.Kinds Go.Proofs.Ytemgnkloloaeoaa.PAll Go.Proofs.Ytemgnkloloaeoaa.Sx 
set_option linter.unusedVariables false
set_option linter.unusedSimpArgs false
theorem infb9 : (Try.prog.info? 9).map (fun i => (i.zero, i.size)) = some (some (.string (ByteArray.empty)), 1) := by kernel_rfl
theorem ent20 : Sx.Ent Try.prog 20 := ⟨Try.f20, Try.func20, by kernel_rfl, by kernel_rfl⟩
theorem infb31 : (Try.prog.info? 31).map (fun i => (i.zero, i.size)) = some (some (.agg #[.slice (none) (0) (0)]), 1) := by kernel_rfl
theorem ent11 : Sx.Ent Try.prog 11 := ⟨Try.f11, Try.func11, by kernel_rfl, by kernel_rfl⟩
theorem es27 : Sx.elemSz Try.prog 27 = some (34, 5) := by kernel_rfl
theorem fo34_1 : Sx.fieldOff Try.prog 34 1 = some 1 := by kernel_rfl
theorem sh3 : Sx.shapeOf Try.prog 3 = some (false, 1) := by kernel_rfl
theorem fo34_2 : Sx.fieldOff Try.prog 34 2 = some 2 := by kernel_rfl
theorem fo34_3 : Sx.fieldOff Try.prog 34 3 = some 3 := by kernel_rfl
theorem fo34_4 : Sx.fieldOff Try.prog 34 4 = some 4 := by kernel_rfl
theorem sh29 : Sx.shapeOf Try.prog 29 = some (false, 1) := by kernel_rfl
theorem es29 : Sx.elemSz Try.prog 29 = some (39, 9) := by kernel_rfl
theorem fo39_0 : Sx.fieldOff Try.prog 39 0 = some 0 := by kernel_rfl
theorem sh9 : Sx.shapeOf Try.prog 9 = some (false, 1) := by kernel_rfl
def aw1 : List S39 := [⟨ByteArray.mk #[97], [], 0, 1, 10, false, 0, false, false⟩, ⟨ByteArray.mk #[98], [], 0, 1, 10, false, 10, false, false⟩, ⟨ByteArray.mk #[99], [], 0, 1, 10, false, 20, false, false⟩]
def aw2 : List S39 := [⟨ByteArray.mk #[97], [], 0, 1, 10, false, 0, false, false⟩, ⟨ByteArray.mk #[120], [], 0, 1, 10, false, 10, false, false⟩, ⟨ByteArray.mk #[99], [], 0, 1, 10, false, 20, false, false⟩]
def awD : List S34 := [⟨0, 1, 1, 1, [⟨ByteArray.mk #[120], [], 0, 1, 10, false, 10, false, false⟩]⟩]
theorem awD_val : diff_Diff.f 200 [⟨aw1⟩] [⟨aw2⟩] 0 = some awD := by kernel_rfl
theorem aw1_val : regletlaw14_page.f 20 [ByteArray.mk #[97], ByteArray.mk #[98], ByteArray.mk #[99]] = some aw1 := by kernel_rfl
theorem aw2_val : regletlaw14_page.f 20 [ByteArray.mk #[97], ByteArray.mk #[120], ByteArray.mk #[99]] = some aw2 := by kernel_rfl
set_option maxHeartbeats 4000000 in
set_option maxRecDepth 100000 in
theorem awake_calls {w0 w : World} {F0 : Nat → Prop} {R : List Sx.HP}   (h : Sx.St w0 F0 ([] ++ R) w) : Calls Try.prog 8 #[] w (fun e w1 => e = .returned (.bool true) ∧ Sx.St w0 F0 R w1) := by
 refine Sx.calls_fn (vs := []) Try.func8 rfl Try.ntmps8 rfl ?_
 refine wc_seq ?_
 refine wc_region ?_
 refine wl_v rfl rfl (ov_assign _ rfl) ?_
 refine wl_nil ?_
 refine qn_then ?_
 refine wc_seq ?_
 refine wc_region ?_
 refine wl_lit (d := Kd.string) [(0, .string (ByteArray.mk #[97])), (1, .string (ByteArray.mk #[98])), (2, .string (ByteArray.mk #[99]))] _ [.string (ByteArray.mk #[97]), .string (ByteArray.mk #[98]), .string (ByteArray.mk #[99])] ([ByteArray.mk #[97], ByteArray.mk #[98], ByteArray.mk #[99]]) h rfl rfl rfl rfl Try.underlying58 infb9 rfl (by decide) (by kernel_rfl) rfl (fun _ _ _ => ((((Reps.none _ _).snoc ((Sx.mkStr (ByteArray.mk #[97]))) rfl).snoc ((Sx.mkStr (ByteArray.mk #[98]))) rfl).snoc ((Sx.mkStr (ByteArray.mk #[99]))) rfl)) (fun A1 cp2 _ h => ?_)
 have hrr_ := Sx.row_reads h (i := 0) rfl
 refine wl_call _ rfl rfl rfl ent20 (regletlaw14_page.calls 20 _ _ ([ByteArray.mk #[97], ByteArray.mk #[98], ByteArray.mk #[99]]) aw1 _ hrr_.2 hrr_.1 aw1_val) ?_
 rintro e_ w_ ⟨v_, rfl, hR_, hB_⟩
 refine ⟨_, rfl, ?_⟩
 obtain ⟨A3, cp4, Rs5, rfl, hR6, h⟩ := Lib.st_split (g := Prod.fst) Lib.flatL rfl Lib.el_L h hB_ (Kd.S_R hR_)
 replace h : Sx.St w0 F0 ([Sx.row Lib.kL 39 (A3) (cp4) (Rs5), Lib.lib (Lib.AllL Rs5), Sx.row Kd.string 9 (A1) (cp2) ([ByteArray.mk #[97], ByteArray.mk #[98], ByteArray.mk #[99]])] ++ R) _ := h
 refine wl_lit (d := Lib.kP) [(0, .agg #[.slice (A3) (Rs5.length) (cp4)])] _ [.slice (A3) (Rs5.length) (cp4)] ([((⟨(Rs5 : List Lib.LN).map (·.1)⟩ : S31), (⟨A3, Rs5.length, cp4⟩ : Lib.Hd))]) h rfl rfl rfl rfl Try.underlying22 infb31 rfl (by decide) (by kernel_rfl) rfl (fun _ _ _ => ((Reps.none _ _).snoc (Lib.kP_mkM _ _ _ (((⟨(Rs5 : List Lib.LN).map (·.1)⟩ : S31), (⟨A3, Rs5.length, cp4⟩ : Lib.Hd)))) rfl)) (fun A7 cp8 _ h => ?_)
 refine wl_lit (d := Kd.string) [(0, .string (ByteArray.mk #[97])), (1, .string (ByteArray.mk #[120])), (2, .string (ByteArray.mk #[99]))] _ [.string (ByteArray.mk #[97]), .string (ByteArray.mk #[120]), .string (ByteArray.mk #[99])] ([ByteArray.mk #[97], ByteArray.mk #[120], ByteArray.mk #[99]]) h rfl rfl rfl rfl Try.underlying58 infb9 rfl (by decide) (by kernel_rfl) rfl (fun _ _ _ => ((((Reps.none _ _).snoc ((Sx.mkStr (ByteArray.mk #[97]))) rfl).snoc ((Sx.mkStr (ByteArray.mk #[120]))) rfl).snoc ((Sx.mkStr (ByteArray.mk #[99]))) rfl)) (fun A9 cp10 _ h => ?_)
 have hrr_ := Sx.row_reads h (i := 0) rfl
 refine wl_call _ rfl rfl rfl ent20 (regletlaw14_page.calls 20 _ _ ([ByteArray.mk #[97], ByteArray.mk #[120], ByteArray.mk #[99]]) aw2 _ hrr_.2 hrr_.1 aw2_val) ?_
 rintro e_ w_ ⟨v_, rfl, hR_, hB_⟩
 refine ⟨_, rfl, ?_⟩
 obtain ⟨A11, cp12, Rs13, rfl, hR14, h⟩ := Lib.st_split (g := Prod.fst) Lib.flatL rfl Lib.el_L h hB_ (Kd.S_R hR_)
 replace h : Sx.St w0 F0 ([Sx.row Lib.kL 39 (A11) (cp12) (Rs13), Lib.lib (Lib.AllL Rs13), Sx.row Kd.string 9 (A9) (cp10) ([ByteArray.mk #[97], ByteArray.mk #[120], ByteArray.mk #[99]]), Sx.row Lib.kP 31 (A7) (cp8) ([((⟨(Rs5 : List Lib.LN).map (·.1)⟩ : S31), (⟨A3, Rs5.length, cp4⟩ : Lib.Hd))]), Sx.row Lib.kL 39 (A3) (cp4) (Rs5), Lib.lib (Lib.AllL Rs5), Sx.row Kd.string 9 (A1) (cp2) ([ByteArray.mk #[97], ByteArray.mk #[98], ByteArray.mk #[99]])] ++ R) _ := h
 refine wl_lit (d := Lib.kP) [(0, .agg #[.slice (A11) (Rs13.length) (cp12)])] _ [.slice (A11) (Rs13.length) (cp12)] ([((⟨(Rs13 : List Lib.LN).map (·.1)⟩ : S31), (⟨A11, Rs13.length, cp12⟩ : Lib.Hd))]) h rfl rfl rfl rfl Try.underlying22 infb31 rfl (by decide) (by kernel_rfl) rfl (fun _ _ _ => ((Reps.none _ _).snoc (Lib.kP_mkM _ _ _ (((⟨(Rs13 : List Lib.LN).map (·.1)⟩ : S31), (⟨A11, Rs13.length, cp12⟩ : Lib.Hd)))) rfl)) (fun A15 cp16 _ h => ?_)
 have hq0_ := Sx.row_reads h (i := 5) rfl
 have hp0_ := Sx.row_reads h (i := 4) rfl
 have hC0_ := Lib.up_P hp0_.2 (fun p_ hp_ => by rw [List.mem_singleton.1 hp_]; exact Lib.gp_new hq0_.1 hq0_.2 (Lib.lib_now h (i := 6) rfl))
 have he0_ : ([((⟨(Rs5 : List Lib.LN).map (·.1)⟩ : S31), (⟨A3, Rs5.length, cp4⟩ : Lib.Hd))]).map (·.1) = [(⟨aw1⟩ : S31)] := by show [(⟨Rs5.map (·.1)⟩ : S31)] = _; rw [show Rs5.map (·.1) = aw1 from hR6]
 rw [he0_] at hC0_
 have hq1_ := Sx.row_reads h (i := 1) rfl
 have hp1_ := Sx.row_reads h (i := 0) rfl
 have hC1_ := Lib.up_P hp1_.2 (fun p_ hp_ => by rw [List.mem_singleton.1 hp_]; exact Lib.gp_new hq1_.1 hq1_.2 (Lib.lib_now h (i := 2) rfl))
 have he1_ : ([((⟨(Rs13 : List Lib.LN).map (·.1)⟩ : S31), (⟨A11, Rs13.length, cp12⟩ : Lib.Hd))]).map (·.1) = [(⟨aw2⟩ : S31)] := by show [(⟨Rs13.map (·.1)⟩ : S31)] = _; rw [show Rs13.map (·.1) = aw2 from hR14]
 rw [he1_] at hC1_
 refine wl_call _ rfl rfl rfl ent11 (diff_Diff.calls 200 _ _ [⟨aw1⟩] _ _ [⟨aw2⟩] 0 awD _ hC0_ hp0_.1 hC1_ hp1_.1 awD_val) ?_
 rintro e_ w_ ⟨v_, rfl, hR_, hB_⟩
 refine ⟨_, rfl, ?_⟩
 replace h := st_below h hB_
 obtain ⟨Al, cl, rfl, hll, hCl⟩ := Kd.R_reads hR_
 replace h := st_selT [false, false, false, false, false, false, false, false] h
 obtain ⟨l, hld_⟩ : ∃ l_, l_ = awD := ⟨_, rfl⟩
 rw [← hld_] at hll hCl ⊢
 obtain ⟨S_, hS_⟩ : ∃ S_ : World → Prop, S_ = fun w2_ => Sx.St w0 F0 R w2_ := ⟨_, rfl⟩
 have hfin_ : ∀ w2_, Below w_.heap.size w_ w2_ → S_ w2_ := fun w2_ hb_ => by rw [hS_]; exact st_below h hb_
 try clear hv
 clear h
 obtain ⟨F0, hF0_, h, hv⟩ : ∃ F_ : Nat → Prop, F_ = (fun _ => False) ∧ Sx.St w_ F_ [] w_ ∧ Sx.RO w_ w_ F_ := ⟨_, rfl, st_start w_, Sx.ro_self w_⟩
 obtain ⟨R, hR0_, h⟩ : ∃ R_ : List Sx.HP, R_ = [] ∧ Sx.St w_ F0 R_ w_ := ⟨_, rfl, h⟩
 obtain ⟨w0, hw0_, hfin_, h, hv, hCl⟩ : ∃ z_, z_ = w_ ∧ (∀ w2_, Below z_.heap.size z_ w2_ → S_ w2_) ∧ Sx.St z_ F0 R w_ ∧ Sx.RO z_ z_ F0 ∧ k34.C z_ Al l.length l := ⟨w_, rfl, hfin_, h, hv, hCl⟩
 refine wl_v rfl rfl (ov_assign _ rfl) ?_
 refine wl_nil ?_
 refine qn_then ?_
 refine wc_seq ?_
 refine wc_region ?_
 refine wl_v rfl rfl (ov_move _ rfl) ?_
 refine wl_v rfl rfl (ov_len _ _ _ _ _ rfl es27) ?_
 refine wl_v rfl rfl (ov_bin _ rfl rfl (binR_eql)) ?_
 refine wl_v rfl rfl (ov_move _ rfl) ?_
 refine wl_split 12 rfl (fun c17 => ?_) (fun c17 => ?_)
 ·
  refine wl_v rfl rfl (ov_move _ rfl) ?_
  obtain ⟨ad18, rfl⟩ := Sx.C_some ((Sx.ro_C hv h hCl)) (k := 0) (by first | assumption | omega)
  refine wl_v rfl rfl (ov_indexAddrN _ _ _ _ _ 0 rfl rfl es27 rfl (by first | assumption | omega | (simp only [List.length_take, List.length_drop, List.length_set]; omega))) ?_
  refine wl_v rfl rfl (ov_fieldAddr _ ((ad18).add (0 * 5 + 1)) _ rfl fo34_1 (by first | exact Deep.add_add _ _ _ | (rw [Deep.add_add]) | rfl)) ?_
  obtain ⟨cl21, _, hk20, hc19⟩ := Sx.C_cells (hCl) (z := z34) (k := 0) (by first | assumption | omega)
  obtain ⟨A22, cp23, rfl, hl24, hn25⟩ := k34_open hk20
  refine wl_v rfl rfl (ov_load1 _ _ rfl sh3 (Sx.ro_cell hv h (hc19 1 _ rfl))) ?_
  refine wl_v rfl rfl (ov_bin _ rfl rfl (binR_eql)) ?_
  refine wl_v rfl rfl (ov_pick_true _ rfl rfl) ?_
  refine wl_v rfl rfl (ov_move _ rfl) ?_
  refine wl_split 19 rfl (fun c26 => ?_) (fun c26 => ?_)
  ·
   refine wl_v rfl rfl (ov_move _ rfl) ?_
   refine wl_v rfl rfl (ov_indexAddrN _ _ _ _ _ 0 rfl rfl es27 rfl (by first | assumption | omega | (simp only [List.length_take, List.length_drop, List.length_set]; omega))) ?_
   refine wl_v rfl rfl (ov_fieldAddr _ ((ad18).add (0 * 5 + 2)) _ rfl fo34_2 (by first | exact Deep.add_add _ _ _ | (rw [Deep.add_add]) | rfl)) ?_
   refine wl_v rfl rfl (ov_load1 _ _ rfl sh3 (Sx.ro_cell hv h (hc19 2 _ rfl))) ?_
   refine wl_v rfl rfl (ov_bin _ rfl rfl (binR_eql)) ?_
   refine wl_v rfl rfl (ov_pick_true _ rfl rfl) ?_
   refine wl_v rfl rfl (ov_move _ rfl) ?_
   refine wl_split 26 rfl (fun c27 => ?_) (fun c27 => ?_)
   ·
    refine wl_v rfl rfl (ov_move _ rfl) ?_
    refine wl_v rfl rfl (ov_indexAddrN _ _ _ _ _ 0 rfl rfl es27 rfl (by first | assumption | omega | (simp only [List.length_take, List.length_drop, List.length_set]; omega))) ?_
    refine wl_v rfl rfl (ov_fieldAddr _ ((ad18).add (0 * 5 + 3)) _ rfl fo34_3 (by first | exact Deep.add_add _ _ _ | (rw [Deep.add_add]) | rfl)) ?_
    refine wl_v rfl rfl (ov_load1 _ _ rfl sh3 (Sx.ro_cell hv h (hc19 3 _ rfl))) ?_
    refine wl_v rfl rfl (ov_bin _ rfl rfl (binR_eql)) ?_
    refine wl_v rfl rfl (ov_pick_true _ rfl rfl) ?_
    refine wl_v rfl rfl (ov_move _ rfl) ?_
    refine wl_split 33 rfl (fun c28 => ?_) (fun c28 => ?_)
    ·
     refine wl_v rfl rfl (ov_move _ rfl) ?_
     refine wl_v rfl rfl (ov_indexAddrN _ _ _ _ _ 0 rfl rfl es27 rfl (by first | assumption | omega | (simp only [List.length_take, List.length_drop, List.length_set]; omega))) ?_
     refine wl_v rfl rfl (ov_fieldAddr _ ((ad18).add (0 * 5 + 4)) _ rfl fo34_4 (by first | exact Deep.add_add _ _ _ | (rw [Deep.add_add]) | rfl)) ?_
     refine wl_v rfl rfl (ov_load1 _ _ rfl sh29 (Sx.ro_cell hv h (hc19 4 _ rfl))) ?_
     refine wl_v rfl rfl (ov_len _ _ _ _ _ rfl es29) ?_
     refine wl_v rfl rfl (ov_bin _ rfl rfl (binR_eql)) ?_
     refine wl_v rfl rfl (ov_pick_true _ rfl rfl) ?_
     refine wl_v rfl rfl (ov_move _ rfl) ?_
     refine wl_split 41 rfl (fun c29 => ?_) (fun c29 => ?_)
     ·
      refine wl_v rfl rfl (ov_move _ rfl) ?_
      refine wl_v rfl rfl (ov_indexAddrN _ _ _ _ _ 0 rfl rfl es27 rfl (by first | assumption | omega | (simp only [List.length_take, List.length_drop, List.length_set]; omega))) ?_
      refine wl_v rfl rfl (ov_fieldAddr _ ((ad18).add (0 * 5 + 4)) _ rfl fo34_4 (by first | exact Deep.add_add _ _ _ | (rw [Deep.add_add]) | rfl)) ?_
      refine wl_v rfl rfl (ov_load1 _ _ rfl sh29 (Sx.ro_cell hv h (hc19 4 _ rfl))) ?_
      obtain ⟨ad30, rfl⟩ := Sx.C_some ((Sx.ro_C hv h hn25)) (k := 0) (by first | assumption | omega)
      refine wl_v rfl rfl (ov_indexAddrN _ _ _ _ _ 0 rfl rfl es29 rfl (by first | assumption | omega | (simp only [List.length_take, List.length_drop, List.length_set]; omega))) ?_
      refine wl_v rfl rfl (ov_fieldAddr _ ((ad30).add (0 * 9 + 0)) _ rfl fo39_0 (by first | exact Deep.add_add _ _ _ | (rw [Deep.add_add]) | rfl)) ?_
      obtain ⟨cl33, _, hk32, hc31⟩ := Sx.C_cells (hn25) (z := z39) (k := 0) (by first | assumption | omega)
      obtain ⟨A34, cp35, rfl, hl36, hn37⟩ := k39_open hk32
      refine wl_v rfl rfl (ov_load1 _ _ rfl sh9 (Sx.ro_cell hv h (hc31 0 _ rfl))) ?_
      refine wl_v rfl rfl (ov_bin _ rfl rfl (binR_eqs)) ?_
      refine wl_v rfl rfl (ov_pick_true _ rfl rfl) ?_
      refine wl_v rfl rfl (ov_assign _ rfl) ?_
      refine wl_nil ?_
      refine qn_then ?_
      refine wc_ret ?_
      refine qn_ret [_] ⟨rfl, trivial⟩ ?_
      have b_ : (decide ((((((((l).getD 0 z34)).f4).getD 0 z39)).f0) = (ByteArray.mk #[120]))) = true := by subst hld_; rfl
      exact ⟨congrArg (fun z => Ending.returned (Value.bool z)) b_, (by have z_ := hfin_ _ (by have hz_ := h; rw [hF0_, hR0_] at hz_; exact st_below0 hz_); rw [hS_] at z_; exact z_)⟩
     ·
      exfalso
      subst hld_
      exact c29 rfl
    ·
     exfalso
     subst hld_
     exact c28 rfl
   ·
    exfalso
    subst hld_
    exact c27 rfl
  ·
   exfalso
   subst hld_
   exact c26 rfl
 ·
  exfalso
  subst hld_
  exact c17 rfl
end Go.Proofs.Ytemgnkloloaeoaa.W
