/- Pruned by wip/prune.py. -/
import Derived.Test.YtemgnkloloaeoaaProg
import Derived.Test.YtemgnkloloaeoaaQSxGlue
import Derived.Test.YtemgnkloloaeoaaQSxKinds
import Derived.Test.YtemgnkloloaeoaaQPureChain
import Derived.Test.YtemgnkloloaeoaaQPAllx6
import Derived.Test.YtemgnkloloaeoaaQPAllx12
import Derived.Test.YtemgnkloloaeoaaQSxOwnPatch
import Derived.Test.YtemgnkloloaeoaaQSxAwk
namespace Go.Proofs.Ytemgnkloloaeoaa.L
open Go Go.RowKit Go.Proofs.YtemgnkloloaeoaaW.PrintWords Go.Proofs.Ytemgnkloloaeoaa.Kinds Go.Proofs.Ytemgnkloloaeoaa.PAll Go.Proofs.Ytemgnkloloaeoaa.Sx 
set_option linter.unusedVariables false
set_option linter.unusedSimpArgs false
theorem ent8 : Sx.Ent Try.prog 8 := ⟨Try.f8, Try.func8, by kernel_rfl, by kernel_rfl⟩
theorem ent9 : Sx.Ent Try.prog 9 := ⟨Try.f9, Try.func9, by kernel_rfl, by kernel_rfl⟩
theorem ent15 : Sx.Ent Try.prog 15 := ⟨Try.f15, Try.func15, by kernel_rfl, by kernel_rfl⟩
theorem ent11 : Sx.Ent Try.prog 11 := ⟨Try.f11, Try.func11, by kernel_rfl, by kernel_rfl⟩
theorem ent16 : Sx.Ent Try.prog 16 := ⟨Try.f16, Try.func16, by kernel_rfl, by kernel_rfl⟩
theorem ent17 : Sx.Ent Try.prog 17 := ⟨Try.f17, Try.func17, by kernel_rfl, by kernel_rfl⟩
theorem es22 : Sx.elemSz Try.prog 22 = some (31, 1) := by kernel_rfl
theorem fo31_0 : Sx.fieldOff Try.prog 31 0 = some 0 := by kernel_rfl
theorem sh29 : Sx.shapeOf Try.prog 29 = some (false, 1) := by kernel_rfl
theorem es29 : Sx.elemSz Try.prog 29 = some (39, 9) := by kernel_rfl
theorem fo39_0 : Sx.fieldOff Try.prog 39 0 = some 0 := by kernel_rfl
theorem szf9 : (Try.prog.info? 9).map (·.size) = some 1 := by kernel_rfl
theorem es27 : Sx.elemSz Try.prog 27 = some (34, 5) := by kernel_rfl
set_option maxHeartbeats 4000000 in
set_option maxRecDepth 100000 in
theorem DiffPatches_calls {w0 w : World} {F0 : Nat → Prop} {R : List Sx.HP} {v0 : World} (a : List S31) (Aa : Option Addr) (ca : Nat) (b : List S31) (Ab : Option Addr) (cb : Nat) (hv : Sx.RO v0 w0 F0) (hla : a.length ≤ ca) (hCa : k31.C v0 Aa a.length a) (hma : a.length ≤ 9223372036854775807) (hlb : b.length ≤ cb) (hCb : k31.C v0 Ab b.length b) (hmb : b.length ≤ 9223372036854775807) (h : Sx.St w0 F0 ([] ++ R) w) : Calls Try.prog 5 #[.slice (Aa) (a.length) (ca), .slice (Ab) (b.length) (cb)] w (fun e w1 => e = .returned (.bool true) ∧ Sx.St w0 F0 R w1) := by
 refine Sx.calls_fn (vs := [.slice (Aa) (a.length) (ca), .slice (Ab) (b.length) (cb)]) Try.func5 rfl Try.ntmps5 rfl ?_
 refine wc_seq ?_
 refine wc_region ?_
 refine wl_v rfl rfl (ov_assign _ rfl) ?_
 refine wl_nil ?_
 refine qn_then ?_
 refine wc_seq ?_
 refine wc_seq ?_
 refine wc_region ?_
 refine wl_call _ rfl rfl rfl ent8 (W.awake_calls (R := [] ++ R) h) ?_
 rintro e_ w_ ⟨rfl, h⟩
 refine ⟨_, rfl, ?_⟩
 refine wl_v rfl rfl (ov_notb _ rfl) ?_
 refine wl_nil ?_
 refine qn_then ?_
 refine wc_cond_false rfl ?_
 refine wc_skip ?_
 refine qn_then ?_
 refine wc_seq ?_
 refine wc_seq ?_
 refine wc_region ?_
 refine wl_v rfl rfl (ov_move _ rfl) ?_
 obtain ⟨bf1, hb2, gf3⟩ := Pure.few_val a 1200 (by omega)
 refine wl_call _ rfl rfl rfl ent9 (regletlaw14_few.calls 1200 _ _ a bf1 _ ((Sx.ro_C hv h hCa)) hla hb2) ?_
 rintro e_ w_ ⟨rfl, hB_⟩
 refine ⟨_, rfl, ?_⟩
 replace h := st_below h hB_.below
 refine wl_v rfl rfl (ov_notb _ rfl) ?_
 refine wl_v rfl rfl (ov_move _ rfl) ?_
 refine wl_splitb 16 rfl (fun c4 => ?_) (fun c4 => ?_)
 ·
  refine wl_skip rfl rfl ?_
  refine wl_skip rfl rfl ?_
  refine wl_skip rfl rfl ?_
  refine wl_v rfl rfl (ov_pick_true _ rfl rfl) ?_
  refine wl_nil ?_
  refine qn_then ?_
  refine wc_cond_true rfl ?_
  refine wc_seq ?_
  refine wc_region ?_
  refine wl_v rfl rfl (ov_assign _ rfl) ?_
  refine wl_nil ?_
  refine qn_then ?_
  refine wc_ret ?_
  refine qn_then_ret ?_
  refine qn_ret [_] ⟨rfl, trivial⟩ ?_
  exact ⟨rfl, h⟩
 ·
  have hFa := gf3 (by simpa using c4)
  refine wl_v rfl rfl (ov_move _ rfl) ?_
  obtain ⟨bf5, hb6, gf7⟩ := Pure.few_val b 1200 (by omega)
  refine wl_call _ rfl rfl rfl ent9 (regletlaw14_few.calls 1200 _ _ b bf5 _ ((Sx.ro_C hv h hCb)) hlb hb6) ?_
  rintro e_ w_ ⟨rfl, hB_⟩
  refine ⟨_, rfl, ?_⟩
  replace h := st_below h hB_.below
  refine wl_v rfl rfl (ov_notb _ rfl) ?_
  refine wl_v rfl rfl (ov_pick_false _ rfl rfl) ?_
  refine wl_nil ?_
  refine qn_then ?_
  refine wc_condb (by rfl) (fun c8 => ?_) (fun c8 => ?_)
  ·
   refine wc_seq ?_
   refine wc_region ?_
   refine wl_v rfl rfl (ov_assign _ rfl) ?_
   refine wl_nil ?_
   refine qn_then ?_
   refine wc_ret ?_
   refine qn_then_ret ?_
   refine qn_ret [_] ⟨rfl, trivial⟩ ?_
   exact ⟨rfl, h⟩
  ·
   have hFb := gf7 (by simpa using c8)
   refine wc_skip ?_
   refine qn_then ?_
   refine wc_seq ?_
   refine wc_region ?_
   refine wl_v rfl rfl (ov_move _ rfl) ?_
   refine wl_call _ rfl rfl rfl ent15 (diff_Copy.calls 100 _ _ a _ _ ((Sx.ro_C hv h hCa)) hla (Pure.copyp_val a hFa)) ?_
   rintro e_ w_ ⟨v_, rfl, hR_, hB_⟩
   refine ⟨_, rfl, ?_⟩
   replace h := st_below h hB_
   obtain ⟨Ak, ck, rfl, hlk, hCk⟩ := Kd.R_reads hR_
   replace hCa := Sx.ro_C hv h hCa
   replace hCb := Sx.ro_C hv h hCb
   obtain ⟨S_, hS_⟩ : ∃ S_ : World → Prop, S_ = fun w2_ => Sx.St w0 F0 R w2_ := ⟨_, rfl⟩
   have hfin_ : ∀ w2_, Below w_.heap.size w_ w2_ → S_ w2_ := fun w2_ hb_ => by rw [hS_]; exact st_below h hb_
   try clear hv
   clear h
   obtain ⟨F0, hF0_, h, hv⟩ : ∃ F_ : Nat → Prop, F_ = (fun _ => False) ∧ Sx.St w_ F_ [] w_ ∧ Sx.RO w_ w_ F_ := ⟨_, rfl, st_start w_, Sx.ro_self w_⟩
   obtain ⟨R, hR0_, h⟩ : ∃ R_ : List Sx.HP, R_ = [] ∧ Sx.St w_ F0 R_ w_ := ⟨_, rfl, h⟩
   obtain ⟨w0, hw0_, hfin_, h, hv, hCa, hCb, hCk⟩ : ∃ z_, z_ = w_ ∧ (∀ w2_, Below z_.heap.size z_ w2_ → S_ w2_) ∧ Sx.St z_ F0 R w_ ∧ Sx.RO z_ z_ F0 ∧ k31.C z_ Aa a.length a ∧ k31.C z_ Ab b.length b ∧ k31.C z_ Ak a.length a := ⟨w_, rfl, hfin_, h, hv, hCa, hCb, hCk⟩
   refine wl_v rfl rfl (ov_assign _ rfl) ?_
   refine wl_nil ?_
   refine qn_then ?_
   refine wc_seq ?_
   refine wc_region ?_
   refine wl_v rfl rfl (ov_move _ rfl) ?_
   refine wl_v rfl rfl (ov_move _ rfl) ?_
   refine wl_call _ rfl rfl rfl ent11 (diff_Diff.calls 200 _ _ a _ _ b 0 (Pure.diffV a b) _ ((Sx.ro_C hv h hCa)) hla ((Sx.ro_C hv h hCb)) hlb (Pure.diff_val a b hFa hFb 200 (by omega))) ?_
   rintro e_ w_ ⟨v_, rfl, hR_, hB_⟩
   refine ⟨_, rfl, ?_⟩
   replace h := st_below h hB_
   obtain ⟨Al1, cl1, rfl, hll1, hCl1⟩ := Kd.R_reads hR_
   generalize hdl1 : Pure.diffV a b = l1 at hll1 hCl1 ⊢
   have hsl1 := Pure.diff_short hFa hFb
   rw [hdl1] at hsl1
   have hnl1 := (Pure.diff_mild a b hFa hFb).2.2
   rw [hdl1] at hnl1
   replace hCa := Sx.ro_C hv h hCa
   replace hCb := Sx.ro_C hv h hCb
   replace hCk := Sx.ro_C hv h hCk
   have hb1_ : Below w0.heap.size w0 w_ := by have hz_ := h; rw [hF0_, hR0_] at hz_; exact st_below0 hz_
   replace hfin_ : ∀ w2_, Below w_.heap.size w_ w2_ → S_ w2_ := fun w2_ hb_ => hfin_ w2_ (hb1_.trans (hb_.mono hb1_.size))
   try clear hv
   clear h
   obtain ⟨F0, hF0_, h, hv⟩ : ∃ F_ : Nat → Prop, F_ = (fun _ => False) ∧ Sx.St w_ F_ [] w_ ∧ Sx.RO w_ w_ F_ := ⟨_, rfl, st_start w_, Sx.ro_self w_⟩
   obtain ⟨R, hR0_, h⟩ : ∃ R_ : List Sx.HP, R_ = [] ∧ Sx.St w_ F0 R_ w_ := ⟨_, rfl, h⟩
   obtain ⟨w0, hw0_, hfin_, h, hv, hCa, hCb, hCk, hCl1⟩ : ∃ z_, z_ = w_ ∧ (∀ w2_, Below z_.heap.size z_ w2_ → S_ w2_) ∧ Sx.St z_ F0 R w_ ∧ Sx.RO z_ z_ F0 ∧ k31.C z_ Aa a.length a ∧ k31.C z_ Ab b.length b ∧ k31.C z_ Ak a.length a ∧ k34.C z_ Al1 l1.length l1 := ⟨w_, rfl, hfin_, h, hv, hCa, hCb, hCk, hCl1⟩
   refine wl_v rfl rfl (ov_assign _ rfl) ?_
   refine wl_nil ?_
   refine qn_then ?_
   refine wc_seq ?_
   refine wc_region ?_
   refine wl_v rfl rfl (ov_move _ rfl) ?_
   refine wl_v rfl rfl (ov_move _ rfl) ?_
   obtain ⟨z1, hzz1, hspz1, hFz1⟩ := Pure.patch_same hFa hFa hFb (Pure.sps_refl a)
   rw [hdl1] at hzz1
   have hcall_ := PO.Patch_owned (R := R) a Aa ca l1 Al1 cl1 hv hla hCa (by have := hFa.1; omega) hll1 hCl1 (by omega) hFa (by omega) hsl1 (by rw [hzz1]) h
   rw [hzz1] at hcall_
   refine wl_call _ rfl rfl rfl ent16 (hcall_) ?_
   rintro e_ w_ ⟨Ag, cg, ng, Ps, rfl, hng_, hPs_, h⟩
   refine ⟨_, rfl, ?_⟩
   replace hPs_ : (Ps.take ng).map (·.1) = z1 := hPs_
   obtain rfl : ng = z1.length := by rw [← hPs_, List.length_map, List.length_take]; omega
   replace h : Sx.St w0 F0 ([Sx.row Lib.kP 31 (Ag) (cg) (Ps), Lib.libS Ps (Lib.AllP Ps)] ++ R) _ := h
   refine wl_v rfl rfl (ov_move _ rfl) ?_
   refine wl_v rfl rfl (ov_extract [.slice (Ag) (z1.length) (cg), .int .i64 (0)] _ rfl rfl) ?_
   refine wl_v rfl rfl (ov_extract [.slice (Ag) (z1.length) (cg), .int .i64 (0)] _ rfl rfl) ?_
   refine wl_v rfl rfl (ov_assign _ rfl) ?_
   refine wl_v rfl rfl (ov_assign _ rfl) ?_
   refine wl_nil ?_
   refine qn_then ?_
   refine wc_seq ?_
   refine wc_seq ?_
   refine wc_region ?_
   refine wl_v rfl rfl (ov_move _ rfl) ?_
   refine wl_v rfl rfl (ov_bin (.bool false) rfl rfl (binR_neq)) ?_
   refine wl_v rfl rfl (ov_move _ rfl) ?_
   refine wl_v rfl rfl (ov_move _ rfl) ?_
   refine wl_v rfl rfl (ov_move _ rfl) ?_
   have hrr_ := Sx.row_reads h (i := 0) rfl
   have hll_ := Lib.libS_now h (i := 1) rfl
   have hCg_ : k31.C w_ Ag z1.length z1 := by
     have q_ := Lib.up_P (Lib.C_pre hrr_.2 hng_) (fun p_ hp_ => hll_ p_ (List.mem_of_mem_take hp_))
     rwa [hPs_] at q_
   refine wl_call _ rfl rfl rfl ent17 (regletref14_Pages.calls 200 _ _ z1 _ _ b _ _ hCg_ (by have := hrr_.1; omega) ((Sx.ro_C hv h hCb)) hlb (Pure.pages_val z1 b hFz1 hFb hspz1)) ?_
   rintro e_ w_ ⟨rfl, hB_⟩
   refine ⟨_, rfl, ?_⟩
   replace h := st_below h hB_
   refine wl_v rfl rfl (ov_notb _ rfl) ?_
   refine wl_v rfl rfl (ov_pick_false _ rfl rfl) ?_
   refine wl_v rfl rfl (ov_move _ rfl) ?_
   refine wl_v rfl rfl (ov_move _ rfl) ?_
   refine wl_v rfl rfl (ov_move _ rfl) ?_
   refine wl_call _ rfl rfl rfl ent17 (regletref14_Pages.calls 200 _ _ a _ _ a _ _ ((Sx.ro_C hv h hCk)) hlk ((Sx.ro_C hv h hCa)) hla (Pure.pages_val a a hFa hFa (Pure.sps_refl a))) ?_
   rintro e_ w_ ⟨rfl, hB_⟩
   refine ⟨_, rfl, ?_⟩
   replace h := st_below h hB_
   refine wl_v rfl rfl (ov_notb _ rfl) ?_
   refine wl_v rfl rfl (ov_pick_false _ rfl rfl) ?_
   refine wl_nil ?_
   refine qn_then ?_
   refine wc_cond_false rfl ?_
   refine wc_skip ?_
   refine qn_then ?_
   refine wc_seq ?_
   refine wc_seq ?_
   refine wc_region ?_
   refine wl_v rfl rfl (ov_assign _ rfl) ?_
   refine wl_nil ?_
   refine qn_then ?_
   refine wc_block ?_
   replace h := st_front 1 h
   have hN_ := Lib.hdr_small (Lib.libS_now h (i := 0) rfl) hPs_ hFz1
   have hz20_ := hFz1.1
   replace h := Lib.libS_imp (ψ := fun _ => True) h (fun _ _ => trivial)
   have hPl_ : (Ps.take z1.length).length = z1.length := by rw [List.length_take]; omega
   replace h := st_front 1 h
   refine wc_loop (fun (x_ : Nat × (Option Addr)) => [(0, .slice (Aa) (a.length) (ca)), (1, .slice (Ab) (b.length) (cb)), (5, .slice (Ak) (a.length) (ck)), (7, .slice (x_.2) (z1.length) (cg)), (9, .int .i64 ((x_.1 : Int)))]) (fun (x_ : Nat × (Option Addr)) (w : World) => (x_.1 ≤ z1.length) ∧ Sx.St w0 F0 ([Sx.row Lib.kP 31 (x_.2) (cg) (Ps), Lib.libS Ps (fun _ => True)] ++ R) w) (fun (x_ : Nat × (Option Addr)) => z1.length - x_.1) (0, Ag) ?_ ?_ ?_
   · exact ⟨rfl, rfl, rfl, rfl, (congrArg (fun z_ => some (Value.int .i64 z_)) (show (0 : Int) = (0 : Int) by omega)), trivial⟩
   · exact ⟨by first | omega | simp, h⟩
   rintro ⟨i, A⟩ w h
   obtain ⟨hJ, h⟩ := h
   replace hJ : i ≤ z1.length := hJ
   replace h : Sx.St w0 F0 ([Sx.row Lib.kP 31 (A) (cg) (Ps), Lib.libS Ps (fun _ => True)] ++ R) w := h
   show Sx.WC _ _ _ _ [(0, .slice (Aa) (a.length) (ca)), (1, .slice (Ab) (b.length) (cb)), (5, .slice (Ak) (a.length) (ck)), (7, .slice (A) (z1.length) (cg)), (9, .int .i64 ((i : Int)))] _
   refine wc_seq ?_
   refine wc_seq ?_
   refine wc_region ?_
   refine wl_v rfl rfl (ov_move _ rfl) ?_
   refine wl_v rfl rfl (ov_move _ rfl) ?_
   refine wl_v rfl rfl (ov_len _ _ _ _ _ rfl es22) ?_
   refine wl_v rfl rfl (ov_bin _ rfl rfl (binR_lss)) ?_
   refine wl_nil ?_
   refine qn_then ?_
   refine wc_cond (by rfl) (fun c9 => ?_) (fun c9 => ?_)
   ·
    refine wc_skip ?_
    refine qn_then ?_
    refine wc_seq ?_
    refine wc_block ?_
    refine wc_seq ?_
    refine wc_region ?_
    refine wl_v rfl rfl (ov_assign _ rfl) ?_
    refine wl_nil ?_
    refine qn_then ?_
    refine wc_block ?_
    replace h := st_front 1 h
    replace h := st_front 1 h
    refine wc_loop (fun (x_ : Nat × (Option Addr)) => [(0, .slice (Aa) (a.length) (ca)), (1, .slice (Ab) (b.length) (cb)), (5, .slice (Ak) (a.length) (ck)), (7, .slice (x_.2) (z1.length) (cg)), (9, .int .i64 ((i : Int))), (10, .int .i64 ((x_.1 : Int)))]) (fun (x_ : Nat × (Option Addr)) (w : World) => (x_.1 ≤ ((Ps.take z1.length).getD i Lib.zP).2.n) ∧ Sx.St w0 F0 ([Sx.row Lib.kP 31 (x_.2) (cg) (Ps), Lib.libS Ps (fun _ => True)] ++ R) w) (fun (x_ : Nat × (Option Addr)) => ((Ps.take z1.length).getD i Lib.zP).2.n - x_.1) (0, A) ?_ ?_ ?_
    · exact ⟨rfl, rfl, rfl, rfl, rfl, (congrArg (fun z_ => some (Value.int .i64 z_)) (show (0 : Int) = (0 : Int) by omega)), trivial⟩
    · exact ⟨by first | omega | simp, h⟩
    rintro ⟨k, B⟩ w h
    obtain ⟨hJ, h⟩ := h
    replace hJ : k ≤ ((Ps.take z1.length).getD i Lib.zP).2.n := hJ
    replace h : Sx.St w0 F0 ([Sx.row Lib.kP 31 (B) (cg) (Ps), Lib.libS Ps (fun _ => True)] ++ R) w := h
    show Sx.WC _ _ _ _ [(0, .slice (Aa) (a.length) (ca)), (1, .slice (Ab) (b.length) (cb)), (5, .slice (Ak) (a.length) (ck)), (7, .slice (B) (z1.length) (cg)), (9, .int .i64 ((i : Int))), (10, .int .i64 ((k : Int)))] _
    have hN2_ := hN_ i (by omega)
    refine wc_seq ?_
    refine wc_seq ?_
    refine wc_region ?_
    refine wl_v rfl rfl (ov_move _ rfl) ?_
    refine wl_v rfl rfl (ov_move _ rfl) ?_
    refine wl_v rfl rfl (ov_move _ rfl) ?_
    obtain ⟨ad10, rfl⟩ := Sx.C_some ((Lib.C_pre (Sx.row_reads h (i := 0) rfl).2 hng_)) (k := i) (by first | assumption | omega)
    refine wl_v rfl rfl (ov_indexAddrN _ _ _ _ _ i rfl rfl es22 rfl (by first | assumption | omega | (simp only [List.length_take, List.length_drop, List.length_set]; omega))) ?_
    refine wl_v rfl rfl (ov_fieldAddr _ ((ad10).add (i * 1 + 0)) _ rfl fo31_0 (by first | exact Deep.add_add _ _ _ | (rw [Deep.add_add]) | rfl)) ?_
    obtain ⟨cl13, _, hk12, hc11⟩ := Sx.C_cells ((Lib.C_pre (Sx.row_reads h (i := 0) rfl).2 hng_)) (z := Lib.zP) (k := i) (by first | assumption | omega)
    obtain rfl := Lib.kP_open hk12
    refine wl_v rfl rfl (ov_load1 _ _ rfl sh29 ((hc11 0 _ rfl))) ?_
    refine wl_v rfl rfl (ov_len _ _ _ _ _ rfl es29) ?_
    refine wl_v rfl rfl (ov_bin _ rfl rfl (binR_lss)) ?_
    refine wl_nil ?_
    refine qn_then ?_
    refine wc_cond (by rfl) (fun c14 => ?_) (fun c14 => ?_)
    ·
     refine wc_skip ?_
     refine qn_then ?_
     refine wc_seq ?_
     refine wc_block ?_
     refine wc_region ?_
     refine wl_v rfl rfl (ov_move _ rfl) ?_
     refine wl_v rfl rfl (ov_move _ rfl) ?_
     refine wl_v rfl rfl (ov_indexAddrN _ _ _ _ _ i rfl rfl es22 rfl (by first | assumption | omega | (simp only [List.length_take, List.length_drop, List.length_set]; omega))) ?_
     refine wl_v rfl rfl (ov_fieldAddr _ ((ad10).add (i * 1 + 0)) _ rfl fo31_0 (by first | exact Deep.add_add _ _ _ | (rw [Deep.add_add]) | rfl)) ?_
     obtain ⟨cl17, _, hk16, hc15⟩ := Sx.C_cells ((Lib.C_pre (Sx.row_reads h (i := 0) rfl).2 hng_)) (z := Lib.zP) (k := i) (by first | assumption | omega)
     obtain rfl := Lib.kP_open hk16
     refine wl_v rfl rfl (ov_load1 _ _ rfl sh29 ((hc15 0 _ rfl))) ?_
     refine wl_v rfl rfl (ov_move _ rfl) ?_
     have hmem_ : (Ps.take z1.length).getD i Lib.zP ∈ Ps := by rw [List.getD_eq_getElem?_getD, List.getElem?_eq_getElem (by rw [List.length_take]; omega)]; exact List.mem_of_mem_take (List.getElem_mem _)
     obtain ⟨ad19, hAh_⟩ := Lib.wr_some h (i := 1) rfl hmem_ (show k < _ by omega)
     rw [hAh_]
     refine wl_v rfl rfl (ov_indexAddrN _ _ _ _ _ k rfl rfl es29 rfl (by first | assumption | omega | (simp only [List.length_take, List.length_drop, List.length_set]; omega))) ?_
     refine wl_v rfl rfl (ov_fieldAddr _ ((ad19).add (k * 9 + 0)) _ rfl fo39_0 (by first | exact Deep.add_add _ _ _ | (rw [Deep.add_add]) | rfl)) ?_
     refine Lib.wl_spoil 1 k (.string (ByteArray.mk #[115, 112, 111, 105, 108, 116])) h rfl hmem_ hAh_ rfl rfl (by first | rfl | simp) rfl rfl rfl szf9 (by omega) (fun _ h => ?_)
     refine wl_nil ?_
     refine qn_block_normal ?_
     refine qn_then ?_
     refine wc_region ?_
     refine wl_v rfl rfl (ov_move _ rfl) ?_
     refine wl_v rfl rfl (ov_bin _ rfl rfl (binR_add (r := ((k : Int)) + 1) (Sx.w64 (by omega)))) ?_
     refine wl_v rfl rfl (ov_assign _ rfl) ?_
     refine wl_nil ?_
     replace h := st_front 1 h
     replace h := st_front 1 h
     refine qn_next ((k + 1), some ad10) (by show ((Ps.take z1.length).getD i Lib.zP).2.n - (k + 1) < ((Ps.take z1.length).getD i Lib.zP).2.n - k; omega) ⟨rfl, rfl, rfl, rfl, rfl, (congrArg (fun z_ => some (Value.int .i64 z_)) (show (((k : Int)) + 1 : Int) = ((k + 1) : Int) by omega)), trivial⟩ ?_
     show ((k + 1) ≤ ((Ps.take z1.length).getD i Lib.zP).2.n) ∧ _
     exact ⟨by first | omega | simp, h⟩
    ·
     refine wc_exit ?_
     refine qn_then_exit ?_
     refine qn_then_exit ?_
     refine qn_block_exit ?_
     refine qn_block_normal ?_
     refine qn_then ?_
     refine wc_region ?_
     refine wl_v rfl rfl (ov_move _ rfl) ?_
     refine wl_v rfl rfl (ov_bin _ rfl rfl (binR_add (r := ((i : Int)) + 1) (Sx.w64 (by omega)))) ?_
     refine wl_v rfl rfl (ov_assign _ rfl) ?_
     refine wl_nil ?_
     replace h := st_front 1 h
     replace h := st_front 1 h
     refine qn_next ((i + 1), some ad10) (by show z1.length - (i + 1) < z1.length - i; omega) ⟨rfl, rfl, rfl, rfl, (congrArg (fun z_ => some (Value.int .i64 z_)) (show (((i : Int)) + 1 : Int) = ((i + 1) : Int) by omega)), trivial⟩ ?_
     show ((i + 1) ≤ z1.length) ∧ _
     exact ⟨by first | omega | simp, h⟩
   ·
    refine wc_exit ?_
    refine qn_then_exit ?_
    refine qn_then_exit ?_
    refine qn_block_exit ?_
    refine qn_then ?_
    refine wc_seq ?_
    refine wc_region ?_
    refine wl_v rfl rfl (ov_move _ rfl) ?_
    refine wl_v rfl rfl (ov_move _ rfl) ?_
    refine wl_call _ rfl rfl rfl ent17 (regletref14_Pages.calls 200 _ _ a _ _ a _ _ ((Sx.ro_C hv h hCk)) hlk ((Sx.ro_C hv h hCa)) hla (Pure.pages_val a a hFa hFa (Pure.sps_refl a))) ?_
    rintro e_ w_ ⟨rfl, hB_⟩
    refine ⟨_, rfl, ?_⟩
    replace h := st_below h hB_
    refine wl_v rfl rfl (ov_move _ rfl) ?_
    refine wl_v rfl rfl (ov_move _ rfl) ?_
    refine wl_v rfl rfl (ov_move _ rfl) ?_
    replace h := st_selT [false, false] h
    refine wl_call _ rfl rfl rfl ent11 (diff_Diff.calls 200 _ _ b _ _ b 0 (Pure.diffV b b) _ ((Sx.ro_C hv h hCb)) hlb ((Sx.ro_C hv h hCb)) hlb (Pure.diff_val b b hFb hFb 200 (by omega))) ?_
    rintro e_ w_ ⟨v_, rfl, hR_, hB_⟩
    refine ⟨_, rfl, ?_⟩
    replace h := st_below h hB_
    obtain ⟨Al2, cl2, rfl, hll2, hCl2⟩ := Kd.R_reads hR_
    generalize hdl2 : Pure.diffV b b = l2 at hll2 hCl2 ⊢
    have hsl2 := Pure.diff_short hFb hFb
    rw [hdl2] at hsl2
    have hnl2 := (Pure.diff_mild b b hFb hFb).2.2
    rw [hdl2] at hnl2
    replace hCa := Sx.ro_C hv h hCa
    replace hCb := Sx.ro_C hv h hCb
    replace hCk := Sx.ro_C hv h hCk
    replace hCl1 := Sx.ro_C hv h hCl1
    have hb1_ : Below w0.heap.size w0 w_ := by have hz_ := h; rw [hF0_, hR0_] at hz_; exact st_below0 hz_
    replace hfin_ : ∀ w2_, Below w_.heap.size w_ w2_ → S_ w2_ := fun w2_ hb_ => hfin_ w2_ (hb1_.trans (hb_.mono hb1_.size))
    try clear hv
    clear h
    obtain ⟨F0, hF0_, h, hv⟩ : ∃ F_ : Nat → Prop, F_ = (fun _ => False) ∧ Sx.St w_ F_ [] w_ ∧ Sx.RO w_ w_ F_ := ⟨_, rfl, st_start w_, Sx.ro_self w_⟩
    obtain ⟨R, hR0_, h⟩ : ∃ R_ : List Sx.HP, R_ = [] ∧ Sx.St w_ F0 R_ w_ := ⟨_, rfl, h⟩
    obtain ⟨w0, hw0_, hfin_, h, hv, hCa, hCb, hCk, hCl1, hCl2⟩ : ∃ z_, z_ = w_ ∧ (∀ w2_, Below z_.heap.size z_ w2_ → S_ w2_) ∧ Sx.St z_ F0 R w_ ∧ Sx.RO z_ z_ F0 ∧ k31.C z_ Aa a.length a ∧ k31.C z_ Ab b.length b ∧ k31.C z_ Ak a.length a ∧ k34.C z_ Al1 l1.length l1 ∧ k34.C z_ Al2 l2.length l2 := ⟨w_, rfl, hfin_, h, hv, hCa, hCb, hCk, hCl1, hCl2⟩
    have hnill2 : l2.length = 0 := by rw [← hdl2, Pure.diff_nil hFb]; rfl
    refine wl_v rfl rfl (ov_len _ _ _ _ _ rfl es27) ?_
    refine wl_v rfl rfl (ov_bin _ rfl rfl (binR_eql)) ?_
    refine wl_v rfl rfl (ov_pick_true _ rfl rfl) ?_
    refine wl_v rfl rfl (ov_move _ rfl) ?_
    refine wl_split 80 rfl (fun c20 => ?_) (fun c20 => ?_)
    ·
     refine wl_v rfl rfl (ov_move _ rfl) ?_
     refine wl_v rfl rfl (ov_move _ rfl) ?_
     refine wl_call _ rfl rfl rfl ent11 (diff_Diff.calls 200 _ _ a _ _ a 0 (Pure.diffV a a) _ ((Sx.ro_C hv h hCa)) hla ((Sx.ro_C hv h hCk)) hlk (Pure.diff_val a a hFa hFa 200 (by omega))) ?_
     rintro e_ w_ ⟨v_, rfl, hR_, hB_⟩
     refine ⟨_, rfl, ?_⟩
     replace h := st_below h hB_
     obtain ⟨Al3, cl3, rfl, hll3, hCl3⟩ := Kd.R_reads hR_
     generalize hdl3 : Pure.diffV a a = l3 at hll3 hCl3 ⊢
     have hsl3 := Pure.diff_short hFa hFa
     rw [hdl3] at hsl3
     have hnl3 := (Pure.diff_mild a a hFa hFa).2.2
     rw [hdl3] at hnl3
     replace hCa := Sx.ro_C hv h hCa
     replace hCb := Sx.ro_C hv h hCb
     replace hCk := Sx.ro_C hv h hCk
     replace hCl1 := Sx.ro_C hv h hCl1
     replace hCl2 := Sx.ro_C hv h hCl2
     have hb1_ : Below w0.heap.size w0 w_ := by have hz_ := h; rw [hF0_, hR0_] at hz_; exact st_below0 hz_
     replace hfin_ : ∀ w2_, Below w_.heap.size w_ w2_ → S_ w2_ := fun w2_ hb_ => hfin_ w2_ (hb1_.trans (hb_.mono hb1_.size))
     try clear hv
     clear h
     obtain ⟨F0, hF0_, h, hv⟩ : ∃ F_ : Nat → Prop, F_ = (fun _ => False) ∧ Sx.St w_ F_ [] w_ ∧ Sx.RO w_ w_ F_ := ⟨_, rfl, st_start w_, Sx.ro_self w_⟩
     obtain ⟨R, hR0_, h⟩ : ∃ R_ : List Sx.HP, R_ = [] ∧ Sx.St w_ F0 R_ w_ := ⟨_, rfl, h⟩
     obtain ⟨w0, hw0_, hfin_, h, hv, hCa, hCb, hCk, hCl1, hCl2, hCl3⟩ : ∃ z_, z_ = w_ ∧ (∀ w2_, Below z_.heap.size z_ w2_ → S_ w2_) ∧ Sx.St z_ F0 R w_ ∧ Sx.RO z_ z_ F0 ∧ k31.C z_ Aa a.length a ∧ k31.C z_ Ab b.length b ∧ k31.C z_ Ak a.length a ∧ k34.C z_ Al1 l1.length l1 ∧ k34.C z_ Al2 l2.length l2 ∧ k34.C z_ Al3 l3.length l3 := ⟨w_, rfl, hfin_, h, hv, hCa, hCb, hCk, hCl1, hCl2, hCl3⟩
     have hnill3 : l3.length = 0 := by rw [← hdl3, Pure.diff_nil hFa]; rfl
     refine wl_v rfl rfl (ov_len _ _ _ _ _ rfl es27) ?_
     refine wl_v rfl rfl (ov_bin _ rfl rfl (binR_eql)) ?_
     refine wl_v rfl rfl (ov_pick_true _ rfl rfl) ?_
     refine wl_v rfl rfl (ov_assign _ rfl) ?_
     refine wl_nil ?_
     refine qn_then ?_
     refine wc_ret ?_
     refine qn_ret [_] ⟨rfl, trivial⟩ ?_
     have b_ : (decide ((((l3.length : Nat) : Int) : Int) = 0)) = true := by first | (apply decide_eq_true; omega) | simp_all
     exact ⟨congrArg (fun z => Ending.returned (Value.bool z)) b_, (by have z_ := hfin_ _ (by have hz_ := h; rw [hF0_, hR0_] at hz_; exact st_below0 hz_); rw [hS_] at z_; exact z_)⟩
    ·
     exfalso
     omega
end Go.Proofs.Ytemgnkloloaeoaa.L
