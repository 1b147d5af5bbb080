/- Pruned by wip/prune.py. -/
import Derived.Test.YtemgnkloloaeoaaProg
import Derived.Test.YtemgnkloloaeoaaQSxGlue
import Derived.Test.YtemgnkloloaeoaaQSxKinds
import Derived.Test.YtemgnkloloaeoaaQPureTakes
import Derived.Test.YtemgnkloloaeoaaQPAllx6
import Derived.Test.YtemgnkloloaeoaaQPAllx12
import Derived.Test.YtemgnkloloaeoaaQSxPatch
import Derived.Test.YtemgnkloloaeoaaQSxRefPatch
import Derived.Test.YtemgnkloloaeoaaQSxAwk
namespace Go.Proofs.Ytemgnkloloaeoaa.L
open Go Go.RowKit Go.Proofs.YtemgnkloloaeoaaW.PrintWords Go.Proofs.Ytemgnkloloaeoaa.Kinds Go.Proofs.Ytemgnkloloaeoaa.PAll Go.Proofs.Ytemgnkloloaeoaa.Sx 
set_option linter.unusedVariables false
set_option linter.unusedSimpArgs false
theorem ent8 : Sx.Ent Try.prog 8 := ⟨Try.f8, Try.func8, by kernel_rfl, by kernel_rfl⟩
theorem ent9 : Sx.Ent Try.prog 9 := ⟨Try.f9, Try.func9, by kernel_rfl, by kernel_rfl⟩
theorem es27 : Sx.elemSz Try.prog 27 = some (34, 5) := by kernel_rfl
theorem fo34_4 : Sx.fieldOff Try.prog 34 4 = some 4 := by kernel_rfl
theorem sh29 : Sx.shapeOf Try.prog 29 = some (false, 1) := by kernel_rfl
theorem ent18 : Sx.Ent Try.prog 18 := ⟨Try.f18, Try.func18, by kernel_rfl, by kernel_rfl⟩
theorem ent16 : Sx.Ent Try.prog 16 := ⟨Try.f16, Try.func16, by kernel_rfl, by kernel_rfl⟩
theorem ent19 : Sx.Ent Try.prog 19 := ⟨Try.f19, Try.func19, by kernel_rfl, by kernel_rfl⟩
theorem es22 : Sx.elemSz Try.prog 22 = some (31, 1) := by kernel_rfl
theorem ent17 : Sx.Ent Try.prog 17 := ⟨Try.f17, Try.func17, by kernel_rfl, by kernel_rfl⟩
set_option maxHeartbeats 4000000 in
set_option maxRecDepth 100000 in
theorem DiffTakes_calls {w0 w : World} {F0 : Nat → Prop} {R : List Sx.HP} {v0 : World} (a : List S31) (Aa : Option Addr) (ca : Nat) (rs : List S34) (Ars : Option Addr) (crs : Nat) (hv : Sx.RO v0 w0 F0) (hla : a.length ≤ ca) (hCa : k31.C v0 Aa a.length a) (hma : a.length ≤ 9223372036854775807) (hlrs : rs.length ≤ crs) (hCrs : k34.C v0 Ars rs.length rs) (hmrs : rs.length ≤ 9223372036854775807) (h : Sx.St w0 F0 ([] ++ R) w) : Calls Try.prog 6 #[.slice (Aa) (a.length) (ca), .slice (Ars) (rs.length) (crs)] w (fun e w1 => e = .returned (.bool true) ∧ Sx.St w0 F0 R w1) := by
 refine Sx.calls_fn (vs := [.slice (Aa) (a.length) (ca), .slice (Ars) (rs.length) (crs)]) Try.func6 rfl Try.ntmps6 rfl ?_
 refine wc_seq ?_
 refine wc_region ?_
 refine wl_v rfl rfl (ov_assign _ rfl) ?_
 refine wl_nil ?_
 refine qn_then ?_
 refine wc_seq ?_
 refine wc_seq ?_
 refine wc_region ?_
 refine wl_call _ rfl rfl rfl ent8 (W.awake_calls (R := [] ++ R) h) ?_
 rintro e_ w_ ⟨rfl, h⟩
 refine ⟨_, rfl, ?_⟩
 refine wl_v rfl rfl (ov_notb _ rfl) ?_
 refine wl_nil ?_
 refine qn_then ?_
 refine wc_cond_false rfl ?_
 refine wc_skip ?_
 refine qn_then ?_
 refine wc_seq ?_
 refine wc_seq ?_
 refine wc_region ?_
 refine wl_v rfl rfl (ov_move _ rfl) ?_
 obtain ⟨bf1, hb2, gf3⟩ := Pure.few_val a 1200 (by omega)
 refine wl_call _ rfl rfl rfl ent9 (regletlaw14_few.calls 1200 _ _ a bf1 _ ((Sx.ro_C hv h hCa)) hla hb2) ?_
 rintro e_ w_ ⟨rfl, hB_⟩
 refine ⟨_, rfl, ?_⟩
 replace h := st_below h hB_.below
 refine wl_v rfl rfl (ov_notb _ rfl) ?_
 refine wl_v rfl rfl (ov_move _ rfl) ?_
 refine wl_splitb 15 rfl (fun c4 => ?_) (fun c4 => ?_)
 ·
  refine wl_skip rfl rfl ?_
  refine wl_skip rfl rfl ?_
  refine wl_skip rfl rfl ?_
  refine wl_v rfl rfl (ov_pick_true _ rfl rfl) ?_
  refine wl_nil ?_
  refine qn_then ?_
  refine wc_cond_true rfl ?_
  refine wc_seq ?_
  refine wc_region ?_
  refine wl_v rfl rfl (ov_assign _ rfl) ?_
  refine wl_nil ?_
  refine qn_then ?_
  refine wc_ret ?_
  refine qn_then_ret ?_
  refine qn_ret [_] ⟨rfl, trivial⟩ ?_
  exact ⟨rfl, h⟩
 ·
  have hFa := gf3 (by simpa using c4)
  refine wl_v rfl rfl (ov_move _ rfl) ?_
  refine wl_v rfl rfl (ov_len _ _ _ _ _ rfl es27) ?_
  refine wl_v rfl rfl (ov_bin _ rfl rfl (binR_gtr)) ?_
  refine wl_v rfl rfl (ov_pick_false _ rfl rfl) ?_
  refine wl_nil ?_
  refine qn_then ?_
  refine wc_cond (by rfl) (fun c5 => ?_) (fun c5 => ?_)
  ·
   refine wc_seq ?_
   refine wc_region ?_
   refine wl_v rfl rfl (ov_assign _ rfl) ?_
   refine wl_nil ?_
   refine qn_then ?_
   refine wc_ret ?_
   refine qn_then_ret ?_
   refine qn_ret [_] ⟨rfl, trivial⟩ ?_
   exact ⟨rfl, h⟩
  ·
   refine wc_skip ?_
   refine qn_then ?_
   refine wc_seq ?_
   refine wc_seq ?_
   refine wc_region ?_
   refine wl_v rfl rfl (ov_assign _ rfl) ?_
   refine wl_nil ?_
   refine qn_then ?_
   refine wc_block ?_
   refine wc_loop (fun (x_ : Nat) => [(0, .slice (Aa) (a.length) (ca)), (1, .slice (Ars) (rs.length) (crs)), (5, .int .i64 ((x_ : Int)))]) (fun (x_ : Nat) (w : World) => (x_ ≤ rs.length ∧ ∀ j, j < x_ → Pure.Short (rs.getD j z34).f4) ∧ Sx.St w0 F0 ([] ++ R) w) (fun (x_ : Nat) => rs.length - x_) (0) ?_ ?_ ?_
   · exact ⟨rfl, rfl, (congrArg (fun z_ => some (Value.int .i64 z_)) (show (0 : Int) = (0 : Int) by omega)), trivial⟩
   · exact ⟨⟨Nat.zero_le _, fun j_ hj_ => absurd hj_ (Nat.not_lt_zero _)⟩, h⟩
   intro k w h
   obtain ⟨hJ, h⟩ := h
   replace hJ : k ≤ rs.length ∧ ∀ j, j < k → Pure.Short (rs.getD j z34).f4 := hJ
   replace h : Sx.St w0 F0 ([] ++ R) w := h
   show Sx.WC _ _ _ _ [(0, .slice (Aa) (a.length) (ca)), (1, .slice (Ars) (rs.length) (crs)), (5, .int .i64 ((k : Int)))] _
   refine wc_seq ?_
   refine wc_seq ?_
   refine wc_region ?_
   refine wl_v rfl rfl (ov_move _ rfl) ?_
   refine wl_v rfl rfl (ov_move _ rfl) ?_
   refine wl_v rfl rfl (ov_len _ _ _ _ _ rfl es27) ?_
   refine wl_v rfl rfl (ov_bin _ rfl rfl (binR_lss)) ?_
   refine wl_nil ?_
   refine qn_then ?_
   refine wc_cond (by rfl) (fun c6 => ?_) (fun c6 => ?_)
   ·
    refine wc_skip ?_
    refine qn_then ?_
    refine wc_seq ?_
    refine wc_block ?_
    refine wc_seq ?_
    refine wc_region ?_
    refine wl_v rfl rfl (ov_move _ rfl) ?_
    refine wl_v rfl rfl (ov_move _ rfl) ?_
    obtain ⟨ad7, rfl⟩ := Sx.C_some ((Sx.ro_C hv h hCrs)) (k := k) (by first | assumption | omega)
    refine wl_v rfl rfl (ov_indexAddrN _ _ _ _ _ k rfl rfl es27 rfl (by first | assumption | omega | (simp only [List.length_take, List.length_drop, List.length_set]; omega))) ?_
    refine wl_v rfl rfl (ov_fieldAddr _ ((ad7).add (k * 5 + 4)) _ rfl fo34_4 (by first | exact Deep.add_add _ _ _ | (rw [Deep.add_add]) | rfl)) ?_
    obtain ⟨cl10, _, hk9, hc8⟩ := Sx.C_cells (hCrs) (z := z34) (k := k) (by first | assumption | omega)
    obtain ⟨A11, cp12, rfl, hl13, hn14⟩ := k34_open hk9
    refine wl_v rfl rfl (ov_load1 _ _ rfl sh29 (Sx.ro_cell hv h (hc8 4 _ rfl))) ?_
    obtain ⟨bs15, hb16, gf17⟩ := Pure.short_val ((((rs).getD k z34)).f4) 1000 (by omega)
    refine wl_call _ rfl rfl rfl ent18 (regletlaw14_short.calls 1000 _ _ ((((rs).getD k z34)).f4) bs15 _ ((Sx.ro_C hv h hn14)) hl13 hb16) ?_
    rintro e_ w_ ⟨rfl, hB_⟩
    refine ⟨_, rfl, ?_⟩
    replace h := st_below h hB_.below
    refine wl_v rfl rfl (ov_notb _ rfl) ?_
    refine wl_nil ?_
    refine qn_then ?_
    refine wc_condb (by rfl) (fun c18 => ?_) (fun c18 => ?_)
    ·
     refine wc_seq ?_
     refine wc_region ?_
     refine wl_v rfl rfl (ov_assign _ rfl) ?_
     refine wl_nil ?_
     refine qn_then ?_
     refine wc_ret ?_
     refine qn_block_ret ?_
     refine qn_then_ret ?_
     refine qn_then_ret ?_
     refine qn_block_ret ?_
     refine qn_then_ret ?_
     refine qn_ret [_] ⟨rfl, trivial⟩ ?_
     exact ⟨rfl, h⟩
    ·
     have hsk_ := gf17 (by simpa using c18)
     refine wc_skip ?_
     refine qn_block_normal ?_
     refine qn_then ?_
     refine wc_region ?_
     refine wl_v rfl rfl (ov_move _ rfl) ?_
     refine wl_v rfl rfl (ov_bin _ rfl rfl (binR_add (r := ((k : Int)) + 1) (Sx.w64 (by omega)))) ?_
     refine wl_v rfl rfl (ov_assign _ rfl) ?_
     refine wl_nil ?_
     refine qn_next ((k + 1)) (by show rs.length - (k + 1) < rs.length - k; omega) ⟨rfl, (congrArg (fun z_ => some (Value.slice (some ad7) z_ (crs))) (show (rs.length : Nat) = rs.length by first | rfl | simp)), (congrArg (fun z_ => some (Value.int .i64 z_)) (show (((k : Int)) + 1 : Int) = ((k + 1) : Int) by omega)), trivial⟩ ?_
     show ((k + 1) ≤ rs.length ∧ ∀ j, j < (k + 1) → Pure.Short (rs.getD j z34).f4) ∧ _
     exact ⟨⟨by omega, fun j_ hj_ => by
       rcases Nat.lt_succ_iff_lt_or_eq.1 hj_ with z_ | rfl
       · exact hJ.2 j_ z_
       · exact hsk_⟩, h⟩
   ·
    refine wc_exit ?_
    refine qn_then_exit ?_
    refine qn_then_exit ?_
    refine qn_block_exit ?_
    refine qn_then ?_
    refine wc_seq ?_
    refine wc_region ?_
    refine wl_v rfl rfl (ov_move _ rfl) ?_
    refine wl_v rfl rfl (ov_move _ rfl) ?_
    have hsh := Pure.all_getD (P := fun r_ => Pure.Short r_.f4) (k := k) (by omega) hJ.2
    have hrl20_ : rs.length ≤ 20 := by omega
    have hcall_ := P.Patch_calls (R := R) a Aa ca rs Ars crs hv hla hCa (by have := hFa.1; omega) hlrs hCrs (by omega) hFa (by omega) hsh h
    obtain ⟨p_, hp_⟩ : ∃ p_, p_ = Pure.patchV a rs := ⟨_, rfl⟩
    rw [← hp_] at hcall_
    refine wl_call _ rfl rfl rfl ent16 (hcall_) ?_
    rintro e_ w_ ⟨Ag, cg, rfl, hlg, hCg, h⟩
    refine ⟨_, rfl, ?_⟩
    replace hCa := Sx.ro_C hv h hCa
    replace hCrs := Sx.ro_C hv h hCrs
    obtain ⟨S_, hS_⟩ : ∃ S_ : World → Prop, S_ = fun w2_ => Sx.St w0 F0 R w2_ := ⟨_, rfl⟩
    have hfin_ : ∀ w2_, Below w_.heap.size w_ w2_ → S_ w2_ := fun w2_ hb_ => by rw [hS_]; exact st_below h hb_
    try clear hv
    clear h
    obtain ⟨F0, hF0_, h, hv⟩ : ∃ F_ : Nat → Prop, F_ = (fun _ => False) ∧ Sx.St w_ F_ [] w_ ∧ Sx.RO w_ w_ F_ := ⟨_, rfl, st_start w_, Sx.ro_self w_⟩
    obtain ⟨R, hR0_, h⟩ : ∃ R_ : List Sx.HP, R_ = [] ∧ Sx.St w_ F0 R_ w_ := ⟨_, rfl, h⟩
    obtain ⟨w0, hw0_, hfin_, h, hv, hCa, hCrs, hCg⟩ : ∃ z_, z_ = w_ ∧ (∀ w2_, Below z_.heap.size z_ w2_ → S_ w2_) ∧ Sx.St z_ F0 R w_ ∧ Sx.RO z_ z_ F0 ∧ k31.C z_ Aa a.length a ∧ k34.C z_ Ars rs.length rs ∧ k31.C z_ Ag p_.1.length p_.1 := ⟨w_, rfl, hfin_, h, hv, hCa, hCrs, hCg⟩
    refine wl_v rfl rfl (ov_move _ rfl) ?_
    refine wl_v rfl rfl (ov_extract [.slice (Ag) (p_.1.length) (cg), .int .i64 (p_.2)] _ rfl rfl) ?_
    refine wl_v rfl rfl (ov_extract [.slice (Ag) (p_.1.length) (cg), .int .i64 (p_.2)] _ rfl rfl) ?_
    refine wl_v rfl rfl (ov_assign _ rfl) ?_
    refine wl_v rfl rfl (ov_assign _ rfl) ?_
    refine wl_nil ?_
    refine qn_then ?_
    refine wc_seq ?_
    refine wc_region ?_
    refine wl_v rfl rfl (ov_move _ rfl) ?_
    refine wl_v rfl rfl (ov_move _ rfl) ?_
    have hcall_ := PR.refPatch_calls (R := R) a Aa ca rs Ars crs hv hla hCa (by have := hFa.1; omega) hlrs hCrs (by omega) hFa (by omega) hsh h
    obtain ⟨q_, hq_⟩ : ∃ q_, q_ = Pure.refV a rs := ⟨_, rfl⟩
    rw [← hq_] at hcall_
    refine wl_call _ rfl rfl rfl ent19 (hcall_) ?_
    rintro e_ w_ ⟨Aw, cw, rfl, hlw, hCw, h⟩
    refine ⟨_, rfl, ?_⟩
    replace hCa := Sx.ro_C hv h hCa
    replace hCrs := Sx.ro_C hv h hCrs
    replace hCg := Sx.ro_C hv h hCg
    have hb1_ : Below w0.heap.size w0 w_ := by have hz_ := h; rw [hF0_, hR0_] at hz_; exact st_below0 hz_
    replace hfin_ : ∀ w2_, Below w_.heap.size w_ w2_ → S_ w2_ := fun w2_ hb_ => hfin_ w2_ (hb1_.trans (hb_.mono hb1_.size))
    try clear hv
    clear h
    obtain ⟨F0, hF0_, h, hv⟩ : ∃ F_ : Nat → Prop, F_ = (fun _ => False) ∧ Sx.St w_ F_ [] w_ ∧ Sx.RO w_ w_ F_ := ⟨_, rfl, st_start w_, Sx.ro_self w_⟩
    obtain ⟨R, hR0_, h⟩ : ∃ R_ : List Sx.HP, R_ = [] ∧ Sx.St w_ F0 R_ w_ := ⟨_, rfl, h⟩
    obtain ⟨w0, hw0_, hfin_, h, hv, hCa, hCrs, hCg, hCw⟩ : ∃ z_, z_ = w_ ∧ (∀ w2_, Below z_.heap.size z_ w2_ → S_ w2_) ∧ Sx.St z_ F0 R w_ ∧ Sx.RO z_ z_ F0 ∧ k31.C z_ Aa a.length a ∧ k34.C z_ Ars rs.length rs ∧ k31.C z_ Ag p_.1.length p_.1 ∧ k31.C z_ Aw (q_.getD []).length (q_.getD []) := ⟨w_, rfl, hfin_, h, hv, hCa, hCrs, hCg, hCw⟩
    refine wl_v rfl rfl (ov_move _ rfl) ?_
    refine wl_v rfl rfl (ov_extract [.slice (Aw) ((q_.getD []).length) (cw), .bool (q_.isSome)] _ rfl rfl) ?_
    refine wl_v rfl rfl (ov_extract [.slice (Aw) ((q_.getD []).length) (cw), .bool (q_.isSome)] _ rfl rfl) ?_
    refine wl_v rfl rfl (ov_assign _ rfl) ?_
    refine wl_v rfl rfl (ov_assign _ rfl) ?_
    refine wl_nil ?_
    refine qn_then ?_
    refine wc_seq ?_
    refine wc_seq ?_
    refine wc_region ?_
    refine wl_v rfl rfl (ov_move _ rfl) ?_
    refine wl_v rfl rfl (ov_notb _ rfl) ?_
    refine wl_nil ?_
    refine qn_then ?_
    refine wc_condb (by rfl) (fun c19 => ?_) (fun c19 => ?_)
    ·
     have hts_ := Pure.takes_none hp_ hq_ (by simpa using c19)
     refine wc_seq ?_
     refine wc_region ?_
     refine wl_v rfl rfl (ov_move _ rfl) ?_
     refine wl_v rfl rfl (ov_bin _ rfl rfl (binR_eql)) ?_
     refine wl_v rfl rfl (ov_move _ rfl) ?_
     refine wl_split 49 rfl (fun c20 => ?_) (fun c20 => ?_)
     ·
      refine wl_v rfl rfl (ov_move _ rfl) ?_
      refine wl_v rfl rfl (ov_len _ _ _ _ _ rfl es22) ?_
      refine wl_v rfl rfl (ov_bin _ rfl rfl (binR_eql)) ?_
      refine wl_v rfl rfl (ov_pick_true _ rfl rfl) ?_
      refine wl_v rfl rfl (ov_assign _ rfl) ?_
      refine wl_nil ?_
      refine qn_then ?_
      refine wc_ret ?_
      refine qn_then_ret ?_
      refine qn_ret [_] ⟨rfl, trivial⟩ ?_
      have b_ : (decide ((((p_.1.length : Nat) : Int) : Int) = 0)) = true := by first | (apply decide_eq_true; omega) | simp_all
      exact ⟨congrArg (fun z => Ending.returned (Value.bool z)) b_, (by have z_ := hfin_ _ (by have hz_ := h; rw [hF0_, hR0_] at hz_; exact st_below0 hz_); rw [hS_] at z_; exact z_)⟩
     ·
      exact absurd hts_.2 c20
    ·
     have hts_ := Pure.takes_some hFa hrl20_ hsh hp_ hq_ (by simpa using c19)
     refine wc_skip ?_
     refine qn_then ?_
     refine wc_seq ?_
     refine wc_region ?_
     refine wl_v rfl rfl (ov_move _ rfl) ?_
     refine wl_v rfl rfl (ov_bin _ rfl rfl (binR_eql)) ?_
     refine wl_v rfl rfl (ov_move _ rfl) ?_
     refine wl_split 56 rfl (fun c21 => ?_) (fun c21 => ?_)
     ·
      refine wl_v rfl rfl (ov_move _ rfl) ?_
      refine wl_v rfl rfl (ov_move _ rfl) ?_
      refine wl_call _ rfl rfl rfl ent17 (regletref14_Pages.calls 400 _ _ p_.1 _ _ ((q_.getD [])) _ _ ((Sx.ro_C hv h hCg)) hlg ((Sx.ro_C hv h hCw)) hlw hts_.2) ?_
      rintro e_ w_ ⟨rfl, hB_⟩
      refine ⟨_, rfl, ?_⟩
      replace h := st_below h hB_
      refine wl_v rfl rfl (ov_pick_true _ rfl rfl) ?_
      refine wl_v rfl rfl (ov_assign _ rfl) ?_
      refine wl_nil ?_
      refine qn_then ?_
      refine wc_ret ?_
      refine qn_ret [_] ⟨rfl, trivial⟩ ?_
      exact ⟨rfl, (by have z_ := hfin_ _ (by have hz_ := h; rw [hF0_, hR0_] at hz_; exact st_below0 hz_); rw [hS_] at z_; exact z_)⟩
     ·
      exact absurd hts_.1 c21
end Go.Proofs.Ytemgnkloloaeoaa.L
