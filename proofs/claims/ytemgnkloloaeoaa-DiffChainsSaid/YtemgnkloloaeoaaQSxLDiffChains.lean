/- Pruned by wip/prune.py. -/
import Derived.Test.YtemgnkloloaeoaaProg
import Derived.Test.YtemgnkloloaeoaaQSxGlue
import Derived.Test.YtemgnkloloaeoaaQSxKinds
import Derived.Test.YtemgnkloloaeoaaQPureChain
import Derived.Test.YtemgnkloloaeoaaQPAllx6
import Derived.Test.YtemgnkloloaeoaaQPAllx12
import Derived.Test.YtemgnkloloaeoaaQSxPatch
import Derived.Test.YtemgnkloloaeoaaQSxAwk
namespace Go.Proofs.Ytemgnkloloaeoaa.L
open Go Go.RowKit Go.Proofs.YtemgnkloloaeoaaW.PrintWords Go.Proofs.Ytemgnkloloaeoaa.Kinds Go.Proofs.Ytemgnkloloaeoaa.PAll Go.Proofs.Ytemgnkloloaeoaa.Sx 
set_option linter.unusedVariables false
set_option linter.unusedSimpArgs false
theorem ent8 : Sx.Ent Try.prog 8 := ⟨Try.f8, Try.func8, by kernel_rfl, by kernel_rfl⟩
theorem ent9 : Sx.Ent Try.prog 9 := ⟨Try.f9, Try.func9, by kernel_rfl, by kernel_rfl⟩
theorem ent11 : Sx.Ent Try.prog 11 := ⟨Try.f11, Try.func11, by kernel_rfl, by kernel_rfl⟩
theorem ent16 : Sx.Ent Try.prog 16 := ⟨Try.f16, Try.func16, by kernel_rfl, by kernel_rfl⟩
theorem ent17 : Sx.Ent Try.prog 17 := ⟨Try.f17, Try.func17, by kernel_rfl, by kernel_rfl⟩
set_option maxHeartbeats 4000000 in
set_option maxRecDepth 100000 in
theorem DiffChains_calls {w0 w : World} {F0 : Nat → Prop} {R : List Sx.HP} {v0 : World} (a : List S31) (Aa : Option Addr) (ca : Nat) (b : List S31) (Ab : Option Addr) (cb : Nat) (c : List S31) (Ac : Option Addr) (cc : Nat) (hv : Sx.RO v0 w0 F0) (hla : a.length ≤ ca) (hCa : k31.C v0 Aa a.length a) (hma : a.length ≤ 9223372036854775807) (hlb : b.length ≤ cb) (hCb : k31.C v0 Ab b.length b) (hmb : b.length ≤ 9223372036854775807) (hlc : c.length ≤ cc) (hCc : k31.C v0 Ac c.length c) (hmc : c.length ≤ 9223372036854775807) (h : Sx.St w0 F0 ([] ++ R) w) : Calls Try.prog 7 #[.slice (Aa) (a.length) (ca), .slice (Ab) (b.length) (cb), .slice (Ac) (c.length) (cc)] w (fun e w1 => e = .returned (.bool true) ∧ Sx.St w0 F0 R w1) := by
 refine Sx.calls_fn (vs := [.slice (Aa) (a.length) (ca), .slice (Ab) (b.length) (cb), .slice (Ac) (c.length) (cc)]) Try.func7 rfl Try.ntmps7 rfl ?_
 refine wc_seq ?_
 refine wc_region ?_
 refine wl_v rfl rfl (ov_assign _ rfl) ?_
 refine wl_nil ?_
 refine qn_then ?_
 refine wc_seq ?_
 refine wc_seq ?_
 refine wc_region ?_
 refine wl_call _ rfl rfl rfl ent8 (W.awake_calls (R := [] ++ R) h) ?_
 rintro e_ w_ ⟨rfl, h⟩
 refine ⟨_, rfl, ?_⟩
 refine wl_v rfl rfl (ov_notb _ rfl) ?_
 refine wl_nil ?_
 refine qn_then ?_
 refine wc_cond_false rfl ?_
 refine wc_skip ?_
 refine qn_then ?_
 refine wc_seq ?_
 refine wc_seq ?_
 refine wc_region ?_
 refine wl_v rfl rfl (ov_move _ rfl) ?_
 obtain ⟨bf1, hb2, gf3⟩ := Pure.few_val a 1200 (by omega)
 refine wl_call _ rfl rfl rfl ent9 (regletlaw14_few.calls 1200 _ _ a bf1 _ ((Sx.ro_C hv h hCa)) hla hb2) ?_
 rintro e_ w_ ⟨rfl, hB_⟩
 refine ⟨_, rfl, ?_⟩
 replace h := st_below h hB_.below
 refine wl_v rfl rfl (ov_notb _ rfl) ?_
 refine wl_v rfl rfl (ov_move _ rfl) ?_
 refine wl_splitb 18 rfl (fun c4 => ?_) (fun c4 => ?_)
 ·
  refine wl_skip rfl rfl ?_
  refine wl_skip rfl rfl ?_
  refine wl_skip rfl rfl ?_
  refine wl_v rfl rfl (ov_pick_true _ rfl rfl) ?_
  refine wl_v rfl rfl (ov_move _ rfl) ?_
  refine wl_skip rfl rfl ?_
  refine wl_skip rfl rfl ?_
  refine wl_skip rfl rfl ?_
  refine wl_v rfl rfl (ov_pick_true _ rfl rfl) ?_
  refine wl_nil ?_
  refine qn_then ?_
  refine wc_cond_true rfl ?_
  refine wc_seq ?_
  refine wc_region ?_
  refine wl_v rfl rfl (ov_assign _ rfl) ?_
  refine wl_nil ?_
  refine qn_then ?_
  refine wc_ret ?_
  refine qn_then_ret ?_
  refine qn_ret [_] ⟨rfl, trivial⟩ ?_
  exact ⟨rfl, h⟩
 ·
  have hFa := gf3 (by simpa using c4)
  refine wl_v rfl rfl (ov_move _ rfl) ?_
  obtain ⟨bf5, hb6, gf7⟩ := Pure.few_val b 1200 (by omega)
  refine wl_call _ rfl rfl rfl ent9 (regletlaw14_few.calls 1200 _ _ b bf5 _ ((Sx.ro_C hv h hCb)) hlb hb6) ?_
  rintro e_ w_ ⟨rfl, hB_⟩
  refine ⟨_, rfl, ?_⟩
  replace h := st_below h hB_.below
  refine wl_v rfl rfl (ov_notb _ rfl) ?_
  refine wl_v rfl rfl (ov_pick_false _ rfl rfl) ?_
  refine wl_v rfl rfl (ov_move _ rfl) ?_
  refine wl_splitb 23 rfl (fun c8 => ?_) (fun c8 => ?_)
  ·
   refine wl_skip rfl rfl ?_
   refine wl_skip rfl rfl ?_
   refine wl_skip rfl rfl ?_
   refine wl_v rfl rfl (ov_pick_true _ rfl rfl) ?_
   refine wl_nil ?_
   refine qn_then ?_
   refine wc_cond_true rfl ?_
   refine wc_seq ?_
   refine wc_region ?_
   refine wl_v rfl rfl (ov_assign _ rfl) ?_
   refine wl_nil ?_
   refine qn_then ?_
   refine wc_ret ?_
   refine qn_then_ret ?_
   refine qn_ret [_] ⟨rfl, trivial⟩ ?_
   exact ⟨rfl, h⟩
  ·
   have hFb := gf7 (by simpa using c8)
   refine wl_v rfl rfl (ov_move _ rfl) ?_
   obtain ⟨bf9, hb10, gf11⟩ := Pure.few_val c 1200 (by omega)
   refine wl_call _ rfl rfl rfl ent9 (regletlaw14_few.calls 1200 _ _ c bf9 _ ((Sx.ro_C hv h hCc)) hlc hb10) ?_
   rintro e_ w_ ⟨rfl, hB_⟩
   refine ⟨_, rfl, ?_⟩
   replace h := st_below h hB_.below
   refine wl_v rfl rfl (ov_notb _ rfl) ?_
   refine wl_v rfl rfl (ov_pick_false _ rfl rfl) ?_
   refine wl_nil ?_
   refine qn_then ?_
   refine wc_condb (by rfl) (fun c12 => ?_) (fun c12 => ?_)
   ·
    refine wc_seq ?_
    refine wc_region ?_
    refine wl_v rfl rfl (ov_assign _ rfl) ?_
    refine wl_nil ?_
    refine qn_then ?_
    refine wc_ret ?_
    refine qn_then_ret ?_
    refine qn_ret [_] ⟨rfl, trivial⟩ ?_
    exact ⟨rfl, h⟩
   ·
    have hFc := gf11 (by simpa using c12)
    refine wc_skip ?_
    refine qn_then ?_
    refine wc_seq ?_
    refine wc_region ?_
    refine wl_v rfl rfl (ov_move _ rfl) ?_
    refine wl_v rfl rfl (ov_move _ rfl) ?_
    refine wl_v rfl rfl (ov_move _ rfl) ?_
    refine wl_call _ rfl rfl rfl ent11 (diff_Diff.calls 200 _ _ a _ _ b 0 (Pure.diffV a b) _ ((Sx.ro_C hv h hCa)) hla ((Sx.ro_C hv h hCb)) hlb (Pure.diff_val a b hFa hFb 200 (by omega))) ?_
    rintro e_ w_ ⟨v_, rfl, hR_, hB_⟩
    refine ⟨_, rfl, ?_⟩
    replace h := st_below h hB_
    obtain ⟨Al1, cl1, rfl, hll1, hCl1⟩ := Kd.R_reads hR_
    generalize hdl1 : Pure.diffV a b = l1 at hll1 hCl1 ⊢
    have hsl1 := Pure.diff_short hFa hFb
    rw [hdl1] at hsl1
    have hnl1 := (Pure.diff_mild a b hFa hFb).2.2
    rw [hdl1] at hnl1
    replace hCa := Sx.ro_C hv h hCa
    replace hCb := Sx.ro_C hv h hCb
    replace hCc := Sx.ro_C hv h hCc
    obtain ⟨S_, hS_⟩ : ∃ S_ : World → Prop, S_ = fun w2_ => Sx.St w0 F0 R w2_ := ⟨_, rfl⟩
    have hfin_ : ∀ w2_, Below w_.heap.size w_ w2_ → S_ w2_ := fun w2_ hb_ => by rw [hS_]; exact st_below h hb_
    try clear hv
    clear h
    obtain ⟨F0, hF0_, h, hv⟩ : ∃ F_ : Nat → Prop, F_ = (fun _ => False) ∧ Sx.St w_ F_ [] w_ ∧ Sx.RO w_ w_ F_ := ⟨_, rfl, st_start w_, Sx.ro_self w_⟩
    obtain ⟨R, hR0_, h⟩ : ∃ R_ : List Sx.HP, R_ = [] ∧ Sx.St w_ F0 R_ w_ := ⟨_, rfl, h⟩
    obtain ⟨w0, hw0_, hfin_, h, hv, hCa, hCb, hCc, hCl1⟩ : ∃ z_, z_ = w_ ∧ (∀ w2_, Below z_.heap.size z_ w2_ → S_ w2_) ∧ Sx.St z_ F0 R w_ ∧ Sx.RO z_ z_ F0 ∧ k31.C z_ Aa a.length a ∧ k31.C z_ Ab b.length b ∧ k31.C z_ Ac c.length c ∧ k34.C z_ Al1 l1.length l1 := ⟨w_, rfl, hfin_, h, hv, hCa, hCb, hCc, hCl1⟩
    obtain ⟨z1, hzz1, hspz1, hFz1⟩ := Pure.patch_same hFa hFa hFb (Pure.sps_refl a)
    rw [hdl1] at hzz1
    have hcall_ := P.Patch_calls (R := R) a Aa ca l1 Al1 cl1 hv hla hCa (by have := hFa.1; omega) hll1 hCl1 (by omega) hFa (by omega) hsl1 h
    rw [hzz1] at hcall_
    refine wl_call _ rfl rfl rfl ent16 (hcall_) ?_
    rintro e_ w_ ⟨Az1, cz1, rfl, hlz1, hCz1, h⟩
    refine ⟨_, rfl, ?_⟩
    replace hlz1 : z1.length ≤ cz1 := hlz1
    replace hCz1 : k31.C w_ Az1 z1.length z1 := hCz1
    replace hCa := Sx.ro_C hv h hCa
    replace hCb := Sx.ro_C hv h hCb
    replace hCc := Sx.ro_C hv h hCc
    replace hCl1 := Sx.ro_C hv h hCl1
    have hb1_ : Below w0.heap.size w0 w_ := by have hz_ := h; rw [hF0_, hR0_] at hz_; exact st_below0 hz_
    replace hfin_ : ∀ w2_, Below w_.heap.size w_ w2_ → S_ w2_ := fun w2_ hb_ => hfin_ w2_ (hb1_.trans (hb_.mono hb1_.size))
    try clear hv
    clear h
    obtain ⟨F0, hF0_, h, hv⟩ : ∃ F_ : Nat → Prop, F_ = (fun _ => False) ∧ Sx.St w_ F_ [] w_ ∧ Sx.RO w_ w_ F_ := ⟨_, rfl, st_start w_, Sx.ro_self w_⟩
    obtain ⟨R, hR0_, h⟩ : ∃ R_ : List Sx.HP, R_ = [] ∧ Sx.St w_ F0 R_ w_ := ⟨_, rfl, h⟩
    obtain ⟨w0, hw0_, hfin_, h, hv, hCa, hCb, hCc, hCl1, hCz1⟩ : ∃ z_, z_ = w_ ∧ (∀ w2_, Below z_.heap.size z_ w2_ → S_ w2_) ∧ Sx.St z_ F0 R w_ ∧ Sx.RO z_ z_ F0 ∧ k31.C z_ Aa a.length a ∧ k31.C z_ Ab b.length b ∧ k31.C z_ Ac c.length c ∧ k34.C z_ Al1 l1.length l1 ∧ k31.C z_ Az1 z1.length z1 := ⟨w_, rfl, hfin_, h, hv, hCa, hCb, hCc, hCl1, hCz1⟩
    refine wl_v rfl rfl (ov_move _ rfl) ?_
    refine wl_v rfl rfl (ov_extract [.slice (Az1) (z1.length) (cz1), .int .i64 (0)] _ rfl rfl) ?_
    refine wl_v rfl rfl (ov_extract [.slice (Az1) (z1.length) (cz1), .int .i64 (0)] _ rfl rfl) ?_
    refine wl_v rfl rfl (ov_assign _ rfl) ?_
    refine wl_v rfl rfl (ov_assign _ rfl) ?_
    refine wl_nil ?_
    refine qn_then ?_
    refine wc_seq ?_
    refine wc_region ?_
    refine wl_v rfl rfl (ov_move _ rfl) ?_
    refine wl_v rfl rfl (ov_move _ rfl) ?_
    refine wl_v rfl rfl (ov_move _ rfl) ?_
    refine wl_call _ rfl rfl rfl ent11 (diff_Diff.calls 200 _ _ b _ _ c 0 (Pure.diffV b c) _ ((Sx.ro_C hv h hCb)) hlb ((Sx.ro_C hv h hCc)) hlc (Pure.diff_val b c hFb hFc 200 (by omega))) ?_
    rintro e_ w_ ⟨v_, rfl, hR_, hB_⟩
    refine ⟨_, rfl, ?_⟩
    replace h := st_below h hB_
    obtain ⟨Al2, cl2, rfl, hll2, hCl2⟩ := Kd.R_reads hR_
    generalize hdl2 : Pure.diffV b c = l2 at hll2 hCl2 ⊢
    have hsl2 := Pure.diff_short hFb hFc
    rw [hdl2] at hsl2
    have hnl2 := (Pure.diff_mild b c hFb hFc).2.2
    rw [hdl2] at hnl2
    replace hCa := Sx.ro_C hv h hCa
    replace hCb := Sx.ro_C hv h hCb
    replace hCc := Sx.ro_C hv h hCc
    replace hCl1 := Sx.ro_C hv h hCl1
    replace hCz1 := Sx.ro_C hv h hCz1
    have hb1_ : Below w0.heap.size w0 w_ := by have hz_ := h; rw [hF0_, hR0_] at hz_; exact st_below0 hz_
    replace hfin_ : ∀ w2_, Below w_.heap.size w_ w2_ → S_ w2_ := fun w2_ hb_ => hfin_ w2_ (hb1_.trans (hb_.mono hb1_.size))
    try clear hv
    clear h
    obtain ⟨F0, hF0_, h, hv⟩ : ∃ F_ : Nat → Prop, F_ = (fun _ => False) ∧ Sx.St w_ F_ [] w_ ∧ Sx.RO w_ w_ F_ := ⟨_, rfl, st_start w_, Sx.ro_self w_⟩
    obtain ⟨R, hR0_, h⟩ : ∃ R_ : List Sx.HP, R_ = [] ∧ Sx.St w_ F0 R_ w_ := ⟨_, rfl, h⟩
    obtain ⟨w0, hw0_, hfin_, h, hv, hCa, hCb, hCc, hCl1, hCz1, hCl2⟩ : ∃ z_, z_ = w_ ∧ (∀ w2_, Below z_.heap.size z_ w2_ → S_ w2_) ∧ Sx.St z_ F0 R w_ ∧ Sx.RO z_ z_ F0 ∧ k31.C z_ Aa a.length a ∧ k31.C z_ Ab b.length b ∧ k31.C z_ Ac c.length c ∧ k34.C z_ Al1 l1.length l1 ∧ k31.C z_ Az1 z1.length z1 ∧ k34.C z_ Al2 l2.length l2 := ⟨w_, rfl, hfin_, h, hv, hCa, hCb, hCc, hCl1, hCz1, hCl2⟩
    obtain ⟨z2, hzz2, hspz2, hFz2⟩ := Pure.patch_same hFz1 hFb hFc hspz1
    rw [hdl2] at hzz2
    have hcall_ := P.Patch_calls (R := R) z1 Az1 cz1 l2 Al2 cl2 hv hlz1 hCz1 (by have := hFz1.1; omega) hll2 hCl2 (by omega) hFz1 (by omega) hsl2 h
    rw [hzz2] at hcall_
    refine wl_call _ rfl rfl rfl ent16 (hcall_) ?_
    rintro e_ w_ ⟨Az2, cz2, rfl, hlz2, hCz2, h⟩
    refine ⟨_, rfl, ?_⟩
    replace hlz2 : z2.length ≤ cz2 := hlz2
    replace hCz2 : k31.C w_ Az2 z2.length z2 := hCz2
    replace hCa := Sx.ro_C hv h hCa
    replace hCb := Sx.ro_C hv h hCb
    replace hCc := Sx.ro_C hv h hCc
    replace hCl1 := Sx.ro_C hv h hCl1
    replace hCz1 := Sx.ro_C hv h hCz1
    replace hCl2 := Sx.ro_C hv h hCl2
    have hb1_ : Below w0.heap.size w0 w_ := by have hz_ := h; rw [hF0_, hR0_] at hz_; exact st_below0 hz_
    replace hfin_ : ∀ w2_, Below w_.heap.size w_ w2_ → S_ w2_ := fun w2_ hb_ => hfin_ w2_ (hb1_.trans (hb_.mono hb1_.size))
    try clear hv
    clear h
    obtain ⟨F0, hF0_, h, hv⟩ : ∃ F_ : Nat → Prop, F_ = (fun _ => False) ∧ Sx.St w_ F_ [] w_ ∧ Sx.RO w_ w_ F_ := ⟨_, rfl, st_start w_, Sx.ro_self w_⟩
    obtain ⟨R, hR0_, h⟩ : ∃ R_ : List Sx.HP, R_ = [] ∧ Sx.St w_ F0 R_ w_ := ⟨_, rfl, h⟩
    obtain ⟨w0, hw0_, hfin_, h, hv, hCa, hCb, hCc, hCl1, hCz1, hCl2, hCz2⟩ : ∃ z_, z_ = w_ ∧ (∀ w2_, Below z_.heap.size z_ w2_ → S_ w2_) ∧ Sx.St z_ F0 R w_ ∧ Sx.RO z_ z_ F0 ∧ k31.C z_ Aa a.length a ∧ k31.C z_ Ab b.length b ∧ k31.C z_ Ac c.length c ∧ k34.C z_ Al1 l1.length l1 ∧ k31.C z_ Az1 z1.length z1 ∧ k34.C z_ Al2 l2.length l2 ∧ k31.C z_ Az2 z2.length z2 := ⟨w_, rfl, hfin_, h, hv, hCa, hCb, hCc, hCl1, hCz1, hCl2, hCz2⟩
    refine wl_v rfl rfl (ov_move _ rfl) ?_
    refine wl_v rfl rfl (ov_extract [.slice (Az2) (z2.length) (cz2), .int .i64 (0)] _ rfl rfl) ?_
    refine wl_v rfl rfl (ov_extract [.slice (Az2) (z2.length) (cz2), .int .i64 (0)] _ rfl rfl) ?_
    refine wl_v rfl rfl (ov_assign _ rfl) ?_
    refine wl_v rfl rfl (ov_assign _ rfl) ?_
    refine wl_nil ?_
    refine qn_then ?_
    refine wc_seq ?_
    refine wc_region ?_
    refine wl_v rfl rfl (ov_move _ rfl) ?_
    refine wl_v rfl rfl (ov_move _ rfl) ?_
    refine wl_v rfl rfl (ov_move _ rfl) ?_
    refine wl_call _ rfl rfl rfl ent11 (diff_Diff.calls 200 _ _ a _ _ c 0 (Pure.diffV a c) _ ((Sx.ro_C hv h hCa)) hla ((Sx.ro_C hv h hCc)) hlc (Pure.diff_val a c hFa hFc 200 (by omega))) ?_
    rintro e_ w_ ⟨v_, rfl, hR_, hB_⟩
    refine ⟨_, rfl, ?_⟩
    replace h := st_below h hB_
    obtain ⟨Al3, cl3, rfl, hll3, hCl3⟩ := Kd.R_reads hR_
    generalize hdl3 : Pure.diffV a c = l3 at hll3 hCl3 ⊢
    have hsl3 := Pure.diff_short hFa hFc
    rw [hdl3] at hsl3
    have hnl3 := (Pure.diff_mild a c hFa hFc).2.2
    rw [hdl3] at hnl3
    replace hCa := Sx.ro_C hv h hCa
    replace hCb := Sx.ro_C hv h hCb
    replace hCc := Sx.ro_C hv h hCc
    replace hCl1 := Sx.ro_C hv h hCl1
    replace hCz1 := Sx.ro_C hv h hCz1
    replace hCl2 := Sx.ro_C hv h hCl2
    replace hCz2 := Sx.ro_C hv h hCz2
    have hb1_ : Below w0.heap.size w0 w_ := by have hz_ := h; rw [hF0_, hR0_] at hz_; exact st_below0 hz_
    replace hfin_ : ∀ w2_, Below w_.heap.size w_ w2_ → S_ w2_ := fun w2_ hb_ => hfin_ w2_ (hb1_.trans (hb_.mono hb1_.size))
    try clear hv
    clear h
    obtain ⟨F0, hF0_, h, hv⟩ : ∃ F_ : Nat → Prop, F_ = (fun _ => False) ∧ Sx.St w_ F_ [] w_ ∧ Sx.RO w_ w_ F_ := ⟨_, rfl, st_start w_, Sx.ro_self w_⟩
    obtain ⟨R, hR0_, h⟩ : ∃ R_ : List Sx.HP, R_ = [] ∧ Sx.St w_ F0 R_ w_ := ⟨_, rfl, h⟩
    obtain ⟨w0, hw0_, hfin_, h, hv, hCa, hCb, hCc, hCl1, hCz1, hCl2, hCz2, hCl3⟩ : ∃ z_, z_ = w_ ∧ (∀ w2_, Below z_.heap.size z_ w2_ → S_ w2_) ∧ Sx.St z_ F0 R w_ ∧ Sx.RO z_ z_ F0 ∧ k31.C z_ Aa a.length a ∧ k31.C z_ Ab b.length b ∧ k31.C z_ Ac c.length c ∧ k34.C z_ Al1 l1.length l1 ∧ k31.C z_ Az1 z1.length z1 ∧ k34.C z_ Al2 l2.length l2 ∧ k31.C z_ Az2 z2.length z2 ∧ k34.C z_ Al3 l3.length l3 := ⟨w_, rfl, hfin_, h, hv, hCa, hCb, hCc, hCl1, hCz1, hCl2, hCz2, hCl3⟩
    obtain ⟨z3, hzz3, hspz3, hFz3⟩ := Pure.patch_same hFa hFa hFc (Pure.sps_refl a)
    rw [hdl3] at hzz3
    have hcall_ := P.Patch_calls (R := R) a Aa ca l3 Al3 cl3 hv hla hCa (by have := hFa.1; omega) hll3 hCl3 (by omega) hFa (by omega) hsl3 h
    rw [hzz3] at hcall_
    refine wl_call _ rfl rfl rfl ent16 (hcall_) ?_
    rintro e_ w_ ⟨Az3, cz3, rfl, hlz3, hCz3, h⟩
    refine ⟨_, rfl, ?_⟩
    replace hlz3 : z3.length ≤ cz3 := hlz3
    replace hCz3 : k31.C w_ Az3 z3.length z3 := hCz3
    replace hCa := Sx.ro_C hv h hCa
    replace hCb := Sx.ro_C hv h hCb
    replace hCc := Sx.ro_C hv h hCc
    replace hCl1 := Sx.ro_C hv h hCl1
    replace hCz1 := Sx.ro_C hv h hCz1
    replace hCl2 := Sx.ro_C hv h hCl2
    replace hCz2 := Sx.ro_C hv h hCz2
    replace hCl3 := Sx.ro_C hv h hCl3
    have hb1_ : Below w0.heap.size w0 w_ := by have hz_ := h; rw [hF0_, hR0_] at hz_; exact st_below0 hz_
    replace hfin_ : ∀ w2_, Below w_.heap.size w_ w2_ → S_ w2_ := fun w2_ hb_ => hfin_ w2_ (hb1_.trans (hb_.mono hb1_.size))
    try clear hv
    clear h
    obtain ⟨F0, hF0_, h, hv⟩ : ∃ F_ : Nat → Prop, F_ = (fun _ => False) ∧ Sx.St w_ F_ [] w_ ∧ Sx.RO w_ w_ F_ := ⟨_, rfl, st_start w_, Sx.ro_self w_⟩
    obtain ⟨R, hR0_, h⟩ : ∃ R_ : List Sx.HP, R_ = [] ∧ Sx.St w_ F0 R_ w_ := ⟨_, rfl, h⟩
    obtain ⟨w0, hw0_, hfin_, h, hv, hCa, hCb, hCc, hCl1, hCz1, hCl2, hCz2, hCl3, hCz3⟩ : ∃ z_, z_ = w_ ∧ (∀ w2_, Below z_.heap.size z_ w2_ → S_ w2_) ∧ Sx.St z_ F0 R w_ ∧ Sx.RO z_ z_ F0 ∧ k31.C z_ Aa a.length a ∧ k31.C z_ Ab b.length b ∧ k31.C z_ Ac c.length c ∧ k34.C z_ Al1 l1.length l1 ∧ k31.C z_ Az1 z1.length z1 ∧ k34.C z_ Al2 l2.length l2 ∧ k31.C z_ Az2 z2.length z2 ∧ k34.C z_ Al3 l3.length l3 ∧ k31.C z_ Az3 z3.length z3 := ⟨w_, rfl, hfin_, h, hv, hCa, hCb, hCc, hCl1, hCz1, hCl2, hCz2, hCl3, hCz3⟩
    refine wl_v rfl rfl (ov_move _ rfl) ?_
    refine wl_v rfl rfl (ov_extract [.slice (Az3) (z3.length) (cz3), .int .i64 (0)] _ rfl rfl) ?_
    refine wl_v rfl rfl (ov_extract [.slice (Az3) (z3.length) (cz3), .int .i64 (0)] _ rfl rfl) ?_
    refine wl_v rfl rfl (ov_assign _ rfl) ?_
    refine wl_v rfl rfl (ov_assign _ rfl) ?_
    refine wl_nil ?_
    refine qn_then ?_
    refine wc_seq ?_
    refine wc_region ?_
    refine wl_v rfl rfl (ov_move _ rfl) ?_
    refine wl_v rfl rfl (ov_bin (.bool true) rfl rfl (binR_eql)) ?_
    refine wl_v rfl rfl (ov_move _ rfl) ?_
    refine wl_v rfl rfl (ov_move _ rfl) ?_
    refine wl_v rfl rfl (ov_bin (.bool true) rfl rfl (binR_eql)) ?_
    refine wl_v rfl rfl (ov_pick_true _ rfl rfl) ?_
    refine wl_v rfl rfl (ov_move _ rfl) ?_
    refine wl_v rfl rfl (ov_move _ rfl) ?_
    refine wl_v rfl rfl (ov_bin (.bool true) rfl rfl (binR_eql)) ?_
    refine wl_v rfl rfl (ov_pick_true _ rfl rfl) ?_
    refine wl_v rfl rfl (ov_move _ rfl) ?_
    refine wl_v rfl rfl (ov_move _ rfl) ?_
    refine wl_v rfl rfl (ov_move _ rfl) ?_
    refine wl_call _ rfl rfl rfl ent17 (regletref14_Pages.calls 200 _ _ z2 _ _ z3 _ _ ((Sx.ro_C hv h hCz2)) hlz2 ((Sx.ro_C hv h hCz3)) hlz3 (Pure.pages_val z2 z3 hFz2 hFz3 (Pure.sps_trans hspz2 (Pure.sps_symm hspz3)))) ?_
    rintro e_ w_ ⟨rfl, hB_⟩
    refine ⟨_, rfl, ?_⟩
    replace h := st_below h hB_
    refine wl_v rfl rfl (ov_pick_true _ rfl rfl) ?_
    refine wl_v rfl rfl (ov_move _ rfl) ?_
    refine wl_v rfl rfl (ov_move _ rfl) ?_
    refine wl_v rfl rfl (ov_move _ rfl) ?_
    refine wl_call _ rfl rfl rfl ent17 (regletref14_Pages.calls 200 _ _ z2 _ _ c _ _ ((Sx.ro_C hv h hCz2)) hlz2 ((Sx.ro_C hv h hCc)) hlc (Pure.pages_val z2 c hFz2 hFc hspz2)) ?_
    rintro e_ w_ ⟨rfl, hB_⟩
    refine ⟨_, rfl, ?_⟩
    replace h := st_below h hB_
    refine wl_v rfl rfl (ov_pick_true _ rfl rfl) ?_
    refine wl_v rfl rfl (ov_assign _ rfl) ?_
    refine wl_nil ?_
    refine qn_then ?_
    refine wc_ret ?_
    refine qn_ret [_] ⟨rfl, trivial⟩ ?_
    exact ⟨rfl, (by have z_ := hfin_ _ (by have hz_ := h; rw [hF0_, hR0_] at hz_; exact st_below0 hz_); rw [hS_] at z_; exact z_)⟩
end Go.Proofs.Ytemgnkloloaeoaa.L
