/- The walk of CompareMerges. -/
import Derived.Test.YtbakllppgekmoaaProg
import Derived.Test.YtbakllppgekmoaaSxGlue
import Derived.Test.YtbakllppgekmoaaSxBytes
import Derived.Test.YtbakllppgekmoaaSxIter
import Derived.Test.YtbakllppgekmoaaSxKinds
import Derived.Test.YtbakllppgekmoaaSxDiff
import Derived.Test.YtbakllppgekmoaaSxEdits
import Derived.Test.YtbakllppgekmoaaSxApply
namespace Go.Proofs.Ytbakllppgekmoaa.L
open Go Go.RowKit Go.Proofs.YtbakllppgekmoaaW.PrintWords Go.Proofs.Ytbakllppgekmoaa.Kinds Go.Proofs.Ytbakllppgekmoaa.Cmp Go.Proofs.Ytbakllppgekmoaa.Given Go.Proofs.Ytbakllppgekmoaa.Sx 
set_option linter.unusedVariables false
set_option linter.unusedSimpArgs false
theorem ent9 : Sx.Ent Try.prog 9 := ⟨Try.f9, Try.func9, by kernel_rfl, by kernel_rfl⟩
theorem ent10 : Sx.Ent Try.prog 10 := ⟨Try.f10, Try.func10, by kernel_rfl, by kernel_rfl⟩
theorem ent11 : Sx.Ent Try.prog 11 := ⟨Try.f11, Try.func11, by kernel_rfl, by kernel_rfl⟩
theorem ent12 : Sx.Ent Try.prog 12 := ⟨Try.f12, Try.func12, by kernel_rfl, by kernel_rfl⟩
theorem ent13 : Sx.Ent Try.prog 13 := ⟨Try.f13, Try.func13, by kernel_rfl, by kernel_rfl⟩

theorem merge_len {a b : List Edit} (ha : a.length ≤ 60) (hb : b.length ≤ 60) (hsa : Srt a) (hsb : Srt b) : ((mergeV a b).getD []).length ≤ 1000000 := by
  cases hq : mergeV a b with
  | none => exact Nat.zero_le _
  | some l =>
    have := (mergeN_small _ _ _ _ hq).1
    show l.length ≤ _
    omega
set_option maxHeartbeats 4000000 in
set_option maxRecDepth 100000 in
theorem CompareMerges_calls {w0 w : World} {F0 : Nat → Prop} {R : List Sx.HP} {v0 : World} (a : List S33) (Aa : Option Addr) (ca : Nat) (b : List S33) (Ab : Option Addr) (cb : Nat) (hv : Sx.RO v0 w0 F0) (hla : a.length ≤ ca) (hCa : k33.C v0 Aa a.length a) (hma : a.length ≤ 9223372036854775807) (hlb : b.length ≤ cb) (hCb : k33.C v0 Ab b.length b) (hmb : b.length ≤ 9223372036854775807) (h : Sx.St w0 F0 ([] ++ R) w) : Calls Try.prog 3 #[.slice (Aa) (a.length) (ca), .slice (Ab) (b.length) (cb)] w (fun e w1 => e = .returned (.bool true) ∧ Sx.St w0 F0 R w1) := by
 refine Sx.calls_fn (vs := [.slice (Aa) (a.length) (ca), .slice (Ab) (b.length) (cb)]) Try.func3 rfl Try.ntmps3 rfl ?_
 refine wc_seq ?_
 refine wc_region ?_
 refine wl_v rfl rfl (ov_assign _ rfl) ?_
 refine wl_nil ?_
 refine qn_then ?_
 refine wc_seq ?_
 refine wc_seq ?_
 refine wc_region ?_
 refine wl_call _ rfl rfl rfl ent9 (A.awake_calls (R := [] ++ R) h) ?_
 rintro e_ w_ ⟨rfl, h⟩
 refine ⟨_, rfl, ?_⟩
 refine wl_v rfl rfl (ov_notb _ rfl) ?_
 refine wl_nil ?_
 refine qn_then ?_
 refine wc_cond_false rfl ?_
 refine wc_skip ?_
 refine qn_then ?_
 refine wc_seq ?_
 refine wc_seq ?_
 refine wc_region ?_
 refine wl_v rfl rfl (ov_move _ rfl) ?_
 refine wl_call _ rfl rfl rfl ent10 (E.ordered_calls (R := [] ++ R) a (Aa) ca hv hla hCa h) ?_
 rintro e_ w_ ⟨bg1, rfl, hg2, h⟩
 refine ⟨_, rfl, ?_⟩
 refine wl_v rfl rfl (ov_notb _ rfl) ?_
 refine wl_v rfl rfl (ov_move _ rfl) ?_
 refine wl_splitb 16 rfl (fun c3 => ?_) (fun c3 => ?_)
 ·
  refine wl_skip rfl rfl ?_
  refine wl_skip rfl rfl ?_
  refine wl_skip rfl rfl ?_
  refine wl_v rfl rfl (ov_pick_true _ rfl rfl) ?_
  refine wl_nil ?_
  refine qn_then ?_
  refine wc_cond_true rfl ?_
  refine wc_seq ?_
  refine wc_region ?_
  refine wl_v rfl rfl (ov_assign _ rfl) ?_
  refine wl_nil ?_
  refine qn_then ?_
  refine wc_ret ?_
  refine qn_then_ret ?_
  refine qn_ret [_] ⟨rfl, trivial⟩ ?_
  exact ⟨rfl, h⟩
 ·
  have hFa := hg2 (by simpa using c3)
  refine wl_v rfl rfl (ov_move _ rfl) ?_
  refine wl_call _ rfl rfl rfl ent10 (E.ordered_calls (R := [] ++ R) b (Ab) cb hv hlb hCb h) ?_
  rintro e_ w_ ⟨bg4, rfl, hg5, h⟩
  refine ⟨_, rfl, ?_⟩
  refine wl_v rfl rfl (ov_notb _ rfl) ?_
  refine wl_v rfl rfl (ov_pick_false _ rfl rfl) ?_
  refine wl_nil ?_
  refine qn_then ?_
  refine wc_condb (by rfl) (fun c6 => ?_) (fun c6 => ?_)
  ·
   refine wc_seq ?_
   refine wc_region ?_
   refine wl_v rfl rfl (ov_assign _ rfl) ?_
   refine wl_nil ?_
   refine qn_then ?_
   refine wc_ret ?_
   refine qn_then_ret ?_
   refine qn_ret [_] ⟨rfl, trivial⟩ ?_
   exact ⟨rfl, h⟩
  ·
   have hFb := hg5 (by simpa using c6)
   have hsa_ := srt_of_ord hFa.2
   have hsb_ := srt_of_ord hFb.2
   have hrs_ := ref_same hsa_ hsb_
   have hms_ := merge_symm hsa_ hsb_
   have hml_ := merge_len hFa.1.1 hFb.1.1 hsa_ hsb_
   refine wc_skip ?_
   refine qn_then ?_
   refine wc_seq ?_
   refine wc_region ?_
   refine wl_v rfl rfl (ov_move _ rfl) ?_
   refine wl_v rfl rfl (ov_move _ rfl) ?_
   refine wl_call _ rfl rfl rfl ent11 (E.Merge_calls (v0 := _) (w0 := _) (F0 := fun _ => False) (R := []) a (Aa) (ca) b (Ab) (cb) (Sx.ro_self _) (hla) (Sx.ro_C hv h hCa) (hlb) (Sx.ro_C hv h hCb) (by first | omega | exact Nat.le_trans hFa.1.1 (by decide) | exact Nat.le_trans hFb.1.1 (by decide)) (by first | omega | exact Nat.le_trans hFa.1.1 (by decide) | exact Nat.le_trans hFb.1.1 (by decide)) (st_start _)) ?_
   rintro e_ w_ ⟨Ay7, cy7, rfl, h2_⟩
   refine ⟨_, rfl, ?_⟩
   replace h := st_rebase h h2_
   replace h : Sx.St w0 F0 ([Sx.row k33 33 (Ay7) (cy7) (((mergeV a b).getD []))] ++ R) _ := h
   refine wl_v rfl rfl (ov_move _ rfl) ?_
   refine wl_v rfl rfl (ov_extract [.slice (Ay7) (((mergeV a b).getD []).length) (cy7), .bool ((mergeV a b).isSome)] _ rfl rfl) ?_
   refine wl_v rfl rfl (ov_extract [.slice (Ay7) (((mergeV a b).getD []).length) (cy7), .bool ((mergeV a b).isSome)] _ rfl rfl) ?_
   refine wl_v rfl rfl (ov_assign _ rfl) ?_
   refine wl_v rfl rfl (ov_assign _ rfl) ?_
   refine wl_nil ?_
   refine qn_then ?_
   refine wc_seq ?_
   refine wc_region ?_
   refine wl_v rfl rfl (ov_move _ rfl) ?_
   refine wl_v rfl rfl (ov_move _ rfl) ?_
   refine wl_call _ rfl rfl rfl ent12 (E.refMerge_calls (v0 := _) (w0 := _) (F0 := fun _ => False) (R := []) a (Aa) (ca) b (Ab) (cb) (Sx.ro_self _) (hla) (Sx.ro_C hv h hCa) (hlb) (Sx.ro_C hv h hCb) (by first | omega | exact Nat.le_trans hFa.1.1 (by decide) | exact Nat.le_trans hFb.1.1 (by decide)) (by first | omega | exact Nat.le_trans hFa.1.1 (by decide) | exact Nat.le_trans hFb.1.1 (by decide)) (st_start _)) ?_
   rintro e_ w_ ⟨Ay8, cy8, rfl, h2_⟩
   refine ⟨_, rfl, ?_⟩
   replace h := st_rebase h h2_
   replace h : Sx.St w0 F0 ([Sx.row k33 33 (Ay8) (cy8) (((refMergeV a b).getD [])), Sx.row k33 33 (Ay7) (cy7) (((mergeV a b).getD []))] ++ R) _ := h
   refine wl_v rfl rfl (ov_move _ rfl) ?_
   refine wl_v rfl rfl (ov_extract [.slice (Ay8) (((refMergeV a b).getD []).length) (cy8), .bool ((refMergeV a b).isSome)] _ rfl rfl) ?_
   refine wl_v rfl rfl (ov_extract [.slice (Ay8) (((refMergeV a b).getD []).length) (cy8), .bool ((refMergeV a b).isSome)] _ rfl rfl) ?_
   refine wl_v rfl rfl (ov_assign _ rfl) ?_
   refine wl_v rfl rfl (ov_assign _ rfl) ?_
   refine wl_nil ?_
   refine qn_then ?_
   refine wc_seq ?_
   refine wc_region ?_
   refine wl_v rfl rfl (ov_move _ rfl) ?_
   refine wl_v rfl rfl (ov_move _ rfl) ?_
   refine wl_call _ rfl rfl rfl ent11 (E.Merge_calls (v0 := _) (w0 := _) (F0 := fun _ => False) (R := []) b (Ab) (cb) a (Aa) (ca) (Sx.ro_self _) (hlb) (Sx.ro_C hv h hCb) (hla) (Sx.ro_C hv h hCa) (by first | omega | exact Nat.le_trans hFa.1.1 (by decide) | exact Nat.le_trans hFb.1.1 (by decide)) (by first | omega | exact Nat.le_trans hFa.1.1 (by decide) | exact Nat.le_trans hFb.1.1 (by decide)) (st_start _)) ?_
   rintro e_ w_ ⟨Ay9, cy9, rfl, h2_⟩
   refine ⟨_, rfl, ?_⟩
   replace h := st_rebase h h2_
   replace h : Sx.St w0 F0 ([Sx.row k33 33 (Ay9) (cy9) (((mergeV b a).getD [])), Sx.row k33 33 (Ay8) (cy8) (((refMergeV a b).getD [])), Sx.row k33 33 (Ay7) (cy7) (((mergeV a b).getD []))] ++ R) _ := h
   refine wl_v rfl rfl (ov_move _ rfl) ?_
   refine wl_v rfl rfl (ov_extract [.slice (Ay9) (((mergeV b a).getD []).length) (cy9), .bool ((mergeV b a).isSome)] _ rfl rfl) ?_
   refine wl_v rfl rfl (ov_extract [.slice (Ay9) (((mergeV b a).getD []).length) (cy9), .bool ((mergeV b a).isSome)] _ rfl rfl) ?_
   refine wl_v rfl rfl (ov_assign _ rfl) ?_
   refine wl_v rfl rfl (ov_assign _ rfl) ?_
   refine wl_nil ?_
   refine qn_then ?_
   refine wc_seq ?_
   refine wc_region ?_
   refine wl_v rfl rfl (ov_move _ rfl) ?_
   refine wl_v rfl rfl (ov_move _ rfl) ?_
   refine wl_v rfl rfl (ov_bin _ rfl rfl (binR_eqb Try.underlying4)) ?_
   refine wl_v rfl rfl (ov_move _ rfl) ?_
   refine wl_split 42 rfl (fun c10 => ?_) (fun c10 => ?_)
   ·
    refine wl_v rfl rfl (ov_move _ rfl) ?_
    refine wl_v rfl rfl (ov_move _ rfl) ?_
    refine wl_call _ rfl rfl rfl ent13 (E.Same_calls (v0 := _) (w0 := _) (F0 := fun _ => False) (R := []) ((mergeV a b).getD []) (Ay7) (cy7) ((refMergeV a b).getD []) (Ay8) (cy8) (Sx.ro_self _) ((Sx.row_reads h (i := 2) rfl).1) (Sx.row_reads h (i := 2) rfl).2 ((Sx.row_reads h (i := 1) rfl).1) (Sx.row_reads h (i := 1) rfl).2 (by first | omega | (rw [hms_]; exact hml_)) (st_start _)) ?_
    rintro e_ w_ ⟨rfl, h2_⟩
    refine ⟨_, rfl, ?_⟩
    replace h := st_below h (st_below0 h2_)
    refine wl_v rfl rfl (ov_pick_true _ rfl rfl) ?_
    refine wl_v rfl rfl (ov_move _ rfl) ?_
    refine wl_split 47 rfl (fun c11 => ?_) (fun c11 => ?_)
    ·
     refine wl_v rfl rfl (ov_move _ rfl) ?_
     refine wl_v rfl rfl (ov_move _ rfl) ?_
     refine wl_v rfl rfl (ov_bin _ rfl rfl (binR_eqb Try.underlying4)) ?_
     refine wl_v rfl rfl (ov_pick_true _ rfl rfl) ?_
     refine wl_v rfl rfl (ov_move _ rfl) ?_
     refine wl_split 52 rfl (fun c12 => ?_) (fun c12 => ?_)
     ·
      refine wl_v rfl rfl (ov_move _ rfl) ?_
      refine wl_v rfl rfl (ov_move _ rfl) ?_
      refine wl_call _ rfl rfl rfl ent13 (E.Same_calls (v0 := _) (w0 := _) (F0 := fun _ => False) (R := []) ((mergeV b a).getD []) (Ay9) (cy9) ((mergeV a b).getD []) (Ay7) (cy7) (Sx.ro_self _) ((Sx.row_reads h (i := 0) rfl).1) (Sx.row_reads h (i := 0) rfl).2 ((Sx.row_reads h (i := 2) rfl).1) (Sx.row_reads h (i := 2) rfl).2 (by first | omega | (rw [hms_]; exact hml_)) (st_start _)) ?_
      rintro e_ w_ ⟨rfl, h2_⟩
      refine ⟨_, rfl, ?_⟩
      replace h := st_below h (st_below0 h2_)
      refine wl_v rfl rfl (ov_pick_true _ rfl rfl) ?_
      refine wl_v rfl rfl (ov_assign _ rfl) ?_
      refine wl_nil ?_
      refine qn_then ?_
      refine wc_ret ?_
      replace h := st_selT [false, false, false] h
      refine qn_ret [_] ⟨rfl, trivial⟩ ?_
      have b_ : (decide (((mergeV b a).getD []) = ((mergeV a b).getD []))) = true := by apply decide_eq_true; simp [hrs_, hms_]
      exact ⟨congrArg (fun z => Ending.returned (Value.bool z)) b_, h⟩
     ·
      exfalso
      simp [hrs_, hms_] at c12
    ·
     exfalso
     simp [hrs_, hms_] at c11
   ·
    exfalso
    simp [hrs_, hms_] at c10
end Go.Proofs.Ytbakllppgekmoaa.L
