/- The walk of CompareTriangle. -/
import Derived.Test.YtbakllppgekmoaaProg
import Derived.Test.YtbakllppgekmoaaSxGlue
import Derived.Test.YtbakllppgekmoaaSxBytes
import Derived.Test.YtbakllppgekmoaaSxIter
import Derived.Test.YtbakllppgekmoaaSxKinds
import Derived.Test.YtbakllppgekmoaaSxDiff
import Derived.Test.YtbakllppgekmoaaSxEdits
import Derived.Test.YtbakllppgekmoaaSxApply
import Derived.Test.YtbakllppgekmoaaSxFlow
import Derived.Test.YtbakllppgekmoaaRunesParts
import Derived.Test.YtbakllppgekmoaaSxRunes
import Derived.Test.YtbakllppgekmoaaSxTexts
import Derived.Test.YtbakllppgekmoaaCmpLaws
namespace Go.Proofs.Ytbakllppgekmoaa.L
open Go Go.RowKit Go.Proofs.YtbakllppgekmoaaW.PrintWords Go.Proofs.Ytbakllppgekmoaa.Kinds Go.Proofs.Ytbakllppgekmoaa.Cmp Go.Proofs.Ytbakllppgekmoaa.Given Go.Proofs.Ytbakllppgekmoaa.Rn Go.Proofs.Ytbakllppgekmoaa.Sx 
set_option linter.unusedVariables false
set_option linter.unusedSimpArgs false
theorem ent9 : Sx.Ent Try.prog 9 := ⟨Try.f9, Try.func9, by kernel_rfl, by kernel_rfl⟩
theorem ent14 : Sx.Ent Try.prog 14 := ⟨Try.f14, Try.func14, by kernel_rfl, by kernel_rfl⟩
theorem ent21 : Sx.Ent Try.prog 21 := ⟨Try.f21, Try.func21, by kernel_rfl, by kernel_rfl⟩
theorem ent20 : Sx.Ent Try.prog 20 := ⟨Try.f20, Try.func20, by kernel_rfl, by kernel_rfl⟩
theorem es22 : Sx.elemSz Try.prog 22 = some (33, 3) := by kernel_rfl
set_option maxHeartbeats 4000000 in
set_option maxRecDepth 100000 in
theorem CompareTriangle_calls {w0 w : World} {F0 : Nat → Prop} {R : List Sx.HP} {v0 : World} (a : ByteArray) (b : ByteArray) (c : ByteArray) (hv : Sx.RO v0 w0 F0) (hza : a.size ≤ 9223372036854775807) (hzb : b.size ≤ 9223372036854775807) (hzc : c.size ≤ 9223372036854775807) (h : Sx.St w0 F0 ([] ++ R) w) : Calls Try.prog 6 #[.string (a), .string (b), .string (c)] w (fun e w1 => e = .returned (.bool true) ∧ Sx.St w0 F0 R w1) := by
 refine Sx.calls_fn (vs := [.string (a), .string (b), .string (c)]) Try.func6 rfl Try.ntmps6 rfl ?_
 refine wc_seq ?_
 refine wc_region ?_
 refine wl_v rfl rfl (ov_assign _ rfl) ?_
 refine wl_nil ?_
 refine qn_then ?_
 refine wc_seq ?_
 refine wc_seq ?_
 refine wc_region ?_
 refine wl_call _ rfl rfl rfl ent9 (A.awake_calls (R := [] ++ R) h) ?_
 rintro e_ w_ ⟨rfl, h⟩
 refine ⟨_, rfl, ?_⟩
 refine wl_v rfl rfl (ov_notb _ rfl) ?_
 refine wl_nil ?_
 refine qn_then ?_
 refine wc_cond_false rfl ?_
 refine wc_skip ?_
 refine qn_then ?_
 refine wc_seq ?_
 refine wc_seq ?_
 refine wc_region ?_
 refine wl_v rfl rfl (ov_move _ rfl) ?_
 refine wl_call _ rfl rfl rfl ent14 (TX.right_calls (R := [] ++ R) (a) h) ?_
 rintro e_ w_ ⟨br1, rfl, hr2, h⟩
 refine ⟨_, rfl, ?_⟩
 refine wl_v rfl rfl (ov_notb _ rfl) ?_
 refine wl_v rfl rfl (ov_move _ rfl) ?_
 refine wl_splitb 15 rfl (fun c3 => ?_) (fun c3 => ?_)
 ·
  refine wl_skip rfl rfl ?_
  refine wl_skip rfl rfl ?_
  refine wl_skip rfl rfl ?_
  refine wl_v rfl rfl (ov_pick_true _ rfl rfl) ?_
  refine wl_v rfl rfl (ov_move _ rfl) ?_
  refine wl_skip rfl rfl ?_
  refine wl_skip rfl rfl ?_
  refine wl_skip rfl rfl ?_
  refine wl_v rfl rfl (ov_pick_true _ rfl rfl) ?_
  refine wl_nil ?_
  refine qn_then ?_
  refine wc_cond_true rfl ?_
  refine wc_seq ?_
  refine wc_region ?_
  refine wl_v rfl rfl (ov_assign _ rfl) ?_
  refine wl_nil ?_
  refine qn_then ?_
  refine wc_ret ?_
  refine qn_then_ret ?_
  refine qn_ret [_] ⟨rfl, trivial⟩ ?_
  exact ⟨rfl, h⟩
 ·
  have hRa := hr2 (by simpa using c3)
  refine wl_v rfl rfl (ov_move _ rfl) ?_
  refine wl_call _ rfl rfl rfl ent14 (TX.right_calls (R := [] ++ R) (b) h) ?_
  rintro e_ w_ ⟨br4, rfl, hr5, h⟩
  refine ⟨_, rfl, ?_⟩
  refine wl_v rfl rfl (ov_notb _ rfl) ?_
  refine wl_v rfl rfl (ov_pick_false _ rfl rfl) ?_
  refine wl_v rfl rfl (ov_move _ rfl) ?_
  refine wl_splitb 20 rfl (fun c6 => ?_) (fun c6 => ?_)
  ·
   refine wl_skip rfl rfl ?_
   refine wl_skip rfl rfl ?_
   refine wl_skip rfl rfl ?_
   refine wl_v rfl rfl (ov_pick_true _ rfl rfl) ?_
   refine wl_nil ?_
   refine qn_then ?_
   refine wc_cond_true rfl ?_
   refine wc_seq ?_
   refine wc_region ?_
   refine wl_v rfl rfl (ov_assign _ rfl) ?_
   refine wl_nil ?_
   refine qn_then ?_
   refine wc_ret ?_
   refine qn_then_ret ?_
   refine qn_ret [_] ⟨rfl, trivial⟩ ?_
   exact ⟨rfl, h⟩
  ·
   have hRb := hr5 (by simpa using c6)
   refine wl_v rfl rfl (ov_move _ rfl) ?_
   refine wl_call _ rfl rfl rfl ent14 (TX.right_calls (R := [] ++ R) (c) h) ?_
   rintro e_ w_ ⟨br7, rfl, hr8, h⟩
   refine ⟨_, rfl, ?_⟩
   refine wl_v rfl rfl (ov_notb _ rfl) ?_
   refine wl_v rfl rfl (ov_pick_false _ rfl rfl) ?_
   refine wl_nil ?_
   refine qn_then ?_
   refine wc_condb (by rfl) (fun c9 => ?_) (fun c9 => ?_)
   ·
    refine wc_seq ?_
    refine wc_region ?_
    refine wl_v rfl rfl (ov_assign _ rfl) ?_
    refine wl_nil ?_
    refine qn_then ?_
    refine wc_ret ?_
    refine qn_then_ret ?_
    refine qn_ret [_] ⟨rfl, trivial⟩ ?_
    exact ⟨rfl, h⟩
   ·
    have hRc := hr8 (by simpa using c9)
    obtain ⟨t1_, t2_, t3_, t4_, t5_, t6_⟩ := tri hRa hRb hRc
    have q1_ := hRa.1
    have q2_ := hRb.1
    have q3_ := hRc.1
    have ds_ := diff_self a
    refine wc_skip ?_
    refine qn_then ?_
    refine wc_seq ?_
    refine wc_region ?_
    refine wl_v rfl rfl (ov_move _ rfl) ?_
    refine wl_v rfl rfl (ov_move _ rfl) ?_
    refine wl_v rfl rfl (ov_move _ rfl) ?_
    refine wl_call _ rfl rfl rfl ent21 (D.Diff_calls (R := [] ++ R) (a) (b) (by first | omega | decide) (by first | omega | decide) h) ?_
    rintro e_ w_ ⟨Ay10, cy10, rfl, h⟩
    refine ⟨_, rfl, ?_⟩
    replace h : Sx.St w0 F0 ([Sx.row k33 33 (Ay10) (cy10) ((diffV (a) (b)))] ++ R) _ := h
    refine wl_call _ rfl rfl rfl ent20 (A.Cost_calls (v0 := _) (w0 := _) (F0 := fun _ => False) (R := []) (a) (diffV (a) (b)) (Ay10) (cy10) (Sx.ro_self _) ((Sx.row_reads h (i := 0) rfl).1) (Sx.row_reads h (i := 0) rfl).2 (by have q_ := hRa.1; omega) (by have q_ := (diff_tiny hRa hRb).1; omega) (fun e_ he_ => Nat.le_trans ((diff_tiny hRa hRb).2 e_ he_) (by decide)) (st_start _)) ?_
    rintro e_ w_ ⟨rfl, h2_⟩
    refine ⟨_, rfl, ?_⟩
    replace h := st_below h (st_below0 h2_)
    refine wl_v rfl rfl (ov_move _ rfl) ?_
    refine wl_v rfl rfl (ov_move _ rfl) ?_
    refine wl_v rfl rfl (ov_move _ rfl) ?_
    refine wl_call _ rfl rfl rfl ent21 (D.Diff_calls (R := [Sx.row k33 33 (Ay10) (cy10) ((diffV (a) (b)))] ++ R) (b) (c) (by first | omega | decide) (by first | omega | decide) h) ?_
    rintro e_ w_ ⟨Ay11, cy11, rfl, h⟩
    refine ⟨_, rfl, ?_⟩
    replace h : Sx.St w0 F0 ([Sx.row k33 33 (Ay11) (cy11) ((diffV (b) (c))), Sx.row k33 33 (Ay10) (cy10) ((diffV (a) (b)))] ++ R) _ := h
    refine wl_call _ rfl rfl rfl ent20 (A.Cost_calls (v0 := _) (w0 := _) (F0 := fun _ => False) (R := []) (b) (diffV (b) (c)) (Ay11) (cy11) (Sx.ro_self _) ((Sx.row_reads h (i := 0) rfl).1) (Sx.row_reads h (i := 0) rfl).2 (by have q_ := hRb.1; omega) (by have q_ := (diff_tiny hRb hRc).1; omega) (fun e_ he_ => Nat.le_trans ((diff_tiny hRb hRc).2 e_ he_) (by decide)) (st_start _)) ?_
    rintro e_ w_ ⟨rfl, h2_⟩
    refine ⟨_, rfl, ?_⟩
    replace h := st_below h (st_below0 h2_)
    refine wl_v rfl rfl (ov_move _ rfl) ?_
    refine wl_v rfl rfl (ov_move _ rfl) ?_
    refine wl_v rfl rfl (ov_move _ rfl) ?_
    refine wl_call _ rfl rfl rfl ent21 (D.Diff_calls (R := [Sx.row k33 33 (Ay11) (cy11) ((diffV (b) (c))), Sx.row k33 33 (Ay10) (cy10) ((diffV (a) (b)))] ++ R) (a) (c) (by first | omega | decide) (by first | omega | decide) h) ?_
    rintro e_ w_ ⟨Ay12, cy12, rfl, h⟩
    refine ⟨_, rfl, ?_⟩
    replace h : Sx.St w0 F0 ([Sx.row k33 33 (Ay12) (cy12) ((diffV (a) (c))), Sx.row k33 33 (Ay11) (cy11) ((diffV (b) (c))), Sx.row k33 33 (Ay10) (cy10) ((diffV (a) (b)))] ++ R) _ := h
    refine wl_call _ rfl rfl rfl ent20 (A.Cost_calls (v0 := _) (w0 := _) (F0 := fun _ => False) (R := []) (a) (diffV (a) (c)) (Ay12) (cy12) (Sx.ro_self _) ((Sx.row_reads h (i := 0) rfl).1) (Sx.row_reads h (i := 0) rfl).2 (by have q_ := hRa.1; omega) (by have q_ := (diff_tiny hRa hRc).1; omega) (fun e_ he_ => Nat.le_trans ((diff_tiny hRa hRc).2 e_ he_) (by decide)) (st_start _)) ?_
    rintro e_ w_ ⟨rfl, h2_⟩
    refine ⟨_, rfl, ?_⟩
    replace h := st_below h (st_below0 h2_)
    refine wl_v rfl rfl (ov_assign _ rfl) ?_
    refine wl_v rfl rfl (ov_assign _ rfl) ?_
    refine wl_v rfl rfl (ov_assign _ rfl) ?_
    refine wl_nil ?_
    refine qn_then ?_
    refine wc_seq ?_
    refine wc_region ?_
    refine wl_v rfl rfl (ov_move _ rfl) ?_
    refine wl_v rfl rfl (ov_move _ rfl) ?_
    refine wl_v rfl rfl (ov_move _ rfl) ?_
    refine wl_v rfl rfl (ov_bin _ rfl rfl (binR_add (r := ((costV (a) (diffV (a) (b)))) + ((costV (b) (diffV (b) (c))))) (Sx.w64 (by omega)))) ?_
    refine wl_v rfl rfl (ov_bin _ rfl rfl (binR_leq)) ?_
    refine wl_v rfl rfl (ov_move _ rfl) ?_
    refine wl_split 45 rfl (fun c13 => ?_) (fun c13 => ?_)
    ·
     refine wl_v rfl rfl (ov_move _ rfl) ?_
     refine wl_v rfl rfl (ov_move _ rfl) ?_
     refine wl_v rfl rfl (ov_move _ rfl) ?_
     refine wl_v rfl rfl (ov_move _ rfl) ?_
     refine wl_call _ rfl rfl rfl ent21 (D.Diff_calls (R := [Sx.row k33 33 (Ay12) (cy12) ((diffV (a) (c))), Sx.row k33 33 (Ay11) (cy11) ((diffV (b) (c))), Sx.row k33 33 (Ay10) (cy10) ((diffV (a) (b)))] ++ R) (b) (a) (by first | omega | decide) (by first | omega | decide) h) ?_
     rintro e_ w_ ⟨Ay14, cy14, rfl, h⟩
     refine ⟨_, rfl, ?_⟩
     replace h : Sx.St w0 F0 ([Sx.row k33 33 (Ay14) (cy14) ((diffV (b) (a))), Sx.row k33 33 (Ay12) (cy12) ((diffV (a) (c))), Sx.row k33 33 (Ay11) (cy11) ((diffV (b) (c))), Sx.row k33 33 (Ay10) (cy10) ((diffV (a) (b)))] ++ R) _ := h
     refine wl_call _ rfl rfl rfl ent20 (A.Cost_calls (v0 := _) (w0 := _) (F0 := fun _ => False) (R := []) (b) (diffV (b) (a)) (Ay14) (cy14) (Sx.ro_self _) ((Sx.row_reads h (i := 0) rfl).1) (Sx.row_reads h (i := 0) rfl).2 (by have q_ := hRb.1; omega) (by have q_ := (diff_tiny hRb hRa).1; omega) (fun e_ he_ => Nat.le_trans ((diff_tiny hRb hRa).2 e_ he_) (by decide)) (st_start _)) ?_
     rintro e_ w_ ⟨rfl, h2_⟩
     refine ⟨_, rfl, ?_⟩
     replace h := st_below h (st_below0 h2_)
     refine wl_v rfl rfl (ov_bin _ rfl rfl (binR_eql)) ?_
     refine wl_v rfl rfl (ov_pick_true _ rfl rfl) ?_
     refine wl_v rfl rfl (ov_move _ rfl) ?_
     refine wl_split 54 rfl (fun c15 => ?_) (fun c15 => ?_)
     ·
      refine wl_v rfl rfl (ov_move _ rfl) ?_
      refine wl_v rfl rfl (ov_move _ rfl) ?_
      refine wl_call _ rfl rfl rfl ent21 (D.Diff_calls (R := [Sx.row k33 33 (Ay14) (cy14) ((diffV (b) (a))), Sx.row k33 33 (Ay12) (cy12) ((diffV (a) (c))), Sx.row k33 33 (Ay11) (cy11) ((diffV (b) (c))), Sx.row k33 33 (Ay10) (cy10) ((diffV (a) (b)))] ++ R) (a) (a) (by first | omega | decide) (by first | omega | decide) h) ?_
      rintro e_ w_ ⟨Ay16, cy16, rfl, h⟩
      refine ⟨_, rfl, ?_⟩
      replace h : Sx.St w0 F0 ([Sx.row k33 33 (Ay16) (cy16) ((diffV (a) (a))), Sx.row k33 33 (Ay14) (cy14) ((diffV (b) (a))), Sx.row k33 33 (Ay12) (cy12) ((diffV (a) (c))), Sx.row k33 33 (Ay11) (cy11) ((diffV (b) (c))), Sx.row k33 33 (Ay10) (cy10) ((diffV (a) (b)))] ++ R) _ := h
      refine wl_v rfl rfl (ov_len _ _ _ _ _ rfl es22) ?_
      refine wl_v rfl rfl (ov_bin _ rfl rfl (binR_eql)) ?_
      refine wl_v rfl rfl (ov_pick_true _ rfl rfl) ?_
      refine wl_v rfl rfl (ov_assign _ rfl) ?_
      refine wl_nil ?_
      refine qn_then ?_
      refine wc_ret ?_
      replace h := st_selT [false, false, false, false, false] h
      refine qn_ret [_] ⟨rfl, trivial⟩ ?_
      have b_ : (decide (((((diffV (a) (a)).length : Nat) : Int) : Int) = 0)) = true := by (apply decide_eq_true; rw [ds_]; rfl)
      exact ⟨congrArg (fun z => Ending.returned (Value.bool z)) b_, h⟩
     ·
      exfalso
      omega
    ·
     exfalso
     omega
end Go.Proofs.Ytbakllppgekmoaa.L
