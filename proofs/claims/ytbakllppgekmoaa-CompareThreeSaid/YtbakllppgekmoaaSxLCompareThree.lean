/- The walk of CompareThree. -/
import Derived.Test.YtbakllppgekmoaaProg
import Derived.Test.YtbakllppgekmoaaSxGlue
import Derived.Test.YtbakllppgekmoaaSxBytes
import Derived.Test.YtbakllppgekmoaaSxIter
import Derived.Test.YtbakllppgekmoaaSxKinds
import Derived.Test.YtbakllppgekmoaaSxDiff
import Derived.Test.YtbakllppgekmoaaSxEdits
import Derived.Test.YtbakllppgekmoaaSxApply
import Derived.Test.YtbakllppgekmoaaSxFlow
import Derived.Test.YtbakllppgekmoaaRunesParts
import Derived.Test.YtbakllppgekmoaaSxRunes
import Derived.Test.YtbakllppgekmoaaSxTexts
import Derived.Test.YtbakllppgekmoaaCmpLaws
namespace Go.Proofs.Ytbakllppgekmoaa.L
open Go Go.RowKit Go.Proofs.YtbakllppgekmoaaW.PrintWords Go.Proofs.Ytbakllppgekmoaa.Kinds Go.Proofs.Ytbakllppgekmoaa.Cmp Go.Proofs.Ytbakllppgekmoaa.Given Go.Proofs.Ytbakllppgekmoaa.Rn Go.Proofs.Ytbakllppgekmoaa.Sx 
set_option linter.unusedVariables false
set_option linter.unusedSimpArgs false
theorem ent9 : Sx.Ent Try.prog 9 := ⟨Try.f9, Try.func9, by kernel_rfl, by kernel_rfl⟩
theorem ent14 : Sx.Ent Try.prog 14 := ⟨Try.f14, Try.func14, by kernel_rfl, by kernel_rfl⟩
theorem ent15 : Sx.Ent Try.prog 15 := ⟨Try.f15, Try.func15, by kernel_rfl, by kernel_rfl⟩
theorem ent16 : Sx.Ent Try.prog 16 := ⟨Try.f16, Try.func16, by kernel_rfl, by kernel_rfl⟩
set_option maxHeartbeats 4000000 in
set_option maxRecDepth 100000 in
theorem CompareThree_calls {w0 w : World} {F0 : Nat → Prop} {R : List Sx.HP} {v0 : World} (s : ByteArray) (a : ByteArray) (b : ByteArray) (hv : Sx.RO v0 w0 F0) (hzs : s.size ≤ 9223372036854775807) (hza : a.size ≤ 9223372036854775807) (hzb : b.size ≤ 9223372036854775807) (h : Sx.St w0 F0 ([] ++ R) w) : Calls Try.prog 4 #[.string (s), .string (a), .string (b)] w (fun e w1 => e = .returned (.bool true) ∧ Sx.St w0 F0 R w1) := by
 refine Sx.calls_fn (vs := [.string (s), .string (a), .string (b)]) Try.func4 rfl Try.ntmps4 rfl ?_
 refine wc_seq ?_
 refine wc_region ?_
 refine wl_v rfl rfl (ov_assign _ rfl) ?_
 refine wl_nil ?_
 refine qn_then ?_
 refine wc_seq ?_
 refine wc_seq ?_
 refine wc_region ?_
 refine wl_call _ rfl rfl rfl ent9 (A.awake_calls (R := [] ++ R) h) ?_
 rintro e_ w_ ⟨rfl, h⟩
 refine ⟨_, rfl, ?_⟩
 refine wl_v rfl rfl (ov_notb _ rfl) ?_
 refine wl_nil ?_
 refine qn_then ?_
 refine wc_cond_false rfl ?_
 refine wc_skip ?_
 refine qn_then ?_
 refine wc_seq ?_
 refine wc_seq ?_
 refine wc_region ?_
 refine wl_v rfl rfl (ov_move _ rfl) ?_
 refine wl_call _ rfl rfl rfl ent14 (TX.right_calls (R := [] ++ R) (s) h) ?_
 rintro e_ w_ ⟨br1, rfl, hr2, h⟩
 refine ⟨_, rfl, ?_⟩
 refine wl_v rfl rfl (ov_notb _ rfl) ?_
 refine wl_v rfl rfl (ov_move _ rfl) ?_
 refine wl_splitb 22 rfl (fun c3 => ?_) (fun c3 => ?_)
 ·
  refine wl_skip rfl rfl ?_
  refine wl_skip rfl rfl ?_
  refine wl_skip rfl rfl ?_
  refine wl_v rfl rfl (ov_pick_true _ rfl rfl) ?_
  refine wl_v rfl rfl (ov_move _ rfl) ?_
  refine wl_skip rfl rfl ?_
  refine wl_skip rfl rfl ?_
  refine wl_skip rfl rfl ?_
  refine wl_v rfl rfl (ov_pick_true _ rfl rfl) ?_
  refine wl_nil ?_
  refine qn_then ?_
  refine wc_cond_true rfl ?_
  refine wc_seq ?_
  refine wc_region ?_
  refine wl_v rfl rfl (ov_assign _ rfl) ?_
  refine wl_nil ?_
  refine qn_then ?_
  refine wc_ret ?_
  refine qn_then_ret ?_
  refine qn_ret [_] ⟨rfl, trivial⟩ ?_
  exact ⟨rfl, h⟩
 ·
  have hRs := hr2 (by simpa using c3)
  refine wl_v rfl rfl (ov_move _ rfl) ?_
  refine wl_call _ rfl rfl rfl ent14 (TX.right_calls (R := [] ++ R) (a) h) ?_
  rintro e_ w_ ⟨br4, rfl, hr5, h⟩
  refine ⟨_, rfl, ?_⟩
  refine wl_v rfl rfl (ov_notb _ rfl) ?_
  refine wl_v rfl rfl (ov_pick_false _ rfl rfl) ?_
  refine wl_v rfl rfl (ov_move _ rfl) ?_
  refine wl_splitb 27 rfl (fun c6 => ?_) (fun c6 => ?_)
  ·
   refine wl_skip rfl rfl ?_
   refine wl_skip rfl rfl ?_
   refine wl_skip rfl rfl ?_
   refine wl_v rfl rfl (ov_pick_true _ rfl rfl) ?_
   refine wl_nil ?_
   refine qn_then ?_
   refine wc_cond_true rfl ?_
   refine wc_seq ?_
   refine wc_region ?_
   refine wl_v rfl rfl (ov_assign _ rfl) ?_
   refine wl_nil ?_
   refine qn_then ?_
   refine wc_ret ?_
   refine qn_then_ret ?_
   refine qn_ret [_] ⟨rfl, trivial⟩ ?_
   exact ⟨rfl, h⟩
  ·
   have hRa := hr5 (by simpa using c6)
   refine wl_v rfl rfl (ov_move _ rfl) ?_
   refine wl_call _ rfl rfl rfl ent14 (TX.right_calls (R := [] ++ R) (b) h) ?_
   rintro e_ w_ ⟨br7, rfl, hr8, h⟩
   refine ⟨_, rfl, ?_⟩
   refine wl_v rfl rfl (ov_notb _ rfl) ?_
   refine wl_v rfl rfl (ov_pick_false _ rfl rfl) ?_
   refine wl_nil ?_
   refine qn_then ?_
   refine wc_condb (by rfl) (fun c9 => ?_) (fun c9 => ?_)
   ·
    refine wc_seq ?_
    refine wc_region ?_
    refine wl_v rfl rfl (ov_assign _ rfl) ?_
    refine wl_nil ?_
    refine qn_then ?_
    refine wc_ret ?_
    refine qn_then_ret ?_
    refine qn_ret [_] ⟨rfl, trivial⟩ ?_
    exact ⟨rfl, h⟩
   ·
    have hRb := hr8 (by simpa using c9)
    have y1_ := three_symm hRs hRa hRb
    obtain ⟨o1_, o2_, o3_⟩ := three_one hRs hRa
    have q1_ := hRs.1
    have q2_ := hRa.1
    have q3_ := hRb.1
    have rg_ := three_get hRs hRa hRb
    refine wc_skip ?_
    refine qn_then ?_
    refine wc_seq ?_
    refine wc_region ?_
    refine wl_v rfl rfl (ov_move _ rfl) ?_
    refine wl_v rfl rfl (ov_move _ rfl) ?_
    refine wl_v rfl rfl (ov_move _ rfl) ?_
    refine wl_call _ rfl rfl rfl ent15 (A.Three_calls (R := [] ++ R) (s) (a) (b) (by first | omega | decide) (by first | omega | decide) (by first | omega | decide) h) ?_
    rintro e_ w_ ⟨rfl, h⟩
    refine ⟨_, rfl, ?_⟩
    refine wl_v rfl rfl (ov_move _ rfl) ?_
    refine wl_v rfl rfl (ov_extract [.string ((threeV (s) (a) (b)).getD ByteArray.empty), .bool ((threeV (s) (a) (b)).isSome)] _ rfl rfl) ?_
    refine wl_v rfl rfl (ov_extract [.string ((threeV (s) (a) (b)).getD ByteArray.empty), .bool ((threeV (s) (a) (b)).isSome)] _ rfl rfl) ?_
    refine wl_v rfl rfl (ov_assign _ rfl) ?_
    refine wl_v rfl rfl (ov_assign _ rfl) ?_
    refine wl_nil ?_
    refine qn_then ?_
    refine wc_seq ?_
    refine wc_region ?_
    refine wl_v rfl rfl (ov_move _ rfl) ?_
    refine wl_v rfl rfl (ov_move _ rfl) ?_
    refine wl_v rfl rfl (ov_move _ rfl) ?_
    refine wl_call _ rfl rfl rfl ent15 (A.Three_calls (R := [] ++ R) (s) (b) (a) (by first | omega | decide) (by first | omega | decide) (by first | omega | decide) h) ?_
    rintro e_ w_ ⟨rfl, h⟩
    refine ⟨_, rfl, ?_⟩
    refine wl_v rfl rfl (ov_move _ rfl) ?_
    refine wl_v rfl rfl (ov_extract [.string ((threeV (s) (b) (a)).getD ByteArray.empty), .bool ((threeV (s) (b) (a)).isSome)] _ rfl rfl) ?_
    refine wl_v rfl rfl (ov_extract [.string ((threeV (s) (b) (a)).getD ByteArray.empty), .bool ((threeV (s) (b) (a)).isSome)] _ rfl rfl) ?_
    refine wl_v rfl rfl (ov_assign _ rfl) ?_
    refine wl_v rfl rfl (ov_assign _ rfl) ?_
    refine wl_nil ?_
    refine qn_then ?_
    refine wc_seq ?_
    refine wc_region ?_
    refine wl_v rfl rfl (ov_move _ rfl) ?_
    refine wl_v rfl rfl (ov_move _ rfl) ?_
    refine wl_v rfl rfl (ov_move _ rfl) ?_
    refine wl_call _ rfl rfl rfl ent15 (A.Three_calls (R := [] ++ R) (s) (a) (s) (by first | omega | decide) (by first | omega | decide) (by first | omega | decide) h) ?_
    rintro e_ w_ ⟨rfl, h⟩
    refine ⟨_, rfl, ?_⟩
    refine wl_v rfl rfl (ov_move _ rfl) ?_
    refine wl_v rfl rfl (ov_extract [.string ((threeV (s) (a) (s)).getD ByteArray.empty), .bool ((threeV (s) (a) (s)).isSome)] _ rfl rfl) ?_
    refine wl_v rfl rfl (ov_extract [.string ((threeV (s) (a) (s)).getD ByteArray.empty), .bool ((threeV (s) (a) (s)).isSome)] _ rfl rfl) ?_
    refine wl_v rfl rfl (ov_assign _ rfl) ?_
    refine wl_v rfl rfl (ov_assign _ rfl) ?_
    refine wl_nil ?_
    refine qn_then ?_
    refine wc_seq ?_
    refine wc_region ?_
    refine wl_v rfl rfl (ov_move _ rfl) ?_
    refine wl_v rfl rfl (ov_move _ rfl) ?_
    refine wl_v rfl rfl (ov_move _ rfl) ?_
    refine wl_call _ rfl rfl rfl ent15 (A.Three_calls (R := [] ++ R) (s) (s) (a) (by first | omega | decide) (by first | omega | decide) (by first | omega | decide) h) ?_
    rintro e_ w_ ⟨rfl, h⟩
    refine ⟨_, rfl, ?_⟩
    refine wl_v rfl rfl (ov_move _ rfl) ?_
    refine wl_v rfl rfl (ov_extract [.string ((threeV (s) (s) (a)).getD ByteArray.empty), .bool ((threeV (s) (s) (a)).isSome)] _ rfl rfl) ?_
    refine wl_v rfl rfl (ov_extract [.string ((threeV (s) (s) (a)).getD ByteArray.empty), .bool ((threeV (s) (s) (a)).isSome)] _ rfl rfl) ?_
    refine wl_v rfl rfl (ov_assign _ rfl) ?_
    refine wl_v rfl rfl (ov_assign _ rfl) ?_
    refine wl_nil ?_
    refine qn_then ?_
    refine wc_seq ?_
    refine wc_region ?_
    refine wl_v rfl rfl (ov_move _ rfl) ?_
    refine wl_v rfl rfl (ov_move _ rfl) ?_
    refine wl_v rfl rfl (ov_move _ rfl) ?_
    refine wl_call _ rfl rfl rfl ent15 (A.Three_calls (R := [] ++ R) (s) (a) (a) (by first | omega | decide) (by first | omega | decide) (by first | omega | decide) h) ?_
    rintro e_ w_ ⟨rfl, h⟩
    refine ⟨_, rfl, ?_⟩
    refine wl_v rfl rfl (ov_move _ rfl) ?_
    refine wl_v rfl rfl (ov_extract [.string ((threeV (s) (a) (a)).getD ByteArray.empty), .bool ((threeV (s) (a) (a)).isSome)] _ rfl rfl) ?_
    refine wl_v rfl rfl (ov_extract [.string ((threeV (s) (a) (a)).getD ByteArray.empty), .bool ((threeV (s) (a) (a)).isSome)] _ rfl rfl) ?_
    refine wl_v rfl rfl (ov_assign _ rfl) ?_
    refine wl_v rfl rfl (ov_assign _ rfl) ?_
    refine wl_nil ?_
    refine qn_then ?_
    refine wc_seq ?_
    refine wc_region ?_
    refine wl_v rfl rfl (ov_move _ rfl) ?_
    refine wl_v rfl rfl (ov_move _ rfl) ?_
    refine wl_v rfl rfl (ov_bin _ rfl rfl (binR_eqb Try.underlying4)) ?_
    refine wl_v rfl rfl (ov_move _ rfl) ?_
    refine wl_split 70 rfl (fun c10 => ?_) (fun c10 => ?_)
    ·
     refine wl_v rfl rfl (ov_move _ rfl) ?_
     refine wl_v rfl rfl (ov_move _ rfl) ?_
     refine wl_v rfl rfl (ov_bin _ rfl rfl (binR_eqs)) ?_
     refine wl_v rfl rfl (ov_pick_true _ rfl rfl) ?_
     refine wl_v rfl rfl (ov_move _ rfl) ?_
     refine wl_split 75 rfl (fun c11 => ?_) (fun c11 => ?_)
     ·
      refine wl_v rfl rfl (ov_move _ rfl) ?_
      refine wl_v rfl rfl (ov_move _ rfl) ?_
      refine wl_splitb 77 rfl (fun c12 => ?_) (fun c12 => ?_)
      ·
       refine wl_skip rfl rfl ?_
       refine wl_skip rfl rfl ?_
       refine wl_v rfl rfl (ov_pick_true _ rfl rfl) ?_
       refine wl_v rfl rfl (ov_pick_true _ rfl rfl) ?_
       refine wl_v rfl rfl (ov_move _ rfl) ?_
       refine wl_v rfl rfl (ov_move _ rfl) ?_
       refine wl_v rfl rfl (ov_pick_true _ rfl rfl) ?_
       refine wl_v rfl rfl (ov_move _ rfl) ?_
       refine wl_splitb 85 rfl (fun c13 => ?_) (fun c13 => ?_)
       ·
        refine wl_v rfl rfl (ov_move _ rfl) ?_
        refine wl_v rfl rfl (ov_pick_true _ rfl rfl) ?_
        refine wl_v rfl rfl (ov_move _ rfl) ?_
        refine wl_splitb 88 rfl (fun c14 => ?_) (fun c14 => ?_)
        ·
         refine wl_v rfl rfl (ov_move _ rfl) ?_
         refine wl_v rfl rfl (ov_pick_true _ rfl rfl) ?_
         refine wl_v rfl rfl (ov_move _ rfl) ?_
         refine wl_splitb 91 rfl (fun c15 => ?_) (fun c15 => ?_)
         ·
          refine wl_v rfl rfl (ov_move _ rfl) ?_
          refine wl_v rfl rfl (ov_move _ rfl) ?_
          refine wl_v rfl rfl (ov_bin _ rfl rfl (binR_eqs)) ?_
          refine wl_v rfl rfl (ov_pick_true _ rfl rfl) ?_
          refine wl_v rfl rfl (ov_move _ rfl) ?_
          refine wl_split 96 rfl (fun c16 => ?_) (fun c16 => ?_)
          ·
           refine wl_v rfl rfl (ov_move _ rfl) ?_
           refine wl_v rfl rfl (ov_move _ rfl) ?_
           refine wl_v rfl rfl (ov_bin _ rfl rfl (binR_eqs)) ?_
           refine wl_v rfl rfl (ov_pick_true _ rfl rfl) ?_
           refine wl_v rfl rfl (ov_move _ rfl) ?_
           refine wl_split 101 rfl (fun c17 => ?_) (fun c17 => ?_)
           ·
            refine wl_v rfl rfl (ov_move _ rfl) ?_
            refine wl_v rfl rfl (ov_move _ rfl) ?_
            refine wl_v rfl rfl (ov_bin _ rfl rfl (binR_eqs)) ?_
            refine wl_v rfl rfl (ov_pick_true _ rfl rfl) ?_
            refine wl_v rfl rfl (ov_move _ rfl) ?_
            refine wl_split 106 rfl (fun c18 => ?_) (fun c18 => ?_)
            ·
             refine wl_v rfl rfl (ov_move _ rfl) ?_
             refine wl_call _ rfl rfl rfl ent16 (RN.Right_calls (R := [] ++ R) ((threeV (s) (a) (b)).getD ByteArray.empty) (by (have z_ := three_size hRs hRa hRb; omega)) h) ?_
             rintro e_ w_ ⟨rfl, h⟩
             refine ⟨_, rfl, ?_⟩
             refine wl_v rfl rfl (ov_pick_true _ rfl rfl) ?_
             refine wl_v rfl rfl (ov_assign _ rfl) ?_
             refine wl_nil ?_
             refine qn_then ?_
             refine wc_ret ?_
             refine qn_ret [_] ⟨rfl, trivial⟩ ?_
             have b_ : (decide ((refV ((threeV (s) (a) (b)).getD ByteArray.empty)).2 < 0)) = true := by (apply decide_eq_true; exact rg_)
             exact ⟨congrArg (fun z => Ending.returned (Value.bool z)) b_, h⟩
            ·
             exfalso
             first | (simp [y1_, o1_, o2_, o3_] at c18; done) | exact absurd (by rw [hn_]; rfl) c18
           ·
            exfalso
            first | (simp [y1_, o1_, o2_, o3_] at c17; done) | exact absurd (by rw [hn_]; rfl) c17
          ·
           exfalso
           first | (simp [y1_, o1_, o2_, o3_] at c16; done) | exact absurd (by rw [hn_]; rfl) c16
         ·
          exfalso
          first | (simp [y1_, o1_, o2_, o3_] at c15; done) | exact absurd (by rw [hn_]; rfl) c15
        ·
         exfalso
         first | (simp [y1_, o1_, o2_, o3_] at c14; done) | exact absurd (by rw [hn_]; rfl) c14
       ·
        exfalso
        first | (simp [y1_, o1_, o2_, o3_] at c13; done) | exact absurd (by rw [hn_]; rfl) c13
      ·
       have hn_ : threeV (s) (a) (b) = none := by simpa using c12
       refine wl_v rfl rfl (ov_move _ rfl) ?_
       refine wl_v rfl rfl (ov_bin _ rfl rfl (binR_eqs)) ?_
       refine wl_v rfl rfl (ov_pick_false _ rfl rfl) ?_
       refine wl_v rfl rfl (ov_pick_true _ rfl rfl) ?_
       refine wl_v rfl rfl (ov_move _ rfl) ?_
       refine wl_split 82 rfl (fun c19 => ?_) (fun c19 => ?_)
       ·
        refine wl_v rfl rfl (ov_move _ rfl) ?_
        refine wl_v rfl rfl (ov_pick_true _ rfl rfl) ?_
        refine wl_v rfl rfl (ov_move _ rfl) ?_
        refine wl_splitb 85 rfl (fun c20 => ?_) (fun c20 => ?_)
        ·
         refine wl_v rfl rfl (ov_move _ rfl) ?_
         refine wl_v rfl rfl (ov_pick_true _ rfl rfl) ?_
         refine wl_v rfl rfl (ov_move _ rfl) ?_
         refine wl_splitb 88 rfl (fun c21 => ?_) (fun c21 => ?_)
         ·
          refine wl_v rfl rfl (ov_move _ rfl) ?_
          refine wl_v rfl rfl (ov_pick_true _ rfl rfl) ?_
          refine wl_v rfl rfl (ov_move _ rfl) ?_
          refine wl_splitb 91 rfl (fun c22 => ?_) (fun c22 => ?_)
          ·
           refine wl_v rfl rfl (ov_move _ rfl) ?_
           refine wl_v rfl rfl (ov_move _ rfl) ?_
           refine wl_v rfl rfl (ov_bin _ rfl rfl (binR_eqs)) ?_
           refine wl_v rfl rfl (ov_pick_true _ rfl rfl) ?_
           refine wl_v rfl rfl (ov_move _ rfl) ?_
           refine wl_split 96 rfl (fun c23 => ?_) (fun c23 => ?_)
           ·
            refine wl_v rfl rfl (ov_move _ rfl) ?_
            refine wl_v rfl rfl (ov_move _ rfl) ?_
            refine wl_v rfl rfl (ov_bin _ rfl rfl (binR_eqs)) ?_
            refine wl_v rfl rfl (ov_pick_true _ rfl rfl) ?_
            refine wl_v rfl rfl (ov_move _ rfl) ?_
            refine wl_split 101 rfl (fun c24 => ?_) (fun c24 => ?_)
            ·
             refine wl_v rfl rfl (ov_move _ rfl) ?_
             refine wl_v rfl rfl (ov_move _ rfl) ?_
             refine wl_v rfl rfl (ov_bin _ rfl rfl (binR_eqs)) ?_
             refine wl_v rfl rfl (ov_pick_true _ rfl rfl) ?_
             refine wl_v rfl rfl (ov_move _ rfl) ?_
             refine wl_split 106 rfl (fun c25 => ?_) (fun c25 => ?_)
             ·
              refine wl_v rfl rfl (ov_move _ rfl) ?_
              refine wl_call _ rfl rfl rfl ent16 (RN.Right_calls (R := [] ++ R) ((threeV (s) (a) (b)).getD ByteArray.empty) (by (have z_ := three_size hRs hRa hRb; omega)) h) ?_
              rintro e_ w_ ⟨rfl, h⟩
              refine ⟨_, rfl, ?_⟩
              refine wl_v rfl rfl (ov_pick_true _ rfl rfl) ?_
              refine wl_v rfl rfl (ov_assign _ rfl) ?_
              refine wl_nil ?_
              refine qn_then ?_
              refine wc_ret ?_
              refine qn_ret [_] ⟨rfl, trivial⟩ ?_
              have b_ : (decide ((refV ((threeV (s) (a) (b)).getD ByteArray.empty)).2 < 0)) = true := by (apply decide_eq_true; exact rg_)
              exact ⟨congrArg (fun z => Ending.returned (Value.bool z)) b_, h⟩
             ·
              exfalso
              first | (simp [y1_, o1_, o2_, o3_] at c25; done) | exact absurd (by rw [hn_]; rfl) c25
            ·
             exfalso
             first | (simp [y1_, o1_, o2_, o3_] at c24; done) | exact absurd (by rw [hn_]; rfl) c24
           ·
            exfalso
            first | (simp [y1_, o1_, o2_, o3_] at c23; done) | exact absurd (by rw [hn_]; rfl) c23
          ·
           exfalso
           first | (simp [y1_, o1_, o2_, o3_] at c22; done) | exact absurd (by rw [hn_]; rfl) c22
         ·
          exfalso
          first | (simp [y1_, o1_, o2_, o3_] at c21; done) | exact absurd (by rw [hn_]; rfl) c21
        ·
         exfalso
         first | (simp [y1_, o1_, o2_, o3_] at c20; done) | exact absurd (by rw [hn_]; rfl) c20
       ·
        exfalso
        first | (simp [y1_, o1_, o2_, o3_] at c19; done) | exact absurd (by rw [hn_]; rfl) c19
     ·
      exfalso
      first | (simp [y1_, o1_, o2_, o3_] at c11; done) | exact absurd (by rw [hn_]; rfl) c11
    ·
     exfalso
     first | (simp [y1_, o1_, o2_, o3_] at c10; done) | exact absurd (by rw [hn_]; rfl) c10
end Go.Proofs.Ytbakllppgekmoaa.L
