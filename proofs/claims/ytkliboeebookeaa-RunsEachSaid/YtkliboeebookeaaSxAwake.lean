/- The page example, walked. -/
import Derived.Test.YtkliboeebookeaaProg
import Derived.Test.YtkliboeebookeaaSxGlue
import Derived.Test.YtkliboeebookeaaSxKinds
import Derived.Test.YtkliboeebookeaaRunsTh
import Derived.Test.YtkliboeebookeaaSxRuns
import Derived.Test.YtkliboeebookeaaSxRunsB
import Derived.Test.YtkliboeebookeaaSxRef
import Derived.Test.YtkliboeebookeaaSxPlain
import Derived.Test.YtkliboeebookeaaSxPlainB
import Derived.Test.YtkliboeebookeaaSxPlay
namespace Go.Proofs.Ytkliboeebookeaa.Runs.G
open Go Go.RowKit Go.Proofs.YtkliboeebookeaaW.PrintWords Go.Proofs.Ytkliboeebookeaa.Kinds Go.Proofs.Ytkliboeebookeaa.Runs Go.Proofs.Ytkliboeebookeaa.Runs.B Go.Proofs.Ytkliboeebookeaa.Runs.C Go.Proofs.Ytkliboeebookeaa.Runs.D Go.Proofs.Ytkliboeebookeaa.Runs.E Go.Proofs.Ytkliboeebookeaa.Runs.F
set_option linter.unusedVariables false
set_option linter.unusedSimpArgs false
theorem infb55 : (Try.prog.info? 55).map (fun i => (i.zero, i.size)) = some (some (.agg #[.int .i64 (0), .int .i64 (0), .int .i64 (0), .int .i64 (0), .slice (none) (0) (0)]), 5) := by kernel_rfl
theorem ent13 : Sx.Ent Try.prog 13 := ⟨Try.f13, Try.func13, by kernel_rfl, by kernel_rfl⟩
theorem zo28 : Sx.zeroOf Try.prog 28 = some (.agg #[.slice (none) (0) (0), .int .i64 (0)]) := by kernel_rfl
theorem sh28 : Sx.shapeOf Try.prog 28 = some (true, 2) := by kernel_rfl
theorem fo28_0 : Sx.fieldOff Try.prog 28 0 = some 0 := by kernel_rfl
theorem sh26 : Sx.shapeOf Try.prog 26 = some (false, 1) := by kernel_rfl
theorem es26 : Sx.elemSz Try.prog 26 = some (3, 1) := by kernel_rfl
theorem ent14 : Sx.Ent Try.prog 14 := ⟨Try.f14, Try.func14, by kernel_rfl, by kernel_rfl⟩
theorem ent18 : Sx.Ent Try.prog 18 := ⟨Try.f18, Try.func18, by kernel_rfl, by kernel_rfl⟩
theorem ent16 : Sx.Ent Try.prog 16 := ⟨Try.f16, Try.func16, by kernel_rfl, by kernel_rfl⟩
theorem infb66 : (Try.prog.info? 66).map (fun i => (i.zero, i.size)) = some (some (.agg #[.int .i64 (0), .int .i64 (0)]), 2) := by kernel_rfl
theorem ent15 : Sx.Ent Try.prog 15 := ⟨Try.f15, Try.func15, by kernel_rfl, by kernel_rfl⟩

theorem played_fresh {w0 w : World} {F0 : Nat → Prop} {R : List Sx.HP} (n s : Int) (script : List S55) (As : Option Addr) (cs : Nat) (hn : n ≤ 500) (hE : newE n s = 0) (h : Sx.St w0 F0 ([Sx.row k55 55 As cs script] ++ R) w) :
    Calls Try.prog 13 #[.int .i64 n, .int .i64 s, .slice As script.length cs] w (fun e w1 => ∃ g A c, e = .returned (.tuple #[.pointer (some ⟨g, 0, none⟩), .agg #[.slice A ((playV (newL n s) script 40).st).length c, .int .i64 (playV (newL n s) script 40).base]]) ∧ (playV (newL n s) script 40).st.length ≤ 65536 ∧ Sx.St w0 F0 (listS g (playV (newL n s) script 40) :: Sx.row (Kd.int .i64) 3 A c (playV (newL n s) script 40).st :: (Sx.row k55 55 As cs script :: R)) w1) := by
  obtain ⟨hl, hC⟩ := Sx.row_reads h (i := 0) rfl
  refine (played_calls (R := []) n s script As cs (Sx.ro_self w) hl hC hn hE (Sx.st_start w)).mono ?_
  rintro e w1 ⟨g, A, c, rfl, h1, h2⟩
  exact ⟨g, A, c, rfl, h1, Sx.st_glue h h2⟩

set_option maxRecDepth 100000 in
theorem awake_calls {w0 w : World} {F0 : Nat → Prop} {R : List Sx.HP}   (h : Sx.St w0 F0 ([] ++ R) w) : Calls Try.prog 11 #[] w (fun e w1 => e = .returned (.bool true) ∧ Sx.St w0 F0 R w1) := by
 refine Sx.calls_fn (vs := []) Try.func11 rfl Try.ntmps11 rfl ?_
 refine Sx.wc_seq ?_
 refine Sx.wc_region ?_
 refine Sx.wl_v rfl rfl (Sx.ov_assign _ rfl) ?_
 refine Sx.wl_nil ?_
 refine Sx.qn_then ?_
 refine Sx.wc_seq ?_
 refine Sx.wc_region ?_
 refine Sx.wl_v rfl rfl (Sx.ov_build [(0, .int .i64 (2)), (1, .int .i64 (1)), (2, .int .i64 (3)), (3, .int .i64 (2))] [.int .i64 (2), .int .i64 (1), .int .i64 (3), .int .i64 (2), .slice (none) (0) (0)] rfl rfl (by kernel_rfl)) ?_
 refine Sx.wl_v rfl rfl (Sx.ov_build [(0, .int .i64 (0)), (1, .int .i64 (3)), (2, .int .i64 (2))] [.int .i64 (0), .int .i64 (3), .int .i64 (2), .int .i64 (0), .slice (none) (0) (0)] rfl rfl (by kernel_rfl)) ?_
 refine Sx.wl_lit (d := k55) [(0, .agg #[.int .i64 (2), .int .i64 (1), .int .i64 (3), .int .i64 (2), .slice (none) (0) (0)]), (1, .agg #[.int .i64 (0), .int .i64 (3), .int .i64 (2), .int .i64 (0), .slice (none) (0) (0)])] _ [.int .i64 (2), .int .i64 (1), .int .i64 (3), .int .i64 (2), .slice (none) (0) (0), .int .i64 (0), .int .i64 (3), .int .i64 (2), .int .i64 (0), .slice (none) (0) (0)] ([(⟨2, 1, 3, 2, []⟩ : S55), (⟨0, 3, 2, 0, []⟩ : S55)]) h rfl rfl rfl rfl Try.underlying22 infb55 rfl (by decide) (by kernel_rfl) rfl (fun _ _ _ => (((Reps.none _ _).snoc (op_mk _ _ _ ((⟨2, 1, 3, 2, []⟩ : S55)) rfl) rfl).snoc (op_mk _ _ _ ((⟨0, 3, 2, 0, []⟩ : S55)) rfl) rfl)) (fun A1 cp2 _ h => ?_)
 refine Sx.wl_call _ rfl rfl rfl ent13 (played_fresh (R := [] ++ R) 4 0 ([(⟨2, 1, 3, 2, []⟩ : S55), (⟨0, 3, 2, 0, []⟩ : S55)]) (A1) (cp2) (by decide) (by decide) h) ?_
 rintro e_ w_ ⟨g3, A4, cp5, rfl, hl8, h⟩
 refine ⟨_, rfl, ?_⟩
 generalize hy7 : playV (newL 4 0) ([(⟨2, 1, 3, 2, []⟩ : S55), (⟨0, 3, 2, 0, []⟩ : S55)]) 40 = y6 at h hl8 ⊢
 have hy2 : y6 = (⟨[0, 2, 2, 2, 2, 0], 0⟩ : LS) := by rw [← hy7]; decide
 subst hy2
 refine Sx.wl_v rfl rfl (Sx.ov_move _ rfl) ?_
 refine Sx.wl_v rfl rfl (Sx.ov_extract [.pointer (some ⟨g3, 0, none⟩), .agg #[.slice (A4) ((((⟨[0, 2, 2, 2, 2, 0], 0⟩ : LS)).st).length) (cp5), .int .i64 (((⟨[0, 2, 2, 2, 2, 0], 0⟩ : LS)).base)]] _ rfl rfl) ?_
 refine Sx.wl_v rfl rfl (Sx.ov_extract [.pointer (some ⟨g3, 0, none⟩), .agg #[.slice (A4) ((((⟨[0, 2, 2, 2, 2, 0], 0⟩ : LS)).st).length) (cp5), .int .i64 (((⟨[0, 2, 2, 2, 2, 0], 0⟩ : LS)).base)]] _ rfl rfl) ?_
 refine Sx.wl_alloc _ h rfl rfl zo28 (fun b9 _ h => ?_)
 replace h : Sx.St _ _ (Sx.blk b9 [.slice (none) (0) (0), .int .i64 (0)] 28 :: _) _ := h
 refine Sx.wl_v rfl rfl (Sx.ov_assign _ rfl) ?_
 refine Sx.wl_storebN 0 [.slice (A4) ((((⟨[0, 2, 2, 2, 2, 0], 0⟩ : LS)).st).length) (cp5), .int .i64 (((⟨[0, 2, 2, 2, 2, 0], 0⟩ : LS)).base)] [.slice (A4) ((((⟨[0, 2, 2, 2, 2, 0], 0⟩ : LS)).st).length) (cp5), .int .i64 (((⟨[0, 2, 2, 2, 2, 0], 0⟩ : LS)).base)] h rfl rfl rfl rfl (by simp [Value.oneCell']) sh28 rfl rfl (fun _ h => ?_)
 refine Sx.wl_nil ?_
 refine Sx.qn_then ?_
 refine Sx.wc_seq ?_
 refine Sx.wc_region ?_
 refine Sx.wl_v rfl rfl (Sx.ov_move _ rfl) ?_
 refine Sx.wl_v rfl rfl (Sx.ov_bin (.bool true) rfl rfl (Sx.binR_nenil Try.underlying25)) ?_
 refine Sx.wl_v rfl rfl (Sx.ov_move _ rfl) ?_
 refine Sx.wl_v rfl rfl (Sx.ov_fieldAddr _ ⟨b9, 0, none⟩ _ rfl fo28_0 rfl) ?_
 refine Sx.wl_v rfl rfl (Sx.ov_loadb 0 _ h rfl rfl sh26 rfl) ?_
 refine Sx.wl_v rfl rfl (Sx.ov_len _ _ _ _ _ rfl es26) ?_
 refine Sx.wl_v rfl rfl (Sx.ov_bin _ rfl rfl (Sx.binR_eql)) ?_
 refine Sx.wl_v rfl rfl (Sx.ov_pick_true _ rfl rfl) ?_
 refine Sx.wl_v rfl rfl (Sx.ov_move _ rfl) ?_
 refine Sx.wl_split 18 rfl (fun c10 => ?_) (fun c10 => ?_)
 ·
  refine Sx.wl_v rfl rfl (Sx.ov_move _ rfl) ?_
  replace h := Sx.st_front 1 h
  refine Sx.wl_call _ rfl rfl rfl ent14 (Len_calls g3 ((⟨[0, 2, 2, 2, 2, 0], 0⟩ : LS))   h) ?_
  rintro e_ w_ ⟨rfl, h⟩
  refine ⟨_, rfl, ?_⟩
  refine Sx.wl_v rfl rfl (Sx.ov_bin _ rfl rfl (Sx.binR_eql)) ?_
  refine Sx.wl_v rfl rfl (Sx.ov_pick_true _ rfl rfl) ?_
  refine Sx.wl_v rfl rfl (Sx.ov_move _ rfl) ?_
  refine Sx.wl_split 23 rfl (fun c11 => ?_) (fun c11 => ?_)
  ·
   refine Sx.wl_v rfl rfl (Sx.ov_move _ rfl) ?_
   refine Sx.wl_call _ rfl rfl rfl ent18 (Count_calls g3 ((⟨[0, 2, 2, 2, 2, 0], 0⟩ : LS))   h) ?_
   rintro e_ w_ ⟨rfl, h⟩
   refine ⟨_, rfl, ?_⟩
   refine Sx.wl_v rfl rfl (Sx.ov_bin _ rfl rfl (Sx.binR_eql)) ?_
   refine Sx.wl_v rfl rfl (Sx.ov_pick_true _ rfl rfl) ?_
   refine Sx.wl_v rfl rfl (Sx.ov_move _ rfl) ?_
   refine Sx.wl_split 28 rfl (fun c12 => ?_) (fun c12 => ?_)
   ·
    refine Sx.wl_v rfl rfl (Sx.ov_move _ rfl) ?_
    refine Sx.wl_call _ rfl rfl rfl ent16 (Runs_calls g3 ((⟨[0, 2, 2, 2, 2, 0], 0⟩ : LS)) (by omega) h) ?_
    rintro e_ w_ ⟨A13, cp14, rfl, h⟩
    refine ⟨_, rfl, ?_⟩
    refine Sx.wl_v rfl rfl (Sx.ov_build [(0, .int .i64 (1))] [.int .i64 (1), .int .i64 (0)] rfl rfl (by kernel_rfl)) ?_
    refine Sx.wl_v rfl rfl (Sx.ov_build [(0, .int .i64 (4)), (1, .int .i64 (2))] [.int .i64 (4), .int .i64 (2)] rfl rfl (by kernel_rfl)) ?_
    refine Sx.wl_v rfl rfl (Sx.ov_build [(0, .int .i64 (1))] [.int .i64 (1), .int .i64 (0)] rfl rfl (by kernel_rfl)) ?_
    refine Sx.wl_lit (d := k66) [(0, .agg #[.int .i64 (1), .int .i64 (0)]), (1, .agg #[.int .i64 (4), .int .i64 (2)]), (2, .agg #[.int .i64 (1), .int .i64 (0)])] _ [.int .i64 (1), .int .i64 (0), .int .i64 (4), .int .i64 (2), .int .i64 (1), .int .i64 (0)] ([(⟨1, 0⟩ : Rn), (⟨4, 2⟩ : Rn), (⟨1, 0⟩ : Rn)]) h rfl rfl rfl rfl Try.underlying33 infb66 rfl (by decide) (by kernel_rfl) rfl (fun _ _ _ => ((((Reps.none _ _).snoc (k66_mkM _ _ _ ((⟨1, 0⟩ : Rn))) rfl).snoc (k66_mkM _ _ _ ((⟨4, 2⟩ : Rn))) rfl).snoc (k66_mkM _ _ _ ((⟨1, 0⟩ : Rn))) rfl)) (fun A15 cp16 _ h => ?_)
    refine Sx.wl_call _ rfl rfl rfl ent15 (rSame_calls (R := [Sx.row k66 66 (A15) (cp16) ([(⟨1, 0⟩ : Rn), (⟨4, 2⟩ : Rn), (⟨1, 0⟩ : Rn)]), listS g3 ((⟨[0, 2, 2, 2, 2, 0], 0⟩ : LS)), Sx.row k66 66 (A13) (cp14) (runsOf ((⟨[0, 2, 2, 2, 2, 0], 0⟩ : LS)).st), Sx.blk b9 [.slice (A4) ((((⟨[0, 2, 2, 2, 2, 0], 0⟩ : LS)).st).length) (cp5), .int .i64 (((⟨[0, 2, 2, 2, 2, 0], 0⟩ : LS)).base)] 28, Sx.row (Kd.int .i64) 3 (A4) (cp5) (((⟨[0, 2, 2, 2, 2, 0], 0⟩ : LS)).st), Sx.row k55 55 (A1) (cp2) ([(⟨2, 1, 3, 2, []⟩ : S55), (⟨0, 3, 2, 0, []⟩ : S55)])] ++ R) (runsOf ((⟨[0, 2, 2, 2, 2, 0], 0⟩ : LS)).st) ([(⟨1, 0⟩ : Rn), (⟨4, 2⟩ : Rn), (⟨1, 0⟩ : Rn)]) (A13) (A15) (cp14) (cp16) (by decide) (by decide) (Sx.row_reads_at (R := [Sx.row k66 66 (A15) (cp16) ([(⟨1, 0⟩ : Rn), (⟨4, 2⟩ : Rn), (⟨1, 0⟩ : Rn)]), listS g3 ((⟨[0, 2, 2, 2, 2, 0], 0⟩ : LS)), Sx.row k66 66 (A13) (cp14) (runsOf ((⟨[0, 2, 2, 2, 2, 0], 0⟩ : LS)).st), Sx.blk b9 [.slice (A4) ((((⟨[0, 2, 2, 2, 2, 0], 0⟩ : LS)).st).length) (cp5), .int .i64 (((⟨[0, 2, 2, 2, 2, 0], 0⟩ : LS)).base)] 28, Sx.row (Kd.int .i64) 3 (A4) (cp5) (((⟨[0, 2, 2, 2, 2, 0], 0⟩ : LS)).st), Sx.row k55 55 (A1) (cp2) ([(⟨2, 1, 3, 2, []⟩ : S55), (⟨0, 3, 2, 0, []⟩ : S55)])] ++ R) (j := 2) rfl) (Sx.row_reads_at (R := [Sx.row k66 66 (A15) (cp16) ([(⟨1, 0⟩ : Rn), (⟨4, 2⟩ : Rn), (⟨1, 0⟩ : Rn)]), listS g3 ((⟨[0, 2, 2, 2, 2, 0], 0⟩ : LS)), Sx.row k66 66 (A13) (cp14) (runsOf ((⟨[0, 2, 2, 2, 2, 0], 0⟩ : LS)).st), Sx.blk b9 [.slice (A4) ((((⟨[0, 2, 2, 2, 2, 0], 0⟩ : LS)).st).length) (cp5), .int .i64 (((⟨[0, 2, 2, 2, 2, 0], 0⟩ : LS)).base)] 28, Sx.row (Kd.int .i64) 3 (A4) (cp5) (((⟨[0, 2, 2, 2, 2, 0], 0⟩ : LS)).st), Sx.row k55 55 (A1) (cp2) ([(⟨2, 1, 3, 2, []⟩ : S55), (⟨0, 3, 2, 0, []⟩ : S55)])] ++ R) (j := 0) rfl) h) ?_
    rintro e_ w_ ⟨rfl, h⟩
    refine ⟨_, rfl, ?_⟩
    refine Sx.wl_v rfl rfl (Sx.ov_pick_true _ rfl rfl) ?_
    refine Sx.wl_v rfl rfl (Sx.ov_assign _ rfl) ?_
    refine Sx.wl_nil ?_
    refine Sx.qn_then ?_
    refine Sx.wc_ret ?_
    replace h := Sx.st_selT [false, false, false, false, false, false] h
    refine Sx.qn_ret [_] ⟨rfl, trivial⟩ ?_
    have b_ : (sameB (runsOf ((⟨[0, 2, 2, 2, 2, 0], 0⟩ : LS)).st) ([(⟨1, 0⟩ : Rn), (⟨4, 2⟩ : Rn), (⟨1, 0⟩ : Rn)])) = true := by decide
    exact ⟨congrArg (fun z => Ending.returned (Value.bool z)) b_, h⟩
   ·
    exact absurd c12 (by decide)
  ·
   exact absurd c11 (by decide)
 ·
  exact absurd c10 (by decide)

theorem sameB_refl (l : List Rn) : sameB l l = true := decide_eq_true rfl

end Go.Proofs.Ytkliboeebookeaa.Runs.G
