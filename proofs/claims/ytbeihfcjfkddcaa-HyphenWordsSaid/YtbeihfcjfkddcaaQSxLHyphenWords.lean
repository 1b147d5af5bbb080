/- Pruned by wip/prune.py. -/
import Derived.Test.YtbeihfcjfkddcaaProg
import Derived.Test.YtbeihfcjfkddcaaQSxGlue
import Derived.Test.YtbeihfcjfkddcaaQSxFlow
import Derived.Test.YtbeihfcjfkddcaaQSxIter
import Derived.Test.YtbeihfcjfkddcaaQSxBytes
import Derived.Test.YtbeihfcjfkddcaaQHyWf
import Derived.Test.YtbeihfcjfkddcaaQSxRunes
import Derived.Test.YtbeihfcjfkddcaaQSxLetter
import Derived.Test.YtbeihfcjfkddcaaQSxText
import Derived.Test.YtbeihfcjfkddcaaQSxHRead
import Derived.Test.YtbeihfcjfkddcaaQSxHRef
import Derived.Test.YtbeihfcjfkddcaaQSxTree
import Derived.Test.YtbeihfcjfkddcaaQSxBook
import Derived.Test.YtbeihfcjfkddcaaQSxPoints
import Derived.Test.YtbeihfcjfkddcaaQSxKinds
import Derived.Test.YtbeihfcjfkddcaaQSxAwake
import Derived.Test.YtbeihfcjfkddcaaQHyWords
import Derived.Test.YtbeihfcjfkddcaaQSxRefWords
import Derived.Test.YtbeihfcjfkddcaaQSxArr
namespace Go.Proofs.Ytbeihfcjfkddcaa.L
open Go Go.RowKit Go.Proofs.YtbeihfcjfkddcaaW.PrintWords Go.Proofs.Ytbeihfcjfkddcaa.Hy Go.Proofs.Ytbeihfcjfkddcaa.Given Go.Proofs.Ytbeihfcjfkddcaa.Rn Go.Proofs.Ytbeihfcjfkddcaa.Sx Go.Proofs.Ytbeihfcjfkddcaa.Kinds 
set_option linter.unusedVariables false
set_option linter.unusedSimpArgs false
theorem ent9 : Sx.Ent Try.prog 9 := ⟨Try.f9, Try.func9, by kernel_rfl, by kernel_rfl⟩
theorem ent17 : Sx.Ent Try.prog 17 := ⟨Try.f17, Try.func17, by kernel_rfl, by kernel_rfl⟩
theorem ent18 : Sx.Ent Try.prog 18 := ⟨Try.f18, Try.func18, by kernel_rfl, by kernel_rfl⟩
theorem ent19 : Sx.Ent Try.prog 19 := ⟨Try.f19, Try.func19, by kernel_rfl, by kernel_rfl⟩
theorem es42 : Sx.elemSz Try.prog 42 = some (44, 2) := by kernel_rfl
theorem sh44 : Sx.shapeOf Try.prog 44 = some (true, 2) := by kernel_rfl
theorem eqg44 : Try.prog.eqGuardType Try.prog.depth 44 = false := by kernel_rfl
theorem sh3 : Sx.shapeOf Try.prog 3 = some (false, 1) := by kernel_rfl
set_option maxHeartbeats 4000000 in
set_option maxRecDepth 100000 in
theorem HyphenWords_calls {w0 w : World} {F0 : Nat → Prop} {R : List Sx.HP} {v0 : World} (s : ByteArray) (hv : Sx.RO v0 w0 F0) (hzs : s.size ≤ 9223372036854775807) (h : Sx.St w0 F0 ([] ++ R) w) : Calls Try.prog 6 #[.string (s)] w (fun e w1 => e = .returned (.bool true) ∧ Sx.St w0 F0 R w1) := by
 have hwl_ := words_len s
 refine Sx.calls_fn (vs := [.string (s)]) Try.func6 rfl Try.ntmps6 rfl ?_
 refine wc_seq ?_
 refine wc_region ?_
 refine wl_v rfl rfl (ov_assign _ rfl) ?_
 refine wl_nil ?_
 refine qn_then ?_
 refine wc_seq ?_
 refine wc_seq ?_
 refine wc_region ?_
 refine wl_call _ rfl rfl rfl ent9 (AW.awake_calls (R := [] ++ R) h) ?_
 rintro e_ w_ ⟨rfl, h⟩
 refine ⟨_, rfl, ?_⟩
 refine wl_v rfl rfl (ov_notb _ rfl) ?_
 refine wl_nil ?_
 refine qn_then ?_
 refine wc_cond_false rfl ?_
 refine wc_skip ?_
 refine qn_then ?_
 refine wc_seq ?_
 refine wc_seq ?_
 refine wc_region ?_
 refine wl_v rfl rfl (ov_move _ rfl) ?_
 refine wl_v rfl rfl (ov_lens _ rfl Try.underlying9) ?_
 refine wl_v rfl rfl (ov_bin _ rfl rfl (binR_gtr)) ?_
 refine wl_v rfl rfl (ov_move _ rfl) ?_
 refine wl_split 11 rfl (fun c1 => ?_) (fun c1 => ?_)
 ·
  refine wl_skip rfl rfl ?_
  refine wl_skip rfl rfl ?_
  refine wl_skip rfl rfl ?_
  refine wl_v rfl rfl (ov_pick_true _ rfl rfl) ?_
  refine wl_nil ?_
  refine qn_then ?_
  refine wc_cond_true rfl ?_
  refine wc_seq ?_
  refine wc_region ?_
  refine wl_v rfl rfl (ov_assign _ rfl) ?_
  refine wl_nil ?_
  refine qn_then ?_
  refine wc_ret ?_
  refine qn_then_ret ?_
  refine qn_ret [_] ⟨rfl, trivial⟩ ?_
  exact ⟨rfl, h⟩
 ·
  refine wl_v rfl rfl (ov_move _ rfl) ?_
  refine wl_call _ rfl rfl rfl ent17 (RN.Right_calls (R := [] ++ R) s (by omega) h) ?_
  rintro e_ w_ ⟨rfl, h⟩
  refine ⟨_, rfl, ?_⟩
  refine wl_v rfl rfl (ov_not _ (¬ ((refV s).2 < 0)) rfl (by first | exact decide_not.symm | simp)) ?_
  refine wl_v rfl rfl (ov_pick_false _ rfl rfl) ?_
  refine wl_nil ?_
  refine qn_then ?_
  refine wc_cond (by rfl) (fun c2 => ?_) (fun c2 => ?_)
  ·
   refine wc_seq ?_
   refine wc_region ?_
   refine wl_v rfl rfl (ov_assign _ rfl) ?_
   refine wl_nil ?_
   refine qn_then ?_
   refine wc_ret ?_
   refine qn_then_ret ?_
   refine qn_ret [_] ⟨rfl, trivial⟩ ?_
   exact ⟨rfl, h⟩
  ·
   have hrr_ : (refV s).2 < 0 := Classical.not_not.1 c2
   have hbr_ := bad_refV s
   refine wc_skip ?_
   refine qn_then ?_
   refine wc_seq ?_
   refine wc_region ?_
   refine wl_v rfl rfl (ov_move _ rfl) ?_
   refine wl_call _ rfl rfl rfl ent18 (TX.Words_calls (R := [] ++ R) s (by omega) (by omega) h) ?_
   rintro e_ w_ ⟨Az3, cz3, rfl, h⟩
   refine ⟨_, rfl, ?_⟩
   replace h : Sx.St w0 F0 ([Sx.row kPr 44 (Az3) (cz3) ((wordsV s))] ++ R) _ := h
   refine wl_v rfl rfl (ov_move _ rfl) ?_
   refine wl_call _ rfl rfl rfl ent19 (RW.rWords_calls (R := [Sx.row kPr 44 (Az3) (cz3) ((wordsV s))] ++ R) s (by exact hrr_) (by omega) h) ?_
   rintro e_ w_ ⟨Az4, cz4, rfl, h⟩
   refine ⟨_, rfl, ?_⟩
   replace h : Sx.St w0 F0 ([Sx.row kPr 44 (Az4) (cz4) ((wordsV s)), Sx.row kPr 44 (Az3) (cz3) ((wordsV s))] ++ R) _ := h
   refine wl_v rfl rfl (ov_assign _ rfl) ?_
   refine wl_v rfl rfl (ov_assign _ rfl) ?_
   refine wl_nil ?_
   refine qn_then ?_
   refine wc_seq ?_
   refine wc_seq ?_
   refine wc_region ?_
   refine wl_v rfl rfl (ov_move _ rfl) ?_
   refine wl_v rfl rfl (ov_len _ _ _ _ _ rfl es42) ?_
   refine wl_v rfl rfl (ov_move _ rfl) ?_
   refine wl_v rfl rfl (ov_len _ _ _ _ _ rfl es42) ?_
   refine wl_v rfl rfl (ov_bin _ rfl rfl (binR_neq)) ?_
   refine wl_nil ?_
   refine qn_then ?_
   refine wc_cond (by rfl) (fun c5 => ?_) (fun c5 => ?_)
   ·
    refine wc_seq ?_
    refine wc_region ?_
    refine wl_v rfl rfl (ov_assign _ rfl) ?_
    refine wl_nil ?_
    refine qn_then ?_
    refine wc_ret ?_
    refine qn_then_ret ?_
    replace h := st_selT [false, false] h
    refine qn_ret [_] ⟨rfl, trivial⟩ ?_
    exfalso
    first | omega | simp_all
   ·
    refine wc_skip ?_
    refine qn_then ?_
    refine wc_seq ?_
    refine wc_seq ?_
    refine wc_region ?_
    refine wl_v rfl rfl (ov_assign _ rfl) ?_
    refine wl_nil ?_
    refine qn_then ?_
    refine wc_block ?_
    replace h := st_front 1 h
    refine wc_loop (fun (x_ : Nat × (Option Addr) × (Option Addr)) => [(3, .slice (x_.2.1) ((wordsV s).length) (cz3)), (4, .slice (x_.2.2) ((wordsV s).length) (cz4)), (5, .int .i64 (((x_.1 : Nat) : Int)))]) (fun (x_ : Nat × (Option Addr) × (Option Addr)) (w : World) => (x_.1 ≤ (wordsV s).length) ∧ Sx.St w0 F0 ([Sx.row kPr 44 (x_.2.1) (cz3) ((wordsV s)), Sx.row kPr 44 (x_.2.2) (cz4) ((wordsV s))] ++ R) w) (fun (x_ : Nat × (Option Addr) × (Option Addr)) => (wordsV s).length - x_.1) (0, Az3, Az4) ?_ ?_ ?_
    · exact ⟨rfl, rfl, (congrArg (fun z_ => some (Value.int .i64 z_)) (show (0 : Int) = ((0 : Nat) : Int) by omega)), trivial⟩
    · exact ⟨by first | omega | simp, h⟩
    rintro ⟨i, X, Y⟩ w h
    obtain ⟨hJ, h⟩ := h
    replace hJ : i ≤ (wordsV s).length := hJ
    replace h : Sx.St w0 F0 ([Sx.row kPr 44 (X) (cz3) ((wordsV s)), Sx.row kPr 44 (Y) (cz4) ((wordsV s))] ++ R) w := h
    show Sx.WC _ _ _ _ [(3, .slice (X) ((wordsV s).length) (cz3)), (4, .slice (Y) ((wordsV s).length) (cz4)), (5, .int .i64 (((i : Nat) : Int)))] _
    refine wc_seq ?_
    refine wc_seq ?_
    refine wc_region ?_
    refine wl_v rfl rfl (ov_move _ rfl) ?_
    refine wl_v rfl rfl (ov_move _ rfl) ?_
    refine wl_v rfl rfl (ov_len _ _ _ _ _ rfl es42) ?_
    refine wl_v rfl rfl (ov_bin _ rfl rfl (binR_lss)) ?_
    refine wl_nil ?_
    refine qn_then ?_
    refine wc_cond (by rfl) (fun c6 => ?_) (fun c6 => ?_)
    ·
     refine wc_skip ?_
     refine qn_then ?_
     refine wc_seq ?_
     refine wc_block ?_
     refine wc_seq ?_
     refine wc_draw (fun w => Sx.St w0 F0 ([Sx.row kPr 44 (X) (cz3) ((wordsV s)), Sx.row kPr 44 (Y) (cz4) ((wordsV s))] ++ R) w) (by kernel_rfl) ?_
     replace h := st_drew h
     refine wa_tk 0 rfl rfl rfl (st_selT [true, true] h) (fun w_ hS => ov_move _ rfl) ?_
     refine wa_tk 1 rfl rfl rfl (st_selT [true, true] h) (fun w_ hS => ov_move _ rfl) ?_
     obtain ⟨ad7, rfl⟩ := Sx.C_some ((Sx.row_reads h (i := 0) rfl).2) (k := (i : Nat)) (by first | assumption | omega | (simp only [List.length_set, List.length_append, List.length_cons, List.length_nil]; omega))
     refine wa_tk 2 rfl rfl rfl (st_selT [true, true] h) (fun w_ hS => ov_indexAddrN _ _ _ _ _ (i : Nat) rfl rfl es42 rfl (by first | assumption | omega | (simp only [List.length_take, List.length_drop, List.length_set, List.length_append, List.length_cons, List.length_nil]; omega))) ?_
     refine wa_tk 3 rfl rfl rfl (st_selT [true, true] h) (fun w_ hS => by
         obtain ⟨cl10, _, hk9, hc8⟩ := Sx.C_cells ((Sx.row_reads hS (i := 0) rfl).2) (z := ((0, 0) : Int × Int)) (k := (i : Nat)) (by first | assumption | omega | (simp only [List.length_set, List.length_append, List.length_cons, List.length_nil]; omega))
         obtain rfl := kPr_open hk9
         exact ov_loadN _ [.int .i64 ((((wordsV s)).getD (i : Nat) ((0, 0) : Int × Int)).1), .int .i64 ((((wordsV s)).getD (i : Nat) ((0, 0) : Int × Int)).2)] rfl sh44 (by intro j u hu; rw [Deep.add_add]; exact (hc8 _ _ hu))) ?_
     refine wa_tk 4 rfl rfl rfl (st_selT [true, true] h) (fun w_ hS => ov_move _ rfl) ?_
     refine wa_tk 5 rfl rfl rfl (st_selT [true, true] h) (fun w_ hS => ov_move _ rfl) ?_
     obtain ⟨ad11, rfl⟩ := Sx.C_some ((Sx.row_reads h (i := 1) rfl).2) (k := (i : Nat)) (by first | assumption | omega | (simp only [List.length_set, List.length_append, List.length_cons, List.length_nil]; omega))
     refine wa_tk 6 rfl rfl rfl (st_selT [true, true] h) (fun w_ hS => ov_indexAddrN _ _ _ _ _ (i : Nat) rfl rfl es42 rfl (by first | assumption | omega | (simp only [List.length_take, List.length_drop, List.length_set, List.length_append, List.length_cons, List.length_nil]; omega))) ?_
     refine wa_tk 7 rfl rfl rfl (st_selT [true, true] h) (fun w_ hS => by
         obtain ⟨cl14, _, hk13, hc12⟩ := Sx.C_cells ((Sx.row_reads hS (i := 1) rfl).2) (z := ((0, 0) : Int × Int)) (k := (i : Nat)) (by first | assumption | omega | (simp only [List.length_set, List.length_append, List.length_cons, List.length_nil]; omega))
         obtain rfl := kPr_open hk13
         exact ov_loadN _ [.int .i64 ((((wordsV s)).getD (i : Nat) ((0, 0) : Int × Int)).1), .int .i64 ((((wordsV s)).getD (i : Nat) ((0, 0) : Int × Int)).2)] rfl sh44 (by intro j u hu; rw [Deep.add_add]; exact (hc12 _ _ hu))) ?_
     refine wa_tk 8 rfl rfl rfl (st_selT [true, true] h) (fun w_ hS => ov_bin _ rfl rfl (binR_neA2 Try.underlying44 Try.underlying3 sh3 eqg44)) ?_
     refine wa_done (by kernel_rfl) ?_
     refine qn_then ?_
     refine wc_cond (by rfl) (fun c15 => ?_) (fun c15 => ?_)
     ·
      refine wc_seq ?_
      refine wc_region ?_
      refine wl_v rfl rfl (ov_assign _ rfl) ?_
      refine wl_nil ?_
      refine qn_then ?_
      refine wc_ret ?_
      refine qn_block_ret ?_
      refine qn_then_ret ?_
      refine qn_then_ret ?_
      refine qn_block_ret ?_
      refine qn_then_ret ?_
      replace h := st_selT [false, false] h
      refine qn_ret [_] ⟨rfl, trivial⟩ ?_
      exfalso
      first | omega | simp_all
     ·
      refine wc_skip ?_
      refine qn_block_normal ?_
      refine qn_then ?_
      refine wc_region ?_
      refine wl_v rfl rfl (ov_move _ rfl) ?_
      refine wl_v rfl rfl (ov_bin _ rfl rfl (binR_add (r := (((i : Nat) : Int)) + 1) (Sx.w64 (by omega)))) ?_
      refine wl_v rfl rfl (ov_assign _ rfl) ?_
      refine wl_nil ?_
      replace h := st_front 1 h
      replace h := st_front 1 h
      refine qn_next ((i + 1), some ad7, some ad11) (by show (wordsV s).length - (i + 1) < (wordsV s).length - i; omega) ⟨rfl, rfl, (congrArg (fun z_ => some (Value.int .i64 z_)) (show ((((i : Nat) : Int)) + 1 : Int) = (((i + 1) : Nat) : Int) by omega)), trivial⟩ ?_
      show ((i + 1) ≤ (wordsV s).length) ∧ _
      exact ⟨by omega, h⟩
    ·
     refine wc_exit ?_
     refine qn_then_exit ?_
     refine qn_then_exit ?_
     refine qn_block_exit ?_
     refine qn_then ?_
     refine wc_seq ?_
     refine wc_region ?_
     refine wl_v rfl rfl (ov_assign _ rfl) ?_
     refine wl_nil ?_
     refine qn_then ?_
     refine wc_ret ?_
     replace h := st_selT [false, false] h
     refine qn_ret [_] ⟨rfl, trivial⟩ ?_
     exact ⟨rfl, h⟩
end Go.Proofs.Ytbeihfcjfkddcaa.L
