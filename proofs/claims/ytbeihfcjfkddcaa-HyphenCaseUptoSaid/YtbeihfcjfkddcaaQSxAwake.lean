/- Pruned by wip/prune.py. -/
import Derived.Test.YtbeihfcjfkddcaaProg
import Derived.Test.YtbeihfcjfkddcaaQSxGlue
import Derived.Test.YtbeihfcjfkddcaaQSxFlow
import Derived.Test.YtbeihfcjfkddcaaQSxIter
import Derived.Test.YtbeihfcjfkddcaaQSxBytes
import Derived.Test.YtbeihfcjfkddcaaQHyWf
import Derived.Test.YtbeihfcjfkddcaaQSxRunes
import Derived.Test.YtbeihfcjfkddcaaQSxLetter
import Derived.Test.YtbeihfcjfkddcaaQSxText
import Derived.Test.YtbeihfcjfkddcaaQSxHRead
import Derived.Test.YtbeihfcjfkddcaaQSxHRef
import Derived.Test.YtbeihfcjfkddcaaQSxTree
import Derived.Test.YtbeihfcjfkddcaaQSxBook
import Derived.Test.YtbeihfcjfkddcaaQSxPoints
namespace Go.Proofs.Ytbeihfcjfkddcaa.AW
open Go Go.RowKit Go.Proofs.YtbeihfcjfkddcaaW.PrintWords Go.Proofs.Ytbeihfcjfkddcaa.Hy Go.Proofs.Ytbeihfcjfkddcaa.Given Go.Proofs.Ytbeihfcjfkddcaa.Rn Go.Proofs.Ytbeihfcjfkddcaa.Sx 
set_option linter.unusedVariables false
set_option linter.unusedSimpArgs false
theorem infb9 : (Try.prog.info? 9).map (fun i => (i.zero, i.size)) = some (some (.string (ByteArray.empty)), 1) := by kernel_rfl
theorem ent13 : Sx.Ent Try.prog 13 := ⟨Try.f13, Try.func13, by kernel_rfl, by kernel_rfl⟩
theorem ent15 : Sx.Ent Try.prog 15 := ⟨Try.f15, Try.func15, by kernel_rfl, by kernel_rfl⟩
theorem es36 : Sx.elemSz Try.prog 36 = some (3, 1) := by kernel_rfl
theorem sh3 : Sx.shapeOf Try.prog 3 = some (false, 1) := by kernel_rfl
theorem ent12 : Sx.Ent Try.prog 12 := ⟨Try.f12, Try.func12, by kernel_rfl, by kernel_rfl⟩
set_option maxHeartbeats 4000000 in
set_option maxRecDepth 100000 in
theorem awake_calls {w0 w : World} {F0 : Nat → Prop} {R : List Sx.HP}   (h : Sx.St w0 F0 ([] ++ R) w) : Calls Try.prog 9 #[] w (fun e w1 => e = .returned (.bool true) ∧ Sx.St w0 F0 R w1) := by
 refine Sx.calls_fn (vs := []) Try.func9 rfl Try.ntmps9 rfl ?_
 refine wc_seq ?_
 refine wc_region ?_
 refine wl_v rfl rfl (ov_assign _ rfl) ?_
 refine wl_nil ?_
 refine qn_then ?_
 refine wc_seq ?_
 refine wc_region ?_
 refine wl_lit (d := Kd.string) [(0, .string (ByteArray.mk #[49, 110, 97])), (1, .string (ByteArray.mk #[110, 50, 97, 116]))] _ [.string (ByteArray.mk #[49, 110, 97]), .string (ByteArray.mk #[110, 50, 97, 116])] ([ByteArray.mk #[49, 110, 97], ByteArray.mk #[110, 50, 97, 116]]) h rfl rfl rfl rfl Try.underlying22 infb9 rfl (by decide) (by kernel_rfl) rfl (fun _ _ _ => (((Reps.none _ _).snoc ((Sx.mkStr (ByteArray.mk #[49, 110, 97]))) rfl).snoc ((Sx.mkStr (ByteArray.mk #[110, 50, 97, 116]))) rfl)) (fun A1 cp2 _ h => ?_)
 refine wl_v rfl rfl (ov_build [(0, .slice (A1) (([ByteArray.mk #[49, 110, 97], ByteArray.mk #[110, 50, 97, 116]] : List _).length) (cp2)), (2, .int .i64 (2)), (3, .int .i64 (2))] [.slice (A1) (([ByteArray.mk #[49, 110, 97], ByteArray.mk #[110, 50, 97, 116]] : List _).length) (cp2), .slice (none) (0) (0), .int .i64 (2), .int .i64 (2)] rfl rfl (by kernel_rfl)) ?_
 refine wl_call _ rfl rfl rfl ent13 (BK.book_calls (R := [Sx.row Kd.string 9 (A1) (cp2) ([ByteArray.mk #[49, 110, 97], ByteArray.mk #[110, 50, 97, 116]])] ++ R) (A1) (cp2) ([ByteArray.mk #[49, 110, 97], ByteArray.mk #[110, 50, 97, 116]]) (none) (0) ([]) (2) (2) (Sx.row_reads_at (R := [Sx.row Kd.string 9 (A1) (cp2) ([ByteArray.mk #[49, 110, 97], ByteArray.mk #[110, 50, 97, 116]])] ++ R) (j := 0) rfl) (fun _ _ _ => Kd.C_nil _ _) (by intro x_ hx_; simp only [List.mem_cons, List.not_mem_nil, or_false] at hx_; rcases hx_ with rfl | rfl <;> decide) (by intro x_ hx_; cases hx_) (by decide) (by decide) h) ?_
 rintro e_ w_ (⟨hny3, rfl, h⟩ | ⟨hGy3, gy3, Dy3, rfl, hDy3, h⟩)
 ·
  refine ⟨_, rfl, ?_⟩
  refine wl_v rfl rfl (ov_assign _ rfl) ?_
  refine wl_nil ?_
  refine qn_then ?_
  refine wc_seq ?_
  refine wc_seq ?_
  refine wc_region ?_
  refine wl_v rfl rfl (ov_move _ rfl) ?_
  refine wl_v rfl rfl (ov_bin (.bool true) rfl rfl (binR_eqnil Try.underlying26)) ?_
  refine wl_nil ?_
  refine qn_then ?_
  refine wc_cond_true rfl ?_
  refine wc_seq ?_
  refine wc_region ?_
  refine wl_v rfl rfl (ov_assign _ rfl) ?_
  refine wl_nil ?_
  refine qn_then ?_
  refine wc_ret ?_
  refine qn_then_ret ?_
  replace h := st_selT [false] h
  refine qn_ret [_] ⟨rfl, trivial⟩ ?_
  exact absurd ex_good hny3
 ·
  replace h : Sx.St w0 F0 ([bookp gy3 (2) (2) Dy3, Sx.row Kd.string 9 (A1) (cp2) ([ByteArray.mk #[49, 110, 97], ByteArray.mk #[110, 50, 97, 116]])] ++ R) _ := h
  refine ⟨_, rfl, ?_⟩
  obtain ⟨pthy3, hwfy3, hdeny3⟩ := treeV_wf ([ByteArray.mk #[49, 110, 97], ByteArray.mk #[110, 50, 97, 116]]) hGy3.2.2.1
  have htly3 := treeV_len ([ByteArray.mk #[49, 110, 97], ByteArray.mk #[110, 50, 97, 116]])
  refine wl_v rfl rfl (ov_assign _ rfl) ?_
  refine wl_nil ?_
  refine qn_then ?_
  refine wc_seq ?_
  refine wc_seq ?_
  refine wc_region ?_
  refine wl_v rfl rfl (ov_move _ rfl) ?_
  refine wl_v rfl rfl (ov_bin (.bool false) rfl rfl (binR_eqnil Try.underlying26)) ?_
  refine wl_nil ?_
  refine qn_then ?_
  refine wc_cond_false rfl ?_
  refine wc_skip ?_
  refine qn_then ?_
  refine wc_seq ?_
  refine wc_region ?_
  refine wl_v rfl rfl (ov_move _ rfl) ?_
  refine wl_call _ rfl rfl rfl ent15 (PT.Points_calls (R := [bookp gy3 (2) (2) Dy3, Sx.row Kd.string 9 (A1) (cp2) ([ByteArray.mk #[49, 110, 97], ByteArray.mk #[110, 50, 97, 116]])] ++ R) gy3 (2) (2) Dy3 (treeV ([ByteArray.mk #[49, 110, 97], ByteArray.mk #[110, 50, 97, 116]])) pthy3 (knV ([])) (ByteArray.mk #[104, 121, 112, 104, 101, 110, 97, 116, 105, 111, 110]) (book_reads (R := [bookp gy3 (2) (2) Dy3, Sx.row Kd.string 9 (A1) (cp2) ([ByteArray.mk #[49, 110, 97], ByteArray.mk #[110, 50, 97, 116]])] ++ R) (j := 0) rfl) hDy3.1 hwfy3 htly3.1 hDy3.2 (by have q_ := hGy3.2.1; omega) (knV_len _) (by decide) h) ?_
  rintro e_ w_ ⟨Ap4, cp4, rfl, h⟩
  refine ⟨_, rfl, ?_⟩
  replace h : Sx.St w0 F0 ([Sx.row (Kd.int .i64) 3 (Ap4) (cp4) ((pointsV (treeV ([ByteArray.mk #[49, 110, 97], ByteArray.mk #[110, 50, 97, 116]])) (knV ([])) (2) (2) (ByteArray.mk #[104, 121, 112, 104, 101, 110, 97, 116, 105, 111, 110]))), bookp gy3 (2) (2) Dy3, Sx.row Kd.string 9 (A1) (cp2) ([ByteArray.mk #[49, 110, 97], ByteArray.mk #[110, 50, 97, 116]])] ++ R) _ := h
  have hex_ : (pointsV (treeV ([ByteArray.mk #[49, 110, 97], ByteArray.mk #[110, 50, 97, 116]])) (knV ([])) (2) (2) (ByteArray.mk #[104, 121, 112, 104, 101, 110, 97, 116, 105, 111, 110])) = [5] := ex_points
  rw [hex_] at h ⊢
  have htl_ : 0 < Dy3.NL.length := by rw [hDy3.1.1]; exact htly3.1
  refine wl_v rfl rfl (ov_assign _ rfl) ?_
  refine wl_nil ?_
  refine qn_then ?_
  refine wc_seq ?_
  refine wc_region ?_
  refine wl_v rfl rfl (ov_move _ rfl) ?_
  refine wl_v rfl rfl (ov_len _ _ _ _ _ rfl es36) ?_
  refine wl_v rfl rfl (ov_bin _ rfl rfl (binR_eql)) ?_
  refine wl_v rfl rfl (ov_move _ rfl) ?_
  refine wl_split 13 rfl (fun c5 => ?_) (fun c5 => ?_)
  ·
   refine wl_v rfl rfl (ov_move _ rfl) ?_
   obtain ⟨ad6, rfl⟩ := Sx.C_some ((Sx.row_reads h (i := 0) rfl).2) (k := 0) (by first | assumption | omega | (simp only [List.length_set, List.length_append, List.length_cons, List.length_nil]; omega))
   refine wl_v rfl rfl (ov_indexAddrN _ _ _ _ _ 0 rfl rfl es36 rfl (by first | assumption | omega | (simp only [List.length_take, List.length_drop, List.length_set, List.length_append, List.length_cons, List.length_nil]; omega))) ?_
   obtain ⟨cl9, _, hk8, hc7⟩ := Sx.C_cells ((Sx.row_reads h (i := 0) rfl).2) (z := (0 : Int)) (k := 0) (by first | assumption | omega | (simp only [List.length_set, List.length_append, List.length_cons, List.length_nil]; omega))
   obtain rfl : cl9 = [.int .i64 _] := hk8
   refine wl_v rfl rfl (ov_load1 _ _ rfl sh3 ((hc7 0 _ rfl))) ?_
   refine wl_v rfl rfl (ov_bin _ rfl rfl (binR_eql)) ?_
   refine wl_v rfl rfl (ov_pick_true _ rfl rfl) ?_
   refine wl_v rfl rfl (ov_move _ rfl) ?_
   refine wl_split 19 rfl (fun c10 => ?_) (fun c10 => ?_)
   ·
    refine wl_v rfl rfl (ov_pick_true _ rfl rfl) ?_
    refine wl_v rfl rfl (ov_move _ rfl) ?_
    refine wl_v rfl rfl (ov_move _ rfl) ?_
    refine wl_call _ rfl rfl rfl ent12 (BK.Size_calls (R := [Sx.row (Kd.int .i64) 3 (some ad6) (cp4) ([5]), bookp gy3 (2) (2) Dy3, Sx.row Kd.string 9 (A1) (cp2) ([ByteArray.mk #[49, 110, 97], ByteArray.mk #[110, 50, 97, 116]])] ++ R) gy3 (2) (2) Dy3 (book_reads (R := [Sx.row (Kd.int .i64) 3 (some ad6) (cp4) ([5]), bookp gy3 (2) (2) Dy3, Sx.row Kd.string 9 (A1) (cp2) ([ByteArray.mk #[49, 110, 97], ByteArray.mk #[110, 50, 97, 116]])] ++ R) (j := 1) rfl) h) ?_
    rintro e_ w_ ⟨rfl, h⟩
    refine ⟨_, rfl, ?_⟩
    refine wl_v rfl rfl (ov_bin _ rfl rfl (binR_gtr)) ?_
    refine wl_v rfl rfl (ov_pick_true _ rfl rfl) ?_
    refine wl_v rfl rfl (ov_assign _ rfl) ?_
    refine wl_nil ?_
    refine qn_then ?_
    refine wc_ret ?_
    replace h := st_selT [false, false, false] h
    refine qn_ret [_] ⟨rfl, trivial⟩ ?_
    have b_ : (decide ((0 : Int) < (((Dy3).NL.length : Int)))) = true := by
      have q_ := htl_
      first | (apply decide_eq_true; omega) | simp_all
    exact ⟨congrArg (fun z => Ending.returned (Value.bool z)) b_, h⟩
   ·
    refine wl_v rfl rfl (ov_pick_false _ rfl rfl) ?_
    refine wl_v rfl rfl (ov_move _ rfl) ?_
    refine wl_skip rfl rfl ?_
    refine wl_skip rfl rfl ?_
    refine wl_skip rfl rfl ?_
    refine wl_v rfl rfl (ov_pick_false _ rfl rfl) ?_
    refine wl_v rfl rfl (ov_assign _ rfl) ?_
    refine wl_nil ?_
    refine qn_then ?_
    refine wc_ret ?_
    replace h := st_selT [false, false, false] h
    refine qn_ret [_] ⟨rfl, trivial⟩ ?_
    exfalso
    first | omega | exact absurd rfl (by assumption) | (have q_ : (([5] : List Int).getD 0 0 : Int) = 5 := rfl; omega) | simp_all
  ·
   refine wl_skip rfl rfl ?_
   refine wl_skip rfl rfl ?_
   refine wl_skip rfl rfl ?_
   refine wl_skip rfl rfl ?_
   refine wl_v rfl rfl (ov_pick_false _ rfl rfl) ?_
   refine wl_v rfl rfl (ov_move _ rfl) ?_
   refine wl_v rfl rfl (ov_pick_false _ rfl rfl) ?_
   refine wl_v rfl rfl (ov_move _ rfl) ?_
   refine wl_skip rfl rfl ?_
   refine wl_skip rfl rfl ?_
   refine wl_skip rfl rfl ?_
   refine wl_v rfl rfl (ov_pick_false _ rfl rfl) ?_
   refine wl_v rfl rfl (ov_assign _ rfl) ?_
   refine wl_nil ?_
   refine qn_then ?_
   refine wc_ret ?_
   replace h := st_selT [false, false, false] h
   refine qn_ret [_] ⟨rfl, trivial⟩ ?_
   exfalso
   first | omega | exact absurd rfl (by assumption) | (have q_ : (([5] : List Int).getD 0 0 : Int) = 5 := rfl; omega) | simp_all
end Go.Proofs.Ytbeihfcjfkddcaa.AW
