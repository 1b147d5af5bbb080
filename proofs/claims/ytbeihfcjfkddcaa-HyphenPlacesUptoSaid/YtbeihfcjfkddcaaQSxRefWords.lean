/- Pruned by wip/prune.py. -/
import Derived.Test.YtbeihfcjfkddcaaProg
import Derived.Test.YtbeihfcjfkddcaaQSxGlue
import Derived.Test.YtbeihfcjfkddcaaQSxFlow
import Derived.Test.YtbeihfcjfkddcaaQSxIter
import Derived.Test.YtbeihfcjfkddcaaQSxBytes
import Derived.Test.YtbeihfcjfkddcaaQHyWf
import Derived.Test.YtbeihfcjfkddcaaQSxRunes
import Derived.Test.YtbeihfcjfkddcaaQSxLetter
import Derived.Test.YtbeihfcjfkddcaaQSxText
import Derived.Test.YtbeihfcjfkddcaaQSxHRead
import Derived.Test.YtbeihfcjfkddcaaQSxHRef
import Derived.Test.YtbeihfcjfkddcaaQSxTree
import Derived.Test.YtbeihfcjfkddcaaQSxBook
import Derived.Test.YtbeihfcjfkddcaaQSxPoints
import Derived.Test.YtbeihfcjfkddcaaQHyWords
namespace Go.Proofs.Ytbeihfcjfkddcaa.RW
open Go Go.RowKit Go.Proofs.YtbeihfcjfkddcaaW.PrintWords Go.Proofs.Ytbeihfcjfkddcaa.Hy Go.Proofs.Ytbeihfcjfkddcaa.Given Go.Proofs.Ytbeihfcjfkddcaa.Rn Go.Proofs.Ytbeihfcjfkddcaa.Sx 
set_option linter.unusedVariables false
set_option linter.unusedSimpArgs false
theorem es36 : Sx.elemSz Try.prog 36 = some (3, 1) := by kernel_rfl
theorem sh3 : Sx.shapeOf Try.prog 3 = some (false, 1) := by kernel_rfl
theorem ent24 : Sx.Ent Try.prog 24 := ⟨Try.f24, Try.func24, by kernel_rfl, by kernel_rfl⟩
theorem ent25 : Sx.Ent Try.prog 25 := ⟨Try.f25, Try.func25, by kernel_rfl, by kernel_rfl⟩
theorem es42 : Sx.elemSz Try.prog 42 = some (44, 2) := by kernel_rfl
theorem ar44 : Sx.arrSz Try.prog 44 = some (2, 3, 1) := by kernel_rfl
theorem ent39 : Sx.Ent Try.prog 39 := ⟨Try.f39, Try.func39, by kernel_rfl, by kernel_rfl⟩
theorem szf3 : (Try.prog.info? 3).map (·.size) = some 1 := by kernel_rfl
theorem infb44 : (Try.prog.info? 44).map (fun i => (i.zero, i.size)) = some (some (.agg #[.int .i64 (0), .int .i64 (0)]), 2) := by kernel_rfl
theorem inf44 : (Try.prog.info? 44).map (fun i => (i.zero, i.size, i.bytes)) = some (some (.agg #[.int .i64 (0), .int .i64 (0)]), 2, 16) := by kernel_rfl
set_option maxHeartbeats 4000000 in
set_option maxRecDepth 100000 in
theorem end_calls {w0 w : World} {F0 : Nat → Prop} {R : List Sx.HP} (s : ByteArray) (A : Option Addr) (c : Nat) (i : Nat) (hA : ∀ cs w, Sx.St w0 F0 (cs ++ R) w → (Kd.int .i64).C w A (placesL s).length (placesL s)) (hi : i < (refV s).1.length) (hs : s.size ≤ 1000000000) (h : Sx.St w0 F0 ([] ++ R) w) : Calls Try.prog 39 #[.string (s), .slice (A) ((placesL s).length) (c), .int .i64 (((i : Nat) : Int))] w (fun e w1 => e = .returned (.int .i64 (plcV s (i + 1))) ∧ Sx.St w0 F0 R w1) := by
 have hpl_ := placesL_len s
 have hrr_ := refV_room s
 refine Sx.calls_fn (vs := [.string (s), .slice (A) ((placesL s).length) (c), .int .i64 (((i : Nat) : Int))]) Try.func39 rfl Try.ntmps39 rfl ?_
 refine wc_seq ?_
 refine wc_region ?_
 refine wl_v rfl rfl (ov_assign _ rfl) ?_
 refine wl_nil ?_
 refine qn_then ?_
 refine wc_seq ?_
 refine wc_seq ?_
 refine wc_region ?_
 refine wl_v rfl rfl (ov_move _ rfl) ?_
 refine wl_v rfl rfl (ov_bin _ rfl rfl (binR_add (r := (((i : Nat) : Int)) + 1) (Sx.w64 (by omega)))) ?_
 refine wl_v rfl rfl (ov_move _ rfl) ?_
 refine wl_v rfl rfl (ov_len _ _ _ _ _ rfl es36) ?_
 refine wl_v rfl rfl (ov_bin _ rfl rfl (binR_lss)) ?_
 refine wl_nil ?_
 refine qn_then ?_
 refine wc_cond (by rfl) (fun c1 => ?_) (fun c1 => ?_)
 ·
  refine wc_seq ?_
  refine wc_region ?_
  refine wl_v rfl rfl (ov_move _ rfl) ?_
  refine wl_v rfl rfl (ov_move _ rfl) ?_
  refine wl_v rfl rfl (ov_bin _ rfl rfl (binR_add (r := (((i : Nat) : Int)) + 1) (Sx.w64 (by omega)))) ?_
  obtain ⟨ad2, rfl⟩ := Sx.C_some ((hA [] _ h)) (k := (((i : Nat)) + 1)) (by first | assumption | omega | (simp only [List.length_set, List.length_append, List.length_cons, List.length_nil]; omega))
  refine wl_v rfl rfl (ov_indexAddrN _ _ _ _ _ (((i : Nat)) + 1) rfl rfl es36 (by omega) (by first | assumption | omega | (simp only [List.length_take, List.length_drop, List.length_set, List.length_append, List.length_cons, List.length_nil]; omega))) ?_
  obtain ⟨cl5, _, hk4, hc3⟩ := Sx.C_cells ((hA [] _ h)) (z := (0 : Int)) (k := (((i : Nat)) + 1)) (by first | assumption | omega | (simp only [List.length_set, List.length_append, List.length_cons, List.length_nil]; omega))
  obtain rfl : cl5 = [.int .i64 _] := hk4
  refine wl_v rfl rfl (ov_load1 _ _ rfl sh3 ((hc3 0 _ rfl))) ?_
  refine wl_v rfl rfl (ov_assign _ rfl) ?_
  refine wl_nil ?_
  refine qn_then ?_
  refine wc_ret ?_
  refine qn_then_ret ?_
  refine qn_ret [_] ⟨rfl, trivial⟩ ?_
  rw [← plc_lt (by omega)]
  exact ⟨rfl, h⟩
 ·
  refine wc_skip ?_
  refine qn_then ?_
  refine wc_seq ?_
  refine wc_region ?_
  refine wl_v rfl rfl (ov_move _ rfl) ?_
  refine wl_v rfl rfl (ov_lens _ rfl Try.underlying9) ?_
  refine wl_v rfl rfl (ov_assign _ rfl) ?_
  refine wl_nil ?_
  refine qn_then ?_
  refine wc_ret ?_
  refine qn_ret [_] ⟨rfl, trivial⟩ ?_
  rw [show i + 1 = (refV s).1.length by omega, plc_end]
  exact ⟨rfl, h⟩
set_option maxHeartbeats 4000000 in
set_option maxRecDepth 100000 in
theorem rWords_calls {w0 w : World} {F0 : Nat → Prop} {R : List Sx.HP} (s : ByteArray) (hb : (refV s).2 < 0) (hs : s.size ≤ 1000000000) (h : Sx.St w0 F0 ([] ++ R) w) : Calls Try.prog 19 #[.string (s)] w (fun e w1 => ∃ A c, e = .returned (.slice A (wordsV s).length c) ∧ Sx.St w0 F0 ([Sx.row kPr 44 (A) (c) ((wordsV s))] ++ R) w1) := by
 have hbr_ := bad_refV s
 have hpl_ := placesL_len s
 have hrl2_ := runesL_len s
 have hrr_ := refV_room s
 refine Sx.calls_fn (vs := [.string (s)]) Try.func19 rfl Try.ntmps19 rfl ?_
 refine wc_seq ?_
 refine wc_region ?_
 refine wl_v rfl rfl (ov_assign _ rfl) ?_
 refine wl_nil ?_
 refine qn_then ?_
 refine wc_seq ?_
 refine wc_region ?_
 refine wl_v rfl rfl (ov_move _ rfl) ?_
 refine wl_call _ rfl rfl rfl ent24 (RN.Runes_calls (R := [] ++ R) s (by omega) h) ?_
 rintro e_ w_ ⟨Az1, cz1, Bz1, dz1, rfl, h⟩
 refine ⟨_, rfl, ?_⟩
 replace h : Sx.St w0 F0 ([Sx.row (Kd.int .i64) 3 (Az1) (cz1) ((runesL s)), Sx.row (Kd.int .i64) 3 (Bz1) (dz1) ((placesL s))] ++ R) _ := h
 refine wl_v rfl rfl (ov_move _ rfl) ?_
 refine wl_v rfl rfl (ov_extract [.slice (Az1) ((runesL s).length) (cz1), .slice (Bz1) ((placesL s).length) (dz1), .int .i64 ((refV s).2)] _ rfl rfl) ?_
 refine wl_v rfl rfl (ov_extract [.slice (Az1) ((runesL s).length) (cz1), .slice (Bz1) ((placesL s).length) (dz1), .int .i64 ((refV s).2)] _ rfl rfl) ?_
 refine wl_v rfl rfl (ov_extract [.slice (Az1) ((runesL s).length) (cz1), .slice (Bz1) ((placesL s).length) (dz1), .int .i64 ((refV s).2)] _ rfl rfl) ?_
 refine wl_v rfl rfl (ov_assign _ rfl) ?_
 refine wl_v rfl rfl (ov_assign _ rfl) ?_
 refine wl_v rfl rfl (ov_assign _ rfl) ?_
 refine wl_nil ?_
 refine qn_then ?_
 refine wc_seq ?_
 refine wc_region ?_
 refine wl_v rfl rfl (ov_assign _ rfl) ?_
 refine wl_nil ?_
 refine qn_then ?_
 refine wc_seq ?_
 refine wc_seq ?_
 refine wc_region ?_
 refine wl_v rfl rfl (ov_assign _ rfl) ?_
 refine wl_nil ?_
 refine qn_then ?_
 refine wc_block ?_
 replace h := st_nilrow kPr 44 h
 replace h := st_front 2 h
 replace h := st_front 2 h
 refine wc_loop (fun (x_ : Nat × Int × (List (Int × Int)) × (Option Addr) × (Option Addr) × (Option Addr) × Nat × (List (Int × Int))) => [(0, .string (s)), (3, .slice (x_.2.2.2.1) ((runesL s).length) (cz1)), (4, .slice (x_.2.2.2.2.1) ((placesL s).length) (dz1)), (6, .slice (x_.2.2.2.2.2.1) ((x_.2.2.2.2.2.2.2).length) (x_.2.2.2.2.2.2.1)), (7, .int .i64 (((x_.1 : Nat) : Int)))]) (fun (x_ : Nat × Int × (List (Int × Int)) × (Option Addr) × (Option Addr) × (Option Addr) × Nat × (List (Int × Int))) (w : World) => (WSt s x_.1 x_.2.1 x_.2.2.1 x_.2.2.2.2.2.2.2 ∧ x_.1 ≤ (refV s).1.length ∧ (x_.2.2.2.2.2.2.2).length ≤ x_.1) ∧ Sx.St w0 F0 ([Sx.row (Kd.int .i64) 3 (x_.2.2.2.1) (cz1) ((runesL s)), Sx.row (Kd.int .i64) 3 (x_.2.2.2.2.1) (dz1) ((placesL s)), Sx.row kPr 44 (x_.2.2.2.2.2.1) (x_.2.2.2.2.2.2.1) (x_.2.2.2.2.2.2.2)] ++ R) w) (fun (x_ : Nat × Int × (List (Int × Int)) × (Option Addr) × (Option Addr) × (Option Addr) × Nat × (List (Int × Int))) => (runesL s).length - x_.1) (0, (-1), [], Az1, Bz1, none, 0, []) ?_ ?_ ?_
 · exact ⟨rfl, rfl, rfl, (congrArg (fun z_ => some (Value.slice (none) z_ (0))) (show (0 : Nat) = ([]).length by first | rfl | simp)), (congrArg (fun z_ => some (Value.int .i64 z_)) (show (0 : Int) = ((0 : Nat) : Int) by omega)), trivial⟩
 · exact ⟨⟨ws_zero, Nat.zero_le _, Nat.le_refl _⟩, h⟩
 rintro ⟨i, f, o, X, Y, A, c, L⟩ w h
 obtain ⟨hJ, h⟩ := h
 replace hJ : WSt s i f o L ∧ i ≤ (refV s).1.length ∧ (L).length ≤ i := hJ
 replace h : Sx.St w0 F0 ([Sx.row (Kd.int .i64) 3 (X) (cz1) ((runesL s)), Sx.row (Kd.int .i64) 3 (Y) (dz1) ((placesL s)), Sx.row kPr 44 (A) (c) (L)] ++ R) w := h
 show Sx.WC _ _ _ _ [(0, .string (s)), (3, .slice (X) ((runesL s).length) (cz1)), (4, .slice (Y) ((placesL s).length) (dz1)), (6, .slice (A) ((L).length) (c)), (7, .int .i64 (((i : Nat) : Int)))] _
 have hrb_ := runes_bd (s := s) (by omega) i
 have hpv_ : i < (refV s).1.length → (placesL s).getD i 0 = plcV s i := fun z_ => plc_lt z_
 refine wc_seq ?_
 refine wc_seq ?_
 refine wc_region ?_
 refine wl_v rfl rfl (ov_move _ rfl) ?_
 refine wl_v rfl rfl (ov_move _ rfl) ?_
 refine wl_v rfl rfl (ov_len _ _ _ _ _ rfl es36) ?_
 refine wl_v rfl rfl (ov_bin _ rfl rfl (binR_lss)) ?_
 refine wl_nil ?_
 refine qn_then ?_
 refine wc_cond (by rfl) (fun c2 => ?_) (fun c2 => ?_)
 ·
  refine wc_skip ?_
  refine qn_then ?_
  refine wc_seq ?_
  refine wc_block ?_
  refine wc_seq ?_
  refine wc_seq ?_
  refine wc_region ?_
  refine wl_v rfl rfl (ov_move _ rfl) ?_
  refine wl_v rfl rfl (ov_move _ rfl) ?_
  obtain ⟨ad3, rfl⟩ := Sx.C_some ((Sx.row_reads h (i := 0) rfl).2) (k := (i : Nat)) (by first | assumption | omega | (simp only [List.length_set, List.length_append, List.length_cons, List.length_nil]; omega))
  refine wl_v rfl rfl (ov_indexAddrN _ _ _ _ _ (i : Nat) rfl rfl es36 rfl (by first | assumption | omega | (simp only [List.length_take, List.length_drop, List.length_set, List.length_append, List.length_cons, List.length_nil]; omega))) ?_
  obtain ⟨cl6, _, hk5, hc4⟩ := Sx.C_cells ((Sx.row_reads h (i := 0) rfl).2) (z := (0 : Int)) (k := (i : Nat)) (by first | assumption | omega | (simp only [List.length_set, List.length_append, List.length_cons, List.length_nil]; omega))
  obtain rfl : cl6 = [.int .i64 _] := hk5
  refine wl_v rfl rfl (ov_load1 _ _ rfl sh3 ((hc4 0 _ rfl))) ?_
  refine wl_call _ rfl rfl rfl ent25 (LT.rLetter_calls (R := [Sx.row (Kd.int .i64) 3 (some ad3) (cz1) ((runesL s)), Sx.row (Kd.int .i64) 3 (Y) (dz1) ((placesL s)), Sx.row kPr 44 (A) (c) (L)] ++ R) (((runesL s)).getD (i : Nat) (0 : Int)) (by omega) (by omega) h) ?_
  rintro e_ w_ ⟨rfl, h⟩
  refine ⟨_, rfl, ?_⟩
  refine wl_v rfl rfl (ov_not _ (¬ (LetP (((runesL s)).getD (i : Nat) (0 : Int)))) rfl (by first | exact decide_not.symm | simp)) ?_
  refine wl_nil ?_
  refine qn_then ?_
  refine wc_cond (by rfl) (fun c7 => ?_) (fun c7 => ?_)
  ·
   refine wc_exit ?_
   refine qn_then_exit ?_
   refine qn_block_exit ?_
   refine qn_then ?_
   refine wc_region ?_
   refine wl_v rfl rfl (ov_move _ rfl) ?_
   refine wl_v rfl rfl (ov_bin _ rfl rfl (binR_add (r := (((i : Nat) : Int)) + 1) (Sx.w64 (by omega)))) ?_
   refine wl_v rfl rfl (ov_assign _ rfl) ?_
   refine wl_nil ?_
   replace h := st_front 2 h
   replace h := st_front 2 h
   replace h := st_front 2 h
   obtain ⟨f1_, o1_, hw1_⟩ := ws_skip hb (by omega) hJ.1 (by assumption)
   refine qn_next ((i + 1), f1_, o1_, some ad3, Y, A, c, (L)) (by show (runesL s).length - (i + 1) < (runesL s).length - i; omega) ⟨rfl, rfl, rfl, (congrArg (fun z_ => some (Value.slice (A) z_ (c))) (show ((L).length : Nat) = ((L)).length by first | rfl | simp)), (congrArg (fun z_ => some (Value.int .i64 z_)) (show ((((i : Nat) : Int)) + 1 : Int) = (((i + 1) : Nat) : Int) by omega)), trivial⟩ ?_
   show (WSt s (i + 1) f1_ o1_ (L) ∧ (i + 1) ≤ (refV s).1.length ∧ ((L)).length ≤ (i + 1)) ∧ _
   exact ⟨⟨hw1_, by omega, by first | omega | (simp only [List.length_append, List.length_cons, List.length_nil]; omega)⟩, h⟩
  ·
   refine wc_skip ?_
   refine qn_then ?_
   refine wc_seq ?_
   refine wc_seq ?_
   refine wc_draw (fun w => Sx.St w0 F0 ([Sx.row (Kd.int .i64) 3 (some ad3) (cz1) ((runesL s)), Sx.row (Kd.int .i64) 3 (Y) (dz1) ((placesL s)), Sx.row kPr 44 (A) (c) (L)] ++ R) w) (by kernel_rfl) ?_
   replace h := st_drew h
   refine wa_tk 0 rfl rfl rfl (st_selT [true, true, true] h) (fun w_ hS => ov_move _ rfl) ?_
   refine wa_tk 1 rfl rfl rfl (st_selT [true, true, true] h) (fun w_ hS => ov_len _ _ _ _ _ rfl es42) ?_
   refine wa_tk 2 rfl rfl rfl (st_selT [true, true, true] h) (fun w_ hS => ov_bin _ rfl rfl (binR_gtr)) ?_
   refine wa_tk 3 rfl rfl rfl (st_selT [true, true, true] h) (fun w_ hS => ov_move _ rfl) ?_
   refine wa_split 29 rfl (fun c8 => ?_) (fun c8 => ?_)
   ·
    refine wa_tk 4 rfl rfl rfl (st_selT [true, true, true] h) (fun w_ hS => ov_move _ rfl) ?_
    refine wa_tk 5 rfl rfl rfl (st_selT [true, true, true] h) (fun w_ hS => ov_move _ rfl) ?_
    refine wa_tk 6 rfl rfl rfl (st_selT [true, true, true] h) (fun w_ hS => ov_len _ _ _ _ _ rfl es42) ?_
    refine wa_tk 7 rfl rfl rfl (st_selT [true, true, true] h) (fun w_ hS => ov_bin _ rfl rfl (binR_sub (r := ((((L).length : Nat) : Int)) - 1) (Sx.w64 (by omega)))) ?_
    obtain ⟨ad9, rfl⟩ := Sx.C_some ((Sx.row_reads h (i := 2) rfl).2) (k := (((L).length) - 1)) (by first | assumption | omega | (simp only [List.length_set, List.length_append, List.length_cons, List.length_nil]; omega))
    refine wa_tk 8 rfl rfl rfl (st_selT [true, true, true] h) (fun w_ hS => ov_indexAddrN _ _ _ _ _ (((L).length) - 1) rfl rfl es42 (by omega) (by first | assumption | omega | (simp only [List.length_take, List.length_drop, List.length_set, List.length_append, List.length_cons, List.length_nil]; omega))) ?_
    refine wa_tk 9 rfl rfl rfl (st_selT [true, true, true] h) (fun w_ hS => ov_indexAddrA _ 1 ((ad9).add ((((L).length) - 1) * 2 + 1)) rfl rfl ar44 (by decide) (by first | exact Deep.add_add _ _ _ | (rw [Deep.add_add]) | rfl)) ?_
    refine wa_tk 10 rfl rfl rfl (st_selT [true, true, true] h) (fun w_ hS => by
        obtain ⟨cl12, _, hk11, hc10⟩ := Sx.C_cells ((Sx.row_reads hS (i := 2) rfl).2) (z := ((0, 0) : Int × Int)) (k := (((L).length) - 1)) (by first | assumption | omega | (simp only [List.length_set, List.length_append, List.length_cons, List.length_nil]; omega))
        obtain rfl := kPr_open hk11
        exact ov_load1 _ _ rfl sh3 ((hc10 1 _ rfl))) ?_
    refine wa_tk 11 rfl rfl rfl (st_selT [true, true, true] h) (fun w_ hS => ov_move _ rfl) ?_
    refine wa_tk 12 rfl rfl rfl (st_selT [true, true, true] h) (fun w_ hS => ov_move _ rfl) ?_
    obtain ⟨ad13, rfl⟩ := Sx.C_some ((Sx.row_reads h (i := 1) rfl).2) (k := (i : Nat)) (by first | assumption | omega | (simp only [List.length_set, List.length_append, List.length_cons, List.length_nil]; omega))
    refine wa_tk 13 rfl rfl rfl (st_selT [true, true, true] h) (fun w_ hS => ov_indexAddrN _ _ _ _ _ (i : Nat) rfl rfl es36 rfl (by first | assumption | omega | (simp only [List.length_take, List.length_drop, List.length_set, List.length_append, List.length_cons, List.length_nil]; omega))) ?_
    refine wa_tk 14 rfl rfl rfl (st_selT [true, true, true] h) (fun w_ hS => by
        obtain ⟨cl16, _, hk15, hc14⟩ := Sx.C_cells ((Sx.row_reads hS (i := 1) rfl).2) (z := (0 : Int)) (k := (i : Nat)) (by first | assumption | omega | (simp only [List.length_set, List.length_append, List.length_cons, List.length_nil]; omega))
        obtain rfl : cl16 = [.int .i64 _] := hk15
        exact ov_load1 _ _ rfl sh3 ((hc14 0 _ rfl))) ?_
    refine wa_tk 15 rfl rfl rfl (st_selT [true, true, true] h) (fun w_ hS => ov_bin _ rfl rfl (binR_eql)) ?_
    refine wa_tk 16 rfl rfl rfl (st_selT [true, true, true] h) (fun w_ hS => ov_pick_true _ rfl rfl) ?_
    refine wa_done (by kernel_rfl) ?_
    refine qn_then ?_
    refine wc_cond (by rfl) (fun c17 => ?_) (fun c17 => ?_)
    ·
     refine wc_seq ?_
     refine wc_draw (fun w => Sx.St w0 F0 ([Sx.row (Kd.int .i64) 3 (some ad3) (cz1) ((runesL s)), Sx.row (Kd.int .i64) 3 (some ad13) (dz1) ((placesL s))] ++ R) w) (by kernel_rfl) ?_
     replace h := st_drew h
     refine wa_tk 0 rfl rfl rfl (st_selT [true, true, false] h) (fun w_ hS => ov_move _ rfl) ?_
     refine wa_tk 1 rfl rfl rfl (st_selT [true, true, false] h) (fun w_ hS => ov_move _ rfl) ?_
     refine wa_tk 2 rfl rfl rfl (st_selT [true, true, false] h) (fun w_ hS => ov_len _ _ _ _ _ rfl es42) ?_
     refine wa_tk 3 rfl rfl rfl (st_selT [true, true, false] h) (fun w_ hS => ov_bin _ rfl rfl (binR_sub (r := ((((L).length : Nat) : Int)) - 1) (Sx.w64 (by omega)))) ?_
     refine wa_tk 4 rfl rfl rfl (st_selT [true, true, false] h) (fun w_ hS => ov_move _ rfl) ?_
     refine wa_tk 5 rfl rfl rfl (st_selT [true, true, false] h) (fun w_ hS => ov_move _ rfl) ?_
     refine wa_tk 6 rfl rfl rfl (st_selT [true, true, false] h) (fun w_ hS => ov_move _ rfl) ?_
     refine wa_tk 8 rfl rfl rfl (st_selT [true, true, false] h) (fun w_ hS => ov_indexAddrN _ _ _ _ _ (((L).length) - 1) rfl rfl es42 (by omega) (by first | assumption | omega | (simp only [List.length_take, List.length_drop, List.length_set, List.length_append, List.length_cons, List.length_nil]; omega))) ?_
     refine wa_one 7 rfl (by kernel_rfl) ?_
     refine wl_call _ rfl rfl rfl ent39 (RW.end_calls (R := [Sx.row (Kd.int .i64) 3 (some ad3) (cz1) ((runesL s)), Sx.row (Kd.int .i64) 3 (some ad13) (dz1) ((placesL s)), Sx.row kPr 44 (some ad9) (c) (L)] ++ R) s (some ad13) (dz1) ((i : Nat)) (Sx.row_reads_at (R := [Sx.row (Kd.int .i64) 3 (some ad3) (cz1) ((runesL s)), Sx.row (Kd.int .i64) 3 (some ad13) (dz1) ((placesL s)), Sx.row kPr 44 (some ad9) (c) (L)] ++ R) (j := 1) rfl) (by omega) (by omega) h) ?_
     rintro e_ w_ ⟨rfl, h⟩
     refine ⟨_, rfl, ?_⟩
     refine wl_nil ?_
     refine qn_wa (st_selT [true, true, false] h) ?_
     refine wa_tk 9 rfl rfl rfl (st_selT [true, true, false] h) (fun w_ hS => ov_indexAddrA _ 1 ((ad9).add ((((L).length) - 1) * 2 + 1)) rfl rfl ar44 (by decide) (by first | exact Deep.add_add _ _ _ | (rw [Deep.add_add]) | rfl)) ?_
     refine wa_one 10 rfl (by kernel_rfl) ?_
     refine wl_storeeN 2 (((L).length) - 1) 1 (.int .i64 (plcV s ((i : Nat) + 1))) [.int .i64 (plcV s ((i : Nat) + 1))] ((0, 0) : Int × Int) (((((L).getD (((L).length) - 1) ((0, 0) : Int × Int)).1, plcV s ((i : Nat) + 1)) : Int × Int)) h rfl rfl rfl (by first | rfl | simp) rfl rfl (by simp [Value.oneCell']) szf3 (by first | assumption | omega | (simp only [List.length_set, List.length_append, List.length_cons, List.length_nil]; omega)) (Nat.le_of_ble_eq_true rfl) (by intro cl hcl hM; obtain ⟨_, _, _, hM⟩ := hM; obtain rfl := kPr_openM hM; intro _ _ _; exact kPr_mkM _ _ _ (((((L).getD (((L).length) - 1) ((0, 0) : Int × Int)).1, plcV s ((i : Nat) + 1)) : Int × Int))) (fun _ h => ?_)
     refine wl_nil ?_
     refine qn_wa (st_selT [true, true, false] h) ?_
     refine wa_done (by kernel_rfl) ?_
     refine qn_then ?_
     refine wc_exit ?_
     refine qn_then_exit ?_
     refine qn_block_exit ?_
     refine qn_then ?_
     refine wc_region ?_
     refine wl_v rfl rfl (ov_move _ rfl) ?_
     refine wl_v rfl rfl (ov_bin _ rfl rfl (binR_add (r := (((i : Nat) : Int)) + 1) (Sx.w64 (by omega)))) ?_
     refine wl_v rfl rfl (ov_assign _ rfl) ?_
     refine wl_nil ?_
     replace h := st_front 2 h
     replace h := st_front 2 h
     replace h := st_front 2 h
     obtain ⟨f1_, o1_, hw1_⟩ := ws_more hb (by omega) hJ.1 (by first | assumption | exact Classical.not_not.1 (by assumption)) (fun z_ => by have q_ := congrArg List.length z_; simp only [List.length_nil] at q_; omega) (by rw [← plc_lt (by omega)]; assumption)
     have hls_ : L.length = ((L).set (((L).length) - 1) (((((L).getD (((L).length) - 1) ((0, 0) : Int × Int)).1, plcV s ((i : Nat) + 1)) : Int × Int))).length := (List.length_set ..).symm
     refine qn_next ((i + 1), f1_, o1_, some ad3, some ad13, some ad9, c, ((L).set (((L).length) - 1) (((((L).getD (((L).length) - 1) ((0, 0) : Int × Int)).1, plcV s ((i : Nat) + 1)) : Int × Int)))) (by show (runesL s).length - (i + 1) < (runesL s).length - i; omega) ⟨rfl, rfl, rfl, (congrArg (fun z_ => some (Value.slice (some ad9) z_ (c))) (show ((L).length : Nat) = (((L).set (((L).length) - 1) (((((L).getD (((L).length) - 1) ((0, 0) : Int × Int)).1, plcV s ((i : Nat) + 1)) : Int × Int)))).length by first | rfl | simp)), (congrArg (fun z_ => some (Value.int .i64 z_)) (show ((((i : Nat) : Int)) + 1 : Int) = (((i + 1) : Nat) : Int) by omega)), trivial⟩ ?_
     show (WSt s (i + 1) f1_ o1_ ((L).set (((L).length) - 1) (((((L).getD (((L).length) - 1) ((0, 0) : Int × Int)).1, plcV s ((i : Nat) + 1)) : Int × Int))) ∧ (i + 1) ≤ (refV s).1.length ∧ (((L).set (((L).length) - 1) (((((L).getD (((L).length) - 1) ((0, 0) : Int × Int)).1, plcV s ((i : Nat) + 1)) : Int × Int)))).length ≤ (i + 1)) ∧ _
     exact ⟨⟨hw1_, by omega, by rw [List.length_set]; omega⟩, h⟩
    ·
     refine wc_skip ?_
     refine qn_then ?_
     refine wc_draw (fun w => Sx.St w0 F0 ([Sx.row (Kd.int .i64) 3 (some ad3) (cz1) ((runesL s)), Sx.row (Kd.int .i64) 3 (some ad13) (dz1) ((placesL s))] ++ R) w) (by kernel_rfl) ?_
     replace h := st_drew h
     refine wa_tk 0 rfl rfl rfl (st_selT [true, true, false] h) (fun w_ hS => ov_move _ rfl) ?_
     refine wa_tk 1 rfl rfl rfl (st_selT [true, true, false] h) (fun w_ hS => ov_move _ rfl) ?_
     refine wa_tk 2 rfl rfl rfl (st_selT [true, true, false] h) (fun w_ hS => ov_move _ rfl) ?_
     refine wa_tk 3 rfl rfl rfl (st_selT [true, true, false] h) (fun w_ hS => ov_indexAddrN _ _ _ _ _ (i : Nat) rfl rfl es36 rfl (by first | assumption | omega | (simp only [List.length_take, List.length_drop, List.length_set, List.length_append, List.length_cons, List.length_nil]; omega))) ?_
     refine wa_tk 4 rfl rfl rfl (st_selT [true, true, false] h) (fun w_ hS => by
         obtain ⟨cl20, _, hk19, hc18⟩ := Sx.C_cells ((Sx.row_reads hS (i := 1) rfl).2) (z := (0 : Int)) (k := (i : Nat)) (by first | assumption | omega | (simp only [List.length_set, List.length_append, List.length_cons, List.length_nil]; omega))
         obtain rfl : cl20 = [.int .i64 _] := hk19
         exact ov_load1 _ _ rfl sh3 ((hc18 0 _ rfl))) ?_
     refine wa_tk 5 rfl rfl rfl (st_selT [true, true, false] h) (fun w_ hS => ov_move _ rfl) ?_
     refine wa_tk 6 rfl rfl rfl (st_selT [true, true, false] h) (fun w_ hS => ov_move _ rfl) ?_
     refine wa_tk 7 rfl rfl rfl (st_selT [true, true, false] h) (fun w_ hS => ov_move _ rfl) ?_
     refine wa_one 8 rfl (by kernel_rfl) ?_
     refine wl_call _ rfl rfl rfl ent39 (RW.end_calls (R := [Sx.row (Kd.int .i64) 3 (some ad3) (cz1) ((runesL s)), Sx.row (Kd.int .i64) 3 (some ad13) (dz1) ((placesL s)), Sx.row kPr 44 (some ad9) (c) (L)] ++ R) s (some ad13) (dz1) ((i : Nat)) (Sx.row_reads_at (R := [Sx.row (Kd.int .i64) 3 (some ad3) (cz1) ((runesL s)), Sx.row (Kd.int .i64) 3 (some ad13) (dz1) ((placesL s)), Sx.row kPr 44 (some ad9) (c) (L)] ++ R) (j := 1) rfl) (by omega) (by omega) h) ?_
     rintro e_ w_ ⟨rfl, h⟩
     refine ⟨_, rfl, ?_⟩
     refine wl_nil ?_
     refine qn_wa (st_selT [true, true, false] h) ?_
     refine wa_tk 9 rfl rfl rfl (st_selT [true, true, false] h) (fun w_ hS => ov_build [(0, .int .i64 (((placesL s)).getD (i : Nat) (0 : Int))), (1, .int .i64 (plcV s ((i : Nat) + 1)))] [.int .i64 (((placesL s)).getD (i : Nat) (0 : Int)), .int .i64 (plcV s ((i : Nat) + 1))] rfl rfl (by kernel_rfl)) ?_
     refine wa_one 10 rfl (by kernel_rfl) ?_
     refine wl_lit (d := kPr) [(0, .agg #[.int .i64 (((placesL s)).getD (i : Nat) (0 : Int)), .int .i64 (plcV s ((i : Nat) + 1))])] _ [.int .i64 (((placesL s)).getD (i : Nat) (0 : Int)), .int .i64 (plcV s ((i : Nat) + 1))] ([((((placesL s)).getD (i : Nat) (0 : Int), plcV s ((i : Nat) + 1)) : Int × Int)]) h rfl rfl rfl rfl Try.underlying42 infb44 rfl (by decide) (by kernel_rfl) rfl (fun _ _ _ => ((Reps.none _ _).snoc (kPr_mkM _ _ _ (((((placesL s)).getD (i : Nat) (0 : Int), plcV s ((i : Nat) + 1)) : Int × Int))) rfl)) (fun A21 cp22 _ h => ?_)
     refine wl_nil ?_
     refine qn_wa (st_selT [false, true, true, false] h) ?_
     refine wa_one 11 rfl (by kernel_rfl) ?_
     refine wl_append (d := kPr) (L := L) 3 _ 16 _ _ _ ([((((placesL s)).getD (i : Nat) (0 : Int), plcV s ((i : Nat) + 1)) : Int × Int)]) flatPr h rfl rfl rfl rfl rfl ((Sx.row_reads h (i := 0) rfl).2) Try.underlying42 inf44 rfl (by decide) (by decide) (by first | omega | (simp only [List.length_cons, List.length_nil, List.length_append, List.length_set]; omega)) (by first | rfl | simp) (fun A23 cp24 _ h => ?_)
     replace h := st_selT [false, true, true, true] h
     refine wl_nil ?_
     refine qn_wa (st_selT [true, true, false] h) ?_
     refine wa_tk 12 rfl rfl rfl (st_selT [true, true, false] h) (fun w_ hS => ov_assign _ rfl) ?_
     refine wa_done (by kernel_rfl) ?_
     refine qn_block_normal ?_
     refine qn_then ?_
     refine wc_region ?_
     refine wl_v rfl rfl (ov_move _ rfl) ?_
     refine wl_v rfl rfl (ov_bin _ rfl rfl (binR_add (r := (((i : Nat) : Int)) + 1) (Sx.w64 (by omega)))) ?_
     refine wl_v rfl rfl (ov_assign _ rfl) ?_
     refine wl_nil ?_
     replace h := st_front 2 h
     replace h := st_front 2 h
     replace h := st_front 2 h
     obtain ⟨f1_, o1_, hw1_⟩ := ws_new hb (by omega) hJ.1 (by first | assumption | exact Classical.not_not.1 (by assumption)) (fun z_ => by have q1_ := List.length_pos_iff.2 z_.1; have q2_ := z_.2; rw [← plc_lt (by omega)] at q2_; first | omega | contradiction)
     rw [← plc_lt (s := s) (i := i) (by omega)] at hw1_
     refine qn_next ((i + 1), f1_, o1_, some ad3, some ad13, A23, cp24, (L ++ ([((((placesL s)).getD (i : Nat) (0 : Int), plcV s ((i : Nat) + 1)) : Int × Int)]))) (by show (runesL s).length - (i + 1) < (runesL s).length - i; omega) ⟨rfl, rfl, rfl, (congrArg (fun z_ => some (Value.slice (A23) z_ (cp24))) (show ((L ++ ([((((placesL s)).getD (i : Nat) (0 : Int), plcV s ((i : Nat) + 1)) : Int × Int)])).length : Nat) = ((L ++ ([((((placesL s)).getD (i : Nat) (0 : Int), plcV s ((i : Nat) + 1)) : Int × Int)]))).length by first | rfl | simp)), (congrArg (fun z_ => some (Value.int .i64 z_)) (show ((((i : Nat) : Int)) + 1 : Int) = (((i + 1) : Nat) : Int) by omega)), trivial⟩ ?_
     show (WSt s (i + 1) f1_ o1_ (L ++ ([((((placesL s)).getD (i : Nat) (0 : Int), plcV s ((i : Nat) + 1)) : Int × Int)])) ∧ (i + 1) ≤ (refV s).1.length ∧ ((L ++ ([((((placesL s)).getD (i : Nat) (0 : Int), plcV s ((i : Nat) + 1)) : Int × Int)]))).length ≤ (i + 1)) ∧ _
     exact ⟨⟨hw1_, by omega, by first | omega | (simp only [List.length_append, List.length_cons, List.length_nil]; omega)⟩, h⟩
   ·
    refine wa_sk 4 rfl rfl rfl (st_selT [true, true, true] h) ?_
    refine wa_sk 5 rfl rfl rfl (st_selT [true, true, true] h) ?_
    refine wa_sk 6 rfl rfl rfl (st_selT [true, true, true] h) ?_
    refine wa_sk 7 rfl rfl rfl (st_selT [true, true, true] h) ?_
    refine wa_sk 8 rfl rfl rfl (st_selT [true, true, true] h) ?_
    refine wa_sk 9 rfl rfl rfl (st_selT [true, true, true] h) ?_
    refine wa_sk 10 rfl rfl rfl (st_selT [true, true, true] h) ?_
    refine wa_sk 11 rfl rfl rfl (st_selT [true, true, true] h) ?_
    refine wa_sk 12 rfl rfl rfl (st_selT [true, true, true] h) ?_
    refine wa_sk 13 rfl rfl rfl (st_selT [true, true, true] h) ?_
    refine wa_sk 14 rfl rfl rfl (st_selT [true, true, true] h) ?_
    refine wa_sk 15 rfl rfl rfl (st_selT [true, true, true] h) ?_
    refine wa_tk 16 rfl rfl rfl (st_selT [true, true, true] h) (fun w_ hS => ov_pick_false _ rfl rfl) ?_
    refine wa_done (by kernel_rfl) ?_
    refine qn_then ?_
    refine wc_cond_false rfl ?_
    refine wc_skip ?_
    refine qn_then ?_
    refine wc_draw (fun w => Sx.St w0 F0 ([Sx.row (Kd.int .i64) 3 (some ad3) (cz1) ((runesL s)), Sx.row (Kd.int .i64) 3 (Y) (dz1) ((placesL s))] ++ R) w) (by kernel_rfl) ?_
    replace h := st_drew h
    refine wa_tk 0 rfl rfl rfl (st_selT [true, true, false] h) (fun w_ hS => ov_move _ rfl) ?_
    refine wa_tk 1 rfl rfl rfl (st_selT [true, true, false] h) (fun w_ hS => ov_move _ rfl) ?_
    refine wa_tk 2 rfl rfl rfl (st_selT [true, true, false] h) (fun w_ hS => ov_move _ rfl) ?_
    obtain ⟨ad25, rfl⟩ := Sx.C_some ((Sx.row_reads h (i := 1) rfl).2) (k := (i : Nat)) (by first | assumption | omega | (simp only [List.length_set, List.length_append, List.length_cons, List.length_nil]; omega))
    refine wa_tk 3 rfl rfl rfl (st_selT [true, true, false] h) (fun w_ hS => ov_indexAddrN _ _ _ _ _ (i : Nat) rfl rfl es36 rfl (by first | assumption | omega | (simp only [List.length_take, List.length_drop, List.length_set, List.length_append, List.length_cons, List.length_nil]; omega))) ?_
    refine wa_tk 4 rfl rfl rfl (st_selT [true, true, false] h) (fun w_ hS => by
        obtain ⟨cl28, _, hk27, hc26⟩ := Sx.C_cells ((Sx.row_reads hS (i := 1) rfl).2) (z := (0 : Int)) (k := (i : Nat)) (by first | assumption | omega | (simp only [List.length_set, List.length_append, List.length_cons, List.length_nil]; omega))
        obtain rfl : cl28 = [.int .i64 _] := hk27
        exact ov_load1 _ _ rfl sh3 ((hc26 0 _ rfl))) ?_
    refine wa_tk 5 rfl rfl rfl (st_selT [true, true, false] h) (fun w_ hS => ov_move _ rfl) ?_
    refine wa_tk 6 rfl rfl rfl (st_selT [true, true, false] h) (fun w_ hS => ov_move _ rfl) ?_
    refine wa_tk 7 rfl rfl rfl (st_selT [true, true, false] h) (fun w_ hS => ov_move _ rfl) ?_
    refine wa_one 8 rfl (by kernel_rfl) ?_
    refine wl_call _ rfl rfl rfl ent39 (RW.end_calls (R := [Sx.row (Kd.int .i64) 3 (some ad3) (cz1) ((runesL s)), Sx.row (Kd.int .i64) 3 (some ad25) (dz1) ((placesL s)), Sx.row kPr 44 (A) (c) (L)] ++ R) s (some ad25) (dz1) ((i : Nat)) (Sx.row_reads_at (R := [Sx.row (Kd.int .i64) 3 (some ad3) (cz1) ((runesL s)), Sx.row (Kd.int .i64) 3 (some ad25) (dz1) ((placesL s)), Sx.row kPr 44 (A) (c) (L)] ++ R) (j := 1) rfl) (by omega) (by omega) h) ?_
    rintro e_ w_ ⟨rfl, h⟩
    refine ⟨_, rfl, ?_⟩
    refine wl_nil ?_
    refine qn_wa (st_selT [true, true, false] h) ?_
    refine wa_tk 9 rfl rfl rfl (st_selT [true, true, false] h) (fun w_ hS => ov_build [(0, .int .i64 (((placesL s)).getD (i : Nat) (0 : Int))), (1, .int .i64 (plcV s ((i : Nat) + 1)))] [.int .i64 (((placesL s)).getD (i : Nat) (0 : Int)), .int .i64 (plcV s ((i : Nat) + 1))] rfl rfl (by kernel_rfl)) ?_
    refine wa_one 10 rfl (by kernel_rfl) ?_
    refine wl_lit (d := kPr) [(0, .agg #[.int .i64 (((placesL s)).getD (i : Nat) (0 : Int)), .int .i64 (plcV s ((i : Nat) + 1))])] _ [.int .i64 (((placesL s)).getD (i : Nat) (0 : Int)), .int .i64 (plcV s ((i : Nat) + 1))] ([((((placesL s)).getD (i : Nat) (0 : Int), plcV s ((i : Nat) + 1)) : Int × Int)]) h rfl rfl rfl rfl Try.underlying42 infb44 rfl (by decide) (by kernel_rfl) rfl (fun _ _ _ => ((Reps.none _ _).snoc (kPr_mkM _ _ _ (((((placesL s)).getD (i : Nat) (0 : Int), plcV s ((i : Nat) + 1)) : Int × Int))) rfl)) (fun A29 cp30 _ h => ?_)
    refine wl_nil ?_
    refine qn_wa (st_selT [false, true, true, false] h) ?_
    refine wa_one 11 rfl (by kernel_rfl) ?_
    refine wl_append (d := kPr) (L := L) 3 _ 16 _ _ _ ([((((placesL s)).getD (i : Nat) (0 : Int), plcV s ((i : Nat) + 1)) : Int × Int)]) flatPr h rfl rfl rfl rfl rfl ((Sx.row_reads h (i := 0) rfl).2) Try.underlying42 inf44 rfl (by decide) (by decide) (by first | omega | (simp only [List.length_cons, List.length_nil, List.length_append, List.length_set]; omega)) (by first | rfl | simp) (fun A31 cp32 _ h => ?_)
    replace h := st_selT [false, true, true, true] h
    refine wl_nil ?_
    refine qn_wa (st_selT [true, true, false] h) ?_
    refine wa_tk 12 rfl rfl rfl (st_selT [true, true, false] h) (fun w_ hS => ov_assign _ rfl) ?_
    refine wa_done (by kernel_rfl) ?_
    refine qn_block_normal ?_
    refine qn_then ?_
    refine wc_region ?_
    refine wl_v rfl rfl (ov_move _ rfl) ?_
    refine wl_v rfl rfl (ov_bin _ rfl rfl (binR_add (r := (((i : Nat) : Int)) + 1) (Sx.w64 (by omega)))) ?_
    refine wl_v rfl rfl (ov_assign _ rfl) ?_
    refine wl_nil ?_
    replace h := st_front 2 h
    replace h := st_front 2 h
    replace h := st_front 2 h
    obtain ⟨f1_, o1_, hw1_⟩ := ws_new hb (by omega) hJ.1 (by first | assumption | exact Classical.not_not.1 (by assumption)) (fun z_ => by have q1_ := List.length_pos_iff.2 z_.1; have q2_ := z_.2; rw [← plc_lt (by omega)] at q2_; first | omega | contradiction)
    rw [← plc_lt (s := s) (i := i) (by omega)] at hw1_
    refine qn_next ((i + 1), f1_, o1_, some ad3, some ad25, A31, cp32, (L ++ ([((((placesL s)).getD (i : Nat) (0 : Int), plcV s ((i : Nat) + 1)) : Int × Int)]))) (by show (runesL s).length - (i + 1) < (runesL s).length - i; omega) ⟨rfl, rfl, rfl, (congrArg (fun z_ => some (Value.slice (A31) z_ (cp32))) (show ((L ++ ([((((placesL s)).getD (i : Nat) (0 : Int), plcV s ((i : Nat) + 1)) : Int × Int)])).length : Nat) = ((L ++ ([((((placesL s)).getD (i : Nat) (0 : Int), plcV s ((i : Nat) + 1)) : Int × Int)]))).length by first | rfl | simp)), (congrArg (fun z_ => some (Value.int .i64 z_)) (show ((((i : Nat) : Int)) + 1 : Int) = (((i + 1) : Nat) : Int) by omega)), trivial⟩ ?_
    show (WSt s (i + 1) f1_ o1_ (L ++ ([((((placesL s)).getD (i : Nat) (0 : Int), plcV s ((i : Nat) + 1)) : Int × Int)])) ∧ (i + 1) ≤ (refV s).1.length ∧ ((L ++ ([((((placesL s)).getD (i : Nat) (0 : Int), plcV s ((i : Nat) + 1)) : Int × Int)]))).length ≤ (i + 1)) ∧ _
    exact ⟨⟨hw1_, by omega, by first | omega | (simp only [List.length_append, List.length_cons, List.length_nil]; omega)⟩, h⟩
 ·
  refine wc_exit ?_
  refine qn_then_exit ?_
  refine qn_then_exit ?_
  refine qn_block_exit ?_
  refine qn_then ?_
  refine wc_seq ?_
  refine wc_region ?_
  refine wl_v rfl rfl (ov_move _ rfl) ?_
  refine wl_v rfl rfl (ov_assign _ rfl) ?_
  refine wl_nil ?_
  refine qn_then ?_
  refine wc_ret ?_
  replace h := st_front 2 h
  replace h := st_selT [true, false, false] h
  refine qn_ret [_] ⟨rfl, trivial⟩ ?_
  have hi_ : i = (refV s).1.length := by omega
  have e_ := hJ.1
  rw [hi_] at e_
  rw [← ws_end e_]
  exact ⟨A, c, rfl, h⟩
end Go.Proofs.Ytbeihfcjfkddcaa.RW
