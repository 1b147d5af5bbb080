/- Pruned by wip/prune.py. -/
import Derived.Test.YtbeihfcjfkddcaaProg
import Derived.Test.YtbeihfcjfkddcaaQSxGlue
import Derived.Test.YtbeihfcjfkddcaaQSxFlow
import Derived.Test.YtbeihfcjfkddcaaQSxIter
import Derived.Test.YtbeihfcjfkddcaaQSxBytes
import Derived.Test.YtbeihfcjfkddcaaQHyWf
import Derived.Test.YtbeihfcjfkddcaaQSxRunes
import Derived.Test.YtbeihfcjfkddcaaQSxLetter
import Derived.Test.YtbeihfcjfkddcaaQSxText
import Derived.Test.YtbeihfcjfkddcaaQSxHRead
import Derived.Test.YtbeihfcjfkddcaaQSxHRef
import Derived.Test.YtbeihfcjfkddcaaQSxTree
import Derived.Test.YtbeihfcjfkddcaaQSxBook
import Derived.Test.YtbeihfcjfkddcaaQSxPoints
import Derived.Test.YtbeihfcjfkddcaaQHyPlc
import Derived.Test.YtbeihfcjfkddcaaQSxRefPts
import Derived.Test.YtbeihfcjfkddcaaQSxRefWords
namespace Go.Proofs.Ytbeihfcjfkddcaa.RL
open Go Go.RowKit Go.Proofs.YtbeihfcjfkddcaaW.PrintWords Go.Proofs.Ytbeihfcjfkddcaa.Hy Go.Proofs.Ytbeihfcjfkddcaa.Given Go.Proofs.Ytbeihfcjfkddcaa.Rn Go.Proofs.Ytbeihfcjfkddcaa.Sx 
set_option linter.unusedVariables false
set_option linter.unusedSimpArgs false
theorem ent17 : Sx.Ent Try.prog 17 := ⟨Try.f17, Try.func17, by kernel_rfl, by kernel_rfl⟩
theorem ent19 : Sx.Ent Try.prog 19 := ⟨Try.f19, Try.func19, by kernel_rfl, by kernel_rfl⟩
theorem es42 : Sx.elemSz Try.prog 42 = some (44, 2) := by kernel_rfl
theorem ar44 : Sx.arrSz Try.prog 44 = some (2, 3, 1) := by kernel_rfl
theorem sh3 : Sx.shapeOf Try.prog 3 = some (false, 1) := by kernel_rfl
theorem ent24 : Sx.Ent Try.prog 24 := ⟨Try.f24, Try.func24, by kernel_rfl, by kernel_rfl⟩
theorem ent16 : Sx.Ent Try.prog 16 := ⟨Try.f16, Try.func16, by kernel_rfl, by kernel_rfl⟩
theorem es36 : Sx.elemSz Try.prog 36 = some (3, 1) := by kernel_rfl
theorem infb3 : (Try.prog.info? 3).map (fun i => (i.zero, i.size)) = some (some (.int .i64 (0)), 1) := by kernel_rfl
theorem inf3 : (Try.prog.info? 3).map (fun i => (i.zero, i.size, i.bytes)) = some (some (.int .i64 (0)), 1, 8) := by kernel_rfl
set_option maxHeartbeats 1000000 in
set_option maxRecDepth 100000 in
theorem rPlaces_calls {w0 w : World} {F0 : Nat → Prop} {R : List Sx.HP} (PA : Option Addr) (pc : Nat) (P : List ByteArray) (WA : Option Addr) (wc : Nat) (W : List ByteArray) (lf rt : Int) (s : ByteArray) (hP : ∀ cs w, Sx.St w0 F0 (cs ++ R) w → Kd.string.C w PA P.length P) (hW : ∀ cs w, Sx.St w0 F0 (cs ++ R) w → Kd.string.C w WA W.length W) (hsP : ∀ x ∈ P, x.size ≤ 1000000000) (hsW : ∀ x ∈ W, x.size ≤ 1000000000) (hlP : P.length ≤ 1000000000000) (hlW : W.length ≤ 1000000000000) (hgP : AllP P P.length) (hgW : AllW W W.length) (hlr : (1 ≤ lf ∧ lf ≤ 100) ∧ (1 ≤ rt ∧ rt ≤ 100)) (hs : s.size ≤ 1000000) (h : Sx.St w0 F0 ([] ++ R) w) : Calls Try.prog 21 #[.slice (PA) (P.length) (pc), .slice (WA) (W.length) (wc), .int .i64 (lf), .int .i64 (rt), .string (s)] w (fun e w1 => ∃ A c, e = .returned (.slice A (placesV (refPts P W lf rt) s).length c) ∧ Sx.St w0 F0 ([Sx.row (Kd.int .i64) 3 (A) (c) ((placesV (refPts P W lf rt) s))] ++ R) w1) := by
 have hwl_ := words_len s
 refine Sx.calls_fn (vs := [.slice (PA) (P.length) (pc), .slice (WA) (W.length) (wc), .int .i64 (lf), .int .i64 (rt), .string (s)]) Try.func21 rfl Try.ntmps21 rfl ?_
 refine wc_seq ?_
 refine wc_region ?_
 refine wl_v rfl rfl (ov_assign _ rfl) ?_
 refine wl_nil ?_
 refine qn_then ?_
 refine wc_seq ?_
 refine wc_seq ?_
 refine wc_region ?_
 refine wl_v rfl rfl (ov_move _ rfl) ?_
 refine wl_call _ rfl rfl rfl ent17 (RN.Right_calls (R := [] ++ R) s (by first | omega | (have hwk1_ := hwk_ (by omega); rw [ByteArray.size_extract]; omega)) h) ?_
 rintro e_ w_ ⟨rfl, h⟩
 refine ⟨_, rfl, ?_⟩
 refine wl_v rfl rfl (ov_not _ (¬ ((refV s).2 < 0)) rfl (by first | exact decide_not.symm | simp)) ?_
 refine wl_nil ?_
 refine qn_then ?_
 refine wc_cond (by rfl) (fun c1 => ?_) (fun c1 => ?_)
 ·
  have hbb_ := bad_refV s
  have hnr_ : ¬ (refV s).2 < 0 := c1
  refine wc_seq ?_
  refine wc_region ?_
  refine wl_v rfl rfl (ov_assign _ rfl) ?_
  refine wl_nil ?_
  refine qn_then ?_
  refine wc_ret ?_
  refine qn_then_ret ?_
  replace h := st_nilrow (Kd.int .i64) 3 h
  refine qn_ret [_] ⟨rfl, trivial⟩ ?_
  rw [show placesV (refPts P W lf rt) s = [] by unfold placesV; rw [if_pos (by omega)]]
  exact ⟨none, 0, rfl, h⟩
 ·
  have hr_ : (refV s).2 < 0 := Classical.not_not.1 c1
  have hbb_ := bad_refV s
  refine wc_skip ?_
  refine qn_then ?_
  refine wc_seq ?_
  refine wc_region ?_
  refine wl_v rfl rfl (ov_assign _ rfl) ?_
  refine wl_nil ?_
  refine qn_then ?_
  refine wc_seq ?_
  refine wc_region ?_
  refine wl_v rfl rfl (ov_move _ rfl) ?_
  refine wl_call _ rfl rfl rfl ent19 (RW.rWords_calls (R := [] ++ R) s (by exact hr_) (by omega) h) ?_
  rintro e_ w_ ⟨Az2, cz2, rfl, h⟩
  refine ⟨_, rfl, ?_⟩
  replace h : Sx.St w0 F0 ([Sx.row kPr 44 (Az2) (cz2) ((wordsV s))] ++ R) _ := h
  refine wl_v rfl rfl (ov_assign _ rfl) ?_
  refine wl_nil ?_
  refine qn_then ?_
  refine wc_seq ?_
  refine wc_seq ?_
  refine wc_region ?_
  refine wl_v rfl rfl (ov_assign _ rfl) ?_
  refine wl_nil ?_
  refine qn_then ?_
  refine wc_block ?_
  replace h := st_nilrow (Kd.int .i64) 3 h
  replace h := st_front 1 h
  replace h := st_front 1 h
  refine wc_loop (fun (x_ : Nat × (Option Addr) × Nat × (List Int) × (Option Addr)) => [(0, .slice (PA) (P.length) (pc)), (1, .slice (WA) (W.length) (wc)), (2, .int .i64 (lf)), (3, .int .i64 (rt)), (4, .string (s)), (11, .slice (x_.2.1) ((x_.2.2.2.1).length) (x_.2.2.1)), (12, .slice (x_.2.2.2.2) ((wordsV s).length) (cz2)), (13, .int .i64 (((x_.1 : Nat) : Int)))]) (fun (x_ : Nat × (Option Addr) × Nat × (List Int) × (Option Addr)) (w : World) => (x_.2.2.2.1 ++ (List.drop x_.1 (wordsV s)).flatMap (wordPl (refPts P W lf rt) s) = placesV (refPts P W lf rt) s ∧ x_.1 ≤ (wordsV s).length ∧ (x_.2.2.2.1).length ≤ 1000 * x_.1) ∧ Sx.St w0 F0 ([Sx.row (Kd.int .i64) 3 (x_.2.1) (x_.2.2.1) (x_.2.2.2.1), Sx.row kPr 44 (x_.2.2.2.2) (cz2) ((wordsV s))] ++ R) w) (fun (x_ : Nat × (Option Addr) × Nat × (List Int) × (Option Addr)) => (wordsV s).length - x_.1) (0, none, 0, [], Az2) ?_ ?_ ?_
  · exact ⟨rfl, rfl, rfl, rfl, rfl, (congrArg (fun z_ => some (Value.slice (none) z_ (0))) (show (0 : Nat) = ([]).length by first | rfl | simp)), rfl, (congrArg (fun z_ => some (Value.int .i64 z_)) (show (0 : Int) = ((0 : Nat) : Int) by omega)), trivial⟩
  · exact ⟨⟨by unfold placesV; rw [if_neg (by omega)]; rfl, Nat.zero_le _, Nat.zero_le _⟩, h⟩
  rintro ⟨i, Oa, Oc, o, Wa⟩ w h
  obtain ⟨hJ, h⟩ := h
  replace hJ : o ++ (List.drop i (wordsV s)).flatMap (wordPl (refPts P W lf rt) s) = placesV (refPts P W lf rt) s ∧ i ≤ (wordsV s).length ∧ (o).length ≤ 1000 * i := hJ
  replace h : Sx.St w0 F0 ([Sx.row (Kd.int .i64) 3 (Oa) (Oc) (o), Sx.row kPr 44 (Wa) (cz2) ((wordsV s))] ++ R) w := h
  show Sx.WC _ _ _ _ [(0, .slice (PA) (P.length) (pc)), (1, .slice (WA) (W.length) (wc)), (2, .int .i64 (lf)), (3, .int .i64 (rt)), (4, .string (s)), (11, .slice (Oa) ((o).length) (Oc)), (12, .slice (Wa) ((wordsV s).length) (cz2)), (13, .int .i64 (((i : Nat) : Int)))] _
  have hJo_ := hJ
  have hwk_ : i < (wordsV s).length → 0 ≤ ((wordsV s).getD i (0, 0)).1 ∧ ((wordsV s).getD i (0, 0)).1 ≤ ((wordsV s).getD i (0, 0)).2 ∧ ((wordsV s).getD i (0, 0)).2 ≤ s.size ∧ (refV (s.extract (((wordsV s).getD i (0, 0)).1).toNat (((wordsV s).getD i (0, 0)).2).toNat)).2 < 0 := fun hi_ => wok_bd hr_ (word_ok hr_ _ (getDm_mem hi_))
  refine wc_seq ?_
  refine wc_seq ?_
  refine wc_region ?_
  refine wl_v rfl rfl (ov_move _ rfl) ?_
  refine wl_v rfl rfl (ov_move _ rfl) ?_
  refine wl_v rfl rfl (ov_len _ _ _ _ _ rfl es42) ?_
  refine wl_v rfl rfl (ov_bin _ rfl rfl (binR_lss)) ?_
  refine wl_nil ?_
  refine qn_then ?_
  refine wc_cond (by rfl) (fun c3 => ?_) (fun c3 => ?_)
  ·
   refine wc_skip ?_
   refine qn_then ?_
   refine wc_seq ?_
   refine wc_block ?_
   refine wc_seq ?_
   refine wc_draw (fun w => Sx.St w0 F0 ([Sx.row (Kd.int .i64) 3 (Oa) (Oc) (o), Sx.row kPr 44 (Wa) (cz2) ((wordsV s))] ++ R) w) (by kernel_rfl) ?_
   replace h := st_drew h
   refine wa_tk 0 rfl rfl rfl (st_selT [true, true] h) (fun w_ hS => ov_move _ rfl) ?_
   refine wa_tk 1 rfl rfl rfl (st_selT [true, true] h) (fun w_ hS => ov_move _ rfl) ?_
   refine wa_tk 2 rfl rfl rfl (st_selT [true, true] h) (fun w_ hS => ov_move _ rfl) ?_
   obtain ⟨ad4, rfl⟩ := Sx.C_some ((Sx.row_reads h (i := 1) rfl).2) (k := (i : Nat)) (by first | assumption | omega | (simp only [List.length_set, List.length_append, List.length_cons, List.length_nil]; omega))
   refine wa_tk 3 rfl rfl rfl (st_selT [true, true] h) (fun w_ hS => ov_indexAddrN _ _ _ _ _ (i : Nat) rfl rfl es42 rfl (by first | assumption | omega | (simp only [List.length_take, List.length_drop, List.length_set, List.length_append, List.length_cons, List.length_nil]; omega))) ?_
   refine wa_tk 4 rfl rfl rfl (st_selT [true, true] h) (fun w_ hS => ov_indexAddrA _ 0 ((ad4).add ((i : Nat) * 2 + 0)) rfl rfl ar44 (by decide) (by first | exact Deep.add_add _ _ _ | (rw [Deep.add_add]) | rfl)) ?_
   refine wa_tk 5 rfl rfl rfl (st_selT [true, true] h) (fun w_ hS => by
       obtain ⟨cl7, _, hk6, hc5⟩ := Sx.C_cells ((Sx.row_reads hS (i := 1) rfl).2) (z := ((0, 0) : Int × Int)) (k := (i : Nat)) (by first | assumption | omega | (simp only [List.length_set, List.length_append, List.length_cons, List.length_nil]; omega))
       obtain rfl := kPr_open hk6
       exact ov_load1 _ _ rfl sh3 ((hc5 0 _ rfl))) ?_
   refine wa_tk 6 rfl rfl rfl (st_selT [true, true] h) (fun w_ hS => ov_move _ rfl) ?_
   refine wa_tk 7 rfl rfl rfl (st_selT [true, true] h) (fun w_ hS => ov_move _ rfl) ?_
   refine wa_tk 8 rfl rfl rfl (st_selT [true, true] h) (fun w_ hS => ov_indexAddrN _ _ _ _ _ (i : Nat) rfl rfl es42 rfl (by first | assumption | omega | (simp only [List.length_take, List.length_drop, List.length_set, List.length_append, List.length_cons, List.length_nil]; omega))) ?_
   refine wa_tk 9 rfl rfl rfl (st_selT [true, true] h) (fun w_ hS => ov_indexAddrA _ 1 ((ad4).add ((i : Nat) * 2 + 1)) rfl rfl ar44 (by decide) (by first | exact Deep.add_add _ _ _ | (rw [Deep.add_add]) | rfl)) ?_
   refine wa_tk 10 rfl rfl rfl (st_selT [true, true] h) (fun w_ hS => by
       obtain ⟨cl10, _, hk9, hc8⟩ := Sx.C_cells ((Sx.row_reads hS (i := 1) rfl).2) (z := ((0, 0) : Int × Int)) (k := (i : Nat)) (by first | assumption | omega | (simp only [List.length_set, List.length_append, List.length_cons, List.length_nil]; omega))
       obtain rfl := kPr_open hk9
       exact ov_load1 _ _ rfl sh3 ((hc8 1 _ rfl))) ?_
   refine wa_tk 11 rfl rfl rfl (st_selT [true, true] h) (fun w_ hS => by exact ov_slices _ (((((wordsV s)).getD (i : Nat) ((0, 0) : Int × Int)).1 : Int).toNat) (((((wordsV s)).getD (i : Nat) ((0, 0) : Int × Int)).2 : Int).toNat) (by rfl) (by exact ⟨_, _, rfl, (by omega)⟩) (by exact ⟨_, _, rfl, (by omega)⟩) Try.underlying9 (by omega) (by omega)) ?_
   refine wa_tk 12 rfl rfl rfl (st_selT [true, true] h) (fun w_ hS => ov_assign _ rfl) ?_
   refine wa_done (by kernel_rfl) ?_
   refine qn_then ?_
   refine wc_seq ?_
   refine wc_region ?_
   refine wl_v rfl rfl (ov_move _ rfl) ?_
   refine wl_call _ rfl rfl rfl ent24 (RN.Runes_calls (R := [Sx.row (Kd.int .i64) 3 (Oa) (Oc) (o), Sx.row kPr 44 (some ad4) (cz2) ((wordsV s))] ++ R) ((s).extract (((((wordsV s)).getD (i : Nat) ((0, 0) : Int × Int)).1 : Int).toNat) (((((wordsV s)).getD (i : Nat) ((0, 0) : Int × Int)).2 : Int).toNat)) (by first | omega | (have hwk1_ := hwk_ (by omega); rw [ByteArray.size_extract]; omega)) h) ?_
   rintro e_ w_ ⟨Az11, cz11, Bz11, dz11, rfl, h⟩
   refine ⟨_, rfl, ?_⟩
   replace h : Sx.St w0 F0 ([Sx.row (Kd.int .i64) 3 (Az11) (cz11) ((runesL ((s).extract (((((wordsV s)).getD (i : Nat) ((0, 0) : Int × Int)).1 : Int).toNat) (((((wordsV s)).getD (i : Nat) ((0, 0) : Int × Int)).2 : Int).toNat)))), Sx.row (Kd.int .i64) 3 (Bz11) (dz11) ((placesL ((s).extract (((((wordsV s)).getD (i : Nat) ((0, 0) : Int × Int)).1 : Int).toNat) (((((wordsV s)).getD (i : Nat) ((0, 0) : Int × Int)).2 : Int).toNat)))), Sx.row (Kd.int .i64) 3 (Oa) (Oc) (o), Sx.row kPr 44 (some ad4) (cz2) ((wordsV s))] ++ R) _ := h
   refine wl_v rfl rfl (ov_move _ rfl) ?_
   refine wl_v rfl rfl (ov_extract [.slice (Az11) ((runesL ((s).extract (((((wordsV s)).getD (i : Nat) ((0, 0) : Int × Int)).1 : Int).toNat) (((((wordsV s)).getD (i : Nat) ((0, 0) : Int × Int)).2 : Int).toNat))).length) (cz11), .slice (Bz11) ((placesL ((s).extract (((((wordsV s)).getD (i : Nat) ((0, 0) : Int × Int)).1 : Int).toNat) (((((wordsV s)).getD (i : Nat) ((0, 0) : Int × Int)).2 : Int).toNat))).length) (dz11), .int .i64 ((refV ((s).extract (((((wordsV s)).getD (i : Nat) ((0, 0) : Int × Int)).1 : Int).toNat) (((((wordsV s)).getD (i : Nat) ((0, 0) : Int × Int)).2 : Int).toNat))).2)] _ rfl rfl) ?_
   refine wl_v rfl rfl (ov_extract [.slice (Az11) ((runesL ((s).extract (((((wordsV s)).getD (i : Nat) ((0, 0) : Int × Int)).1 : Int).toNat) (((((wordsV s)).getD (i : Nat) ((0, 0) : Int × Int)).2 : Int).toNat))).length) (cz11), .slice (Bz11) ((placesL ((s).extract (((((wordsV s)).getD (i : Nat) ((0, 0) : Int × Int)).1 : Int).toNat) (((((wordsV s)).getD (i : Nat) ((0, 0) : Int × Int)).2 : Int).toNat))).length) (dz11), .int .i64 ((refV ((s).extract (((((wordsV s)).getD (i : Nat) ((0, 0) : Int × Int)).1 : Int).toNat) (((((wordsV s)).getD (i : Nat) ((0, 0) : Int × Int)).2 : Int).toNat))).2)] _ rfl rfl) ?_
   refine wl_v rfl rfl (ov_extract [.slice (Az11) ((runesL ((s).extract (((((wordsV s)).getD (i : Nat) ((0, 0) : Int × Int)).1 : Int).toNat) (((((wordsV s)).getD (i : Nat) ((0, 0) : Int × Int)).2 : Int).toNat))).length) (cz11), .slice (Bz11) ((placesL ((s).extract (((((wordsV s)).getD (i : Nat) ((0, 0) : Int × Int)).1 : Int).toNat) (((((wordsV s)).getD (i : Nat) ((0, 0) : Int × Int)).2 : Int).toNat))).length) (dz11), .int .i64 ((refV ((s).extract (((((wordsV s)).getD (i : Nat) ((0, 0) : Int × Int)).1 : Int).toNat) (((((wordsV s)).getD (i : Nat) ((0, 0) : Int × Int)).2 : Int).toNat))).2)] _ rfl rfl) ?_
   refine wl_v rfl rfl (ov_assign _ rfl) ?_
   refine wl_v rfl rfl (ov_assign _ rfl) ?_
   refine wl_v rfl rfl (ov_assign _ rfl) ?_
   refine wl_nil ?_
   refine qn_then ?_
   refine wc_seq ?_
   refine wc_region ?_
   refine wl_v rfl rfl (ov_move _ rfl) ?_
   refine wl_v rfl rfl (ov_move _ rfl) ?_
   refine wl_v rfl rfl (ov_move _ rfl) ?_
   refine wl_v rfl rfl (ov_move _ rfl) ?_
   refine wl_v rfl rfl (ov_move _ rfl) ?_
   refine wl_call _ rfl rfl rfl ent16 (RP.rPoints_calls (R := [Sx.row (Kd.int .i64) 3 (Az11) (cz11) ((runesL ((s).extract (((((wordsV s)).getD (i : Nat) ((0, 0) : Int × Int)).1 : Int).toNat) (((((wordsV s)).getD (i : Nat) ((0, 0) : Int × Int)).2 : Int).toNat)))), Sx.row (Kd.int .i64) 3 (Bz11) (dz11) ((placesL ((s).extract (((((wordsV s)).getD (i : Nat) ((0, 0) : Int × Int)).1 : Int).toNat) (((((wordsV s)).getD (i : Nat) ((0, 0) : Int × Int)).2 : Int).toNat)))), Sx.row (Kd.int .i64) 3 (Oa) (Oc) (o), Sx.row kPr 44 (some ad4) (cz2) ((wordsV s))] ++ R) (PA) (pc) P (WA) (wc) W (lf) (rt) ((s).extract (((((wordsV s)).getD (i : Nat) ((0, 0) : Int × Int)).1 : Int).toNat) (((((wordsV s)).getD (i : Nat) ((0, 0) : Int × Int)).2 : Int).toNat)) (Sx.en_shift (cs2 := [Sx.row (Kd.int .i64) 3 (Az11) (cz11) ((runesL ((s).extract (((((wordsV s)).getD (i : Nat) ((0, 0) : Int × Int)).1 : Int).toNat) (((((wordsV s)).getD (i : Nat) ((0, 0) : Int × Int)).2 : Int).toNat)))), Sx.row (Kd.int .i64) 3 (Bz11) (dz11) ((placesL ((s).extract (((((wordsV s)).getD (i : Nat) ((0, 0) : Int × Int)).1 : Int).toNat) (((((wordsV s)).getD (i : Nat) ((0, 0) : Int × Int)).2 : Int).toNat)))), Sx.row (Kd.int .i64) 3 (Oa) (Oc) (o), Sx.row kPr 44 (some ad4) (cz2) ((wordsV s))]) hP) (Sx.en_shift (cs2 := [Sx.row (Kd.int .i64) 3 (Az11) (cz11) ((runesL ((s).extract (((((wordsV s)).getD (i : Nat) ((0, 0) : Int × Int)).1 : Int).toNat) (((((wordsV s)).getD (i : Nat) ((0, 0) : Int × Int)).2 : Int).toNat)))), Sx.row (Kd.int .i64) 3 (Bz11) (dz11) ((placesL ((s).extract (((((wordsV s)).getD (i : Nat) ((0, 0) : Int × Int)).1 : Int).toNat) (((((wordsV s)).getD (i : Nat) ((0, 0) : Int × Int)).2 : Int).toNat)))), Sx.row (Kd.int .i64) 3 (Oa) (Oc) (o), Sx.row kPr 44 (some ad4) (cz2) ((wordsV s))]) hW) hsP hsW (by omega) (by omega) hgP hgW hlr (by have hwk1_ := hwk_ (by omega); rw [ByteArray.size_extract]; omega) h) ?_
   rintro e_ w_ ⟨Aq12, cq12, rfl, h⟩
   refine ⟨_, rfl, ?_⟩
   replace h : Sx.St w0 F0 ([Sx.row (Kd.int .i64) 3 (Aq12) (cq12) ((refPts P W lf rt ((s).extract (((((wordsV s)).getD (i : Nat) ((0, 0) : Int × Int)).1 : Int).toNat) (((((wordsV s)).getD (i : Nat) ((0, 0) : Int × Int)).2 : Int).toNat)))), Sx.row (Kd.int .i64) 3 (Az11) (cz11) ((runesL ((s).extract (((((wordsV s)).getD (i : Nat) ((0, 0) : Int × Int)).1 : Int).toNat) (((((wordsV s)).getD (i : Nat) ((0, 0) : Int × Int)).2 : Int).toNat)))), Sx.row (Kd.int .i64) 3 (Bz11) (dz11) ((placesL ((s).extract (((((wordsV s)).getD (i : Nat) ((0, 0) : Int × Int)).1 : Int).toNat) (((((wordsV s)).getD (i : Nat) ((0, 0) : Int × Int)).2 : Int).toNat)))), Sx.row (Kd.int .i64) 3 (Oa) (Oc) (o), Sx.row kPr 44 (some ad4) (cz2) ((wordsV s))] ++ R) _ := h
   have hpo_ := rpts_ok (W := W) hgP hlr.1.1 hlr.2.1 ((s).extract (((((wordsV s)).getD (i : Nat) ((0, 0) : Int × Int)).1 : Int).toNat) (((((wordsV s)).getD (i : Nat) ((0, 0) : Int × Int)).2 : Int).toNat))
   refine wl_v rfl rfl (ov_assign _ rfl) ?_
   refine wl_nil ?_
   refine qn_then ?_
   refine wc_seq ?_
   refine wc_region ?_
   refine wl_v rfl rfl (ov_assign _ rfl) ?_
   refine wl_nil ?_
   refine qn_then ?_
   refine wc_block ?_
   have hwk1_ := hwk_ (by omega)
   have hwn_ : (runesL (s.extract (((wordsV s).getD i (0, 0)).1).toNat (((wordsV s).getD i (0, 0)).2).toNat)).length = (refV (s.extract (((wordsV s).getD i (0, 0)).1).toNat (((wordsV s).getD i (0, 0)).2).toNat)).1.length := runesL_len _
   have hwm_ : (placesL (s.extract (((wordsV s).getD i (0, 0)).1).toNat (((wordsV s).getD i (0, 0)).2).toNat)).length = (refV (s.extract (((wordsV s).getD i (0, 0)).1).toNat (((wordsV s).getD i (0, 0)).2).toNat)).1.length := placesL_len _
   replace h := st_front 2 h
   replace h := st_front 4 h
   replace h := st_front 4 h
   replace h := st_selT [true, true, true, true, false] h
   refine wc_loop (fun (x_ : Nat × (Option Addr) × Nat × (List Int) × (Option Addr) × (Option Addr) × (Option Addr)) => [(0, .slice (PA) (P.length) (pc)), (1, .slice (WA) (W.length) (wc)), (2, .int .i64 (lf)), (3, .int .i64 (rt)), (4, .string (s)), (11, .slice (x_.2.1) ((x_.2.2.2.1).length) (x_.2.2.1)), (12, .slice (x_.2.2.2.2.2.2) ((wordsV s).length) (cz2)), (13, .int .i64 (((i : Nat) : Int))), (14, .string ((s.extract (((wordsV s).getD i (0, 0)).1).toNat (((wordsV s).getD i (0, 0)).2).toNat))), (16, .slice (x_.2.2.2.2.2.1) ((placesL (s.extract (((wordsV s).getD i (0, 0)).1).toNat (((wordsV s).getD i (0, 0)).2).toNat)).length) (dz11)), (18, .slice (x_.2.2.2.2.1) ((refPts P W lf rt (s.extract (((wordsV s).getD i (0, 0)).1).toNat (((wordsV s).getD i (0, 0)).2).toNat)).length) (cq12)), (19, .int .i64 (((x_.1 : Nat) : Int)))]) (fun (x_ : Nat × (Option Addr) × Nat × (List Int) × (Option Addr) × (Option Addr) × (Option Addr)) (w : World) => (x_.2.2.2.1 = o ++ (List.take x_.1 (refPts P W lf rt (s.extract (((wordsV s).getD i (0, 0)).1).toNat (((wordsV s).getD i (0, 0)).2).toNat))).map (fun n : Int => ((wordsV s).getD i (0, 0)).1 + plcV (s.extract (((wordsV s).getD i (0, 0)).1).toNat (((wordsV s).getD i (0, 0)).2).toNat) n.toNat) ∧ x_.1 ≤ (refPts P W lf rt (s.extract (((wordsV s).getD i (0, 0)).1).toNat (((wordsV s).getD i (0, 0)).2).toNat)).length) ∧ Sx.St w0 F0 ([Sx.row (Kd.int .i64) 3 (x_.2.1) (x_.2.2.1) (x_.2.2.2.1), Sx.row kPr 44 (x_.2.2.2.2.2.2) (cz2) ((wordsV s)), Sx.row (Kd.int .i64) 3 (x_.2.2.2.2.2.1) (dz11) ((placesL (s.extract (((wordsV s).getD i (0, 0)).1).toNat (((wordsV s).getD i (0, 0)).2).toNat))), Sx.row (Kd.int .i64) 3 (x_.2.2.2.2.1) (cq12) ((refPts P W lf rt (s.extract (((wordsV s).getD i (0, 0)).1).toNat (((wordsV s).getD i (0, 0)).2).toNat)))] ++ R) w) (fun (x_ : Nat × (Option Addr) × Nat × (List Int) × (Option Addr) × (Option Addr) × (Option Addr)) => (refPts P W lf rt (s.extract (((wordsV s).getD i (0, 0)).1).toNat (((wordsV s).getD i (0, 0)).2).toNat)).length - x_.1) (0, Oa, Oc, o, Aq12, Bz11, some ad4) ?_ ?_ ?_
   · exact ⟨rfl, rfl, rfl, rfl, rfl, rfl, rfl, rfl, rfl, (congrArg (fun z_ => some (Value.slice (Bz11) z_ (dz11))) (show ((placesL ((s).extract (((((wordsV s)).getD (i : Nat) ((0, 0) : Int × Int)).1 : Int).toNat) (((((wordsV s)).getD (i : Nat) ((0, 0) : Int × Int)).2 : Int).toNat))).length : Nat) = (placesL (s.extract (((wordsV s).getD i (0, 0)).1).toNat (((wordsV s).getD i (0, 0)).2).toNat)).length by first | rfl | simp)), (congrArg (fun z_ => some (Value.slice (Aq12) z_ (cq12))) (show ((refPts P W lf rt ((s).extract (((((wordsV s)).getD (i : Nat) ((0, 0) : Int × Int)).1 : Int).toNat) (((((wordsV s)).getD (i : Nat) ((0, 0) : Int × Int)).2 : Int).toNat))).length : Nat) = (refPts P W lf rt (s.extract (((wordsV s).getD i (0, 0)).1).toNat (((wordsV s).getD i (0, 0)).2).toNat)).length by first | rfl | simp)), (congrArg (fun z_ => some (Value.int .i64 z_)) (show (0 : Int) = ((0 : Nat) : Int) by omega)), trivial⟩
   · exact ⟨⟨(List.append_nil _).symm, Nat.zero_le _⟩, h⟩
   rintro ⟨j, Ob, Od, o2, Pa, Pb, Wb⟩ w h
   obtain ⟨hJ, h⟩ := h
   replace hJ : o2 = o ++ (List.take j (refPts P W lf rt (s.extract (((wordsV s).getD i (0, 0)).1).toNat (((wordsV s).getD i (0, 0)).2).toNat))).map (fun n : Int => ((wordsV s).getD i (0, 0)).1 + plcV (s.extract (((wordsV s).getD i (0, 0)).1).toNat (((wordsV s).getD i (0, 0)).2).toNat) n.toNat) ∧ j ≤ (refPts P W lf rt (s.extract (((wordsV s).getD i (0, 0)).1).toNat (((wordsV s).getD i (0, 0)).2).toNat)).length := hJ
   replace h : Sx.St w0 F0 ([Sx.row (Kd.int .i64) 3 (Ob) (Od) (o2), Sx.row kPr 44 (Wb) (cz2) ((wordsV s)), Sx.row (Kd.int .i64) 3 (Pb) (dz11) ((placesL (s.extract (((wordsV s).getD i (0, 0)).1).toNat (((wordsV s).getD i (0, 0)).2).toNat))), Sx.row (Kd.int .i64) 3 (Pa) (cq12) ((refPts P W lf rt (s.extract (((wordsV s).getD i (0, 0)).1).toNat (((wordsV s).getD i (0, 0)).2).toNat)))] ++ R) w := h
   show Sx.WC _ _ _ _ [(0, .slice (PA) (P.length) (pc)), (1, .slice (WA) (W.length) (wc)), (2, .int .i64 (lf)), (3, .int .i64 (rt)), (4, .string (s)), (11, .slice (Ob) ((o2).length) (Od)), (12, .slice (Wb) ((wordsV s).length) (cz2)), (13, .int .i64 (((i : Nat) : Int))), (14, .string ((s.extract (((wordsV s).getD i (0, 0)).1).toNat (((wordsV s).getD i (0, 0)).2).toNat))), (16, .slice (Pb) ((placesL (s.extract (((wordsV s).getD i (0, 0)).1).toNat (((wordsV s).getD i (0, 0)).2).toNat)).length) (dz11)), (18, .slice (Pa) ((refPts P W lf rt (s.extract (((wordsV s).getD i (0, 0)).1).toNat (((wordsV s).getD i (0, 0)).2).toNat)).length) (cq12)), (19, .int .i64 (((j : Nat) : Int)))] _
   have hpm_ : j < (refPts P W lf rt (s.extract (((wordsV s).getD i (0, 0)).1).toNat (((wordsV s).getD i (0, 0)).2).toNat)).length → 1 ≤ (refPts P W lf rt (s.extract (((wordsV s).getD i (0, 0)).1).toNat (((wordsV s).getD i (0, 0)).2).toNat)).getD j 0 ∧ (refPts P W lf rt (s.extract (((wordsV s).getD i (0, 0)).1).toNat (((wordsV s).getD i (0, 0)).2).toNat)).getD j 0 < (runesL (s.extract (((wordsV s).getD i (0, 0)).1).toNat (((wordsV s).getD i (0, 0)).2).toNat)).length := fun hj_ => by have q_ := hpo_.2.2 _ (getD_mem hj_); omega
   have ho2_ : o2.length ≤ o.length + 300 := by rw [hJ.1, List.length_append, List.length_map, List.length_take]; omega
   have hpb_ : ∀ n_ : Nat, n_ < (refV (s.extract (((wordsV s).getD i (0, 0)).1).toNat (((wordsV s).getD i (0, 0)).2).toNat)).1.length → 0 ≤ (placesL (s.extract (((wordsV s).getD i (0, 0)).1).toNat (((wordsV s).getD i (0, 0)).2).toNat)).getD n_ 0 ∧ (placesL (s.extract (((wordsV s).getD i (0, 0)).1).toNat (((wordsV s).getD i (0, 0)).2).toNat)).getD n_ 0 ≤ (s.extract (((wordsV s).getD i (0, 0)).1).toNat (((wordsV s).getD i (0, 0)).2).toNat).size := fun n_ hn_ => by rw [plc_lt hn_]; exact plc_bd hwk1_.2.2.2 (Nat.le_of_lt hn_)
   have hws_ : (s.extract (((wordsV s).getD i (0, 0)).1).toNat (((wordsV s).getD i (0, 0)).2).toNat).size ≤ s.size := by rw [ByteArray.size_extract]; omega
   refine wc_seq ?_
   refine wc_seq ?_
   refine wc_region ?_
   refine wl_v rfl rfl (ov_move _ rfl) ?_
   refine wl_v rfl rfl (ov_move _ rfl) ?_
   refine wl_v rfl rfl (ov_len _ _ _ _ _ rfl es36) ?_
   refine wl_v rfl rfl (ov_bin _ rfl rfl (binR_lss)) ?_
   refine wl_nil ?_
   refine qn_then ?_
   refine wc_cond (by rfl) (fun c13 => ?_) (fun c13 => ?_)
   ·
    have hpj_ := hpm_ (by omega)
    obtain ⟨n_, hn_⟩ : ∃ n_ : Nat, (refPts P W lf rt (s.extract (((wordsV s).getD i (0, 0)).1).toNat (((wordsV s).getD i (0, 0)).2).toNat)).getD j 0 = (n_ : Int) := ⟨((refPts P W lf rt (s.extract (((wordsV s).getD i (0, 0)).1).toNat (((wordsV s).getD i (0, 0)).2).toNat)).getD j 0).toNat, (Int.toNat_of_nonneg (by omega)).symm⟩
    have hpq_ := hpb_ n_ (by omega)
    have hnl_ : n_ < (placesL (s.extract (((wordsV s).getD i (0, 0)).1).toNat (((wordsV s).getD i (0, 0)).2).toNat)).length := by omega
    refine wc_skip ?_
    refine qn_then ?_
    refine wc_seq ?_
    refine wc_block ?_
    refine wc_draw (fun w => Sx.St w0 F0 ([Sx.row kPr 44 (Wb) (cz2) ((wordsV s)), Sx.row (Kd.int .i64) 3 (Pb) (dz11) ((placesL (s.extract (((wordsV s).getD i (0, 0)).1).toNat (((wordsV s).getD i (0, 0)).2).toNat))), Sx.row (Kd.int .i64) 3 (Pa) (cq12) ((refPts P W lf rt (s.extract (((wordsV s).getD i (0, 0)).1).toNat (((wordsV s).getD i (0, 0)).2).toNat)))] ++ R) w) (by kernel_rfl) ?_
    replace h := st_drew h
    refine wa_tk 0 rfl rfl rfl (st_selT [false, true, true, true] h) (fun w_ hS => ov_move _ rfl) ?_
    refine wa_tk 1 rfl rfl rfl (st_selT [false, true, true, true] h) (fun w_ hS => ov_move _ rfl) ?_
    refine wa_tk 2 rfl rfl rfl (st_selT [false, true, true, true] h) (fun w_ hS => ov_move _ rfl) ?_
    obtain ⟨ad14, rfl⟩ := Sx.C_some ((Sx.row_reads h (i := 1) rfl).2) (k := (i : Nat)) (by first | assumption | omega | (simp only [List.length_set, List.length_append, List.length_cons, List.length_nil]; omega))
    refine wa_tk 3 rfl rfl rfl (st_selT [false, true, true, true] h) (fun w_ hS => ov_indexAddrN _ _ _ _ _ (i : Nat) rfl rfl es42 rfl (by first | assumption | omega | (simp only [List.length_take, List.length_drop, List.length_set, List.length_append, List.length_cons, List.length_nil]; omega))) ?_
    refine wa_tk 4 rfl rfl rfl (st_selT [false, true, true, true] h) (fun w_ hS => ov_indexAddrA _ 0 ((ad14).add ((i : Nat) * 2 + 0)) rfl rfl ar44 (by decide) (by first | exact Deep.add_add _ _ _ | (rw [Deep.add_add]) | rfl)) ?_
    refine wa_tk 5 rfl rfl rfl (st_selT [false, true, true, true] h) (fun w_ hS => by
        obtain ⟨cl17, _, hk16, hc15⟩ := Sx.C_cells ((Sx.row_reads hS (i := 0) rfl).2) (z := ((0, 0) : Int × Int)) (k := (i : Nat)) (by first | assumption | omega | (simp only [List.length_set, List.length_append, List.length_cons, List.length_nil]; omega))
        obtain rfl := kPr_open hk16
        exact ov_load1 _ _ rfl sh3 ((hc15 0 _ rfl))) ?_
    refine wa_tk 6 rfl rfl rfl (st_selT [false, true, true, true] h) (fun w_ hS => ov_move _ rfl) ?_
    refine wa_tk 7 rfl rfl rfl (st_selT [false, true, true, true] h) (fun w_ hS => ov_move _ rfl) ?_
    refine wa_tk 8 rfl rfl rfl (st_selT [false, true, true, true] h) (fun w_ hS => ov_move _ rfl) ?_
    obtain ⟨ad18, rfl⟩ := Sx.C_some ((Sx.row_reads h (i := 3) rfl).2) (k := (j : Nat)) (by first | assumption | omega | (simp only [List.length_set, List.length_append, List.length_cons, List.length_nil]; omega))
    refine wa_tk 9 rfl rfl rfl (st_selT [false, true, true, true] h) (fun w_ hS => ov_indexAddrN _ _ _ _ _ (j : Nat) rfl rfl es36 rfl (by first | assumption | omega | (simp only [List.length_take, List.length_drop, List.length_set, List.length_append, List.length_cons, List.length_nil]; omega))) ?_
    refine wa_tk 10 rfl rfl rfl (st_selT [false, true, true, true] h) (fun w_ hS => by
        obtain ⟨cl21, _, hk20, hc19⟩ := Sx.C_cells ((Sx.row_reads hS (i := 2) rfl).2) (z := (0 : Int)) (k := (j : Nat)) (by first | assumption | omega | (simp only [List.length_set, List.length_append, List.length_cons, List.length_nil]; omega))
        obtain rfl : cl21 = [.int .i64 _] := hk20
        exact ov_load1 _ _ rfl sh3 ((hc19 0 _ rfl))) ?_
    rw [hn_]
    obtain ⟨ad22, rfl⟩ := Sx.C_some ((Sx.row_reads h (i := 2) rfl).2) (k := (n_ : Nat)) (by first | assumption | omega | (simp only [List.length_set, List.length_append, List.length_cons, List.length_nil]; omega))
    refine wa_tk 11 rfl rfl rfl (st_selT [false, true, true, true] h) (fun w_ hS => ov_indexAddrN _ _ _ _ _ (n_ : Nat) rfl rfl es36 rfl (by first | assumption | omega | (simp only [List.length_take, List.length_drop, List.length_set, List.length_append, List.length_cons, List.length_nil]; omega))) ?_
    refine wa_tk 12 rfl rfl rfl (st_selT [false, true, true, true] h) (fun w_ hS => by
        obtain ⟨cl25, _, hk24, hc23⟩ := Sx.C_cells ((Sx.row_reads hS (i := 1) rfl).2) (z := (0 : Int)) (k := (n_ : Nat)) (by first | assumption | omega | (simp only [List.length_set, List.length_append, List.length_cons, List.length_nil]; omega))
        obtain rfl : cl25 = [.int .i64 _] := hk24
        exact ov_load1 _ _ rfl sh3 ((hc23 0 _ rfl))) ?_
    refine wa_tk 13 rfl rfl rfl (st_selT [false, true, true, true] h) (fun w_ hS => ov_bin _ rfl rfl (binR_add (r := ((((wordsV s)).getD (i : Nat) ((0, 0) : Int × Int)).1) + (((placesL (s.extract (((wordsV s).getD i (0, 0)).1).toNat (((wordsV s).getD i (0, 0)).2).toNat))).getD (n_ : Nat) (0 : Int))) (Sx.w64 (by omega)))) ?_
    refine wa_one 14 rfl (by kernel_rfl) ?_
    refine wl_lit (d := (Kd.int .i64)) [(0, .int .i64 (((((wordsV s)).getD (i : Nat) ((0, 0) : Int × Int)).1) + (((placesL (s.extract (((wordsV s).getD i (0, 0)).1).toNat (((wordsV s).getD i (0, 0)).2).toNat))).getD (n_ : Nat) (0 : Int))))] _ [.int .i64 (((((wordsV s)).getD (i : Nat) ((0, 0) : Int × Int)).1) + (((placesL (s.extract (((wordsV s).getD i (0, 0)).1).toNat (((wordsV s).getD i (0, 0)).2).toNat))).getD (n_ : Nat) (0 : Int)))] ([((((wordsV s)).getD (i : Nat) ((0, 0) : Int × Int)).1) + (((placesL (s.extract (((wordsV s).getD i (0, 0)).1).toNat (((wordsV s).getD i (0, 0)).2).toNat))).getD (n_ : Nat) (0 : Int))]) h rfl rfl rfl rfl Try.underlying36 infb3 rfl (by decide) (by kernel_rfl) rfl (fun _ _ _ => ((Reps.none _ _).snoc ((Sx.mkInt .i64 (((((wordsV s)).getD (i : Nat) ((0, 0) : Int × Int)).1) + (((placesL (s.extract (((wordsV s).getD i (0, 0)).1).toNat (((wordsV s).getD i (0, 0)).2).toNat))).getD (n_ : Nat) (0 : Int))))) rfl)) (fun A26 cp27 _ h => ?_)
    refine wl_nil ?_
    refine qn_wa (st_selT [false, false, true, true, true] h) ?_
    refine wa_one 15 rfl (by kernel_rfl) ?_
    refine wl_append (d := (Kd.int .i64)) (L := o2) 1 _ 8 _ _ _ ([((((wordsV s)).getD (i : Nat) ((0, 0) : Int × Int)).1) + (((placesL (s.extract (((wordsV s).getD i (0, 0)).1).toNat (((wordsV s).getD i (0, 0)).2).toNat))).getD (n_ : Nat) (0 : Int))]) (Sx.flat_int _) h rfl rfl rfl rfl rfl ((Sx.row_reads h (i := 0) rfl).2) Try.underlying36 inf3 rfl (by decide) (by decide) (by first | omega | (simp only [List.length_cons, List.length_nil, List.length_append, List.length_set]; omega)) (by first | rfl | simp) (fun A28 cp29 _ h => ?_)
    replace h := st_selT [false, true, true, true, true] h
    refine wl_nil ?_
    refine qn_wa (st_selT [false, true, true, true] h) ?_
    refine wa_tk 16 rfl rfl rfl (st_selT [false, true, true, true] h) (fun w_ hS => ov_assign _ rfl) ?_
    refine wa_done (by kernel_rfl) ?_
    refine qn_block_normal ?_
    refine qn_then ?_
    refine wc_region ?_
    refine wl_v rfl rfl (ov_move _ rfl) ?_
    refine wl_v rfl rfl (ov_bin _ rfl rfl (binR_add (r := (((j : Nat) : Int)) + 1) (Sx.w64 (by omega)))) ?_
    refine wl_v rfl rfl (ov_assign _ rfl) ?_
    refine wl_nil ?_
    replace h := st_front 3 h
    replace h := st_front 3 h
    replace h := st_front 3 h
    replace h := st_front 3 h
    refine qn_next ((j + 1), A28, cp29, (o2 ++ ([((((wordsV s)).getD (i : Nat) ((0, 0) : Int × Int)).1) + (((placesL (s.extract (((wordsV s).getD i (0, 0)).1).toNat (((wordsV s).getD i (0, 0)).2).toNat))).getD (n_ : Nat) (0 : Int))])), some ad18, some ad22, some ad14) (by show (refPts P W lf rt (s.extract (((wordsV s).getD i (0, 0)).1).toNat (((wordsV s).getD i (0, 0)).2).toNat)).length - (j + 1) < (refPts P W lf rt (s.extract (((wordsV s).getD i (0, 0)).1).toNat (((wordsV s).getD i (0, 0)).2).toNat)).length - j; omega) ⟨rfl, rfl, rfl, rfl, rfl, (congrArg (fun z_ => some (Value.slice (A28) z_ (cp29))) (show ((o2 ++ ([((((wordsV s)).getD (i : Nat) ((0, 0) : Int × Int)).1) + (((placesL (s.extract (((wordsV s).getD i (0, 0)).1).toNat (((wordsV s).getD i (0, 0)).2).toNat))).getD (n_ : Nat) (0 : Int))])).length : Nat) = ((o2 ++ ([((((wordsV s)).getD (i : Nat) ((0, 0) : Int × Int)).1) + (((placesL (s.extract (((wordsV s).getD i (0, 0)).1).toNat (((wordsV s).getD i (0, 0)).2).toNat))).getD (n_ : Nat) (0 : Int))]))).length by first | rfl | simp)), rfl, rfl, rfl, rfl, rfl, (congrArg (fun z_ => some (Value.int .i64 z_)) (show ((((j : Nat) : Int)) + 1 : Int) = (((j + 1) : Nat) : Int) by omega)), trivial⟩ ?_
    show ((o2 ++ ([((((wordsV s)).getD (i : Nat) ((0, 0) : Int × Int)).1) + (((placesL (s.extract (((wordsV s).getD i (0, 0)).1).toNat (((wordsV s).getD i (0, 0)).2).toNat))).getD (n_ : Nat) (0 : Int))])) = o ++ (List.take (j + 1) (refPts P W lf rt (s.extract (((wordsV s).getD i (0, 0)).1).toNat (((wordsV s).getD i (0, 0)).2).toNat))).map (fun n : Int => ((wordsV s).getD i (0, 0)).1 + plcV (s.extract (((wordsV s).getD i (0, 0)).1).toNat (((wordsV s).getD i (0, 0)).2).toNat) n.toNat) ∧ (j + 1) ≤ (refPts P W lf rt (s.extract (((wordsV s).getD i (0, 0)).1).toNat (((wordsV s).getD i (0, 0)).2).toNat)).length) ∧ _
    have e8_ : ((refPts P W lf rt (s.extract (((wordsV s).getD i (0, 0)).1).toNat (((wordsV s).getD i (0, 0)).2).toNat)).getD j 0).toNat = n_ := by omega
    have e9_ : (List.take j (refPts P W lf rt (s.extract (((wordsV s).getD i (0, 0)).1).toNat (((wordsV s).getD i (0, 0)).2).toNat))).map (fun n : Int => ((wordsV s).getD i (0, 0)).1 + plcV (s.extract (((wordsV s).getD i (0, 0)).1).toNat (((wordsV s).getD i (0, 0)).2).toNat) n.toNat) ++ [((wordsV s).getD i (0, 0)).1 + plcV (s.extract (((wordsV s).getD i (0, 0)).1).toNat (((wordsV s).getD i (0, 0)).2).toNat) ((refPts P W lf rt (s.extract (((wordsV s).getD i (0, 0)).1).toNat (((wordsV s).getD i (0, 0)).2).toNat)).getD j 0).toNat] = _ := map_take_step (refPts P W lf rt (s.extract (((wordsV s).getD i (0, 0)).1).toNat (((wordsV s).getD i (0, 0)).2).toNat)) 0 (fun n : Int => ((wordsV s).getD i (0, 0)).1 + plcV (s.extract (((wordsV s).getD i (0, 0)).1).toNat (((wordsV s).getD i (0, 0)).2).toNat) n.toNat) (by omega)
    rw [e8_] at e9_
    exact ⟨⟨by rw [hJ.1, List.append_assoc, ← e9_, plc_lt (by omega)], by omega⟩, h⟩
   ·
    have hpt_ : o2 = o ++ wordPl (refPts P W lf rt) s ((wordsV s).getD i (0, 0)) := by rw [hJ.1, List.take_of_length_le (by omega)]; rfl
    have hol_ : o2.length ≤ o.length + 300 := ho2_
    refine wc_exit ?_
    refine qn_then_exit ?_
    refine qn_then_exit ?_
    refine qn_block_exit ?_
    refine qn_block_normal ?_
    refine qn_then ?_
    refine wc_region ?_
    refine wl_v rfl rfl (ov_move _ rfl) ?_
    refine wl_v rfl rfl (ov_bin _ rfl rfl (binR_add (r := (((i : Nat) : Int)) + 1) (Sx.w64 (by omega)))) ?_
    refine wl_v rfl rfl (ov_assign _ rfl) ?_
    refine wl_nil ?_
    replace h := st_front 1 h
    replace h := st_front 1 h
    replace h := st_selT [true, true, false, false] h
    refine qn_next ((i + 1), Ob, Od, (o2), Wb) (by show (wordsV s).length - (i + 1) < (wordsV s).length - i; omega) ⟨rfl, rfl, rfl, rfl, rfl, (congrArg (fun z_ => some (Value.slice (Ob) z_ (Od))) (show ((o2).length : Nat) = ((o2)).length by first | rfl | simp)), rfl, (congrArg (fun z_ => some (Value.int .i64 z_)) (show ((((i : Nat) : Int)) + 1 : Int) = (((i + 1) : Nat) : Int) by omega)), trivial⟩ ?_
    show ((o2) ++ (List.drop (i + 1) (wordsV s)).flatMap (wordPl (refPts P W lf rt) s) = placesV (refPts P W lf rt) s ∧ (i + 1) ≤ (wordsV s).length ∧ ((o2)).length ≤ 1000 * (i + 1)) ∧ _
    have e_ := hJo_.1
    rw [flatMap_step (wordsV s) (0, 0) (wordPl (refPts P W lf rt) s) (by omega), ← hpt_] at e_
    exact ⟨⟨e_, by omega, by omega⟩, h⟩
  ·
   refine wc_exit ?_
   refine qn_then_exit ?_
   refine qn_then_exit ?_
   refine qn_block_exit ?_
   refine qn_then ?_
   refine wc_seq ?_
   refine wc_region ?_
   refine wl_v rfl rfl (ov_move _ rfl) ?_
   refine wl_v rfl rfl (ov_assign _ rfl) ?_
   refine wl_nil ?_
   refine qn_then ?_
   refine wc_ret ?_
   replace h := st_selT [true, false] h
   refine qn_ret [_] ⟨rfl, trivial⟩ ?_
   have e_ := hJ.1
   rw [List.drop_eq_nil_of_le (by omega)] at e_
   replace e_ : o ++ [] = _ := e_
   rw [List.append_nil] at e_
   rw [← e_]
   exact ⟨Oa, Oc, rfl, h⟩
end Go.Proofs.Ytbeihfcjfkddcaa.RL
