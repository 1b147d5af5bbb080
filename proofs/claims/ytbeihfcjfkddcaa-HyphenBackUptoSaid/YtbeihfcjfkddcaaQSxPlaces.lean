/- Pruned by wip/prune.py. -/
import Derived.Test.YtbeihfcjfkddcaaProg
import Derived.Test.YtbeihfcjfkddcaaQSxGlue
import Derived.Test.YtbeihfcjfkddcaaQSxFlow
import Derived.Test.YtbeihfcjfkddcaaQSxIter
import Derived.Test.YtbeihfcjfkddcaaQSxBytes
import Derived.Test.YtbeihfcjfkddcaaQHyWf
import Derived.Test.YtbeihfcjfkddcaaQSxRunes
import Derived.Test.YtbeihfcjfkddcaaQSxLetter
import Derived.Test.YtbeihfcjfkddcaaQSxText
import Derived.Test.YtbeihfcjfkddcaaQSxHRead
import Derived.Test.YtbeihfcjfkddcaaQSxHRef
import Derived.Test.YtbeihfcjfkddcaaQSxTree
import Derived.Test.YtbeihfcjfkddcaaQSxBook
import Derived.Test.YtbeihfcjfkddcaaQSxPoints
import Derived.Test.YtbeihfcjfkddcaaQHyPlc
namespace Go.Proofs.Ytbeihfcjfkddcaa.PC
open Go Go.RowKit Go.Proofs.YtbeihfcjfkddcaaW.PrintWords Go.Proofs.Ytbeihfcjfkddcaa.Hy Go.Proofs.Ytbeihfcjfkddcaa.Given Go.Proofs.Ytbeihfcjfkddcaa.Rn Go.Proofs.Ytbeihfcjfkddcaa.Sx 
set_option linter.unusedVariables false
set_option linter.unusedSimpArgs false
theorem ent32 : Sx.Ent Try.prog 32 := ⟨Try.f32, Try.func32, by kernel_rfl, by kernel_rfl⟩
theorem ent18 : Sx.Ent Try.prog 18 := ⟨Try.f18, Try.func18, by kernel_rfl, by kernel_rfl⟩
theorem es42 : Sx.elemSz Try.prog 42 = some (44, 2) := by kernel_rfl
theorem sh44 : Sx.shapeOf Try.prog 44 = some (true, 2) := by kernel_rfl
theorem zo44 : Sx.zeroOf Try.prog 44 = some (.agg #[.int .i64 (0), .int .i64 (0)]) := by kernel_rfl
theorem ar44 : Sx.arrSz Try.prog 44 = some (2, 3, 1) := by kernel_rfl
theorem sh3 : Sx.shapeOf Try.prog 3 = some (false, 1) := by kernel_rfl
theorem ent15 : Sx.Ent Try.prog 15 := ⟨Try.f15, Try.func15, by kernel_rfl, by kernel_rfl⟩
theorem es36 : Sx.elemSz Try.prog 36 = some (3, 1) := by kernel_rfl
theorem ent40 : Sx.Ent Try.prog 40 := ⟨Try.f40, Try.func40, by kernel_rfl, by kernel_rfl⟩
theorem infb3 : (Try.prog.info? 3).map (fun i => (i.zero, i.size)) = some (some (.int .i64 (0)), 1) := by kernel_rfl
theorem inf3 : (Try.prog.info? 3).map (fun i => (i.zero, i.size, i.bytes)) = some (some (.int .i64 (0)), 1, 8) := by kernel_rfl
theorem ent20 : Sx.Ent Try.prog 20 := ⟨Try.f20, Try.func20, by kernel_rfl, by kernel_rfl⟩
theorem inf5 : (Try.prog.info? 5).map (fun i => (i.zero, i.size, i.bytes)) = some (some (.int .u8 (0)), 1, 1) := by kernel_rfl
theorem ent35 : Sx.Ent Try.prog 35 := ⟨Try.f35, Try.func35, by kernel_rfl, by kernel_rfl⟩
set_option maxHeartbeats 4000000 in
set_option maxRecDepth 100000 in
theorem Places_calls {w0 w : World} {F0 : Nat → Prop} {R : List Sx.HP} (g : Nat) (lf rt : Int) (D : BD) (T : List Nd) (pth : Nat → List Int) (kn : ByteArray → Option (List Int)) (s : ByteArray) (hB : ∀ cs w, Sx.St w0 F0 (cs ++ R) w → BookAt w g lf rt D) (hrel : Rel D.NL D.φ D.HL T) (hwf : WfT T pth) (h0 : 0 < T.length) (hkn : RelK D.KL D.HK kn) (hko : KnOk kn) (hlr : (1 ≤ lf ∧ lf ≤ 100) ∧ (1 ≤ rt ∧ rt ≤ 100)) (hs : s.size ≤ 1000000) (h : Sx.St w0 F0 ([] ++ R) w) : Calls Try.prog 20 #[.pointer (some ⟨g, 0, none⟩), .string (s)] w (fun e w1 => ∃ A c, e = .returned (.slice A (placesV (pointsV T kn lf rt) s).length c) ∧ Sx.St w0 F0 ([Sx.row (Kd.int .i64) 3 (A) (c) ((placesV (pointsV T kn lf rt) s))] ++ R) w1) := by
 obtain ⟨DA, dc, gk, NL, φ, HL, KL, HK⟩ := D
 replace hrel : Rel NL φ HL T := hrel
 have hrl_ : NL.length = T.length := hrel.1
 replace hkn : RelK KL HK kn := hkn
 have hwl_ := words_len s
 refine Sx.calls_fn (vs := [.pointer (some ⟨g, 0, none⟩), .string (s)]) Try.func20 rfl Try.ntmps20 rfl ?_
 refine wc_seq ?_
 refine wc_region ?_
 refine wl_v rfl rfl (ov_assign _ rfl) ?_
 refine wl_nil ?_
 refine qn_then ?_
 refine wc_seq ?_
 refine wc_region ?_
 refine wl_v rfl rfl (ov_assign _ rfl) ?_
 refine wl_nil ?_
 refine qn_then ?_
 refine wc_seq ?_
 refine wc_seq ?_
 refine wc_region ?_
 refine wl_v rfl rfl (ov_move _ rfl) ?_
 refine wl_call _ rfl rfl rfl ent32 (RN.Bad_calls (R := [] ++ R) s (by omega) h) ?_
 rintro e_ w_ ⟨rfl, h⟩
 refine ⟨_, rfl, ?_⟩
 refine wl_v rfl rfl (ov_bin _ rfl rfl (binR_geq)) ?_
 refine wl_nil ?_
 refine qn_then ?_
 refine wc_cond (by rfl) (fun c1 => ?_) (fun c1 => ?_)
 ·
  refine wc_seq ?_
  refine wc_region ?_
  refine wl_v rfl rfl (ov_assign _ rfl) ?_
  refine wl_nil ?_
  refine qn_then ?_
  refine wc_ret ?_
  refine qn_then_ret ?_
  replace h := st_nilrow (Kd.int .i64) 3 h
  refine qn_ret [_] ⟨rfl, trivial⟩ ?_
  rw [show placesV (pointsV T kn lf rt) s = [] by unfold placesV; rw [if_pos (by omega)]]
  exact ⟨none, 0, rfl, h⟩
 ·
  have hr_ : (refV s).2 < 0 := by have q_ := bad_refV s; omega
  refine wc_skip ?_
  refine qn_then ?_
  refine wc_seq ?_
  refine wc_seq ?_
  refine wc_region ?_
  refine wl_v rfl rfl (ov_move _ rfl) ?_
  refine wl_call _ rfl rfl rfl ent18 (TX.Words_calls (R := [] ++ R) s (by omega) (by omega) h) ?_
  rintro e_ w_ ⟨Az2, cz2, rfl, h⟩
  refine ⟨_, rfl, ?_⟩
  replace h : Sx.St w0 F0 ([Sx.row kPr 44 (Az2) (cz2) ((wordsV s))] ++ R) _ := h
  refine wl_v rfl rfl (ov_len _ _ _ _ _ rfl es42) ?_
  refine wl_v rfl rfl (ov_move _ rfl) ?_
  refine wl_nil ?_
  refine qn_then ?_
  refine wc_block ?_
  replace h := st_nilrow (Kd.int .i64) 3 h
  replace h := st_front 1 h
  replace h := st_front 1 h
  refine wc_loop (fun (x_ : Nat × (Option Addr) × Nat × (List Int) × (Option Addr)) => [(0, .pointer (some ⟨g, 0, none⟩)), (1, .string (s)), (5, .slice (x_.2.1) ((x_.2.2.2.1).length) (x_.2.2.1)), (17, .slice (x_.2.2.2.2) ((wordsV s).length) (cz2)), (18, .int .i64 ((((wordsV s).length : Nat) : Int))), (19, .int .i64 (((x_.1 : Nat) : Int)))]) (fun (x_ : Nat × (Option Addr) × Nat × (List Int) × (Option Addr)) (w : World) => (x_.2.2.2.1 ++ (List.drop x_.1 (wordsV s)).flatMap (wordPl (pointsV T kn lf rt) s) = placesV (pointsV T kn lf rt) s ∧ x_.1 ≤ (wordsV s).length ∧ (x_.2.2.2.1).length ≤ 1000 * x_.1) ∧ Sx.St w0 F0 ([Sx.row (Kd.int .i64) 3 (x_.2.1) (x_.2.2.1) (x_.2.2.2.1), Sx.row kPr 44 (x_.2.2.2.2) (cz2) ((wordsV s))] ++ R) w) (fun (x_ : Nat × (Option Addr) × Nat × (List Int) × (Option Addr)) => (wordsV s).length - x_.1) (0, none, 0, [], Az2) ?_ ?_ ?_
  · exact ⟨rfl, rfl, (congrArg (fun z_ => some (Value.slice (none) z_ (0))) (show (0 : Nat) = ([]).length by first | rfl | simp)), rfl, rfl, (congrArg (fun z_ => some (Value.int .i64 z_)) (show (0 : Int) = ((0 : Nat) : Int) by omega)), trivial⟩
  · exact ⟨⟨by unfold placesV; rw [if_neg (by omega)]; rfl, Nat.zero_le _, Nat.zero_le _⟩, h⟩
  rintro ⟨i, Oa, Oc, o, Wa⟩ w h
  obtain ⟨hJ, h⟩ := h
  replace hJ : o ++ (List.drop i (wordsV s)).flatMap (wordPl (pointsV T kn lf rt) s) = placesV (pointsV T kn lf rt) s ∧ i ≤ (wordsV s).length ∧ (o).length ≤ 1000 * i := hJ
  replace h : Sx.St w0 F0 ([Sx.row (Kd.int .i64) 3 (Oa) (Oc) (o), Sx.row kPr 44 (Wa) (cz2) ((wordsV s))] ++ R) w := h
  show Sx.WC _ _ _ _ [(0, .pointer (some ⟨g, 0, none⟩)), (1, .string (s)), (5, .slice (Oa) ((o).length) (Oc)), (17, .slice (Wa) ((wordsV s).length) (cz2)), (18, .int .i64 ((((wordsV s).length : Nat) : Int))), (19, .int .i64 (((i : Nat) : Int)))] _
  have hJo_ := hJ
  have hwk_ : i < (wordsV s).length → 0 ≤ ((wordsV s).getD i (0, 0)).1 ∧ ((wordsV s).getD i (0, 0)).1 ≤ ((wordsV s).getD i (0, 0)).2 ∧ ((wordsV s).getD i (0, 0)).2 ≤ s.size ∧ (refV (s.extract (((wordsV s).getD i (0, 0)).1).toNat (((wordsV s).getD i (0, 0)).2).toNat)).2 < 0 := fun hi_ => wok_bd hr_ (word_ok hr_ _ (getDm_mem hi_))
  refine wc_seq ?_
  refine wc_region ?_
  refine wl_v rfl rfl (ov_bin _ rfl rfl (binR_lss)) ?_
  refine wl_nil ?_
  refine qn_then ?_
  refine wc_seq ?_
  refine wc_cond (by rfl) (fun c3 => ?_) (fun c3 => ?_)
  ·
   refine wc_skip ?_
   refine qn_then ?_
   refine wc_seq ?_
   refine wc_block ?_
   refine wc_seq ?_
   refine wc_region ?_
   obtain ⟨ad4, rfl⟩ := Sx.C_some ((Sx.row_reads h (i := 1) rfl).2) (k := (i : Nat)) (by first | assumption | omega | (simp only [List.length_set, List.length_append, List.length_cons, List.length_nil]; omega))
   refine wl_v rfl rfl (ov_indexAddrN _ _ _ _ _ (i : Nat) rfl rfl es42 rfl (by first | assumption | omega | (simp only [List.length_take, List.length_drop, List.length_set, List.length_append, List.length_cons, List.length_nil]; omega))) ?_
   obtain ⟨cl7, _, hk6, hc5⟩ := Sx.C_cells ((Sx.row_reads h (i := 1) rfl).2) (z := ((0, 0) : Int × Int)) (k := (i : Nat)) (by first | assumption | omega | (simp only [List.length_set, List.length_append, List.length_cons, List.length_nil]; omega))
   obtain rfl := kPr_open hk6
   refine wl_v rfl rfl (ov_loadN _ [.int .i64 ((((wordsV s)).getD (i : Nat) ((0, 0) : Int × Int)).1), .int .i64 ((((wordsV s)).getD (i : Nat) ((0, 0) : Int × Int)).2)] rfl sh44 (by intro j u hu; rw [Deep.add_add]; exact (hc5 _ _ hu))) ?_
   refine wl_alloc _ h rfl rfl zo44 (fun b8 _ h => ?_)
   replace h : Sx.St _ _ (Sx.blk b8 [.int .i64 (0), .int .i64 (0)] 44 :: _) _ := h
   refine wl_storebN 0 [.int .i64 ((((wordsV s)).getD (i : Nat) ((0, 0) : Int × Int)).1), .int .i64 ((((wordsV s)).getD (i : Nat) ((0, 0) : Int × Int)).2)] [.int .i64 ((((wordsV s)).getD (i : Nat) ((0, 0) : Int × Int)).1), .int .i64 ((((wordsV s)).getD (i : Nat) ((0, 0) : Int × Int)).2)] h rfl rfl rfl rfl (by simp [Value.oneCell']) sh44 rfl rfl (fun _ h => ?_)
   refine wl_nil ?_
   refine qn_then ?_
   refine wc_seq ?_
   refine wc_region ?_
   refine wl_v rfl rfl (ov_move _ rfl) ?_
   refine wl_v rfl rfl (ov_indexAddrA ⟨b8, 0, none⟩ 0 ⟨b8, 0, none⟩ rfl rfl ar44 (by decide) rfl) ?_
   refine wl_v rfl rfl (ov_loadb 0 _ h rfl rfl sh3 rfl) ?_
   refine wl_v rfl rfl (ov_indexAddrA ⟨b8, 0, none⟩ 1 ⟨b8, 1, none⟩ rfl rfl ar44 (by decide) rfl) ?_
   refine wl_v rfl rfl (ov_loadb 0 _ h rfl rfl sh3 rfl) ?_
   refine wl_v rfl rfl (ov_slices _ (((((wordsV s)).getD (i : Nat) ((0, 0) : Int × Int)).1 : Int).toNat) (((((wordsV s)).getD (i : Nat) ((0, 0) : Int × Int)).2 : Int).toNat) (by rfl) (by exact ⟨_, _, rfl, (by omega)⟩) (by exact ⟨_, _, rfl, (by omega)⟩) Try.underlying9 (by omega) (by omega)) ?_
   refine wl_v rfl rfl (ov_assign _ rfl) ?_
   refine wl_nil ?_
   refine qn_then ?_
   refine wc_seq ?_
   refine wc_region ?_
   refine wl_v rfl rfl (ov_move _ rfl) ?_
   refine wl_v rfl rfl (ov_move _ rfl) ?_
   refine wl_call _ rfl rfl rfl ent15 (PT.Points_calls (R := [Sx.blk b8 [.int .i64 ((((wordsV s)).getD (i : Nat) ((0, 0) : Int × Int)).1), .int .i64 ((((wordsV s)).getD (i : Nat) ((0, 0) : Int × Int)).2)] 44, Sx.row (Kd.int .i64) 3 (Oa) (Oc) (o), Sx.row kPr 44 (some ad4) (cz2) ((wordsV s))] ++ R) g lf rt ⟨DA, dc, gk, NL, φ, HL, KL, HK⟩ T pth kn ((s).extract (((((wordsV s)).getD (i : Nat) ((0, 0) : Int × Int)).1 : Int).toNat) (((((wordsV s)).getD (i : Nat) ((0, 0) : Int × Int)).2 : Int).toNat)) (fun cs_ w_ h_ => hB (cs_ ++ [Sx.blk b8 [.int .i64 ((((wordsV s)).getD (i : Nat) ((0, 0) : Int × Int)).1), .int .i64 ((((wordsV s)).getD (i : Nat) ((0, 0) : Int × Int)).2)] 44, Sx.row (Kd.int .i64) 3 (Oa) (Oc) (o), Sx.row kPr 44 (some ad4) (cz2) ((wordsV s))]) w_ (by rw [List.append_assoc]; exact h_)) hrel hwf h0 hkn hlr (fun y_ l_ e_ => Nat.le_trans (hko y_ l_ e_).1 (by decide)) (by (have hwk1_ := hwk_ (by omega)); rw [ByteArray.size_extract]; omega) h) ?_
   rintro e_ w_ ⟨Ap9, cp9, rfl, h⟩
   refine ⟨_, rfl, ?_⟩
   replace h : Sx.St w0 F0 ([Sx.row (Kd.int .i64) 3 (Ap9) (cp9) ((pointsV T kn lf rt ((s).extract (((((wordsV s)).getD (i : Nat) ((0, 0) : Int × Int)).1 : Int).toNat) (((((wordsV s)).getD (i : Nat) ((0, 0) : Int × Int)).2 : Int).toNat)))), Sx.blk b8 [.int .i64 ((((wordsV s)).getD (i : Nat) ((0, 0) : Int × Int)).1), .int .i64 ((((wordsV s)).getD (i : Nat) ((0, 0) : Int × Int)).2)] 44, Sx.row (Kd.int .i64) 3 (Oa) (Oc) (o), Sx.row kPr 44 (some ad4) (cz2) ((wordsV s))] ++ R) _ := h
   have hpo_ := pts_ok (T := T) (lf := lf) (rt := rt) hko ((s).extract (((((wordsV s)).getD (i : Nat) ((0, 0) : Int × Int)).1 : Int).toNat) (((((wordsV s)).getD (i : Nat) ((0, 0) : Int × Int)).2 : Int).toNat))
   refine wl_v rfl rfl (ov_len _ _ _ _ _ rfl es36) ?_
   refine wl_v rfl rfl (ov_move _ rfl) ?_
   refine wl_nil ?_
   refine qn_then ?_
   refine wc_block ?_
   have hwk1_ := hwk_ (by omega)
   have hbw_ := bad_refV (s.extract (((wordsV s).getD i (0, 0)).1).toNat (((wordsV s).getD i (0, 0)).2).toNat)
   have hwn_ : (runesL (s.extract (((wordsV s).getD i (0, 0)).1).toNat (((wordsV s).getD i (0, 0)).2).toNat)).length = (refV (s.extract (((wordsV s).getD i (0, 0)).1).toNat (((wordsV s).getD i (0, 0)).2).toNat)).1.length := runesL_len _
   replace h := st_front 1 h
   replace h := st_front 3 h
   replace h := st_front 3 h
   refine wc_loop (fun (x_ : Nat × (Option Addr) × Nat × (List Int) × (Option Addr)) => [(0, .pointer (some ⟨g, 0, none⟩)), (1, .string (s)), (5, .slice (x_.2.1) ((x_.2.2.2.1).length) (x_.2.2.1)), (7, .pointer (some ⟨b8, 0, none⟩)), (8, .string ((s.extract (((wordsV s).getD i (0, 0)).1).toNat (((wordsV s).getD i (0, 0)).2).toNat))), (17, .slice (some ad4) ((wordsV s).length) (cz2)), (18, .int .i64 ((((wordsV s).length : Nat) : Int))), (19, .int .i64 (((i : Nat) : Int))), (31, .slice (x_.2.2.2.2) ((pointsV T kn lf rt (s.extract (((wordsV s).getD i (0, 0)).1).toNat (((wordsV s).getD i (0, 0)).2).toNat)).length) (cp9)), (32, .int .i64 ((((pointsV T kn lf rt (s.extract (((wordsV s).getD i (0, 0)).1).toNat (((wordsV s).getD i (0, 0)).2).toNat)).length : Nat) : Int))), (33, .int .i64 (((x_.1 : Nat) : Int)))]) (fun (x_ : Nat × (Option Addr) × Nat × (List Int) × (Option Addr)) (w : World) => (x_.2.2.2.1 = o ++ (List.take x_.1 (pointsV T kn lf rt (s.extract (((wordsV s).getD i (0, 0)).1).toNat (((wordsV s).getD i (0, 0)).2).toNat))).map (fun n : Int => ((wordsV s).getD i (0, 0)).1 + plcV (s.extract (((wordsV s).getD i (0, 0)).1).toNat (((wordsV s).getD i (0, 0)).2).toNat) n.toNat) ∧ x_.1 ≤ (pointsV T kn lf rt (s.extract (((wordsV s).getD i (0, 0)).1).toNat (((wordsV s).getD i (0, 0)).2).toNat)).length) ∧ Sx.St w0 F0 ([Sx.row (Kd.int .i64) 3 (x_.2.1) (x_.2.2.1) (x_.2.2.2.1), Sx.row kPr 44 (some ad4) (cz2) ((wordsV s)), Sx.blk b8 [.int .i64 ((((wordsV s)).getD (i : Nat) ((0, 0) : Int × Int)).1), .int .i64 ((((wordsV s)).getD (i : Nat) ((0, 0) : Int × Int)).2)] 44, Sx.row (Kd.int .i64) 3 (x_.2.2.2.2) (cp9) ((pointsV T kn lf rt (s.extract (((wordsV s).getD i (0, 0)).1).toNat (((wordsV s).getD i (0, 0)).2).toNat)))] ++ R) w) (fun (x_ : Nat × (Option Addr) × Nat × (List Int) × (Option Addr)) => (pointsV T kn lf rt (s.extract (((wordsV s).getD i (0, 0)).1).toNat (((wordsV s).getD i (0, 0)).2).toNat)).length - x_.1) (0, Oa, Oc, o, Ap9) ?_ ?_ ?_
   · exact ⟨rfl, rfl, rfl, rfl, rfl, rfl, rfl, rfl, (congrArg (fun z_ => some (Value.slice (Ap9) z_ (cp9))) (show ((pointsV T kn lf rt ((s).extract (((((wordsV s)).getD (i : Nat) ((0, 0) : Int × Int)).1 : Int).toNat) (((((wordsV s)).getD (i : Nat) ((0, 0) : Int × Int)).2 : Int).toNat))).length : Nat) = (pointsV T kn lf rt (s.extract (((wordsV s).getD i (0, 0)).1).toNat (((wordsV s).getD i (0, 0)).2).toNat)).length by first | rfl | simp)), (congrArg (fun z_ => some (Value.int .i64 z_)) (show ((((pointsV T kn lf rt ((s).extract (((((wordsV s)).getD (i : Nat) ((0, 0) : Int × Int)).1 : Int).toNat) (((((wordsV s)).getD (i : Nat) ((0, 0) : Int × Int)).2 : Int).toNat))).length : Nat) : Int) : Int) = (((pointsV T kn lf rt (s.extract (((wordsV s).getD i (0, 0)).1).toNat (((wordsV s).getD i (0, 0)).2).toNat)).length : Nat) : Int) by omega)), (congrArg (fun z_ => some (Value.int .i64 z_)) (show (0 : Int) = ((0 : Nat) : Int) by omega)), trivial⟩
   · exact ⟨⟨(List.append_nil _).symm, Nat.zero_le _⟩, h⟩
   rintro ⟨j, Ob, Od, o2, Pa⟩ w h
   obtain ⟨hJ, h⟩ := h
   replace hJ : o2 = o ++ (List.take j (pointsV T kn lf rt (s.extract (((wordsV s).getD i (0, 0)).1).toNat (((wordsV s).getD i (0, 0)).2).toNat))).map (fun n : Int => ((wordsV s).getD i (0, 0)).1 + plcV (s.extract (((wordsV s).getD i (0, 0)).1).toNat (((wordsV s).getD i (0, 0)).2).toNat) n.toNat) ∧ j ≤ (pointsV T kn lf rt (s.extract (((wordsV s).getD i (0, 0)).1).toNat (((wordsV s).getD i (0, 0)).2).toNat)).length := hJ
   replace h : Sx.St w0 F0 ([Sx.row (Kd.int .i64) 3 (Ob) (Od) (o2), Sx.row kPr 44 (some ad4) (cz2) ((wordsV s)), Sx.blk b8 [.int .i64 ((((wordsV s)).getD (i : Nat) ((0, 0) : Int × Int)).1), .int .i64 ((((wordsV s)).getD (i : Nat) ((0, 0) : Int × Int)).2)] 44, Sx.row (Kd.int .i64) 3 (Pa) (cp9) ((pointsV T kn lf rt (s.extract (((wordsV s).getD i (0, 0)).1).toNat (((wordsV s).getD i (0, 0)).2).toNat)))] ++ R) w := h
   show Sx.WC _ _ _ _ [(0, .pointer (some ⟨g, 0, none⟩)), (1, .string (s)), (5, .slice (Ob) ((o2).length) (Od)), (7, .pointer (some ⟨b8, 0, none⟩)), (8, .string ((s.extract (((wordsV s).getD i (0, 0)).1).toNat (((wordsV s).getD i (0, 0)).2).toNat))), (17, .slice (some ad4) ((wordsV s).length) (cz2)), (18, .int .i64 ((((wordsV s).length : Nat) : Int))), (19, .int .i64 (((i : Nat) : Int))), (31, .slice (Pa) ((pointsV T kn lf rt (s.extract (((wordsV s).getD i (0, 0)).1).toNat (((wordsV s).getD i (0, 0)).2).toNat)).length) (cp9)), (32, .int .i64 ((((pointsV T kn lf rt (s.extract (((wordsV s).getD i (0, 0)).1).toNat (((wordsV s).getD i (0, 0)).2).toNat)).length : Nat) : Int))), (33, .int .i64 (((j : Nat) : Int)))] _
   have hpm_ : j < (pointsV T kn lf rt (s.extract (((wordsV s).getD i (0, 0)).1).toNat (((wordsV s).getD i (0, 0)).2).toNat)).length → 1 ≤ (pointsV T kn lf rt (s.extract (((wordsV s).getD i (0, 0)).1).toNat (((wordsV s).getD i (0, 0)).2).toNat)).getD j 0 ∧ (pointsV T kn lf rt (s.extract (((wordsV s).getD i (0, 0)).1).toNat (((wordsV s).getD i (0, 0)).2).toNat)).getD j 0 ≤ (runesL (s.extract (((wordsV s).getD i (0, 0)).1).toNat (((wordsV s).getD i (0, 0)).2).toNat)).length := fun hj_ => by have q_ := hpo_.2.2 _ (getD_mem hj_); omega
   have ho2_ : o2.length ≤ o.length + 300 := by rw [hJ.1, List.length_append, List.length_map, List.length_take]; omega
   have hpb_ : ∀ n_ : Nat, n_ ≤ (refV (s.extract (((wordsV s).getD i (0, 0)).1).toNat (((wordsV s).getD i (0, 0)).2).toNat)).1.length → 0 ≤ plcV (s.extract (((wordsV s).getD i (0, 0)).1).toNat (((wordsV s).getD i (0, 0)).2).toNat) n_ ∧ plcV (s.extract (((wordsV s).getD i (0, 0)).1).toNat (((wordsV s).getD i (0, 0)).2).toNat) n_ ≤ (s.extract (((wordsV s).getD i (0, 0)).1).toNat (((wordsV s).getD i (0, 0)).2).toNat).size := fun n_ hn_ => plc_bd hwk1_.2.2.2 hn_
   have hws_ : (s.extract (((wordsV s).getD i (0, 0)).1).toNat (((wordsV s).getD i (0, 0)).2).toNat).size ≤ s.size := by rw [ByteArray.size_extract]; omega
   refine wc_seq ?_
   refine wc_region ?_
   refine wl_v rfl rfl (ov_bin _ rfl rfl (binR_lss)) ?_
   refine wl_nil ?_
   refine qn_then ?_
   refine wc_seq ?_
   refine wc_cond (by rfl) (fun c10 => ?_) (fun c10 => ?_)
   ·
    have hpj_ := hpm_ (by omega)
    have hpq_ := hpb_ (((pointsV T kn lf rt (s.extract (((wordsV s).getD i (0, 0)).1).toNat (((wordsV s).getD i (0, 0)).2).toNat))).getD j 0).toNat (by omega)
    refine wc_skip ?_
    refine qn_then ?_
    refine wc_seq ?_
    refine wc_block ?_
    refine wc_seq ?_
    refine wc_region ?_
    obtain ⟨ad11, rfl⟩ := Sx.C_some ((Sx.row_reads h (i := 3) rfl).2) (k := (j : Nat)) (by first | assumption | omega | (simp only [List.length_set, List.length_append, List.length_cons, List.length_nil]; omega))
    refine wl_v rfl rfl (ov_indexAddrN _ _ _ _ _ (j : Nat) rfl rfl es36 rfl (by first | assumption | omega | (simp only [List.length_take, List.length_drop, List.length_set, List.length_append, List.length_cons, List.length_nil]; omega))) ?_
    obtain ⟨cl14, _, hk13, hc12⟩ := Sx.C_cells ((Sx.row_reads h (i := 3) rfl).2) (z := (0 : Int)) (k := (j : Nat)) (by first | assumption | omega | (simp only [List.length_set, List.length_append, List.length_cons, List.length_nil]; omega))
    obtain rfl : cl14 = [.int .i64 _] := hk13
    refine wl_v rfl rfl (ov_load1 _ _ rfl sh3 ((hc12 0 _ rfl))) ?_
    refine wl_v rfl rfl (ov_assign _ rfl) ?_
    refine wl_nil ?_
    refine qn_then ?_
    refine wc_seq ?_
    refine wc_region ?_
    refine wl_v rfl rfl (ov_move _ rfl) ?_
    refine wl_v rfl rfl (ov_move _ rfl) ?_
    rw [show (((pointsV T kn lf rt (s.extract (((wordsV s).getD i (0, 0)).1).toNat (((wordsV s).getD i (0, 0)).2).toNat))).getD (j : Nat) (0 : Int) : Int) = (((((pointsV T kn lf rt (s.extract (((wordsV s).getD i (0, 0)).1).toNat (((wordsV s).getD i (0, 0)).2).toNat))).getD (j : Nat) (0 : Int) : Int).toNat : Nat) : Int) from (Int.toNat_of_nonneg (by omega)).symm]
    refine wl_call _ rfl rfl rfl ent40 (TX.At_calls (R := [Sx.row (Kd.int .i64) 3 (Ob) (Od) (o2), Sx.row kPr 44 (some ad4) (cz2) ((wordsV s)), Sx.blk b8 [.int .i64 ((((wordsV s)).getD (i : Nat) ((0, 0) : Int × Int)).1), .int .i64 ((((wordsV s)).getD (i : Nat) ((0, 0) : Int × Int)).2)] 44, Sx.row (Kd.int .i64) 3 (some ad11) (cp9) ((pointsV T kn lf rt (s.extract (((wordsV s).getD i (0, 0)).1).toNat (((wordsV s).getD i (0, 0)).2).toNat)))] ++ R) ((s.extract (((wordsV s).getD i (0, 0)).1).toNat (((wordsV s).getD i (0, 0)).2).toNat)) (((pointsV T kn lf rt (s.extract (((wordsV s).getD i (0, 0)).1).toNat (((wordsV s).getD i (0, 0)).2).toNat))).getD (j : Nat) (0 : Int) : Int).toNat (by omega) (by omega) (by omega) h) ?_
    rintro e_ w_ ⟨rfl, h⟩
    refine ⟨_, rfl, ?_⟩
    refine wl_v rfl rfl (ov_move _ rfl) ?_
    refine wl_v rfl rfl (ov_extract [.int .i64 (plcV ((s.extract (((wordsV s).getD i (0, 0)).1).toNat (((wordsV s).getD i (0, 0)).2).toNat)) (((pointsV T kn lf rt (s.extract (((wordsV s).getD i (0, 0)).1).toNat (((wordsV s).getD i (0, 0)).2).toNat))).getD (j : Nat) (0 : Int) : Int).toNat), .bool true] _ rfl rfl) ?_
    refine wl_v rfl rfl (ov_extract [.int .i64 (plcV ((s.extract (((wordsV s).getD i (0, 0)).1).toNat (((wordsV s).getD i (0, 0)).2).toNat)) (((pointsV T kn lf rt (s.extract (((wordsV s).getD i (0, 0)).1).toNat (((wordsV s).getD i (0, 0)).2).toNat))).getD (j : Nat) (0 : Int) : Int).toNat), .bool true] _ rfl rfl) ?_
    refine wl_v rfl rfl (ov_assign _ rfl) ?_
    refine wl_v rfl rfl (ov_assign _ rfl) ?_
    refine wl_nil ?_
    refine qn_then ?_
    refine wc_region ?_
    refine wl_v rfl rfl (ov_move _ rfl) ?_
    refine wl_v rfl rfl (ov_indexAddrA ⟨b8, 0, none⟩ 0 ⟨b8, 0, none⟩ rfl rfl ar44 (by decide) rfl) ?_
    refine wl_v rfl rfl (ov_loadb 2 _ h rfl rfl sh3 rfl) ?_
    refine wl_v rfl rfl (ov_move _ rfl) ?_
    refine wl_v rfl rfl (ov_bin _ rfl rfl (binR_add (r := ((((wordsV s)).getD (i : Nat) ((0, 0) : Int × Int)).1) + (plcV ((s.extract (((wordsV s).getD i (0, 0)).1).toNat (((wordsV s).getD i (0, 0)).2).toNat)) (((pointsV T kn lf rt (s.extract (((wordsV s).getD i (0, 0)).1).toNat (((wordsV s).getD i (0, 0)).2).toNat))).getD (j : Nat) (0 : Int) : Int).toNat)) (Sx.w64 (by omega)))) ?_
    refine wl_lit (d := (Kd.int .i64)) [(0, .int .i64 (((((wordsV s)).getD (i : Nat) ((0, 0) : Int × Int)).1) + (plcV ((s.extract (((wordsV s).getD i (0, 0)).1).toNat (((wordsV s).getD i (0, 0)).2).toNat)) (((pointsV T kn lf rt (s.extract (((wordsV s).getD i (0, 0)).1).toNat (((wordsV s).getD i (0, 0)).2).toNat))).getD (j : Nat) (0 : Int) : Int).toNat)))] _ [.int .i64 (((((wordsV s)).getD (i : Nat) ((0, 0) : Int × Int)).1) + (plcV ((s.extract (((wordsV s).getD i (0, 0)).1).toNat (((wordsV s).getD i (0, 0)).2).toNat)) (((pointsV T kn lf rt (s.extract (((wordsV s).getD i (0, 0)).1).toNat (((wordsV s).getD i (0, 0)).2).toNat))).getD (j : Nat) (0 : Int) : Int).toNat))] ([((((wordsV s)).getD (i : Nat) ((0, 0) : Int × Int)).1) + (plcV ((s.extract (((wordsV s).getD i (0, 0)).1).toNat (((wordsV s).getD i (0, 0)).2).toNat)) (((pointsV T kn lf rt (s.extract (((wordsV s).getD i (0, 0)).1).toNat (((wordsV s).getD i (0, 0)).2).toNat))).getD (j : Nat) (0 : Int) : Int).toNat)]) h rfl rfl rfl rfl Try.underlying36 infb3 rfl (by decide) (by kernel_rfl) rfl (fun _ _ _ => ((Reps.none _ _).snoc ((Sx.mkInt .i64 (((((wordsV s)).getD (i : Nat) ((0, 0) : Int × Int)).1) + (plcV ((s.extract (((wordsV s).getD i (0, 0)).1).toNat (((wordsV s).getD i (0, 0)).2).toNat)) (((pointsV T kn lf rt (s.extract (((wordsV s).getD i (0, 0)).1).toNat (((wordsV s).getD i (0, 0)).2).toNat))).getD (j : Nat) (0 : Int) : Int).toNat)))) rfl)) (fun A15 cp16 _ h => ?_)
    refine wl_append (d := (Kd.int .i64)) (L := o2) 1 _ 8 _ _ _ ([((((wordsV s)).getD (i : Nat) ((0, 0) : Int × Int)).1) + (plcV ((s.extract (((wordsV s).getD i (0, 0)).1).toNat (((wordsV s).getD i (0, 0)).2).toNat)) (((pointsV T kn lf rt (s.extract (((wordsV s).getD i (0, 0)).1).toNat (((wordsV s).getD i (0, 0)).2).toNat))).getD (j : Nat) (0 : Int) : Int).toNat)]) (Sx.flat_int _) h rfl rfl rfl rfl rfl ((Sx.row_reads h (i := 0) rfl).2) Try.underlying36 inf3 rfl (by decide) (by decide) (by first | omega | (simp only [List.length_cons, List.length_nil, List.length_append, List.length_set]; omega)) (by first | rfl | simp) (fun A17 cp18 _ h => ?_)
    replace h := st_selT [false, true, true, true, true] h
    refine wl_v rfl rfl (ov_assign _ rfl) ?_
    refine wl_nil ?_
    refine qn_block_normal ?_
    refine qn_then ?_
    refine wc_region ?_
    refine wl_v rfl rfl (ov_bin _ rfl rfl (binR_add (r := (((j : Nat) : Int)) + 1) (Sx.w64 (by omega)))) ?_
    refine wl_v rfl rfl (ov_move _ rfl) ?_
    refine wl_nil ?_
    replace h := st_front 3 h
    replace h := st_front 3 h
    replace h := st_front 3 h
    replace h := st_front 3 h
    refine qn_next ((j + 1), A17, cp18, (o2 ++ ([((((wordsV s)).getD (i : Nat) ((0, 0) : Int × Int)).1) + (plcV ((s.extract (((wordsV s).getD i (0, 0)).1).toNat (((wordsV s).getD i (0, 0)).2).toNat)) (((pointsV T kn lf rt (s.extract (((wordsV s).getD i (0, 0)).1).toNat (((wordsV s).getD i (0, 0)).2).toNat))).getD (j : Nat) (0 : Int) : Int).toNat)])), some ad11) (by show (pointsV T kn lf rt (s.extract (((wordsV s).getD i (0, 0)).1).toNat (((wordsV s).getD i (0, 0)).2).toNat)).length - (j + 1) < (pointsV T kn lf rt (s.extract (((wordsV s).getD i (0, 0)).1).toNat (((wordsV s).getD i (0, 0)).2).toNat)).length - j; omega) ⟨rfl, rfl, (congrArg (fun z_ => some (Value.slice (A17) z_ (cp18))) (show ((o2 ++ ([((((wordsV s)).getD (i : Nat) ((0, 0) : Int × Int)).1) + (plcV ((s.extract (((wordsV s).getD i (0, 0)).1).toNat (((wordsV s).getD i (0, 0)).2).toNat)) (((pointsV T kn lf rt (s.extract (((wordsV s).getD i (0, 0)).1).toNat (((wordsV s).getD i (0, 0)).2).toNat))).getD (j : Nat) (0 : Int) : Int).toNat)])).length : Nat) = ((o2 ++ ([((((wordsV s)).getD (i : Nat) ((0, 0) : Int × Int)).1) + (plcV ((s.extract (((wordsV s).getD i (0, 0)).1).toNat (((wordsV s).getD i (0, 0)).2).toNat)) (((pointsV T kn lf rt (s.extract (((wordsV s).getD i (0, 0)).1).toNat (((wordsV s).getD i (0, 0)).2).toNat))).getD (j : Nat) (0 : Int) : Int).toNat)]))).length by first | rfl | simp)), rfl, rfl, rfl, rfl, rfl, rfl, rfl, (congrArg (fun z_ => some (Value.int .i64 z_)) (show ((((j : Nat) : Int)) + 1 : Int) = (((j + 1) : Nat) : Int) by omega)), trivial⟩ ?_
    show ((o2 ++ ([((((wordsV s)).getD (i : Nat) ((0, 0) : Int × Int)).1) + (plcV ((s.extract (((wordsV s).getD i (0, 0)).1).toNat (((wordsV s).getD i (0, 0)).2).toNat)) (((pointsV T kn lf rt (s.extract (((wordsV s).getD i (0, 0)).1).toNat (((wordsV s).getD i (0, 0)).2).toNat))).getD (j : Nat) (0 : Int) : Int).toNat)])) = o ++ (List.take (j + 1) (pointsV T kn lf rt (s.extract (((wordsV s).getD i (0, 0)).1).toNat (((wordsV s).getD i (0, 0)).2).toNat))).map (fun n : Int => ((wordsV s).getD i (0, 0)).1 + plcV (s.extract (((wordsV s).getD i (0, 0)).1).toNat (((wordsV s).getD i (0, 0)).2).toNat) n.toNat) ∧ (j + 1) ≤ (pointsV T kn lf rt (s.extract (((wordsV s).getD i (0, 0)).1).toNat (((wordsV s).getD i (0, 0)).2).toNat)).length) ∧ _
    exact ⟨⟨by rw [hJ.1, List.append_assoc]; exact congrArg (o ++ ·) (map_take_step (pointsV T kn lf rt (s.extract (((wordsV s).getD i (0, 0)).1).toNat (((wordsV s).getD i (0, 0)).2).toNat)) 0 (fun n : Int => ((wordsV s).getD i (0, 0)).1 + plcV (s.extract (((wordsV s).getD i (0, 0)).1).toNat (((wordsV s).getD i (0, 0)).2).toNat) n.toNat) (by omega)), by omega⟩, h⟩
   ·
    have hpt_ : o2 = o ++ wordPl (pointsV T kn lf rt) s ((wordsV s).getD i (0, 0)) := by rw [hJ.1, List.take_of_length_le (by omega)]; rfl
    have hol_ : o2.length ≤ o.length + 300 := ho2_
    refine wc_exit ?_
    refine qn_then_exit ?_
    refine qn_then_exit ?_
    refine qn_block_exit ?_
    refine qn_block_normal ?_
    refine qn_then ?_
    refine wc_region ?_
    refine wl_v rfl rfl (ov_bin _ rfl rfl (binR_add (r := (((i : Nat) : Int)) + 1) (Sx.w64 (by omega)))) ?_
    refine wl_v rfl rfl (ov_move _ rfl) ?_
    refine wl_nil ?_
    replace h := st_front 1 h
    replace h := st_front 1 h
    replace h := st_selT [true, true, false, false] h
    refine qn_next ((i + 1), Ob, Od, (o2), some ad4) (by show (wordsV s).length - (i + 1) < (wordsV s).length - i; omega) ⟨rfl, rfl, (congrArg (fun z_ => some (Value.slice (Ob) z_ (Od))) (show ((o2).length : Nat) = ((o2)).length by first | rfl | simp)), rfl, rfl, (congrArg (fun z_ => some (Value.int .i64 z_)) (show ((((i : Nat) : Int)) + 1 : Int) = (((i + 1) : Nat) : Int) by omega)), trivial⟩ ?_
    show ((o2) ++ (List.drop (i + 1) (wordsV s)).flatMap (wordPl (pointsV T kn lf rt) s) = placesV (pointsV T kn lf rt) s ∧ (i + 1) ≤ (wordsV s).length ∧ ((o2)).length ≤ 1000 * (i + 1)) ∧ _
    have e_ := hJo_.1
    rw [flatMap_step (wordsV s) (0, 0) (wordPl (pointsV T kn lf rt) s) (by omega), ← hpt_] at e_
    exact ⟨⟨e_, by omega, by omega⟩, h⟩
  ·
   refine wc_exit ?_
   refine qn_then_exit ?_
   refine qn_then_exit ?_
   refine qn_block_exit ?_
   refine qn_then ?_
   refine wc_seq ?_
   refine wc_region ?_
   refine wl_v rfl rfl (ov_move _ rfl) ?_
   refine wl_v rfl rfl (ov_assign _ rfl) ?_
   refine wl_nil ?_
   refine qn_then ?_
   refine wc_ret ?_
   replace h := st_selT [true, false] h
   refine qn_ret [_] ⟨rfl, trivial⟩ ?_
   have e_ := hJ.1
   rw [List.drop_eq_nil_of_le (by omega)] at e_
   replace e_ : o ++ [] = _ := e_
   rw [List.append_nil] at e_
   rw [← e_]
   exact ⟨Oa, Oc, rfl, h⟩
set_option maxHeartbeats 4000000 in
set_option maxRecDepth 100000 in
theorem Put_calls {w0 w : World} {F0 : Nat → Prop} {R : List Sx.HP} (g : Nat) (lf rt : Int) (D : BD) (T : List Nd) (pth : Nat → List Int) (kn : ByteArray → Option (List Int)) (s : ByteArray) (hB : ∀ cs w, Sx.St w0 F0 (cs ++ R) w → BookAt w g lf rt D) (hrel : Rel D.NL D.φ D.HL T) (hwf : WfT T pth) (h0 : 0 < T.length) (hkn : RelK D.KL D.HK kn) (hko : KnOk kn) (hlr : (1 ≤ lf ∧ lf ≤ 100) ∧ (1 ≤ rt ∧ rt ≤ 100)) (hs : s.size ≤ 1000000) (h : Sx.St w0 F0 ([] ++ R) w) : Calls Try.prog 22 #[.pointer (some ⟨g, 0, none⟩), .string (s)] w (fun e w1 => e = .returned (.string (putT s (placesV (pointsV T kn lf rt) s) 0)) ∧ Sx.St w0 F0 R w1) := by
 obtain ⟨DA, dc, gk, NL, φ, HL, KL, HK⟩ := D
 replace hrel : Rel NL φ HL T := hrel
 have hrl_ : NL.length = T.length := hrel.1
 replace hkn : RelK KL HK kn := hkn
 have hpl_ : PlOk s (placesV (pointsV T kn lf rt) s) := places_pl (fun w_ => ⟨(pts_ok hko w_).2.1, fun x_ hx_ => by have q_ := (pts_ok hko w_).2.2 x_ hx_; omega⟩) hlr.1.1 hlr.2.1
 have hb2_ : (bytesV 173).length = 2 := by decide
 refine Sx.calls_fn (vs := [.pointer (some ⟨g, 0, none⟩), .string (s)]) Try.func22 rfl Try.ntmps22 rfl ?_
 refine wc_seq ?_
 refine wc_region ?_
 refine wl_v rfl rfl (ov_assign _ rfl) ?_
 refine wl_nil ?_
 refine qn_then ?_
 refine wc_seq ?_
 refine wc_region ?_
 refine wl_v rfl rfl (ov_assign _ rfl) ?_
 refine wl_nil ?_
 refine qn_then ?_
 refine wc_seq ?_
 refine wc_region ?_
 refine wl_v rfl rfl (ov_assign _ rfl) ?_
 refine wl_nil ?_
 refine qn_then ?_
 refine wc_seq ?_
 refine wc_seq ?_
 refine wc_region ?_
 refine wl_v rfl rfl (ov_move _ rfl) ?_
 refine wl_v rfl rfl (ov_move _ rfl) ?_
 refine wl_call _ rfl rfl rfl ent20 (PC.Places_calls (R := [] ++ R) g lf rt ⟨DA, dc, gk, NL, φ, HL, KL, HK⟩ T pth kn s (fun cs_ w_ h_ => hB (cs_ ++ []) w_ (by rw [List.append_assoc]; exact h_)) hrel hwf h0 hkn hko hlr (by omega) h) ?_
 rintro e_ w_ ⟨Ap1, cp1, rfl, h⟩
 refine ⟨_, rfl, ?_⟩
 replace h : Sx.St w0 F0 ([Sx.row (Kd.int .i64) 3 (Ap1) (cp1) ((placesV (pointsV T kn lf rt) s))] ++ R) _ := h
 refine wl_v rfl rfl (ov_len _ _ _ _ _ rfl es36) ?_
 refine wl_v rfl rfl (ov_move _ rfl) ?_
 refine wl_nil ?_
 refine qn_then ?_
 refine wc_block ?_
 replace h := st_nilrow (Kd.int .u8) 5 h
 replace h := st_front 1 h
 replace h := st_front 1 h
 refine wc_loop (fun (x_ : Nat × Int × (Option Addr) × Nat × (List Int) × (Option Addr)) => [(0, .pointer (some ⟨g, 0, none⟩)), (1, .string (s)), (5, .slice (x_.2.2.1) ((x_.2.2.2.2.1).length) (x_.2.2.2.1)), (6, .int .i64 (x_.2.1)), (11, .slice (x_.2.2.2.2.2) ((placesV (pointsV T kn lf rt) s).length) (cp1)), (12, .int .i64 ((((placesV (pointsV T kn lf rt) s).length : Nat) : Int))), (13, .int .i64 (((x_.1 : Nat) : Int)))]) (fun (x_ : Nat × Int × (Option Addr) × Nat × (List Int) × (Option Addr)) (w : World) => (strOfNums x_.2.2.2.2.1 ++ putT s (List.drop x_.1 (placesV (pointsV T kn lf rt) s)) (x_.2.1).toNat = putT s (placesV (pointsV T kn lf rt) s) 0 ∧ x_.1 ≤ (placesV (pointsV T kn lf rt) s).length ∧ (0 ≤ x_.2.1 ∧ x_.2.1 ≤ s.size) ∧ (x_.1 < (placesV (pointsV T kn lf rt) s).length → x_.2.1 ≤ (placesV (pointsV T kn lf rt) s).getD x_.1 0) ∧ ((x_.2.2.2.2.1).length : Int) ≤ x_.2.1 + 2 * ((x_.1 : Nat) : Int)) ∧ Sx.St w0 F0 ([Sx.row (Kd.int .u8) 5 (x_.2.2.1) (x_.2.2.2.1) (x_.2.2.2.2.1), Sx.row (Kd.int .i64) 3 (x_.2.2.2.2.2) (cp1) ((placesV (pointsV T kn lf rt) s))] ++ R) w) (fun (x_ : Nat × Int × (Option Addr) × Nat × (List Int) × (Option Addr)) => (placesV (pointsV T kn lf rt) s).length - x_.1) (0, 0, none, 0, [], Ap1) ?_ ?_ ?_
 · exact ⟨rfl, rfl, (congrArg (fun z_ => some (Value.slice (none) z_ (0))) (show (0 : Nat) = ([]).length by first | rfl | simp)), rfl, rfl, rfl, (congrArg (fun z_ => some (Value.int .i64 z_)) (show (0 : Int) = ((0 : Nat) : Int) by omega)), trivial⟩
 · exact ⟨⟨by rw [show strOfNums [] = ByteArray.empty from rfl]; exact nil_app _, Nat.zero_le _, ⟨Int.le_refl _, by show (0 : Int) ≤ s.size; omega⟩, (fun hi_ => (hpl_.2 _ (getD_mem hi_)).1), Int.le_refl _⟩, h⟩
 rintro ⟨i, fr, A, c, o, X⟩ w h
 obtain ⟨hJ, h⟩ := h
 replace hJ : strOfNums o ++ putT s (List.drop i (placesV (pointsV T kn lf rt) s)) (fr).toNat = putT s (placesV (pointsV T kn lf rt) s) 0 ∧ i ≤ (placesV (pointsV T kn lf rt) s).length ∧ (0 ≤ fr ∧ fr ≤ s.size) ∧ (i < (placesV (pointsV T kn lf rt) s).length → fr ≤ (placesV (pointsV T kn lf rt) s).getD i 0) ∧ ((o).length : Int) ≤ fr + 2 * ((i : Nat) : Int) := hJ
 replace h : Sx.St w0 F0 ([Sx.row (Kd.int .u8) 5 (A) (c) (o), Sx.row (Kd.int .i64) 3 (X) (cp1) ((placesV (pointsV T kn lf rt) s))] ++ R) w := h
 show Sx.WC _ _ _ _ [(0, .pointer (some ⟨g, 0, none⟩)), (1, .string (s)), (5, .slice (A) ((o).length) (c)), (6, .int .i64 (fr)), (11, .slice (X) ((placesV (pointsV T kn lf rt) s).length) (cp1)), (12, .int .i64 ((((placesV (pointsV T kn lf rt) s).length : Nat) : Int))), (13, .int .i64 (((i : Nat) : Int)))] _
 have hpg_ : i < (placesV (pointsV T kn lf rt) s).length → 0 ≤ (placesV (pointsV T kn lf rt) s).getD i 0 ∧ (placesV (pointsV T kn lf rt) s).getD i 0 ≤ s.size := fun hi_ => hpl_.2 _ (getD_mem hi_)
 have hpz_ := places_len T hko s lf rt
 refine wc_seq ?_
 refine wc_region ?_
 refine wl_v rfl rfl (ov_bin _ rfl rfl (binR_lss)) ?_
 refine wl_nil ?_
 refine qn_then ?_
 refine wc_seq ?_
 refine wc_cond (by rfl) (fun c2 => ?_) (fun c2 => ?_)
 ·
  have hpi_ := hpg_ (by omega)
  have hfi_ := hJ.2.2.2.1 (by omega)
  have hes_ : (s.extract fr.toNat ((placesV (pointsV T kn lf rt) s).getD i 0).toNat).size = ((placesV (pointsV T kn lf rt) s).getD i 0).toNat - fr.toNat := by rw [ByteArray.size_extract]; omega
  have hbo_ := bytesOf_length (s.extract fr.toNat ((placesV (pointsV T kn lf rt) s).getD i 0).toNat)
  refine wc_skip ?_
  refine qn_then ?_
  refine wc_seq ?_
  refine wc_block ?_
  refine wc_seq ?_
  refine wc_region ?_
  obtain ⟨ad3, rfl⟩ := Sx.C_some ((Sx.row_reads h (i := 1) rfl).2) (k := (i : Nat)) (by first | assumption | omega | (simp only [List.length_set, List.length_append, List.length_cons, List.length_nil]; omega))
  refine wl_v rfl rfl (ov_indexAddrN _ _ _ _ _ (i : Nat) rfl rfl es36 rfl (by first | assumption | omega | (simp only [List.length_take, List.length_drop, List.length_set, List.length_append, List.length_cons, List.length_nil]; omega))) ?_
  obtain ⟨cl6, _, hk5, hc4⟩ := Sx.C_cells ((Sx.row_reads h (i := 1) rfl).2) (z := (0 : Int)) (k := (i : Nat)) (by first | assumption | omega | (simp only [List.length_set, List.length_append, List.length_cons, List.length_nil]; omega))
  obtain rfl : cl6 = [.int .i64 _] := hk5
  refine wl_v rfl rfl (ov_load1 _ _ rfl sh3 ((hc4 0 _ rfl))) ?_
  refine wl_v rfl rfl (ov_assign _ rfl) ?_
  refine wl_nil ?_
  refine qn_then ?_
  refine wc_seq ?_
  refine wc_region ?_
  refine wl_v rfl rfl (ov_move _ rfl) ?_
  refine wl_v rfl rfl (ov_move _ rfl) ?_
  refine wl_v rfl rfl (ov_move _ rfl) ?_
  refine wl_v rfl rfl (ov_move _ rfl) ?_
  refine wl_v rfl rfl (ov_slices _ ((fr : Int).toNat) ((((placesV (pointsV T kn lf rt) s)).getD (i : Nat) (0 : Int) : Int).toNat) (by rfl) (by exact ⟨_, _, rfl, (by omega)⟩) (by exact ⟨_, _, rfl, (by omega)⟩) Try.underlying9 (by omega) (by omega)) ?_
  refine wl_appends (L := o) 0 _ h rfl rfl rfl rfl rfl Try.underlying40 Try.underlying9 inf5 (by first | omega | (simp only [List.length_append]; omega)) (by first | rfl | simp) (fun A7 cp8 _ h => ?_)
  refine wl_v rfl rfl (ov_assign _ rfl) ?_
  refine wl_nil ?_
  refine qn_then ?_
  refine wc_seq ?_
  refine wc_region ?_
  refine wl_v rfl rfl (ov_move _ rfl) ?_
  refine wl_call _ rfl rfl rfl ent35 (TX.Append_calls (R := [Sx.row (Kd.int .u8) 5 (A7) (cp8) (o ++ bytesOf ((s).extract ((fr : Int).toNat) ((((placesV (pointsV T kn lf rt) s)).getD (i : Nat) (0 : Int) : Int).toNat))), Sx.row (Kd.int .i64) 3 (some ad3) (cp1) ((placesV (pointsV T kn lf rt) s))] ++ R) (A7) (cp8) (o ++ bytesOf ((s).extract ((fr : Int).toNat) ((((placesV (pointsV T kn lf rt) s)).getD (i : Nat) (0 : Int) : Int).toNat))) (173) (Sx.row_reads_at (R := [Sx.row (Kd.int .u8) 5 (A7) (cp8) (o ++ bytesOf ((s).extract ((fr : Int).toNat) ((((placesV (pointsV T kn lf rt) s)).getD (i : Nat) (0 : Int) : Int).toNat))), Sx.row (Kd.int .i64) 3 (some ad3) (cp1) ((placesV (pointsV T kn lf rt) s))] ++ R) (j := 0) rfl) (by first | omega | (simp only [List.length_append]; omega)) h) ?_
  rintro e_ w_ ⟨Au9, cu9, rfl, h⟩
  refine ⟨_, rfl, ?_⟩
  have hblu9 := bytes_le (173)
  replace h : Sx.St w0 F0 ([Sx.row (Kd.int .u8) 5 (Au9) (cu9) ((o ++ bytesOf ((s).extract ((fr : Int).toNat) ((((placesV (pointsV T kn lf rt) s)).getD (i : Nat) (0 : Int) : Int).toNat)) ++ bytesV 173)), Sx.row (Kd.int .u8) 5 (A7) (cp8) (o ++ bytesOf ((s).extract ((fr : Int).toNat) ((((placesV (pointsV T kn lf rt) s)).getD (i : Nat) (0 : Int) : Int).toNat))), Sx.row (Kd.int .i64) 3 (some ad3) (cp1) ((placesV (pointsV T kn lf rt) s))] ++ R) _ := h
  replace h := st_selT [true, false, true] h
  refine wl_v rfl rfl (ov_assign _ rfl) ?_
  refine wl_nil ?_
  refine qn_then ?_
  refine wc_region ?_
  refine wl_v rfl rfl (ov_move _ rfl) ?_
  refine wl_v rfl rfl (ov_assign _ rfl) ?_
  refine wl_nil ?_
  refine qn_block_normal ?_
  refine qn_then ?_
  refine wc_region ?_
  refine wl_v rfl rfl (ov_bin _ rfl rfl (binR_add (r := (((i : Nat) : Int)) + 1) (Sx.w64 (by omega)))) ?_
  refine wl_v rfl rfl (ov_move _ rfl) ?_
  refine wl_nil ?_
  replace h := st_front 1 h
  replace h := st_front 1 h
  refine qn_next ((i + 1), ((placesV (pointsV T kn lf rt) s)).getD i 0, Au9, cu9, ((o ++ bytesOf ((s).extract ((fr : Int).toNat) ((((placesV (pointsV T kn lf rt) s)).getD (i : Nat) (0 : Int) : Int).toNat)) ++ bytesV 173)), some ad3) (by show (placesV (pointsV T kn lf rt) s).length - (i + 1) < (placesV (pointsV T kn lf rt) s).length - i; omega) ⟨rfl, rfl, (congrArg (fun z_ => some (Value.slice (Au9) z_ (cu9))) (show ((o ++ bytesOf ((s).extract ((fr : Int).toNat) ((((placesV (pointsV T kn lf rt) s)).getD (i : Nat) (0 : Int) : Int).toNat)) ++ bytesV 173).length : Nat) = (((o ++ bytesOf ((s).extract ((fr : Int).toNat) ((((placesV (pointsV T kn lf rt) s)).getD (i : Nat) (0 : Int) : Int).toNat)) ++ bytesV 173))).length by first | rfl | simp)), (congrArg (fun z_ => some (Value.int .i64 z_)) (show (((placesV (pointsV T kn lf rt) s)).getD (i : Nat) (0 : Int) : Int) = ((placesV (pointsV T kn lf rt) s)).getD i 0 by omega)), rfl, rfl, (congrArg (fun z_ => some (Value.int .i64 z_)) (show ((((i : Nat) : Int)) + 1 : Int) = (((i + 1) : Nat) : Int) by omega)), trivial⟩ ?_
  show (strOfNums ((o ++ bytesOf ((s).extract ((fr : Int).toNat) ((((placesV (pointsV T kn lf rt) s)).getD (i : Nat) (0 : Int) : Int).toNat)) ++ bytesV 173)) ++ putT s (List.drop (i + 1) (placesV (pointsV T kn lf rt) s)) (((placesV (pointsV T kn lf rt) s)).getD i 0).toNat = putT s (placesV (pointsV T kn lf rt) s) 0 ∧ (i + 1) ≤ (placesV (pointsV T kn lf rt) s).length ∧ (0 ≤ ((placesV (pointsV T kn lf rt) s)).getD i 0 ∧ ((placesV (pointsV T kn lf rt) s)).getD i 0 ≤ s.size) ∧ ((i + 1) < (placesV (pointsV T kn lf rt) s).length → ((placesV (pointsV T kn lf rt) s)).getD i 0 ≤ (placesV (pointsV T kn lf rt) s).getD (i + 1) 0) ∧ ((((o ++ bytesOf ((s).extract ((fr : Int).toNat) ((((placesV (pointsV T kn lf rt) s)).getD (i : Nat) (0 : Int) : Int).toNat)) ++ bytesV 173))).length : Int) ≤ ((placesV (pointsV T kn lf rt) s)).getD i 0 + 2 * (((i + 1) : Nat) : Int)) ∧ _
  have e_ := hJ.1
  rw [drop_get (placesV (pointsV T kn lf rt) s) 0 (by omega), putT] at e_
  exact ⟨⟨put_step e_, by omega, ⟨by omega, by omega⟩, (fun hi_ => (pl_get hpl_ hi_).2.2 i (by omega)), by simp only [List.length_append]; omega⟩, h⟩
 ·
  have hes_ : (s.extract fr.toNat s.size).size ≤ s.size := by rw [ByteArray.size_extract]; omega
  have hbo_ := bytesOf_length (s.extract fr.toNat s.size)
  refine wc_exit ?_
  refine qn_then_exit ?_
  refine qn_then_exit ?_
  refine qn_block_exit ?_
  refine qn_then ?_
  refine wc_seq ?_
  refine wc_region ?_
  refine wl_v rfl rfl (ov_move _ rfl) ?_
  refine wl_v rfl rfl (ov_move _ rfl) ?_
  refine wl_v rfl rfl (ov_move _ rfl) ?_
  refine wl_v rfl rfl (ov_slices _ ((fr : Int).toNat) ((s).size) (by rfl) (by exact ⟨_, _, rfl, (by omega)⟩) (by exact rfl) Try.underlying9 (by omega) (by omega)) ?_
  refine wl_appends (L := o) 0 _ h rfl rfl rfl rfl rfl Try.underlying40 Try.underlying9 inf5 (by first | omega | (simp only [List.length_append]; omega)) (by first | rfl | simp) (fun A10 cp11 _ h => ?_)
  refine wl_v rfl rfl (ov_string rfl ((Sx.row_reads h (i := 0) rfl).2) Try.underlying40 Try.underlying5 Try.underlying9) ?_
  refine wl_v rfl rfl (ov_assign _ rfl) ?_
  refine wl_nil ?_
  refine qn_then ?_
  refine wc_ret ?_
  replace h := st_selT [false, false] h
  refine qn_ret [_] ⟨rfl, trivial⟩ ?_
  have e_ := hJ.1
  rw [List.drop_eq_nil_of_le (by omega), putT] at e_
  rw [← e_]
  exact ⟨congrArg (fun z => Ending.returned (Value.string z)) (by rw [sn_app, sn_bytes]), h⟩
end Go.Proofs.Ytbeihfcjfkddcaa.PC
