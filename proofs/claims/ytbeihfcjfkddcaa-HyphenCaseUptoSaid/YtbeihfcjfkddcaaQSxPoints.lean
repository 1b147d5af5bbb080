/- Pruned by wip/prune.py. -/
import Derived.Test.YtbeihfcjfkddcaaProg
import Derived.Test.YtbeihfcjfkddcaaQSxGlue
import Derived.Test.YtbeihfcjfkddcaaQSxFlow
import Derived.Test.YtbeihfcjfkddcaaQSxIter
import Derived.Test.YtbeihfcjfkddcaaQSxBytes
import Derived.Test.YtbeihfcjfkddcaaQHyPts
import Derived.Test.YtbeihfcjfkddcaaQSxRunes
import Derived.Test.YtbeihfcjfkddcaaQSxLetter
import Derived.Test.YtbeihfcjfkddcaaQSxText
import Derived.Test.YtbeihfcjfkddcaaQSxHRead
import Derived.Test.YtbeihfcjfkddcaaQSxHRef
import Derived.Test.YtbeihfcjfkddcaaQSxTree
import Derived.Test.YtbeihfcjfkddcaaQSxBook
namespace Go.Proofs.Ytbeihfcjfkddcaa.PT
open Go Go.RowKit Go.Proofs.YtbeihfcjfkddcaaW.PrintWords Go.Proofs.Ytbeihfcjfkddcaa.Hy Go.Proofs.Ytbeihfcjfkddcaa.Given Go.Proofs.Ytbeihfcjfkddcaa.Rn Go.Proofs.Ytbeihfcjfkddcaa.Sx 
set_option linter.unusedVariables false
set_option linter.unusedSimpArgs false
theorem infb21 : (Try.prog.info? 21).map (fun i => (i.zero, i.size)) = some (some (.int .i32 (0)), 1) := by kernel_rfl
theorem inf21 : (Try.prog.info? 21).map (fun i => (i.zero, i.size, i.bytes)) = some (some (.int .i32 (0)), 1, 4) := by kernel_rfl
theorem es56 : Sx.elemSz Try.prog 56 = some (21, 1) := by kernel_rfl
theorem inf3 : (Try.prog.info? 3).map (fun i => (i.zero, i.size, i.bytes)) = some (some (.int .i64 (0)), 1, 8) := by kernel_rfl
theorem fo55_0 : Sx.fieldOff Try.prog 55 0 = some 0 := by kernel_rfl
theorem sh52 : Sx.shapeOf Try.prog 52 = some (false, 1) := by kernel_rfl
theorem es52 : Sx.elemSz Try.prog 52 = some (51, 2) := by kernel_rfl
theorem fo51_0 : Sx.fieldOff Try.prog 51 0 = some 0 := by kernel_rfl
theorem sh49 : Sx.shapeOf Try.prog 49 = some (false, 1) := by kernel_rfl
theorem sh21 : Sx.shapeOf Try.prog 21 = some (false, 1) := by kernel_rfl
theorem zo3 : Sx.zeroOf Try.prog 3 = some (.int .i64 (0)) := by kernel_rfl
theorem fo51_1 : Sx.fieldOff Try.prog 51 1 = some 1 := by kernel_rfl
theorem sh36 : Sx.shapeOf Try.prog 36 = some (false, 1) := by kernel_rfl
theorem es36 : Sx.elemSz Try.prog 36 = some (3, 1) := by kernel_rfl
theorem sh3 : Sx.shapeOf Try.prog 3 = some (false, 1) := by kernel_rfl
theorem szf3 : (Try.prog.info? 3).map (·.size) = some 1 := by kernel_rfl
theorem ent32 : Sx.Ent Try.prog 32 := ⟨Try.f32, Try.func32, by kernel_rfl, by kernel_rfl⟩
theorem ent33 : Sx.Ent Try.prog 33 := ⟨Try.f33, Try.func33, by kernel_rfl, by kernel_rfl⟩
theorem ent34 : Sx.Ent Try.prog 34 := ⟨Try.f34, Try.func34, by kernel_rfl, by kernel_rfl⟩
theorem ent35 : Sx.Ent Try.prog 35 := ⟨Try.f35, Try.func35, by kernel_rfl, by kernel_rfl⟩
theorem fo55_1 : Sx.fieldOff Try.prog 55 1 = some 1 := by kernel_rfl
theorem sh53 : Sx.shapeOf Try.prog 53 = some (false, 1) := by kernel_rfl
theorem zo36 : Sx.zeroOf Try.prog 36 = some (.slice (none) (0) (0)) := by kernel_rfl
theorem fo55_2 : Sx.fieldOff Try.prog 55 2 = some 2 := by kernel_rfl
theorem fo55_3 : Sx.fieldOff Try.prog 55 3 = some 3 := by kernel_rfl
theorem infb3 : (Try.prog.info? 3).map (fun i => (i.zero, i.size)) = some (some (.int .i64 (0)), 1) := by kernel_rfl
theorem ent36 : Sx.Ent Try.prog 36 := ⟨Try.f36, Try.func36, by kernel_rfl, by kernel_rfl⟩
set_option maxHeartbeats 4000000 in
set_option maxRecDepth 100000 in
theorem levels_calls {w0 w : World} {F0 : Nat → Prop} {R : List Sx.HP} (g : Nat) (lf rt : Int) (D : BD) (T : List Nd) (pth : Nat → List Int) (XA : Option Addr) (xc : Nat) (word : List Int) (hB : ∀ cs w, Sx.St w0 F0 (cs ++ R) w → BookAt w g lf rt D) (hrel : Rel D.NL D.φ D.HL T) (hwf : WfT T pth) (h0 : 0 < T.length) (hC : ∀ cs w, Sx.St w0 F0 (cs ++ R) w → (Kd.int .i32).C w XA word.length word) (hsz : word.length ≤ 1000000000) (h : Sx.St w0 F0 ([] ++ R) w) : Calls Try.prog 36 #[.pointer (some ⟨g, 0, none⟩), .slice (XA) (word.length) (xc)] w (fun e w1 => ∃ A c, e = .returned (.slice A (levelsV T word).length c) ∧ Sx.St w0 F0 ([hlib [(⟨A, (levelsV T word).length, c⟩, levelsV T word)]] ++ R) w1) := by
 obtain ⟨DA, dc, gk, NL, φ, HL, KL, HK⟩ := D
 replace hrel : Rel NL φ HL T := hrel
 have hrl_ : NL.length = T.length := hrel.1
 have hrw0_ : (([46] : List Int) ++ word ++ [46]).length = word.length + 2 := rowOf_len word
 refine Sx.calls_fn (vs := [.pointer (some ⟨g, 0, none⟩), .slice (XA) (word.length) (xc)]) Try.func36 rfl Try.ntmps36 rfl ?_
 refine wc_seq ?_
 refine wc_region ?_
 refine wl_v rfl rfl (ov_assign _ rfl) ?_
 refine wl_nil ?_
 refine qn_then ?_
 refine wc_seq ?_
 refine wc_region ?_
 refine wl_lit (d := (Kd.int .i32)) [(0, .int .i32 (46))] _ [.int .i32 (46)] ([46]) h rfl rfl rfl rfl Try.underlying56 infb21 rfl (by decide) (by kernel_rfl) rfl (fun _ _ _ => ((Reps.none _ _).snoc ((Sx.mkInt .i32 (46))) rfl)) (fun A1 cp2 _ h => ?_)
 refine wl_v rfl rfl (ov_move _ rfl) ?_
 refine wl_append (d := (Kd.int .i32)) (L := [46]) 0 _ 4 _ _ _ (word) (Sx.flat_int _) h rfl rfl rfl rfl rfl ((hC [_] _ h)) Try.underlying56 inf21 rfl (by decide) (by decide) (by first | omega | (simp only [List.length_cons, List.length_nil, List.length_append, List.length_set]; omega)) (by first | rfl | simp) (fun A3 cp4 _ h => ?_)
 refine wl_v rfl rfl (ov_assign _ rfl) ?_
 refine wl_nil ?_
 refine qn_then ?_
 refine wc_seq ?_
 refine wc_region ?_
 refine wl_v rfl rfl (ov_move _ rfl) ?_
 refine wl_lit (d := (Kd.int .i32)) [(0, .int .i32 (46))] _ [.int .i32 (46)] ([46]) h rfl rfl rfl rfl Try.underlying56 infb21 rfl (by decide) (by kernel_rfl) rfl (fun _ _ _ => ((Reps.none _ _).snoc ((Sx.mkInt .i32 (46))) rfl)) (fun A5 cp6 _ h => ?_)
 refine wl_append (d := (Kd.int .i32)) (L := ([46]) ++ word) 1 _ 4 _ _ _ ([46]) (Sx.flat_int _) h rfl rfl rfl rfl rfl ((Sx.row_reads h (i := 0) rfl).2) Try.underlying56 inf21 rfl (by decide) (by decide) (by first | omega | (simp only [List.length_cons, List.length_nil, List.length_append, List.length_set]; omega)) (by first | rfl | simp) (fun A7 cp8 _ h => ?_)
 replace h := st_selT [false, true] h
 refine wl_v rfl rfl (ov_assign _ rfl) ?_
 refine wl_nil ?_
 refine qn_then ?_
 refine wc_seq ?_
 refine wc_region ?_
 refine wl_v rfl rfl (ov_move _ rfl) ?_
 refine wl_v rfl rfl (ov_len _ _ _ _ _ rfl es56) ?_
 refine wl_v rfl rfl (ov_bin _ rfl rfl (binR_add (r := (((((([46]) ++ word) ++ ([46])).length : Nat) : Int)) + 1) (Sx.w64 (by omega)))) ?_
 refine wl_make (d := (Kd.int .i64)) _ 8 (0 : Int) ((((((([46]) ++ word) ++ ([46])).length : Nat) : Int)) + 1) h rfl rfl rfl rfl Try.underlying36 inf3 rfl (by decide) (by decide) (fun _ _ _ => (Sx.mkInt .i64 ((0 : Int)))) (by omega) (by omega) (fun A9 cp10 _ h => ?_)
 refine wl_v rfl rfl (ov_assign _ rfl) ?_
 refine wl_nil ?_
 refine qn_then ?_
 refine wc_seq ?_
 refine wc_seq ?_
 refine wc_region ?_
 refine wl_v rfl rfl (ov_move _ rfl) ?_
 refine wl_v rfl rfl (ov_len _ _ _ _ _ rfl es56) ?_
 refine wl_v rfl rfl (ov_move _ rfl) ?_
 refine wl_nil ?_
 refine qn_then ?_
 refine wc_block ?_
 have e_ : (([46]) ++ word) ++ ([46]) = (rowOf word) := by rfl
 replace h := st_cast (congrArg (fun z_ => ([Sx.row (Kd.int .i64) 3 (A9) (cp10) (List.replicate ((((((([46]) ++ word) ++ ([46])).length : Nat) : Int)) + 1 : Int).toNat (0 : Int)), Sx.row (Kd.int .i32) 21 (A7) (cp8) (z_)] ++ R)) e_) h
 clear e_
 have hrw_ := rowOf_len word
 have hrp_ : (List.replicate ((((((([46]) ++ word) ++ ([46])).length : Nat) : Int)) + 1 : Int).toNat (0 : Int)).length = (rowOf word).length + 1 := by rw [List.length_replicate]; first | omega | rfl
 replace h := st_front 1 h
 refine wc_loop (fun (x_ : Nat × (Option Addr) × (Option Addr) × (List Int)) => [(0, .pointer (some ⟨g, 0, none⟩)), (5, .slice (x_.2.1) ((rowOf word).length) (cp8)), (6, .slice (x_.2.2.1) ((x_.2.2.2).length) (cp10)), (25, .int .i64 ((((rowOf word).length : Nat) : Int))), (26, .int .i64 (((x_.1 : Nat) : Int)))]) (fun (x_ : Nat × (Option Addr) × (Option Addr) × (List Int)) (w : World) => (lvAll T (List.drop x_.1 (rowOf word)) x_.1 x_.2.2.2 = lvAll T (rowOf word) 0 (List.replicate (word.length + 3) 0) ∧ (x_.2.2.2).length = (rowOf word).length + 1 ∧ x_.1 ≤ (rowOf word).length) ∧ Sx.St w0 F0 ([Sx.row (Kd.int .i32) 21 (x_.2.1) (cp8) ((rowOf word)), Sx.row (Kd.int .i64) 3 (x_.2.2.1) (cp10) (x_.2.2.2)] ++ R) w) (fun (x_ : Nat × (Option Addr) × (Option Addr) × (List Int)) => (rowOf word).length - x_.1) (0, A7, A9, (List.replicate ((((((([46]) ++ word) ++ ([46])).length : Nat) : Int)) + 1 : Int).toNat (0 : Int))) ?_ ?_ ?_
 · exact ⟨rfl, (congrArg (fun z_ => some (Value.slice (A7) z_ (cp8))) (show (((([46]) ++ word) ++ ([46])).length : Nat) = (rowOf word).length by first | rfl | simp)), (congrArg (fun z_ => some (Value.slice (A9) z_ (cp10))) (show ((List.replicate ((((((([46]) ++ word) ++ ([46])).length : Nat) : Int)) + 1 : Int).toNat (0 : Int)).length : Nat) = ((List.replicate ((((((([46]) ++ word) ++ ([46])).length : Nat) : Int)) + 1 : Int).toNat (0 : Int))).length by first | rfl | simp)), (congrArg (fun z_ => some (Value.int .i64 z_)) (show (((((([46]) ++ word) ++ ([46])).length : Nat) : Int) : Int) = (((rowOf word).length : Nat) : Int) by rfl)), (congrArg (fun z_ => some (Value.int .i64 z_)) (show (0 : Int) = ((0 : Nat) : Int) by omega)), trivial⟩
 · exact ⟨⟨congrArg (fun n_ => lvAll T (rowOf word) 0 (List.replicate n_ 0)) (by first | omega | (rw [rowOf_len]; omega)), hrp_, Nat.zero_le _⟩, h⟩
 rintro ⟨fr, A, A2, out⟩ w h
 obtain ⟨hJ, h⟩ := h
 replace hJ : lvAll T (List.drop fr (rowOf word)) fr out = lvAll T (rowOf word) 0 (List.replicate (word.length + 3) 0) ∧ (out).length = (rowOf word).length + 1 ∧ fr ≤ (rowOf word).length := hJ
 replace h : Sx.St w0 F0 ([Sx.row (Kd.int .i32) 21 (A) (cp8) ((rowOf word)), Sx.row (Kd.int .i64) 3 (A2) (cp10) (out)] ++ R) w := h
 show Sx.WC _ _ _ _ [(0, .pointer (some ⟨g, 0, none⟩)), (5, .slice (A) ((rowOf word).length) (cp8)), (6, .slice (A2) ((out).length) (cp10)), (25, .int .i64 ((((rowOf word).length : Nat) : Int))), (26, .int .i64 (((fr : Nat) : Int)))] _
 refine wc_seq ?_
 refine wc_region ?_
 refine wl_v rfl rfl (ov_bin _ rfl rfl (binR_lss)) ?_
 refine wl_nil ?_
 refine qn_then ?_
 refine wc_seq ?_
 refine wc_cond (by rfl) (fun c11 => ?_) (fun c11 => ?_)
 ·
  refine wc_skip ?_
  refine qn_then ?_
  refine wc_seq ?_
  refine wc_block ?_
  refine wc_seq ?_
  refine wc_region ?_
  refine wl_v rfl rfl (ov_move _ rfl) ?_
  refine wl_v rfl rfl (ov_assign _ rfl) ?_
  refine wl_nil ?_
  refine qn_then ?_
  refine wc_seq ?_
  refine wc_region ?_
  refine wl_v rfl rfl (ov_assign _ rfl) ?_
  refine wl_nil ?_
  refine qn_then ?_
  refine wc_seq ?_
  refine wc_region ?_
  refine wl_v rfl rfl (ov_move _ rfl) ?_
  refine wl_v rfl rfl (ov_assign _ rfl) ?_
  refine wl_nil ?_
  refine qn_then ?_
  refine wc_block ?_
  have hJo_ := hJ
  replace h := st_front 1 h
  replace h := st_front 1 h
  refine wc_loop (fun (x_ : Nat × Nat × (Option Addr) × (Option Addr) × (List Int)) => [(0, .pointer (some ⟨g, 0, none⟩)), (5, .slice (x_.2.2.1) ((rowOf word).length) (cp8)), (6, .slice (x_.2.2.2.1) ((x_.2.2.2.2).length) (cp10)), (7, .int .i64 (((fr : Nat) : Int))), (8, .int .i64 (((x_.2.1 : Nat) : Int))), (9, .int .i64 (((x_.1 : Nat) : Int))), (25, .int .i64 ((((rowOf word).length : Nat) : Int))), (26, .int .i64 (((fr : Nat) : Int)))]) (fun (x_ : Nat × Nat × (Option Addr) × (Option Addr) × (List Int)) (w : World) => (lvGo T fr (List.drop x_.1 (rowOf word)) x_.2.1 x_.2.2.2.2 = lvGo T fr (List.drop fr (rowOf word)) 0 out ∧ (x_.2.2.2.2).length = (rowOf word).length + 1 ∧ (fr ≤ x_.1 ∧ x_.1 ≤ (rowOf word).length ∧ x_.2.1 < T.length) ∧ (pth x_.2.1).length = x_.1 - fr) ∧ Sx.St w0 F0 ([Sx.row (Kd.int .i32) 21 (x_.2.2.1) (cp8) ((rowOf word)), Sx.row (Kd.int .i64) 3 (x_.2.2.2.1) (cp10) (x_.2.2.2.2)] ++ R) w) (fun (x_ : Nat × Nat × (Option Addr) × (Option Addr) × (List Int)) => (rowOf word).length - x_.1) (fr, 0, A, A2, out) ?_ ?_ ?_
  · exact ⟨rfl, rfl, rfl, rfl, (congrArg (fun z_ => some (Value.int .i64 z_)) (show (0 : Int) = ((0 : Nat) : Int) by omega)), rfl, rfl, rfl, trivial⟩
  · exact ⟨⟨rfl, hJ.2.1, ⟨Nat.le_refl _, by omega, h0⟩, by rw [hwf.1, Nat.sub_self]; rfl⟩, h⟩
  rintro ⟨k, a, A, A2, ou⟩ w h
  obtain ⟨hJ, h⟩ := h
  replace hJ : lvGo T fr (List.drop k (rowOf word)) a ou = lvGo T fr (List.drop fr (rowOf word)) 0 out ∧ (ou).length = (rowOf word).length + 1 ∧ (fr ≤ k ∧ k ≤ (rowOf word).length ∧ a < T.length) ∧ (pth a).length = k - fr := hJ
  replace h : Sx.St w0 F0 ([Sx.row (Kd.int .i32) 21 (A) (cp8) ((rowOf word)), Sx.row (Kd.int .i64) 3 (A2) (cp10) (ou)] ++ R) w := h
  show Sx.WC _ _ _ _ [(0, .pointer (some ⟨g, 0, none⟩)), (5, .slice (A) ((rowOf word).length) (cp8)), (6, .slice (A2) ((ou).length) (cp10)), (7, .int .i64 (((fr : Nat) : Int))), (8, .int .i64 (((a : Nat) : Int))), (9, .int .i64 (((k : Nat) : Int))), (25, .int .i64 ((((rowOf word).length : Nat) : Int))), (26, .int .i64 (((fr : Nat) : Int)))] _
  refine wc_seq ?_
  refine wc_seq ?_
  refine wc_region ?_
  refine wl_v rfl rfl (ov_move _ rfl) ?_
  refine wl_v rfl rfl (ov_move _ rfl) ?_
  refine wl_v rfl rfl (ov_len _ _ _ _ _ rfl es56) ?_
  refine wl_v rfl rfl (ov_bin _ rfl rfl (binR_lss)) ?_
  refine wl_nil ?_
  refine qn_then ?_
  refine wc_cond (by rfl) (fun c12 => ?_) (fun c12 => ?_)
  ·
   refine wc_skip ?_
   refine qn_then ?_
   refine wc_seq ?_
   refine wc_block ?_
   refine wc_seq ?_
   refine wc_draw (fun w => Sx.St w0 F0 ([Sx.row (Kd.int .i32) 21 (A) (cp8) ((rowOf word)), Sx.row (Kd.int .i64) 3 (A2) (cp10) (ou)] ++ R) w) (by kernel_rfl) ?_
   replace h := st_drew h
   refine wa_tk 0 rfl rfl rfl (st_selT [true, true] h) (fun w_ hS => ov_move _ rfl) ?_
   refine wa_tk 1 rfl rfl rfl (st_selT [true, true] h) (fun w_ hS => ov_nilCheck _ rfl) ?_
   refine wa_tk 2 rfl rfl rfl (st_selT [true, true] h) (fun w_ hS => ov_fieldAddr _ ⟨g, 0, none⟩ _ rfl fo55_0 rfl) ?_
   refine wa_tk 3 rfl rfl rfl (st_selT [true, true] h) (fun w_ hS => ov_load1 ⟨g, 0, none⟩ _ rfl sh52 ((((hB [_, _] _ hS).cell) 0).trans rfl)) ?_
   refine wa_tk 4 rfl rfl rfl (st_selT [true, true] h) (fun w_ hS => ov_move _ rfl) ?_
   obtain ⟨ad13, rfl⟩ := Sx.C_some (((fun cs_ w_ h_ => (hB cs_ w_ h_).row.2) [_, _] _ h)) (k := (a : Nat)) (by first | assumption | omega | (simp only [List.length_set, List.length_append, List.length_cons, List.length_nil]; omega))
   refine wa_tk 5 rfl rfl rfl (st_selT [true, true] h) (fun w_ hS => ov_indexAddrN _ _ _ _ _ (a : Nat) rfl rfl es52 rfl (by first | assumption | omega | (simp only [List.length_take, List.length_drop, List.length_set, List.length_append, List.length_cons, List.length_nil]; omega))) ?_
   refine wa_tk 6 rfl rfl rfl (st_selT [true, true] h) (fun w_ hS => ov_fieldAddr _ ((ad13).add ((a : Nat) * 2 + 0)) _ rfl fo51_0 (by first | exact Deep.add_add _ _ _ | (rw [Deep.add_add]) | rfl)) ?_
   refine wa_tk 7 rfl rfl rfl (st_selT [true, true] h) (fun w_ hS => by
       obtain ⟨cl16, _, hk15, hc14⟩ := Sx.C_cells (((fun cs_ w_ h_ => (hB cs_ w_ h_).row.2) [_, _] _ hS)) (z := zNdH) (k := (a : Nat)) (by first | assumption | omega | (simp only [List.length_set, List.length_append, List.length_cons, List.length_nil]; omega))
       obtain rfl := kNd_open hk15
       exact ov_load1 _ _ rfl sh49 ((hc14 0 _ rfl))) ?_
   refine wa_tk 8 rfl rfl rfl (st_selT [true, true] h) (fun w_ hS => ov_move _ rfl) ?_
   refine wa_tk 9 rfl rfl rfl (st_selT [true, true] h) (fun w_ hS => ov_move _ rfl) ?_
   obtain ⟨ad17, rfl⟩ := Sx.C_some ((Sx.row_reads h (i := 0) rfl).2) (k := (k : Nat)) (by first | assumption | omega | (simp only [List.length_set, List.length_append, List.length_cons, List.length_nil]; omega))
   refine wa_tk 10 rfl rfl rfl (st_selT [true, true] h) (fun w_ hS => ov_indexAddrN _ _ _ _ _ (k : Nat) rfl rfl es56 rfl (by first | assumption | omega | (simp only [List.length_take, List.length_drop, List.length_set, List.length_append, List.length_cons, List.length_nil]; omega))) ?_
   refine wa_tk 11 rfl rfl rfl (st_selT [true, true] h) (fun w_ hS => by
       obtain ⟨cl20, _, hk19, hc18⟩ := Sx.C_cells ((Sx.row_reads hS (i := 0) rfl).2) (z := (0 : Int)) (k := (k : Nat)) (by first | assumption | omega | (simp only [List.length_set, List.length_append, List.length_cons, List.length_nil]; omega))
       obtain rfl : cl20 = [.int .i32 _] := hk19
       exact ov_load1 _ _ rfl sh21 ((hc18 0 _ rfl))) ?_
   refine wa_tk 12 rfl rfl rfl (st_selT [true, true] h) (fun w_ hS => (ov_lookupM (Sx.keyInt .i32) (fun n_ : Int => Value.int .i64 n_) (.int .i64 (0)) (((NL).getD (a : Nat) zNdH).m) (((rowOf word)).getD (k : Nat) (0 : Int)) ((T.getD a zNd).nx) rfl rfl Try.underlying49 Try.underlying21 zo3 (rel_none hrel (by omega)) (fun g_ e_ => (hB [_, _] _ hS).maps _ _ (rel_map hrel (by omega) e_))).to (lkD _ _)) ?_
   refine wa_tk 13 rfl rfl rfl (st_selT [true, true] h) (fun w_ hS => ov_move _ rfl) ?_
   refine wa_tk 14 rfl rfl rfl (st_selT [true, true] h) (fun w_ hS => ov_extract [.int .i64 ((Sx.lk (T.getD a zNd).nx (((rowOf word)).getD (k : Nat) (0 : Int))).getD 0), .bool ((Sx.lk ((T.getD a zNd).nx) (((rowOf word)).getD (k : Nat) (0 : Int))).isSome)] _ rfl rfl) ?_
   refine wa_tk 15 rfl rfl rfl (st_selT [true, true] h) (fun w_ hS => ov_extract [.int .i64 ((Sx.lk (T.getD a zNd).nx (((rowOf word)).getD (k : Nat) (0 : Int))).getD 0), .bool ((Sx.lk ((T.getD a zNd).nx) (((rowOf word)).getD (k : Nat) (0 : Int))).isSome)] _ rfl rfl) ?_
   refine wa_tk 16 rfl rfl rfl (st_selT [true, true] h) (fun w_ hS => ov_assign _ rfl) ?_
   refine wa_tk 17 rfl rfl rfl (st_selT [true, true] h) (fun w_ hS => ov_assign _ rfl) ?_
   refine wa_done (by kernel_rfl) ?_
   refine qn_then ?_
   refine wc_seq ?_
   refine wc_seq ?_
   refine wc_region ?_
   refine wl_v rfl rfl (ov_move _ rfl) ?_
   refine wl_v rfl rfl (ov_notb _ rfl) ?_
   refine wl_nil ?_
   refine qn_then ?_
   refine wc_condb (by rfl) (fun c21 => ?_) (fun c21 => ?_)
   ·
    have hno_ : Sx.lk (T.getD a zNd).nx ((rowOf word).getD k 0) = none := by simpa using c21
    have hgo_ : lvGo T fr (List.drop fr (rowOf word)) 0 out = ou := by
      have e_ := hJ.1
      rw [drop_get (rowOf word) 0 (by omega), lvGo, hno_] at e_
      exact e_.symm
    refine wc_exit ?_
    refine qn_then_exit ?_
    refine qn_block_other (by decide) ?_
    refine qn_then_exit ?_
    refine qn_then_exit ?_
    refine qn_block_exit ?_
    refine qn_block_normal ?_
    refine qn_then ?_
    refine wc_region ?_
    refine wl_v rfl rfl (ov_bin _ rfl rfl (binR_add (r := (((fr : Nat) : Int)) + 1) (Sx.w64 (by omega)))) ?_
    refine wl_v rfl rfl (ov_move _ rfl) ?_
    refine wl_nil ?_
    replace h := st_front 1 h
    replace h := st_front 1 h
    refine qn_next ((fr + 1), some ad17, A2, (ou)) (by show (rowOf word).length - (fr + 1) < (rowOf word).length - fr; omega) ⟨rfl, rfl, (congrArg (fun z_ => some (Value.slice (A2) z_ (cp10))) (show ((ou).length : Nat) = ((ou)).length by first | rfl | simp)), rfl, (congrArg (fun z_ => some (Value.int .i64 z_)) (show ((((fr : Nat) : Int)) + 1 : Int) = (((fr + 1) : Nat) : Int) by omega)), trivial⟩ ?_
    show (lvAll T (List.drop (fr + 1) (rowOf word)) (fr + 1) (ou) = lvAll T (rowOf word) 0 (List.replicate (word.length + 3) 0) ∧ ((ou)).length = (rowOf word).length + 1 ∧ (fr + 1) ≤ (rowOf word).length) ∧ _
    have e_ := hJo_.1
    rw [drop_get (rowOf word) 0 (by omega), lvAll, ← drop_get (rowOf word) 0 (by omega)] at e_
    rw [hgo_] at e_
    exact ⟨⟨e_, hJ.2.1, by omega⟩, h⟩
   ·
    obtain ⟨q_, hq_⟩ := Option.isSome_iff_exists.1 (show (Sx.lk (T.getD a zNd).nx ((rowOf word).getD k 0)).isSome = true by simpa using c21)
    have hw_ := (hwf.2 a (by omega)).1 _ _ hq_
    have hlv_ := (hwf.2 q_.toNat hw_.2.1).2
    have hpl_ : (pth q_.toNat).length = k - fr + 1 := by rw [hw_.2.2, List.length_append, hJ.2.2.2]; rfl
    have hq1_ : (Sx.lk (T.getD a zNd).nx ((rowOf word).getD k 0)).getD 0 = q_ := by rw [hq_]; rfl
    rw [hq1_]
    have hlz_ : (T.getD q_.toNat zNd).lv.length ≤ k - fr + 2 := by
      rcases hlv_ with z_ | z_
      · rw [z_]; exact Nat.zero_le _
      · omega
    refine wc_skip ?_
    refine qn_then ?_
    refine wc_seq ?_
    refine wc_region ?_
    refine wl_v rfl rfl (ov_move _ rfl) ?_
    refine wl_v rfl rfl (ov_assign _ rfl) ?_
    refine wl_nil ?_
    refine qn_then ?_
    refine wc_seq ?_
    refine wc_region ?_
    refine wl_v rfl rfl (ov_move _ rfl) ?_
    refine wl_v rfl rfl (ov_nilCheck _ rfl) ?_
    refine wl_v rfl rfl (ov_fieldAddr _ ⟨g, 0, none⟩ _ rfl fo55_0 rfl) ?_
    refine wl_v rfl rfl (ov_load1 ⟨g, 0, none⟩ _ rfl sh52 ((((hB [_, _] _ h).cell) 0).trans rfl)) ?_
    refine wl_v rfl rfl (ov_move _ rfl) ?_
    refine wl_v rfl rfl (ov_indexAddrN _ _ _ _ _ (q_ : Int).toNat rfl rfl es52 (by omega) (by first | assumption | omega | (simp only [List.length_take, List.length_drop, List.length_set, List.length_append, List.length_cons, List.length_nil]; omega))) ?_
    refine wl_v rfl rfl (ov_fieldAddr _ ((ad13).add ((q_ : Int).toNat * 2 + 1)) _ rfl fo51_1 (by first | exact Deep.add_add _ _ _ | (rw [Deep.add_add]) | rfl)) ?_
    obtain ⟨cl24, _, hk23, hc22⟩ := Sx.C_cells (((fun cs_ w_ h_ => (hB cs_ w_ h_).row.2) [_, _] _ h)) (z := zNdH) (k := (q_ : Int).toNat) (by first | assumption | omega | (simp only [List.length_set, List.length_append, List.length_cons, List.length_nil]; omega))
    obtain rfl := kNd_open hk23
    refine wl_v rfl rfl (ov_load1 _ _ rfl sh36 ((hc22 1 _ rfl))) ?_
    obtain ⟨hl1_, hl2_⟩ : ((NL).getD (q_ : Int).toNat zNdH).h.n = (T.getD q_.toNat zNd).lv.length ∧ ∀ cs w, Sx.St w0 F0 (cs ++ R) w → (Kd.int .i64).C w ((NL).getD (q_ : Int).toNat zNdH).h.A ((NL).getD (q_ : Int).toNat zNdH).h.n (T.getD q_.toNat zNd).lv := ⟨(rel_lv hrel hw_.2.1 (hB [_, _] _ h).lv).1, fun cs_ w_ h_ => (rel_lv hrel hw_.2.1 (hB cs_ w_ h_).lv).2⟩
    generalize ((NL).getD (q_ : Int).toNat zNdH).h = hd25 at hl1_ hl2_ ⊢
    obtain ⟨LA, ln, lc⟩ := hd25
    replace hl1_ : ln = (T.getD q_.toNat zNd).lv.length := hl1_
    subst hl1_
    replace hl2_ : ∀ cs w, Sx.St w0 F0 (cs ++ R) w → (Kd.int .i64).C w LA (T.getD q_.toNat zNd).lv.length (T.getD q_.toNat zNd).lv := hl2_
    refine wl_v rfl rfl (ov_len _ _ _ _ _ rfl es36) ?_
    refine wl_v rfl rfl (ov_move _ rfl) ?_
    refine wl_nil ?_
    refine qn_then ?_
    refine wc_block ?_
    have hJi_ := hJ
    replace h := st_front 1 h
    replace h := st_front 1 h
    refine wc_loop (fun (x_ : Nat × (Option Addr) × (Option Addr) × (List Int) × (Option Addr)) => [(0, .pointer (some ⟨g, 0, none⟩)), (5, .slice (x_.2.1) ((rowOf word).length) (cp8)), (6, .slice (x_.2.2.1) ((x_.2.2.2.1).length) (cp10)), (7, .int .i64 (((fr : Nat) : Int))), (8, .int .i64 (((q_.toNat : Nat) : Int))), (9, .int .i64 (((k : Nat) : Int))), (25, .int .i64 ((((rowOf word).length : Nat) : Int))), (26, .int .i64 (((fr : Nat) : Int))), (62, .slice (x_.2.2.2.2) ((T.getD q_.toNat zNd).lv.length) (lc)), (63, .int .i64 ((((T.getD q_.toNat zNd).lv.length : Nat) : Int))), (64, .int .i64 (((x_.1 : Nat) : Int)))]) (fun (x_ : Nat × (Option Addr) × (Option Addr) × (List Int) × (Option Addr)) (w : World) => (lvPut (List.drop x_.1 (T.getD q_.toNat zNd).lv) (fr + x_.1) x_.2.2.2.1 = lvPut (T.getD q_.toNat zNd).lv fr ou ∧ (x_.2.2.2.1).length = (rowOf word).length + 1 ∧ x_.1 ≤ (T.getD q_.toNat zNd).lv.length ∧ (∀ cs w, Sx.St w0 F0 (cs ++ R) w → (Kd.int .i64).C w (x_.2.2.2.2) (T.getD q_.toNat zNd).lv.length (T.getD q_.toNat zNd).lv)) ∧ Sx.St w0 F0 ([Sx.row (Kd.int .i32) 21 (x_.2.1) (cp8) ((rowOf word)), Sx.row (Kd.int .i64) 3 (x_.2.2.1) (cp10) (x_.2.2.2.1)] ++ R) w) (fun (x_ : Nat × (Option Addr) × (Option Addr) × (List Int) × (Option Addr)) => (T.getD q_.toNat zNd).lv.length - x_.1) (0, some ad17, A2, ou, LA) ?_ ?_ ?_
    · exact ⟨rfl, rfl, rfl, rfl, (congrArg (fun z_ => some (Value.int .i64 z_)) (show (q_ : Int) = ((q_.toNat : Nat) : Int) by show (q_ : Int) = ((q_.toNat : Nat) : Int); omega)), rfl, rfl, rfl, rfl, rfl, (congrArg (fun z_ => some (Value.int .i64 z_)) (show (0 : Int) = ((0 : Nat) : Int) by omega)), trivial⟩
    · exact ⟨⟨rfl, hJ.2.1, Nat.zero_le _, hl2_⟩, h⟩
    rintro ⟨j, A, A2, o, LA⟩ w h
    obtain ⟨hJ, h⟩ := h
    replace hJ : lvPut (List.drop j (T.getD q_.toNat zNd).lv) (fr + j) o = lvPut (T.getD q_.toNat zNd).lv fr ou ∧ (o).length = (rowOf word).length + 1 ∧ j ≤ (T.getD q_.toNat zNd).lv.length ∧ (∀ cs w, Sx.St w0 F0 (cs ++ R) w → (Kd.int .i64).C w (LA) (T.getD q_.toNat zNd).lv.length (T.getD q_.toNat zNd).lv) := hJ
    replace h : Sx.St w0 F0 ([Sx.row (Kd.int .i32) 21 (A) (cp8) ((rowOf word)), Sx.row (Kd.int .i64) 3 (A2) (cp10) (o)] ++ R) w := h
    show Sx.WC _ _ _ _ [(0, .pointer (some ⟨g, 0, none⟩)), (5, .slice (A) ((rowOf word).length) (cp8)), (6, .slice (A2) ((o).length) (cp10)), (7, .int .i64 (((fr : Nat) : Int))), (8, .int .i64 (((q_.toNat : Nat) : Int))), (9, .int .i64 (((k : Nat) : Int))), (25, .int .i64 ((((rowOf word).length : Nat) : Int))), (26, .int .i64 (((fr : Nat) : Int))), (62, .slice (LA) ((T.getD q_.toNat zNd).lv.length) (lc)), (63, .int .i64 ((((T.getD q_.toNat zNd).lv.length : Nat) : Int))), (64, .int .i64 (((j : Nat) : Int)))] _
    refine wc_seq ?_
    refine wc_region ?_
    refine wl_v rfl rfl (ov_bin _ rfl rfl (binR_lss)) ?_
    refine wl_nil ?_
    refine qn_then ?_
    refine wc_seq ?_
    refine wc_cond (by rfl) (fun c26 => ?_) (fun c26 => ?_)
    ·
     refine wc_skip ?_
     refine qn_then ?_
     refine wc_seq ?_
     refine wc_block ?_
     refine wc_seq ?_
     refine wc_region ?_
     refine wl_v rfl rfl (ov_move _ rfl) ?_
     obtain ⟨ad27, rfl⟩ := Sx.C_some ((hJ.2.2.2 [_, _] _ h)) (k := (j : Nat)) (by first | assumption | omega | (simp only [List.length_set, List.length_append, List.length_cons, List.length_nil]; omega))
     refine wl_v rfl rfl (ov_indexAddrN _ _ _ _ _ (j : Nat) rfl rfl es36 rfl (by first | assumption | omega | (simp only [List.length_take, List.length_drop, List.length_set, List.length_append, List.length_cons, List.length_nil]; omega))) ?_
     obtain ⟨cl30, _, hk29, hc28⟩ := Sx.C_cells ((hJ.2.2.2 [_, _] _ h)) (z := (0 : Int)) (k := (j : Nat)) (by first | assumption | omega | (simp only [List.length_set, List.length_append, List.length_cons, List.length_nil]; omega))
     obtain rfl : cl30 = [.int .i64 _] := hk29
     refine wl_v rfl rfl (ov_load1 _ _ rfl sh3 ((hc28 0 _ rfl))) ?_
     refine wl_v rfl rfl (ov_assign _ rfl) ?_
     refine wl_v rfl rfl (ov_assign _ rfl) ?_
     refine wl_nil ?_
     refine qn_then ?_
     refine wc_region ?_
     refine wl_v rfl rfl (ov_move _ rfl) ?_
     refine wl_v rfl rfl (ov_move _ rfl) ?_
     refine wl_v rfl rfl (ov_move _ rfl) ?_
     refine wl_v rfl rfl (ov_bin _ rfl rfl (binR_add (r := (((fr : Nat) : Int)) + (((j : Nat) : Int))) (Sx.w64 (by omega)))) ?_
     refine wl_v rfl rfl (ov_move _ rfl) ?_
     refine wl_v rfl rfl (ov_move _ rfl) ?_
     refine wl_v rfl rfl (ov_move _ rfl) ?_
     refine wl_v rfl rfl (ov_bin _ rfl rfl (binR_add (r := (((fr : Nat) : Int)) + (((j : Nat) : Int))) (Sx.w64 (by omega)))) ?_
     obtain ⟨ad31, rfl⟩ := Sx.C_some ((Sx.row_reads h (i := 1) rfl).2) (k := (((fr : Nat)) + ((j : Nat)))) (by first | assumption | omega | (simp only [List.length_set, List.length_append, List.length_cons, List.length_nil]; omega))
     refine wl_v rfl rfl (ov_indexAddrN _ _ _ _ _ (((fr : Nat)) + ((j : Nat))) rfl rfl es36 (by omega) (by first | assumption | omega | (simp only [List.length_take, List.length_drop, List.length_set, List.length_append, List.length_cons, List.length_nil]; omega))) ?_
     obtain ⟨cl34, _, hk33, hc32⟩ := Sx.C_cells ((Sx.row_reads h (i := 1) rfl).2) (z := (0 : Int)) (k := (((fr : Nat)) + ((j : Nat)))) (by first | assumption | omega | (simp only [List.length_set, List.length_append, List.length_cons, List.length_nil]; omega))
     obtain rfl : cl34 = [.int .i64 _] := hk33
     refine wl_v rfl rfl (ov_load1 _ _ rfl sh3 ((hc32 0 _ rfl))) ?_
     refine wl_v rfl rfl (ov_move _ rfl) ?_
     refine wl_v rfl rfl (ov_max _ _ _ (max ((o).getD (((fr : Nat)) + ((j : Nat))) (0 : Int)) (((T.getD q_.toNat zNd).lv).getD (j : Nat) (0 : Int))) rfl rfl rfl) ?_
     refine wl_v rfl rfl (ov_indexAddrN _ _ _ _ _ (((fr : Nat)) + ((j : Nat))) rfl rfl es36 (by omega) (by first | assumption | omega | (simp only [List.length_take, List.length_drop, List.length_set, List.length_append, List.length_cons, List.length_nil]; omega))) ?_
     refine wl_storeeN 1 (((fr : Nat)) + ((j : Nat))) 0 (.int .i64 (max ((o).getD (((fr : Nat)) + ((j : Nat))) (0 : Int)) (((T.getD q_.toNat zNd).lv).getD (j : Nat) (0 : Int)))) [.int .i64 (max ((o).getD (((fr : Nat)) + ((j : Nat))) (0 : Int)) (((T.getD q_.toNat zNd).lv).getD (j : Nat) (0 : Int)))] (0 : Int) (max ((o).getD (((fr : Nat)) + ((j : Nat))) (0 : Int)) (((T.getD q_.toNat zNd).lv).getD (j : Nat) (0 : Int))) h rfl rfl rfl (by first | rfl | simp) rfl rfl (by simp [Value.oneCell']) szf3 (by first | assumption | omega | (simp only [List.length_set, List.length_append, List.length_cons, List.length_nil]; omega)) (Nat.le_of_ble_eq_true rfl) (by intro cl hcl hM; obtain ⟨_, _, _, hM⟩ := hM; obtain rfl : cl = [.int .i64 _] := hM; intro _ _ _; exact (Sx.mkInt .i64 (max ((o).getD (((fr : Nat)) + ((j : Nat))) (0 : Int)) (((T.getD q_.toNat zNd).lv).getD (j : Nat) (0 : Int))))) (fun _ h => ?_)
     refine wl_nil ?_
     refine qn_block_normal ?_
     refine qn_then ?_
     refine wc_region ?_
     refine wl_v rfl rfl (ov_bin _ rfl rfl (binR_add (r := (((j : Nat) : Int)) + 1) (Sx.w64 (by omega)))) ?_
     refine wl_v rfl rfl (ov_move _ rfl) ?_
     refine wl_nil ?_
     replace h := st_front 1 h
     replace h := st_front 1 h
     refine qn_next ((j + 1), A, some ad31, ((o).set (((fr : Nat)) + ((j : Nat))) (max ((o).getD (((fr : Nat)) + ((j : Nat))) (0 : Int)) (((T.getD q_.toNat zNd).lv).getD (j : Nat) (0 : Int)))), (some ad27)) (by show (T.getD q_.toNat zNd).lv.length - (j + 1) < (T.getD q_.toNat zNd).lv.length - j; omega) ⟨rfl, rfl, (congrArg (fun z_ => some (Value.slice (some ad31) z_ (cp10))) (show ((o).length : Nat) = (((o).set (((fr : Nat)) + ((j : Nat))) (max ((o).getD (((fr : Nat)) + ((j : Nat))) (0 : Int)) (((T.getD q_.toNat zNd).lv).getD (j : Nat) (0 : Int))))).length by first | rfl | simp)), rfl, rfl, rfl, rfl, rfl, (congrArg (fun z_ => some (Value.slice (some ad27) z_ (lc))) (show ((T.getD q_.toNat zNd).lv.length : Nat) = (T.getD q_.toNat zNd).lv.length by first | rfl | simp)), rfl, (congrArg (fun z_ => some (Value.int .i64 z_)) (show ((((j : Nat) : Int)) + 1 : Int) = (((j + 1) : Nat) : Int) by omega)), trivial⟩ ?_
     show (lvPut (List.drop (j + 1) (T.getD q_.toNat zNd).lv) (fr + (j + 1)) ((o).set (((fr : Nat)) + ((j : Nat))) (max ((o).getD (((fr : Nat)) + ((j : Nat))) (0 : Int)) (((T.getD q_.toNat zNd).lv).getD (j : Nat) (0 : Int)))) = lvPut (T.getD q_.toNat zNd).lv fr ou ∧ (((o).set (((fr : Nat)) + ((j : Nat))) (max ((o).getD (((fr : Nat)) + ((j : Nat))) (0 : Int)) (((T.getD q_.toNat zNd).lv).getD (j : Nat) (0 : Int))))).length = (rowOf word).length + 1 ∧ (j + 1) ≤ (T.getD q_.toNat zNd).lv.length ∧ (∀ cs w, Sx.St w0 F0 (cs ++ R) w → (Kd.int .i64).C w ((some ad27)) (T.getD q_.toNat zNd).lv.length (T.getD q_.toNat zNd).lv)) ∧ _
     have e_ := hJ.1
     rw [drop_get (T.getD q_.toNat zNd).lv 0 (by omega), lvPut] at e_
     exact ⟨⟨e_, by rw [List.length_set]; exact hJ.2.1, by omega, hJ.2.2.2⟩, h⟩
    ·
     have hpo_ : lvPut (T.getD q_.toNat zNd).lv fr ou = o := by
       have e_ := hJ.1
       rw [List.drop_eq_nil_of_le (by omega), lvPut] at e_
       exact e_.symm
     refine wc_exit ?_
     refine qn_then_exit ?_
     refine qn_then_exit ?_
     refine qn_block_exit ?_
     refine qn_block_normal ?_
     refine qn_then ?_
     refine wc_region ?_
     refine wl_v rfl rfl (ov_move _ rfl) ?_
     refine wl_v rfl rfl (ov_bin _ rfl rfl (binR_add (r := (((k : Nat) : Int)) + 1) (Sx.w64 (by omega)))) ?_
     refine wl_v rfl rfl (ov_assign _ rfl) ?_
     refine wl_nil ?_
     replace h := st_front 1 h
     replace h := st_front 1 h
     refine qn_next ((k + 1), q_.toNat, A, A2, (o)) (by show (rowOf word).length - (k + 1) < (rowOf word).length - k; omega) ⟨rfl, rfl, (congrArg (fun z_ => some (Value.slice (A2) z_ (cp10))) (show ((o).length : Nat) = ((o)).length by first | rfl | simp)), rfl, (congrArg (fun z_ => some (Value.int .i64 z_)) (show (((q_.toNat : Nat) : Int) : Int) = ((q_.toNat : Nat) : Int) by omega)), (congrArg (fun z_ => some (Value.int .i64 z_)) (show ((((k : Nat) : Int)) + 1 : Int) = (((k + 1) : Nat) : Int) by omega)), rfl, rfl, trivial⟩ ?_
     show (lvGo T fr (List.drop (k + 1) (rowOf word)) q_.toNat (o) = lvGo T fr (List.drop fr (rowOf word)) 0 out ∧ ((o)).length = (rowOf word).length + 1 ∧ (fr ≤ (k + 1) ∧ (k + 1) ≤ (rowOf word).length ∧ q_.toNat < T.length) ∧ (pth q_.toNat).length = (k + 1) - fr) ∧ _
     have e_ := hJi_.1
     rw [drop_get (rowOf word) 0 (by omega), lvGo, hq_] at e_
     replace e_ : lvGo T fr (List.drop (k + 1) (rowOf word)) q_.toNat (lvPut (T.getD q_.toNat zNd).lv fr ou) = _ := e_
     rw [hpo_] at e_
     exact ⟨⟨e_, hJ.2.1, ⟨by omega, by omega, by omega⟩, by rw [hw_.2.2, List.length_append, hJi_.2.2.2]; simp only [List.length_cons, List.length_nil]; omega⟩, h⟩
  ·
   have hgo_ : lvGo T fr (List.drop fr (rowOf word)) 0 out = ou := by
     have e_ := hJ.1
     rw [List.drop_eq_nil_of_le (by omega), lvGo] at e_
     exact e_.symm
   refine wc_exit ?_
   refine qn_then_exit ?_
   refine qn_then_exit ?_
   refine qn_block_exit ?_
   refine qn_block_normal ?_
   refine qn_then ?_
   refine wc_region ?_
   refine wl_v rfl rfl (ov_bin _ rfl rfl (binR_add (r := (((fr : Nat) : Int)) + 1) (Sx.w64 (by omega)))) ?_
   refine wl_v rfl rfl (ov_move _ rfl) ?_
   refine wl_nil ?_
   replace h := st_front 1 h
   replace h := st_front 1 h
   refine qn_next ((fr + 1), A, A2, (ou)) (by show (rowOf word).length - (fr + 1) < (rowOf word).length - fr; omega) ⟨rfl, rfl, (congrArg (fun z_ => some (Value.slice (A2) z_ (cp10))) (show ((ou).length : Nat) = ((ou)).length by first | rfl | simp)), rfl, (congrArg (fun z_ => some (Value.int .i64 z_)) (show ((((fr : Nat) : Int)) + 1 : Int) = (((fr + 1) : Nat) : Int) by omega)), trivial⟩ ?_
   show (lvAll T (List.drop (fr + 1) (rowOf word)) (fr + 1) (ou) = lvAll T (rowOf word) 0 (List.replicate (word.length + 3) 0) ∧ ((ou)).length = (rowOf word).length + 1 ∧ (fr + 1) ≤ (rowOf word).length) ∧ _
   have e_ := hJo_.1
   rw [drop_get (rowOf word) 0 (by omega), lvAll, ← drop_get (rowOf word) 0 (by omega)] at e_
   rw [hgo_] at e_
   exact ⟨⟨e_, hJ.2.1, by omega⟩, h⟩
 ·
  refine wc_exit ?_
  refine qn_then_exit ?_
  refine qn_then_exit ?_
  refine qn_block_exit ?_
  refine qn_then ?_
  refine wc_seq ?_
  refine wc_region ?_
  refine wl_v rfl rfl (ov_move _ rfl) ?_
  refine wl_v rfl rfl (ov_move _ rfl) ?_
  refine wl_v rfl rfl (ov_len _ _ _ _ _ rfl es36) ?_
  refine wl_v rfl rfl (ov_bin _ rfl rfl (binR_sub (r := ((((out).length : Nat) : Int)) - 1) (Sx.w64 (by omega)))) ?_
  have hcap35 := (Sx.row_reads h (i := 1) rfl).1
  obtain ⟨A36, hA37⟩ : ∃ A_, (if cp10 = 1 then A2 else Option.map (·.add (1 * 1)) (A2)) = A_ := ⟨_, rfl⟩
  refine wl_v rfl rfl (ov_slice _ _ _ 1 ((((out).length) - 1)) (by rfl) (by exact ⟨_, _, rfl, rfl⟩) (by exact ⟨_, _, rfl, (by omega)⟩) es36 (by omega) (by omega) hA37 (n' := (((out).take ((((out).length) - 1))).drop 1).length) (by simp only [List.length_drop, List.length_take]; omega)) ?_
  refine wl_v rfl rfl (ov_assign _ rfl) ?_
  refine wl_nil ?_
  refine qn_then ?_
  refine wc_ret ?_
  replace h := st_front 1 h
  replace h := st_selT [true, false] h
  refine qn_ret [_] ⟨rfl, trivial⟩ ?_
  have e_ := hJ.1
  rw [List.drop_eq_nil_of_le (by omega), lvAll] at e_
  have h2_ := hlib_mid (cp10 - 1) (lo := 1) (hi := (out.length - 1)) h (by omega) (by omega) hA37
  have e2_ : (out.take (out.length - 1)).drop 1 = levelsV T word := by
    unfold levelsV
    rw [← e_, show (out.length - 1) = word.length + 2 by omega]
  rw [e2_] at h2_ ⊢
  exact ⟨A36, cp10 - 1, rfl, h2_⟩
set_option maxHeartbeats 4000000 in
set_option maxRecDepth 100000 in
theorem Points_calls {w0 w : World} {F0 : Nat → Prop} {R : List Sx.HP} (g : Nat) (lf rt : Int) (D : BD) (T : List Nd) (pth : Nat → List Int) (kn : ByteArray → Option (List Int)) (s : ByteArray) (hB : ∀ cs w, Sx.St w0 F0 (cs ++ R) w → BookAt w g lf rt D) (hrel : Rel D.NL D.φ D.HL T) (hwf : WfT T pth) (h0 : 0 < T.length) (hkn : RelK D.KL D.HK kn) (hlr : (1 ≤ lf ∧ lf ≤ 100) ∧ (1 ≤ rt ∧ rt ≤ 100)) (hpl : ∀ y l, kn y = some l → l.length ≤ 1000000000000) (hs : s.size ≤ 1000000000) (h : Sx.St w0 F0 ([] ++ R) w) : Calls Try.prog 15 #[.pointer (some ⟨g, 0, none⟩), .string (s)] w (fun e w1 => ∃ A c, e = .returned (.slice A (pointsV T kn lf rt s).length c) ∧ Sx.St w0 F0 ([Sx.row (Kd.int .i64) 3 (A) (c) ((pointsV T kn lf rt s))] ++ R) w1) := by
 obtain ⟨DA, dc, gk, NL, φ, HL, KL, HK⟩ := D
 replace hrel : Rel NL φ HL T := hrel
 have hrl_ : NL.length = T.length := hrel.1
 replace hkn : RelK KL HK kn := hkn
 refine Sx.calls_fn (vs := [.pointer (some ⟨g, 0, none⟩), .string (s)]) Try.func15 rfl Try.ntmps15 rfl ?_
 refine wc_seq ?_
 refine wc_region ?_
 refine wl_v rfl rfl (ov_assign _ rfl) ?_
 refine wl_nil ?_
 refine qn_then ?_
 refine wc_seq ?_
 refine wc_seq ?_
 refine wc_region ?_
 refine wl_v rfl rfl (ov_move _ rfl) ?_
 refine wl_v rfl rfl (ov_lens _ rfl Try.underlying9) ?_
 refine wl_v rfl rfl (ov_bin _ rfl rfl (binR_gtr)) ?_
 refine wl_v rfl rfl (ov_move _ rfl) ?_
 refine wl_split 19 rfl (fun c1 => ?_) (fun c1 => ?_)
 ·
  refine wl_skip rfl rfl ?_
  refine wl_skip rfl rfl ?_
  refine wl_skip rfl rfl ?_
  refine wl_v rfl rfl (ov_pick_true _ rfl rfl) ?_
  refine wl_nil ?_
  refine qn_then ?_
  refine wc_cond_true rfl ?_
  refine wc_seq ?_
  refine wc_region ?_
  refine wl_v rfl rfl (ov_assign _ rfl) ?_
  refine wl_nil ?_
  refine qn_then ?_
  refine wc_ret ?_
  refine qn_then_ret ?_
  replace h := st_nilrow (Kd.int .i64) 3 h
  refine qn_ret [_] ⟨rfl, trivial⟩ ?_
  rw [show pointsV T kn lf rt s = [] from pointsV_no (by omega)]
  exact ⟨none, 0, rfl, h⟩
 ·
  refine wl_v rfl rfl (ov_move _ rfl) ?_
  refine wl_call _ rfl rfl rfl ent32 (RN.Bad_calls (R := [] ++ R) s (by omega) h) ?_
  rintro e_ w_ ⟨rfl, h⟩
  refine ⟨_, rfl, ?_⟩
  refine wl_v rfl rfl (ov_bin _ rfl rfl (binR_geq)) ?_
  refine wl_v rfl rfl (ov_pick_false _ rfl rfl) ?_
  refine wl_nil ?_
  refine qn_then ?_
  refine wc_cond (by rfl) (fun c2 => ?_) (fun c2 => ?_)
  ·
   refine wc_seq ?_
   refine wc_region ?_
   refine wl_v rfl rfl (ov_assign _ rfl) ?_
   refine wl_nil ?_
   refine qn_then ?_
   refine wc_ret ?_
   refine qn_then_ret ?_
   replace h := st_nilrow (Kd.int .i64) 3 h
   refine qn_ret [_] ⟨rfl, trivial⟩ ?_
   rw [show pointsV T kn lf rt s = [] from pointsV_no (by omega)]
   exact ⟨none, 0, rfl, h⟩
  ·
   refine wc_skip ?_
   refine qn_then ?_
   refine wc_seq ?_
   refine wc_region ?_
   refine wl_v rfl rfl (ov_assign _ rfl) ?_
   refine wl_nil ?_
   refine qn_then ?_
   refine wc_seq ?_
   refine wc_region ?_
   refine wl_v rfl rfl (ov_assign _ rfl) ?_
   refine wl_nil ?_
   refine qn_then ?_
   refine wc_seq ?_
   refine wc_seq ?_
   refine wc_region ?_
   refine wl_v rfl rfl (ov_move _ rfl) ?_
   refine wl_range _ h rfl rfl rfl Try.underlying9 (fun b3 _ h => ?_)
   refine wl_nil ?_
   refine qn_then ?_
   refine wc_block ?_
   replace h := st_nilrow (Kd.int .i32) 21 (st_nilrow (Kd.int .u8) 5 h)
   replace h := st_front 1 h
   replace h := st_front 1 h
   replace h := st_front 2 h
   refine wc_loop (fun (x_ : Nat × (List (Int × Int)) × (Option Addr) × Nat × (Option Addr) × Nat × (List Int)) => [(0, .pointer (some ⟨g, 0, none⟩)), (1, .string (s)), (5, .slice (x_.2.2.1) ((x_.2.2.2.2.2.2.map lowV).length) (x_.2.2.2.1)), (6, .slice (x_.2.2.2.2.1) ((flatB (x_.2.2.2.2.2.2.map lowV)).length) (x_.2.2.2.2.2.1)), (25, .pointer (some ⟨b3, 0, none⟩))]) (fun (x_ : Nat × (List (Int × Int)) × (Option Addr) × Nat × (Option Addr) × Nat × (List Int)) (w : World) => (Par s ((x_.1 : Nat) : Int) x_.2.1 s.size ∧ runesL s = x_.2.2.2.2.2.2 ++ runesOf x_.2.1 ∧ (∀ x ∈ x_.2.2.2.2.2.2, LetP x) ∧ (x_.2.2.2.2.2.2.length ≤ x_.1 ∧ (flatB (x_.2.2.2.2.2.2.map lowV)).length ≤ 4 * x_.1)) ∧ Sx.St w0 F0 ([Sx.siter b3 (s) (x_.1), Sx.row (Kd.int .i32) 21 (x_.2.2.1) (x_.2.2.2.1) ((x_.2.2.2.2.2.2.map lowV)), Sx.row (Kd.int .u8) 5 (x_.2.2.2.2.1) (x_.2.2.2.2.2.1) ((flatB (x_.2.2.2.2.2.2.map lowV)))] ++ R) w) (fun (x_ : Nat × (List (Int × Int)) × (Option Addr) × Nat × (Option Addr) × Nat × (List Int)) => s.size - x_.1) (0, (refV s).1, none, 0, none, 0, []) ?_ ?_ ?_
   · exact ⟨rfl, rfl, rfl, rfl, rfl, trivial⟩
   · exact ⟨⟨bad_par (by omega), rfl, (fun x_ hx_ => by cases hx_), Nat.le_refl _, Nat.le_refl _⟩, h⟩
   rintro ⟨p, rest, A, c, A2, c2, dn⟩ w h
   obtain ⟨hJ, h⟩ := h
   replace hJ : Par s ((p : Nat) : Int) rest s.size ∧ runesL s = dn ++ runesOf rest ∧ (∀ x ∈ dn, LetP x) ∧ (dn.length ≤ p ∧ (flatB (dn.map lowV)).length ≤ 4 * p) := hJ
   replace h : Sx.St w0 F0 ([Sx.siter b3 (s) (p), Sx.row (Kd.int .i32) 21 (A) (c) ((dn.map lowV)), Sx.row (Kd.int .u8) 5 (A2) (c2) ((flatB (dn.map lowV)))] ++ R) w := h
   show Sx.WC _ _ _ _ [(0, .pointer (some ⟨g, 0, none⟩)), (1, .string (s)), (5, .slice (A) ((dn.map lowV).length) (c)), (6, .slice (A2) ((flatB (dn.map lowV)).length) (c2)), (25, .pointer (some ⟨b3, 0, none⟩))] _
   have hdl_ : (dn.map lowV).length = dn.length := List.length_map ..
   refine wc_seq ?_
   refine wc_region ?_
   refine wl_next (i := 0) h rfl rfl rfl rfl (fun c4 _ h => ?_) (fun c4 _ h => ?_)
   ·
    have hple_ := par_le hJ.1
    obtain ⟨r, l, rfl, hok_, hr_, hd1_, hd2_, hpar_, hby_⟩ := par_next hJ.1 c4
    rw [hr_]
    refine wl_v rfl rfl (ov_extract [.bool true, .int .i64 ((((p : Nat)) : Int)), .int .i32 (r)] _ rfl rfl) ?_
    refine wl_nil ?_
    refine qn_then ?_
    refine wc_seq ?_
    refine wc_cond_true rfl ?_
    refine wc_skip ?_
    refine qn_then ?_
    refine wc_block ?_
    refine wc_seq ?_
    refine wc_region ?_
    refine wl_v rfl rfl (ov_extract [.bool true, .int .i64 ((((p : Nat)) : Int)), .int .i32 (r)] _ rfl rfl) ?_
    refine wl_v rfl rfl (ov_assign _ rfl) ?_
    refine wl_nil ?_
    refine qn_then ?_
    refine wc_seq ?_
    refine wc_seq ?_
    refine wc_region ?_
    refine wl_v rfl rfl (ov_move _ rfl) ?_
    refine wl_call _ rfl rfl rfl ent33 (LT.hLetter_calls (R := [Sx.siter b3 (s) (p + (Utf8.decode (s) (p)).2), Sx.row (Kd.int .i32) 21 (A) (c) ((dn.map lowV)), Sx.row (Kd.int .u8) 5 (A2) (c2) ((flatB (dn.map lowV)))] ++ R) r (by omega) (by omega) h) ?_
    rintro e_ w_ ⟨rfl, h⟩
    refine ⟨_, rfl, ?_⟩
    refine wl_v rfl rfl (ov_not _ (¬ (LetP r)) rfl (by first | exact decide_not.symm | simp)) ?_
    refine wl_nil ?_
    refine qn_then ?_
    refine wc_cond (by rfl) (fun c5 => ?_) (fun c5 => ?_)
    ·
     refine wc_seq ?_
     refine wc_region ?_
     refine wl_v rfl rfl (ov_assign _ rfl) ?_
     refine wl_nil ?_
     refine qn_then ?_
     refine wc_ret ?_
     refine qn_then_ret ?_
     refine qn_block_ret ?_
     refine qn_then_ret ?_
     refine qn_block_ret ?_
     refine qn_then_ret ?_
     replace h := st_nilrow (Kd.int .i64) 3 h
     replace h := st_selT [true, false, false, false] h
     refine qn_ret [_] ⟨rfl, trivial⟩ ?_
     rw [show pointsV T kn lf rt s = [] from pointsV_not (r := r) (by rw [hJ.2.1]; exact List.mem_append_right _ List.mem_cons_self) (by assumption)]
     exact ⟨none, 0, rfl, h⟩
    ·
     refine wc_skip ?_
     refine qn_then ?_
     refine wc_seq ?_
     refine wc_region ?_
     refine wl_v rfl rfl (ov_move _ rfl) ?_
     refine wl_v rfl rfl (ov_move _ rfl) ?_
     refine wl_call _ rfl rfl rfl ent34 (LT.hLower_calls (R := [Sx.siter b3 (s) (p + (Utf8.decode (s) (p)).2), Sx.row (Kd.int .i32) 21 (A) (c) ((dn.map lowV)), Sx.row (Kd.int .u8) 5 (A2) (c2) ((flatB (dn.map lowV)))] ++ R) r (by omega) (by omega) h) ?_
     rintro e_ w_ ⟨rfl, h⟩
     refine ⟨_, rfl, ?_⟩
     have hlb6 := lowV_bd r
     refine wl_lit (d := (Kd.int .i32)) [(0, .int .i32 (lowV r))] _ [.int .i32 (lowV r)] ([lowV r]) h rfl rfl rfl rfl Try.underlying56 infb21 rfl (by decide) (by kernel_rfl) rfl (fun _ _ _ => ((Reps.none _ _).snoc ((Sx.mkInt .i32 (lowV r))) rfl)) (fun A7 cp8 _ h => ?_)
     refine wl_append (d := (Kd.int .i32)) (L := (dn.map lowV)) 2 _ 4 _ _ _ ([lowV r]) (Sx.flat_int _) h rfl rfl rfl rfl rfl ((Sx.row_reads h (i := 0) rfl).2) Try.underlying56 inf21 rfl (by decide) (by decide) (by first | omega | (simp only [List.length_cons, List.length_nil, List.length_append, List.length_set]; omega)) (by first | rfl | simp) (fun A9 cp10 _ h => ?_)
     replace h := st_selT [false, true, true, true] h
     refine wl_v rfl rfl (ov_assign _ rfl) ?_
     refine wl_nil ?_
     refine qn_then ?_
     refine wc_region ?_
     refine wl_v rfl rfl (ov_move _ rfl) ?_
     refine wl_v rfl rfl (ov_move _ rfl) ?_
     refine wl_call _ rfl rfl rfl ent34 (LT.hLower_calls (R := [Sx.siter b3 (s) (p + (Utf8.decode (s) (p)).2), Sx.row (Kd.int .i32) 21 (A9) (cp10) (((dn.map lowV)) ++ ([lowV r])), Sx.row (Kd.int .u8) 5 (A2) (c2) ((flatB (dn.map lowV)))] ++ R) r (by omega) (by omega) h) ?_
     rintro e_ w_ ⟨rfl, h⟩
     refine ⟨_, rfl, ?_⟩
     have hlb11 := lowV_bd r
     refine wl_call _ rfl rfl rfl ent35 (TX.Append_calls (R := [Sx.siter b3 (s) (p + (Utf8.decode (s) (p)).2), Sx.row (Kd.int .i32) 21 (A9) (cp10) (((dn.map lowV)) ++ ([lowV r])), Sx.row (Kd.int .u8) 5 (A2) (c2) ((flatB (dn.map lowV)))] ++ R) (A2) (c2) ((flatB (dn.map lowV))) (lowV r) (Sx.row_reads_at (R := [Sx.siter b3 (s) (p + (Utf8.decode (s) (p)).2), Sx.row (Kd.int .i32) 21 (A9) (cp10) (((dn.map lowV)) ++ ([lowV r])), Sx.row (Kd.int .u8) 5 (A2) (c2) ((flatB (dn.map lowV)))] ++ R) (j := 2) rfl) (by omega) h) ?_
     rintro e_ w_ ⟨Au12, cu12, rfl, h⟩
     refine ⟨_, rfl, ?_⟩
     have hblu12 := bytes_le (lowV r)
     replace h : Sx.St w0 F0 ([Sx.row (Kd.int .u8) 5 (Au12) (cu12) (((flatB (dn.map lowV)) ++ bytesV (lowV r))), Sx.siter b3 (s) (p + (Utf8.decode (s) (p)).2), Sx.row (Kd.int .i32) 21 (A9) (cp10) (((dn.map lowV)) ++ ([lowV r])), Sx.row (Kd.int .u8) 5 (A2) (c2) ((flatB (dn.map lowV)))] ++ R) _ := h
     replace h := st_selT [true, true, true, false] h
     refine wl_v rfl rfl (ov_assign _ rfl) ?_
     refine wl_nil ?_
     refine qn_block_normal ?_
     have e_ : ((dn.map lowV)) ++ ([lowV r]) = ((dn ++ [r]).map lowV) := by simp
     replace h := st_cast (congrArg (fun z_ => ([Sx.row (Kd.int .u8) 5 (Au12) (cu12) (((flatB (dn.map lowV)) ++ bytesV (lowV r))), Sx.siter b3 (s) (p + (Utf8.decode (s) (p)).2), Sx.row (Kd.int .i32) 21 (A9) (cp10) (z_)] ++ R)) e_) h
     clear e_
     have e_ : ((flatB (dn.map lowV)) ++ bytesV (lowV r)) = (flatB ((dn ++ [r]).map lowV)) := by rw [List.map_append]; exact (flatB_snoc _ _).symm
     replace h := st_cast (congrArg (fun z_ => ([Sx.row (Kd.int .u8) 5 (Au12) (cu12) (z_), Sx.siter b3 (s) (p + (Utf8.decode (s) (p)).2), Sx.row (Kd.int .i32) 21 (A9) (cp10) (((dn ++ [r]).map lowV))] ++ R)) e_) h
     clear e_
     replace h := st_front 2 h
     replace h := st_front 2 h
     refine qn_next ((p + (Utf8.decode s p).2), l, A9, cp10, Au12, cu12, (dn ++ [r])) (by show s.size - (p + (Utf8.decode s p).2) < s.size - p; omega) ⟨rfl, rfl, (congrArg (fun z_ => some (Value.slice (A9) z_ (cp10))) (by simp)), (congrArg (fun z_ => some (Value.slice (Au12) z_ (cu12))) (by rw [List.map_append]; exact congrArg List.length (flatB_snoc _ _).symm)), rfl, trivial⟩ ?_
     show (Par s (((p + (Utf8.decode s p).2) : Nat) : Int) l s.size ∧ runesL s = (dn ++ [r]) ++ runesOf l ∧ (∀ x ∈ (dn ++ [r]), LetP x) ∧ ((dn ++ [r]).length ≤ (p + (Utf8.decode s p).2) ∧ (flatB ((dn ++ [r]).map lowV)).length ≤ 4 * (p + (Utf8.decode s p).2))) ∧ _
     refine ⟨⟨hpar_, ?_, ?_, ?_⟩, h⟩
     · rw [hJ.2.1, List.append_assoc]; rfl
     · intro x_ hx_
       rcases List.mem_append.1 hx_ with hx_ | hx_
       · exact hJ.2.2.1 x_ hx_
       · rw [List.mem_singleton.1 hx_]; first | assumption | exact Classical.not_not.1 (by assumption)
     · refine ⟨?_, ?_⟩
       · simp only [List.length_append, List.length_cons, List.length_nil]; omega
       · rw [List.map_append, show [r].map lowV = [lowV r] from rfl, flatB_snoc, List.length_append]; omega
   ·
    have hple_ := par_le hJ.1
    obtain rfl := par_stop hJ.1 c4
    have hrs_ : runesL s = dn := by rw [hJ.2.1]; exact List.append_nil _
    have hpv_ : pointsV T kn lf rt s = wordPts T kn lf rt (dn.map lowV) := by rw [pointsV_yes (by omega) (by rw [hrs_]; exact hJ.2.2.1), hrs_]
    have hdl_ : (dn.map lowV).length = dn.length := List.length_map ..
    have hJw_ := hJ
    refine wl_v rfl rfl (ov_extract [.bool false] _ rfl rfl) ?_
    refine wl_nil ?_
    refine qn_then ?_
    refine wc_seq ?_
    refine wc_cond_false rfl ?_
    refine wc_exit ?_
    refine qn_then_exit ?_
    refine qn_then_exit ?_
    refine qn_block_exit ?_
    refine qn_then ?_
    refine wc_seq ?_
    refine wc_region ?_
    refine wl_v rfl rfl (ov_assign _ rfl) ?_
    refine wl_nil ?_
    refine qn_then ?_
    refine wc_seq ?_
    refine wc_seq ?_
    refine wc_draw (fun w => Sx.St w0 F0 ([Sx.siter b3 (s) (p), Sx.row (Kd.int .i32) 21 (A) (c) ((dn.map lowV)), Sx.row (Kd.int .u8) 5 (A2) (c2) ((flatB (dn.map lowV)))] ++ R) w) (by kernel_rfl) ?_
    replace h := st_drew h
    refine wa_tk 0 rfl rfl rfl (st_selT [true, true, true] h) (fun w_ hS => ov_move _ rfl) ?_
    refine wa_tk 1 rfl rfl rfl (st_selT [true, true, true] h) (fun w_ hS => ov_nilCheck _ rfl) ?_
    refine wa_tk 2 rfl rfl rfl (st_selT [true, true, true] h) (fun w_ hS => ov_fieldAddr _ ⟨g, 1, none⟩ _ rfl fo55_1 rfl) ?_
    refine wa_tk 3 rfl rfl rfl (st_selT [true, true, true] h) (fun w_ hS => ov_load1 ⟨g, 1, none⟩ _ rfl sh53 ((((hB [_, _, _] _ hS).cell) 1).trans rfl)) ?_
    refine wa_tk 4 rfl rfl rfl (st_selT [true, true, true] h) (fun w_ hS => ov_move _ rfl) ?_
    refine wa_tk 5 rfl rfl rfl (st_selT [true, true, true] h) (fun w_ hS => ov_string rfl ((Sx.row_reads hS (i := 2) rfl).2) Try.underlying40 Try.underlying5 Try.underlying9) ?_
    refine wa_tk 6 rfl rfl rfl (st_selT [true, true, true] h) (fun w_ hS => (ov_lookup (Sx.keyStr) (fun h_ : Sx.Hdr => Value.slice h_.A h_.n h_.c) (.slice (none) (0) (0)) gk (strOfNums ((flatB (dn.map lowV)))) (KL) (by exact congrArg (fun z_ => some (Value.map z_)) rfl) rfl Try.underlying53 Try.underlying9 zo36 (hB [_, _, _] _ hS).known).to (lkH _ _)) ?_
    refine wa_tk 7 rfl rfl rfl (st_selT [true, true, true] h) (fun w_ hS => ov_move _ rfl) ?_
    refine wa_tk 8 rfl rfl rfl (st_selT [true, true, true] h) (fun w_ hS => ov_extract [.slice (((Sx.lk KL (strOfNums ((flatB (dn.map lowV))))).getD ⟨none, 0, 0⟩).A) (((Sx.lk KL (strOfNums ((flatB (dn.map lowV))))).getD ⟨none, 0, 0⟩).n) (((Sx.lk KL (strOfNums ((flatB (dn.map lowV))))).getD ⟨none, 0, 0⟩).c), .bool ((Sx.lk (KL) (strOfNums ((flatB (dn.map lowV))))).isSome)] _ rfl rfl) ?_
    refine wa_tk 9 rfl rfl rfl (st_selT [true, true, true] h) (fun w_ hS => ov_extract [.slice (((Sx.lk KL (strOfNums ((flatB (dn.map lowV))))).getD ⟨none, 0, 0⟩).A) (((Sx.lk KL (strOfNums ((flatB (dn.map lowV))))).getD ⟨none, 0, 0⟩).n) (((Sx.lk KL (strOfNums ((flatB (dn.map lowV))))).getD ⟨none, 0, 0⟩).c), .bool ((Sx.lk (KL) (strOfNums ((flatB (dn.map lowV))))).isSome)] _ rfl rfl) ?_
    refine wa_tk 10 rfl rfl rfl (st_selT [true, true, true] h) (fun w_ hS => ov_assign _ rfl) ?_
    refine wa_tk 11 rfl rfl rfl (st_selT [true, true, true] h) (fun w_ hS => ov_assign _ rfl) ?_
    refine wa_done (by kernel_rfl) ?_
    refine qn_then ?_
    refine wc_seq ?_
    refine wc_region ?_
    refine wl_v rfl rfl (ov_move _ rfl) ?_
    refine wl_nil ?_
    refine qn_then ?_
    refine wc_condb (by rfl) (fun c13 => ?_) (fun c13 => ?_)
    ·
     obtain ⟨hd_, pts, q1_, q2_, q3_⟩ : ∃ h_ l_, Sx.lk KL (strOfNums ((flatB (dn.map lowV)))) = some h_ ∧ kn (strOfNums ((flatB (dn.map lowV)))) = some l_ ∧ (h_, l_) ∈ HK := (hkn (strOfNums ((flatB (dn.map lowV))))).resolve_left (fun z_ => by rw [z_.1] at c13; cases c13)
     rw [q1_]
     have hp1_ := ((hB [_, _, _] _ h).pts _ q3_).1
     have hp2_ : ∀ cs w, Sx.St w0 F0 (cs ++ R) w → (Kd.int .i64).C w hd_.A hd_.n pts := fun cs_ w_ h_ => ((hB cs_ w_ h_).pts _ q3_).2
     have hwp_ : wordPts T kn lf rt (dn.map lowV) = inGo lf rt (dn.map lowV).length pts := by unfold wordPts; rw [show flatB (dn.map lowV) = (flatB (dn.map lowV)) from rfl, q2_]
     have hpb_ : pts.length ≤ 1000000000000 := hpl _ _ q2_
     clear q3_
     obtain ⟨pA, pn, pc⟩ := hd_
     replace hp1_ : pn = pts.length := hp1_
     subst hp1_
     replace hp2_ : ∀ cs w, Sx.St w0 F0 (cs ++ R) w → (Kd.int .i64).C w pA pts.length pts := hp2_
     refine wc_seq ?_
     refine wc_seq ?_
     refine wc_region ?_
     refine wl_v rfl rfl (ov_move _ rfl) ?_
     refine wl_v rfl rfl (ov_len _ _ _ _ _ rfl es36) ?_
     refine wl_v rfl rfl (ov_move _ rfl) ?_
     refine wl_nil ?_
     refine qn_then ?_
     refine wc_block ?_
     replace h := st_nilrow (Kd.int .i64) 3 h
     replace h := st_front 2 h
     replace h := st_selT [true, true, false, false] h
     refine wc_loop (fun (x_ : Nat × (Option Addr) × Nat × (List Int) × (Option Addr)) => [(0, .pointer (some ⟨g, 0, none⟩)), (5, .slice (A) ((dn.map lowV).length) (c)), (9, .slice (x_.2.1) ((x_.2.2.2.1).length) (x_.2.2.1)), (52, .slice (x_.2.2.2.2) (pts.length) (pc)), (53, .int .i64 (((pts.length : Nat) : Int))), (54, .int .i64 (((x_.1 : Nat) : Int)))]) (fun (x_ : Nat × (Option Addr) × Nat × (List Int) × (Option Addr)) (w : World) => (x_.2.2.2.1 ++ inGo lf rt (dn.map lowV).length (List.drop x_.1 pts) = inGo lf rt (dn.map lowV).length pts ∧ x_.1 ≤ pts.length ∧ (x_.2.2.2.1).length ≤ x_.1 ∧ (∀ cs w, Sx.St w0 F0 (cs ++ R) w → (Kd.int .i64).C w (x_.2.2.2.2) pts.length pts)) ∧ Sx.St w0 F0 ([Sx.row (Kd.int .i32) 21 (A) (c) ((dn.map lowV)), Sx.row (Kd.int .i64) 3 (x_.2.1) (x_.2.2.1) (x_.2.2.2.1)] ++ R) w) (fun (x_ : Nat × (Option Addr) × Nat × (List Int) × (Option Addr)) => pts.length - x_.1) (0, none, 0, [], pA) ?_ ?_ ?_
     · exact ⟨rfl, rfl, (congrArg (fun z_ => some (Value.slice (none) z_ (0))) (show (0 : Nat) = ([]).length by first | rfl | simp)), rfl, rfl, (congrArg (fun z_ => some (Value.int .i64 z_)) (show (0 : Int) = ((0 : Nat) : Int) by omega)), trivial⟩
     · exact ⟨⟨rfl, Nat.zero_le _, Nat.le_refl _, hp2_⟩, h⟩
     rintro ⟨j, A3, c3, o, PA⟩ w h
     obtain ⟨hJ, h⟩ := h
     replace hJ : o ++ inGo lf rt (dn.map lowV).length (List.drop j pts) = inGo lf rt (dn.map lowV).length pts ∧ j ≤ pts.length ∧ (o).length ≤ j ∧ (∀ cs w, Sx.St w0 F0 (cs ++ R) w → (Kd.int .i64).C w (PA) pts.length pts) := hJ
     replace h : Sx.St w0 F0 ([Sx.row (Kd.int .i32) 21 (A) (c) ((dn.map lowV)), Sx.row (Kd.int .i64) 3 (A3) (c3) (o)] ++ R) w := h
     show Sx.WC _ _ _ _ [(0, .pointer (some ⟨g, 0, none⟩)), (5, .slice (A) ((dn.map lowV).length) (c)), (9, .slice (A3) ((o).length) (c3)), (52, .slice (PA) (pts.length) (pc)), (53, .int .i64 (((pts.length : Nat) : Int))), (54, .int .i64 (((j : Nat) : Int)))] _
     refine wc_seq ?_
     refine wc_region ?_
     refine wl_v rfl rfl (ov_bin _ rfl rfl (binR_lss)) ?_
     refine wl_nil ?_
     refine qn_then ?_
     refine wc_seq ?_
     refine wc_cond (by rfl) (fun c14 => ?_) (fun c14 => ?_)
     ·
      refine wc_skip ?_
      refine qn_then ?_
      refine wc_seq ?_
      refine wc_block ?_
      refine wc_seq ?_
      refine wc_region ?_
      obtain ⟨ad15, rfl⟩ := Sx.C_some ((hJ.2.2.2 [_, _] _ h)) (k := (j : Nat)) (by first | assumption | omega | (simp only [List.length_set, List.length_append, List.length_cons, List.length_nil]; omega))
      refine wl_v rfl rfl (ov_indexAddrN _ _ _ _ _ (j : Nat) rfl rfl es36 rfl (by first | assumption | omega | (simp only [List.length_take, List.length_drop, List.length_set, List.length_append, List.length_cons, List.length_nil]; omega))) ?_
      obtain ⟨cl18, _, hk17, hc16⟩ := Sx.C_cells ((hJ.2.2.2 [_, _] _ h)) (z := (0 : Int)) (k := (j : Nat)) (by first | assumption | omega | (simp only [List.length_set, List.length_append, List.length_cons, List.length_nil]; omega))
      obtain rfl : cl18 = [.int .i64 _] := hk17
      refine wl_v rfl rfl (ov_load1 _ _ rfl sh3 ((hc16 0 _ rfl))) ?_
      refine wl_v rfl rfl (ov_assign _ rfl) ?_
      refine wl_nil ?_
      refine qn_then ?_
      refine wc_seq ?_
      refine wc_region ?_
      refine wl_v rfl rfl (ov_move _ rfl) ?_
      refine wl_v rfl rfl (ov_move _ rfl) ?_
      refine wl_v rfl rfl (ov_nilCheck _ rfl) ?_
      refine wl_v rfl rfl (ov_fieldAddr _ ⟨g, 2, none⟩ _ rfl fo55_2 rfl) ?_
      refine wl_v rfl rfl (ov_load1 ⟨g, 2, none⟩ _ rfl sh3 ((((hB [_, _] _ h).cell) 2).trans rfl)) ?_
      refine wl_v rfl rfl (ov_bin _ rfl rfl (binR_geq)) ?_
      refine wl_v rfl rfl (ov_move _ rfl) ?_
      refine wl_split 64 rfl (fun c19 => ?_) (fun c19 => ?_)
      ·
       refine wl_v rfl rfl (ov_move _ rfl) ?_
       refine wl_v rfl rfl (ov_move _ rfl) ?_
       refine wl_v rfl rfl (ov_len _ _ _ _ _ rfl es56) ?_
       refine wl_v rfl rfl (ov_move _ rfl) ?_
       refine wl_v rfl rfl (ov_nilCheck _ rfl) ?_
       refine wl_v rfl rfl (ov_fieldAddr _ ⟨g, 3, none⟩ _ rfl fo55_3 rfl) ?_
       refine wl_v rfl rfl (ov_load1 ⟨g, 3, none⟩ _ rfl sh3 ((((hB [_, _] _ h).cell) 3).trans rfl)) ?_
       refine wl_v rfl rfl (ov_bin _ rfl rfl (binR_sub (r := ((((dn.map lowV).length : Nat) : Int)) - rt) (Sx.w64 (by omega)))) ?_
       refine wl_v rfl rfl (ov_bin _ rfl rfl (binR_leq)) ?_
       refine wl_v rfl rfl (ov_pick_true _ rfl rfl) ?_
       refine wl_nil ?_
       refine qn_then ?_
       refine wc_cond (by rfl) (fun c20 => ?_) (fun c20 => ?_)
       ·
        refine wc_region ?_
        refine wl_v rfl rfl (ov_move _ rfl) ?_
        refine wl_v rfl rfl (ov_move _ rfl) ?_
        refine wl_lit (d := (Kd.int .i64)) [(0, .int .i64 ((pts).getD (j : Nat) (0 : Int)))] _ [.int .i64 ((pts).getD (j : Nat) (0 : Int))] ([(pts).getD (j : Nat) (0 : Int)]) h rfl rfl rfl rfl Try.underlying36 infb3 rfl (by decide) (by kernel_rfl) rfl (fun _ _ _ => ((Reps.none _ _).snoc ((Sx.mkInt .i64 ((pts).getD (j : Nat) (0 : Int)))) rfl)) (fun A21 cp22 _ h => ?_)
        refine wl_append (d := (Kd.int .i64)) (L := o) 2 _ 8 _ _ _ ([(pts).getD (j : Nat) (0 : Int)]) (Sx.flat_int _) h rfl rfl rfl rfl rfl ((Sx.row_reads h (i := 0) rfl).2) Try.underlying36 inf3 rfl (by decide) (by decide) (by first | omega | (simp only [List.length_cons, List.length_nil, List.length_append, List.length_set]; omega)) (by first | rfl | simp) (fun A23 cp24 _ h => ?_)
        replace h := st_selT [false, true, true] h
        refine wl_v rfl rfl (ov_assign _ rfl) ?_
        refine wl_nil ?_
        refine qn_block_normal ?_
        refine qn_then ?_
        refine wc_region ?_
        refine wl_v rfl rfl (ov_bin _ rfl rfl (binR_add (r := (((j : Nat) : Int)) + 1) (Sx.w64 (by omega)))) ?_
        refine wl_v rfl rfl (ov_move _ rfl) ?_
        refine wl_nil ?_
        replace h := st_front 1 h
        replace h := st_front 1 h
        refine qn_next ((j + 1), A23, cp24, (o ++ ([(pts).getD (j : Nat) (0 : Int)])), (some ad15)) (by show pts.length - (j + 1) < pts.length - j; omega) ⟨rfl, rfl, (congrArg (fun z_ => some (Value.slice (A23) z_ (cp24))) (show ((o ++ ([(pts).getD (j : Nat) (0 : Int)])).length : Nat) = ((o ++ ([(pts).getD (j : Nat) (0 : Int)]))).length by first | rfl | simp)), (congrArg (fun z_ => some (Value.slice (some ad15) z_ (pc))) (show (pts.length : Nat) = pts.length by first | rfl | simp)), rfl, (congrArg (fun z_ => some (Value.int .i64 z_)) (show ((((j : Nat) : Int)) + 1 : Int) = (((j + 1) : Nat) : Int) by omega)), trivial⟩ ?_
        show ((o ++ ([(pts).getD (j : Nat) (0 : Int)])) ++ inGo lf rt (dn.map lowV).length (List.drop (j + 1) pts) = inGo lf rt (dn.map lowV).length pts ∧ (j + 1) ≤ pts.length ∧ ((o ++ ([(pts).getD (j : Nat) (0 : Int)]))).length ≤ (j + 1) ∧ (∀ cs w, Sx.St w0 F0 (cs ++ R) w → (Kd.int .i64).C w ((some ad15)) pts.length pts)) ∧ _
        have e_ := hJ.1
        rw [drop_get pts 0 (by omega), inGo, if_pos ⟨by omega, by omega⟩] at e_
        refine ⟨⟨by rw [List.append_assoc]; exact e_, by omega, by first | omega | (simp only [List.length_append, List.length_cons, List.length_nil]; omega), hJ.2.2.2⟩, h⟩
       ·
        refine wc_skip ?_
        refine qn_block_normal ?_
        refine qn_then ?_
        refine wc_region ?_
        refine wl_v rfl rfl (ov_bin _ rfl rfl (binR_add (r := (((j : Nat) : Int)) + 1) (Sx.w64 (by omega)))) ?_
        refine wl_v rfl rfl (ov_move _ rfl) ?_
        refine wl_nil ?_
        replace h := st_front 1 h
        replace h := st_front 1 h
        refine qn_next ((j + 1), A3, c3, (o), (some ad15)) (by show pts.length - (j + 1) < pts.length - j; omega) ⟨rfl, rfl, (congrArg (fun z_ => some (Value.slice (A3) z_ (c3))) (show ((o).length : Nat) = ((o)).length by first | rfl | simp)), (congrArg (fun z_ => some (Value.slice (some ad15) z_ (pc))) (show (pts.length : Nat) = pts.length by first | rfl | simp)), rfl, (congrArg (fun z_ => some (Value.int .i64 z_)) (show ((((j : Nat) : Int)) + 1 : Int) = (((j + 1) : Nat) : Int) by omega)), trivial⟩ ?_
        show ((o) ++ inGo lf rt (dn.map lowV).length (List.drop (j + 1) pts) = inGo lf rt (dn.map lowV).length pts ∧ (j + 1) ≤ pts.length ∧ ((o)).length ≤ (j + 1) ∧ (∀ cs w, Sx.St w0 F0 (cs ++ R) w → (Kd.int .i64).C w ((some ad15)) pts.length pts)) ∧ _
        have e_ := hJ.1
        rw [drop_get pts 0 (by omega), inGo, if_neg (by omega)] at e_
        refine ⟨⟨e_, by omega, by first | omega | (simp only [List.length_append, List.length_cons, List.length_nil]; omega), hJ.2.2.2⟩, h⟩
      ·
       refine wl_skip rfl rfl ?_
       refine wl_skip rfl rfl ?_
       refine wl_skip rfl rfl ?_
       refine wl_skip rfl rfl ?_
       refine wl_skip rfl rfl ?_
       refine wl_skip rfl rfl ?_
       refine wl_skip rfl rfl ?_
       refine wl_skip rfl rfl ?_
       refine wl_skip rfl rfl ?_
       refine wl_v rfl rfl (ov_pick_false _ rfl rfl) ?_
       refine wl_nil ?_
       refine qn_then ?_
       refine wc_cond_false rfl ?_
       refine wc_skip ?_
       refine qn_block_normal ?_
       refine qn_then ?_
       refine wc_region ?_
       refine wl_v rfl rfl (ov_bin _ rfl rfl (binR_add (r := (((j : Nat) : Int)) + 1) (Sx.w64 (by omega)))) ?_
       refine wl_v rfl rfl (ov_move _ rfl) ?_
       refine wl_nil ?_
       replace h := st_front 1 h
       replace h := st_front 1 h
       refine qn_next ((j + 1), A3, c3, (o), (some ad15)) (by show pts.length - (j + 1) < pts.length - j; omega) ⟨rfl, rfl, (congrArg (fun z_ => some (Value.slice (A3) z_ (c3))) (show ((o).length : Nat) = ((o)).length by first | rfl | simp)), (congrArg (fun z_ => some (Value.slice (some ad15) z_ (pc))) (show (pts.length : Nat) = pts.length by first | rfl | simp)), rfl, (congrArg (fun z_ => some (Value.int .i64 z_)) (show ((((j : Nat) : Int)) + 1 : Int) = (((j + 1) : Nat) : Int) by omega)), trivial⟩ ?_
       show ((o) ++ inGo lf rt (dn.map lowV).length (List.drop (j + 1) pts) = inGo lf rt (dn.map lowV).length pts ∧ (j + 1) ≤ pts.length ∧ ((o)).length ≤ (j + 1) ∧ (∀ cs w, Sx.St w0 F0 (cs ++ R) w → (Kd.int .i64).C w ((some ad15)) pts.length pts)) ∧ _
       have e_ := hJ.1
       rw [drop_get pts 0 (by omega), inGo, if_neg (by omega)] at e_
       refine ⟨⟨e_, by omega, by first | omega | (simp only [List.length_append, List.length_cons, List.length_nil]; omega), hJ.2.2.2⟩, h⟩
     ·
      refine wc_exit ?_
      refine qn_then_exit ?_
      refine qn_then_exit ?_
      refine qn_block_exit ?_
      refine qn_then ?_
      refine wc_seq ?_
      refine wc_region ?_
      refine wl_v rfl rfl (ov_move _ rfl) ?_
      refine wl_v rfl rfl (ov_assign _ rfl) ?_
      refine wl_nil ?_
      refine qn_then ?_
      refine wc_ret ?_
      refine qn_then_ret ?_
      replace h := st_front 1 h
      replace h := st_selT [true, false] h
      refine qn_ret [_] ⟨rfl, trivial⟩ ?_
      have e_ := hJ.1
      rw [List.drop_eq_nil_of_le (by omega), inGo, List.append_nil] at e_
      rw [hpv_, hwp_, ← e_]
      exact ⟨A3, c3, rfl, h⟩
    ·
     have hno_ : kn (strOfNums ((flatB (dn.map lowV)))) = none := by
       rcases hkn (strOfNums ((flatB (dn.map lowV)))) with z_ | ⟨_, _, q1_, _⟩
       · exact z_.2
       · rw [q1_] at c13; simp at c13
     have hwp_ : wordPts T kn lf rt (dn.map lowV) = oddGo lf rt (dn.map lowV).length (levelsV T (dn.map lowV)) 0 := by unfold wordPts; rw [hno_]
     refine wc_skip ?_
     refine qn_then ?_
     refine wc_seq ?_
     refine wc_seq ?_
     refine wc_region ?_
     refine wl_v rfl rfl (ov_move _ rfl) ?_
     refine wl_v rfl rfl (ov_move _ rfl) ?_
     refine wl_call _ rfl rfl rfl ent36 (PT.levels_calls (R := [Sx.siter b3 (s) (p), Sx.row (Kd.int .i32) 21 (A) (c) ((dn.map lowV)), Sx.row (Kd.int .u8) 5 (A2) (c2) ((flatB (dn.map lowV)))] ++ R) g lf rt ⟨DA, dc, gk, NL, φ, HL, KL, HK⟩ T pth (A) (c) ((dn.map lowV)) (fun cs_ w_ h_ => hB (cs_ ++ [Sx.siter b3 (s) (p), Sx.row (Kd.int .i32) 21 (A) (c) ((dn.map lowV)), Sx.row (Kd.int .u8) 5 (A2) (c2) ((flatB (dn.map lowV)))]) w_ (by rw [List.append_assoc]; exact h_)) hrel hwf h0 (Sx.row_reads_at (R := [Sx.siter b3 (s) (p), Sx.row (Kd.int .i32) 21 (A) (c) ((dn.map lowV)), Sx.row (Kd.int .u8) 5 (A2) (c2) ((flatB (dn.map lowV)))] ++ R) (j := 1) rfl) (by omega) h) ?_
     rintro e_ w_ ⟨Al25, cl25, rfl, h⟩
     refine ⟨_, rfl, ?_⟩
     have hll_ := levels_len T ((dn.map lowV))
     replace h : Sx.St w0 F0 ([hlib [(⟨Al25, (levelsV T ((dn.map lowV))).length, cl25⟩, levelsV T ((dn.map lowV)))], Sx.siter b3 (s) (p), Sx.row (Kd.int .i32) 21 (A) (c) ((dn.map lowV)), Sx.row (Kd.int .u8) 5 (A2) (c2) ((flatB (dn.map lowV)))] ++ R) _ := h
     refine wl_v rfl rfl (ov_len _ _ _ _ _ rfl es36) ?_
     refine wl_v rfl rfl (ov_move _ rfl) ?_
     refine wl_nil ?_
     refine qn_then ?_
     refine wc_block ?_
     replace h := st_nilrow (Kd.int .i64) 3 h
     replace h := st_front 1 h
     replace h := st_front 1 h
     replace h := st_front 3 h
     replace h := st_selT [true, true, true, false, false] h
     refine wc_loop (fun (x_ : Nat × (Option Addr) × Nat × (List Int)) => [(0, .pointer (some ⟨g, 0, none⟩)), (5, .slice (A) ((dn.map lowV).length) (c)), (9, .slice (x_.2.1) ((x_.2.2.2).length) (x_.2.2.1)), (83, .slice (Al25) ((levelsV T (dn.map lowV)).length) (cl25)), (84, .int .i64 ((((levelsV T (dn.map lowV)).length : Nat) : Int))), (85, .int .i64 (((x_.1 : Nat) : Int)))]) (fun (x_ : Nat × (Option Addr) × Nat × (List Int)) (w : World) => (x_.2.2.2 ++ oddGo lf rt (dn.map lowV).length (List.drop x_.1 (levelsV T (dn.map lowV))) x_.1 = oddGo lf rt (dn.map lowV).length (levelsV T (dn.map lowV)) 0 ∧ x_.1 ≤ (levelsV T (dn.map lowV)).length ∧ (x_.2.2.2).length ≤ x_.1) ∧ Sx.St w0 F0 ([Sx.row (Kd.int .i32) 21 (A) (c) ((dn.map lowV)), Sx.row (Kd.int .i64) 3 (x_.2.1) (x_.2.2.1) (x_.2.2.2), hlib [(⟨Al25, (levelsV T ((dn.map lowV))).length, cl25⟩, levelsV T ((dn.map lowV)))]] ++ R) w) (fun (x_ : Nat × (Option Addr) × Nat × (List Int)) => (levelsV T (dn.map lowV)).length - x_.1) (0, none, 0, []) ?_ ?_ ?_
     · exact ⟨rfl, rfl, (congrArg (fun z_ => some (Value.slice (none) z_ (0))) (show (0 : Nat) = ([]).length by first | rfl | simp)), (congrArg (fun z_ => some (Value.slice (Al25) z_ (cl25))) (show ((levelsV T ((dn.map lowV))).length : Nat) = (levelsV T (dn.map lowV)).length by first | rfl | simp)), (congrArg (fun z_ => some (Value.int .i64 z_)) (show ((((levelsV T ((dn.map lowV))).length : Nat) : Int) : Int) = (((levelsV T (dn.map lowV)).length : Nat) : Int) by omega)), (congrArg (fun z_ => some (Value.int .i64 z_)) (show (0 : Int) = ((0 : Nat) : Int) by omega)), trivial⟩
     · exact ⟨⟨rfl, Nat.zero_le _, Nat.le_refl _⟩, h⟩
     rintro ⟨j, A3, c3, o⟩ w h
     obtain ⟨hJ, h⟩ := h
     replace hJ : o ++ oddGo lf rt (dn.map lowV).length (List.drop j (levelsV T (dn.map lowV))) j = oddGo lf rt (dn.map lowV).length (levelsV T (dn.map lowV)) 0 ∧ j ≤ (levelsV T (dn.map lowV)).length ∧ (o).length ≤ j := hJ
     replace h : Sx.St w0 F0 ([Sx.row (Kd.int .i32) 21 (A) (c) ((dn.map lowV)), Sx.row (Kd.int .i64) 3 (A3) (c3) (o), hlib [(⟨Al25, (levelsV T ((dn.map lowV))).length, cl25⟩, levelsV T ((dn.map lowV)))]] ++ R) w := h
     show Sx.WC _ _ _ _ [(0, .pointer (some ⟨g, 0, none⟩)), (5, .slice (A) ((dn.map lowV).length) (c)), (9, .slice (A3) ((o).length) (c3)), (83, .slice (Al25) ((levelsV T (dn.map lowV)).length) (cl25)), (84, .int .i64 ((((levelsV T (dn.map lowV)).length : Nat) : Int))), (85, .int .i64 (((j : Nat) : Int)))] _
     have hnn_ := levels_nn T (dn.map lowV) j
     refine wc_seq ?_
     refine wc_region ?_
     refine wl_v rfl rfl (ov_bin _ rfl rfl (binR_lss)) ?_
     refine wl_nil ?_
     refine qn_then ?_
     refine wc_seq ?_
     refine wc_cond (by rfl) (fun c26 => ?_) (fun c26 => ?_)
     ·
      refine wc_skip ?_
      refine qn_then ?_
      refine wc_seq ?_
      refine wc_block ?_
      refine wc_seq ?_
      refine wc_region ?_
      refine wl_v rfl rfl (ov_move _ rfl) ?_
      obtain ⟨ad27, rfl⟩ := Sx.C_some ((hlib_now h (i := 2) rfl _ List.mem_cons_self).2) (k := (j : Nat)) (by first | assumption | omega | (simp only [List.length_set, List.length_append, List.length_cons, List.length_nil]; omega))
      refine wl_v rfl rfl (ov_indexAddrN _ _ _ _ _ (j : Nat) rfl rfl es36 rfl (by first | assumption | omega | (simp only [List.length_take, List.length_drop, List.length_set, List.length_append, List.length_cons, List.length_nil]; omega))) ?_
      obtain ⟨cl30, _, hk29, hc28⟩ := Sx.C_cells ((hlib_now h (i := 2) rfl _ List.mem_cons_self).2) (z := (0 : Int)) (k := (j : Nat)) (by first | assumption | omega | (simp only [List.length_set, List.length_append, List.length_cons, List.length_nil]; omega))
      obtain rfl : cl30 = [.int .i64 _] := hk29
      refine wl_v rfl rfl (ov_load1 _ _ rfl sh3 ((hc28 0 _ rfl))) ?_
      refine wl_v rfl rfl (ov_assign _ rfl) ?_
      refine wl_v rfl rfl (ov_assign _ rfl) ?_
      refine wl_nil ?_
      refine qn_then ?_
      refine wc_seq ?_
      refine wc_region ?_
      refine wl_v rfl rfl (ov_move _ rfl) ?_
      refine wl_v rfl rfl (ov_bin _ rfl rfl (binR_rem (r := (((levelsV T (dn.map lowV))).getD (j : Nat) (0 : Int)) % 2) (by decide) (Int.tmod_eq_emod_of_nonneg (by omega)))) ?_
      refine wl_v rfl rfl (ov_bin _ rfl rfl (binR_eql)) ?_
      refine wl_v rfl rfl (ov_move _ rfl) ?_
      refine wl_split 93 rfl (fun c31 => ?_) (fun c31 => ?_)
      ·
       refine wl_v rfl rfl (ov_move _ rfl) ?_
       refine wl_v rfl rfl (ov_move _ rfl) ?_
       refine wl_v rfl rfl (ov_nilCheck _ rfl) ?_
       refine wl_v rfl rfl (ov_fieldAddr _ ⟨g, 2, none⟩ _ rfl fo55_2 rfl) ?_
       refine wl_v rfl rfl (ov_load1 ⟨g, 2, none⟩ _ rfl sh3 ((((hB [_, _, _] _ h).cell) 2).trans rfl)) ?_
       refine wl_v rfl rfl (ov_bin _ rfl rfl (binR_geq)) ?_
       refine wl_v rfl rfl (ov_pick_true _ rfl rfl) ?_
       refine wl_v rfl rfl (ov_move _ rfl) ?_
       refine wl_split 101 rfl (fun c32 => ?_) (fun c32 => ?_)
       ·
        refine wl_v rfl rfl (ov_move _ rfl) ?_
        refine wl_v rfl rfl (ov_move _ rfl) ?_
        refine wl_v rfl rfl (ov_len _ _ _ _ _ rfl es56) ?_
        refine wl_v rfl rfl (ov_move _ rfl) ?_
        refine wl_v rfl rfl (ov_nilCheck _ rfl) ?_
        refine wl_v rfl rfl (ov_fieldAddr _ ⟨g, 3, none⟩ _ rfl fo55_3 rfl) ?_
        refine wl_v rfl rfl (ov_load1 ⟨g, 3, none⟩ _ rfl sh3 ((((hB [_, _, _] _ h).cell) 3).trans rfl)) ?_
        refine wl_v rfl rfl (ov_bin _ rfl rfl (binR_sub (r := ((((dn.map lowV).length : Nat) : Int)) - rt) (Sx.w64 (by omega)))) ?_
        refine wl_v rfl rfl (ov_bin _ rfl rfl (binR_leq)) ?_
        refine wl_v rfl rfl (ov_pick_true _ rfl rfl) ?_
        refine wl_nil ?_
        refine qn_then ?_
        refine wc_cond (by rfl) (fun c33 => ?_) (fun c33 => ?_)
        ·
         refine wc_region ?_
         refine wl_v rfl rfl (ov_move _ rfl) ?_
         refine wl_v rfl rfl (ov_move _ rfl) ?_
         refine wl_lit (d := (Kd.int .i64)) [(0, .int .i64 (((j : Nat) : Int)))] _ [.int .i64 (((j : Nat) : Int))] ([((j : Nat) : Int)]) h rfl rfl rfl rfl Try.underlying36 infb3 rfl (by decide) (by kernel_rfl) rfl (fun _ _ _ => ((Reps.none _ _).snoc ((Sx.mkInt .i64 (((j : Nat) : Int)))) rfl)) (fun A34 cp35 _ h => ?_)
         refine wl_append (d := (Kd.int .i64)) (L := o) 2 _ 8 _ _ _ ([((j : Nat) : Int)]) (Sx.flat_int _) h rfl rfl rfl rfl rfl ((Sx.row_reads h (i := 0) rfl).2) Try.underlying36 inf3 rfl (by decide) (by decide) (by first | omega | (simp only [List.length_cons, List.length_nil, List.length_append, List.length_set]; omega)) (by first | rfl | simp) (fun A36 cp37 _ h => ?_)
         replace h := st_selT [false, true, true, true] h
         refine wl_v rfl rfl (ov_assign _ rfl) ?_
         refine wl_nil ?_
         refine qn_block_normal ?_
         refine qn_then ?_
         refine wc_region ?_
         refine wl_v rfl rfl (ov_bin _ rfl rfl (binR_add (r := (((j : Nat) : Int)) + 1) (Sx.w64 (by omega)))) ?_
         refine wl_v rfl rfl (ov_move _ rfl) ?_
         refine wl_nil ?_
         replace h := st_front 2 h
         replace h := st_front 2 h
         replace h := st_front 2 h
         refine qn_next ((j + 1), A36, cp37, (o ++ ([((j : Nat) : Int)]))) (by show (levelsV T (dn.map lowV)).length - (j + 1) < (levelsV T (dn.map lowV)).length - j; omega) ⟨rfl, rfl, (congrArg (fun z_ => some (Value.slice (A36) z_ (cp37))) (show ((o ++ ([((j : Nat) : Int)])).length : Nat) = ((o ++ ([((j : Nat) : Int)]))).length by first | rfl | simp)), (congrArg (fun z_ => some (Value.slice (some ad27) z_ (cl25))) (show ((levelsV T (dn.map lowV)).length : Nat) = (levelsV T (dn.map lowV)).length by first | rfl | simp)), rfl, (congrArg (fun z_ => some (Value.int .i64 z_)) (show ((((j : Nat) : Int)) + 1 : Int) = (((j + 1) : Nat) : Int) by omega)), trivial⟩ ?_
         show ((o ++ ([((j : Nat) : Int)])) ++ oddGo lf rt (dn.map lowV).length (List.drop (j + 1) (levelsV T (dn.map lowV))) (j + 1) = oddGo lf rt (dn.map lowV).length (levelsV T (dn.map lowV)) 0 ∧ (j + 1) ≤ (levelsV T (dn.map lowV)).length ∧ ((o ++ ([((j : Nat) : Int)]))).length ≤ (j + 1)) ∧ _
         have e_ := hJ.1
         rw [drop_get (levelsV T (dn.map lowV)) 0 (by omega), oddGo, if_pos ⟨by omega, by omega, by omega⟩] at e_
         refine ⟨⟨by rw [List.append_assoc]; exact e_, by omega, by first | omega | (simp only [List.length_append, List.length_cons, List.length_nil]; omega)⟩, h⟩
        ·
         refine wc_skip ?_
         refine qn_block_normal ?_
         refine qn_then ?_
         refine wc_region ?_
         refine wl_v rfl rfl (ov_bin _ rfl rfl (binR_add (r := (((j : Nat) : Int)) + 1) (Sx.w64 (by omega)))) ?_
         refine wl_v rfl rfl (ov_move _ rfl) ?_
         refine wl_nil ?_
         replace h := st_front 2 h
         replace h := st_front 2 h
         replace h := st_front 2 h
         refine qn_next ((j + 1), A3, c3, (o)) (by show (levelsV T (dn.map lowV)).length - (j + 1) < (levelsV T (dn.map lowV)).length - j; omega) ⟨rfl, rfl, (congrArg (fun z_ => some (Value.slice (A3) z_ (c3))) (show ((o).length : Nat) = ((o)).length by first | rfl | simp)), (congrArg (fun z_ => some (Value.slice (some ad27) z_ (cl25))) (show ((levelsV T (dn.map lowV)).length : Nat) = (levelsV T (dn.map lowV)).length by first | rfl | simp)), rfl, (congrArg (fun z_ => some (Value.int .i64 z_)) (show ((((j : Nat) : Int)) + 1 : Int) = (((j + 1) : Nat) : Int) by omega)), trivial⟩ ?_
         show ((o) ++ oddGo lf rt (dn.map lowV).length (List.drop (j + 1) (levelsV T (dn.map lowV))) (j + 1) = oddGo lf rt (dn.map lowV).length (levelsV T (dn.map lowV)) 0 ∧ (j + 1) ≤ (levelsV T (dn.map lowV)).length ∧ ((o)).length ≤ (j + 1)) ∧ _
         have e_ := hJ.1
         rw [drop_get (levelsV T (dn.map lowV)) 0 (by omega), oddGo, if_neg (by omega)] at e_
         refine ⟨⟨e_, by omega, by first | omega | (simp only [List.length_append, List.length_cons, List.length_nil]; omega)⟩, h⟩
       ·
        refine wl_skip rfl rfl ?_
        refine wl_skip rfl rfl ?_
        refine wl_skip rfl rfl ?_
        refine wl_skip rfl rfl ?_
        refine wl_skip rfl rfl ?_
        refine wl_skip rfl rfl ?_
        refine wl_skip rfl rfl ?_
        refine wl_skip rfl rfl ?_
        refine wl_skip rfl rfl ?_
        refine wl_v rfl rfl (ov_pick_false _ rfl rfl) ?_
        refine wl_nil ?_
        refine qn_then ?_
        refine wc_cond_false rfl ?_
        refine wc_skip ?_
        refine qn_block_normal ?_
        refine qn_then ?_
        refine wc_region ?_
        refine wl_v rfl rfl (ov_bin _ rfl rfl (binR_add (r := (((j : Nat) : Int)) + 1) (Sx.w64 (by omega)))) ?_
        refine wl_v rfl rfl (ov_move _ rfl) ?_
        refine wl_nil ?_
        replace h := st_front 2 h
        replace h := st_front 2 h
        replace h := st_front 2 h
        refine qn_next ((j + 1), A3, c3, (o)) (by show (levelsV T (dn.map lowV)).length - (j + 1) < (levelsV T (dn.map lowV)).length - j; omega) ⟨rfl, rfl, (congrArg (fun z_ => some (Value.slice (A3) z_ (c3))) (show ((o).length : Nat) = ((o)).length by first | rfl | simp)), (congrArg (fun z_ => some (Value.slice (some ad27) z_ (cl25))) (show ((levelsV T (dn.map lowV)).length : Nat) = (levelsV T (dn.map lowV)).length by first | rfl | simp)), rfl, (congrArg (fun z_ => some (Value.int .i64 z_)) (show ((((j : Nat) : Int)) + 1 : Int) = (((j + 1) : Nat) : Int) by omega)), trivial⟩ ?_
        show ((o) ++ oddGo lf rt (dn.map lowV).length (List.drop (j + 1) (levelsV T (dn.map lowV))) (j + 1) = oddGo lf rt (dn.map lowV).length (levelsV T (dn.map lowV)) 0 ∧ (j + 1) ≤ (levelsV T (dn.map lowV)).length ∧ ((o)).length ≤ (j + 1)) ∧ _
        have e_ := hJ.1
        rw [drop_get (levelsV T (dn.map lowV)) 0 (by omega), oddGo, if_neg (by omega)] at e_
        refine ⟨⟨e_, by omega, by first | omega | (simp only [List.length_append, List.length_cons, List.length_nil]; omega)⟩, h⟩
      ·
       refine wl_skip rfl rfl ?_
       refine wl_skip rfl rfl ?_
       refine wl_skip rfl rfl ?_
       refine wl_skip rfl rfl ?_
       refine wl_skip rfl rfl ?_
       refine wl_skip rfl rfl ?_
       refine wl_v rfl rfl (ov_pick_false _ rfl rfl) ?_
       refine wl_v rfl rfl (ov_move _ rfl) ?_
       refine wl_skip rfl rfl ?_
       refine wl_skip rfl rfl ?_
       refine wl_skip rfl rfl ?_
       refine wl_skip rfl rfl ?_
       refine wl_skip rfl rfl ?_
       refine wl_skip rfl rfl ?_
       refine wl_skip rfl rfl ?_
       refine wl_skip rfl rfl ?_
       refine wl_skip rfl rfl ?_
       refine wl_v rfl rfl (ov_pick_false _ rfl rfl) ?_
       refine wl_nil ?_
       refine qn_then ?_
       refine wc_cond_false rfl ?_
       refine wc_skip ?_
       refine qn_block_normal ?_
       refine qn_then ?_
       refine wc_region ?_
       refine wl_v rfl rfl (ov_bin _ rfl rfl (binR_add (r := (((j : Nat) : Int)) + 1) (Sx.w64 (by omega)))) ?_
       refine wl_v rfl rfl (ov_move _ rfl) ?_
       refine wl_nil ?_
       replace h := st_front 2 h
       replace h := st_front 2 h
       replace h := st_front 2 h
       refine qn_next ((j + 1), A3, c3, (o)) (by show (levelsV T (dn.map lowV)).length - (j + 1) < (levelsV T (dn.map lowV)).length - j; omega) ⟨rfl, rfl, (congrArg (fun z_ => some (Value.slice (A3) z_ (c3))) (show ((o).length : Nat) = ((o)).length by first | rfl | simp)), (congrArg (fun z_ => some (Value.slice (some ad27) z_ (cl25))) (show ((levelsV T (dn.map lowV)).length : Nat) = (levelsV T (dn.map lowV)).length by first | rfl | simp)), rfl, (congrArg (fun z_ => some (Value.int .i64 z_)) (show ((((j : Nat) : Int)) + 1 : Int) = (((j + 1) : Nat) : Int) by omega)), trivial⟩ ?_
       show ((o) ++ oddGo lf rt (dn.map lowV).length (List.drop (j + 1) (levelsV T (dn.map lowV))) (j + 1) = oddGo lf rt (dn.map lowV).length (levelsV T (dn.map lowV)) 0 ∧ (j + 1) ≤ (levelsV T (dn.map lowV)).length ∧ ((o)).length ≤ (j + 1)) ∧ _
       have e_ := hJ.1
       rw [drop_get (levelsV T (dn.map lowV)) 0 (by omega), oddGo, if_neg (by omega)] at e_
       refine ⟨⟨e_, by omega, by first | omega | (simp only [List.length_append, List.length_cons, List.length_nil]; omega)⟩, h⟩
     ·
      refine wc_exit ?_
      refine qn_then_exit ?_
      refine qn_then_exit ?_
      refine qn_block_exit ?_
      refine qn_then ?_
      refine wc_seq ?_
      refine wc_region ?_
      refine wl_v rfl rfl (ov_move _ rfl) ?_
      refine wl_v rfl rfl (ov_assign _ rfl) ?_
      refine wl_nil ?_
      refine qn_then ?_
      refine wc_ret ?_
      replace h := st_front 1 h
      replace h := st_selT [true, false, false] h
      refine qn_ret [_] ⟨rfl, trivial⟩ ?_
      have e_ := hJ.1
      rw [List.drop_eq_nil_of_le (by omega), oddGo, List.append_nil] at e_
      rw [hpv_, hwp_, ← e_]
      exact ⟨A3, c3, rfl, h⟩
end Go.Proofs.Ytbeihfcjfkddcaa.PT
