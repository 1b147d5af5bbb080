/- Pruned by wip/prune.py. -/
import Derived.Test.YtbeihfcjfkddcaaProg
import Derived.Test.YtbeihfcjfkddcaaQSxGlue
import Derived.Test.YtbeihfcjfkddcaaQSxFlow
import Derived.Test.YtbeihfcjfkddcaaQSxIter
import Derived.Test.YtbeihfcjfkddcaaQSxBytes
import Derived.Test.YtbeihfcjfkddcaaQHyTree
import Derived.Test.YtbeihfcjfkddcaaQSxRunes
import Derived.Test.YtbeihfcjfkddcaaQSxLetter
import Derived.Test.YtbeihfcjfkddcaaQSxText
import Derived.Test.YtbeihfcjfkddcaaQSxHRead
import Derived.Test.YtbeihfcjfkddcaaQSxHRef
namespace Go.Proofs.Ytbeihfcjfkddcaa.TR
open Go Go.RowKit Go.Proofs.YtbeihfcjfkddcaaW.PrintWords Go.Proofs.Ytbeihfcjfkddcaa.Hy Go.Proofs.Ytbeihfcjfkddcaa.Given Go.Proofs.Ytbeihfcjfkddcaa.Rn Go.Proofs.Ytbeihfcjfkddcaa.Sx 
set_option linter.unusedVariables false
set_option linter.unusedSimpArgs false
theorem es56 : Sx.elemSz Try.prog 56 = some (21, 1) := by kernel_rfl
theorem sh21 : Sx.shapeOf Try.prog 21 = some (false, 1) := by kernel_rfl
theorem fo55_0 : Sx.fieldOff Try.prog 55 0 = some 0 := by kernel_rfl
theorem sh52 : Sx.shapeOf Try.prog 52 = some (false, 1) := by kernel_rfl
theorem es52 : Sx.elemSz Try.prog 52 = some (51, 2) := by kernel_rfl
theorem fo51_0 : Sx.fieldOff Try.prog 51 0 = some 0 := by kernel_rfl
theorem sh49 : Sx.shapeOf Try.prog 49 = some (false, 1) := by kernel_rfl
theorem szf49 : (Try.prog.info? 49).map (·.size) = some 1 := by kernel_rfl
theorem zo3 : Sx.zeroOf Try.prog 3 = some (.int .i64 (0)) := by kernel_rfl
theorem infb51 : (Try.prog.info? 51).map (fun i => (i.zero, i.size)) = some (some (.agg #[.map (none), .slice (none) (0) (0)]), 2) := by kernel_rfl
theorem inf51 : (Try.prog.info? 51).map (fun i => (i.zero, i.size, i.bytes)) = some (some (.agg #[.map (none), .slice (none) (0) (0)]), 2, 32) := by kernel_rfl
theorem fo51_1 : Sx.fieldOff Try.prog 51 1 = some 1 := by kernel_rfl
theorem szf36 : (Try.prog.info? 36).map (·.size) = some 1 := by kernel_rfl
set_option maxHeartbeats 4000000 in
set_option maxRecDepth 100000 in
theorem put_calls {w0 w : World} {F0 : Nat → Prop} {R : List Sx.HP} (g gk : Nat) (lf rt : Int) (A0 : Option Addr) (c0 : Nat) (NL0 : List NdH) (φ0 : Nat → Option (List (Int × Int))) (HL : List (Hdr × List Int)) (T0 : List Nd) (XA : Option Addr) (xc : Nat) (letters : List Int) (LA : Option Addr) (lc : Nat) (lv : List Int) (hrel : Rel NL0 φ0 HL T0) (hwn : Wn T0) (h0 : 0 < T0.length) (hC : ∀ cs w, Sx.St w0 F0 (cs ++ R) w → (Kd.int .i32).C w XA letters.length letters) (hsz : T0.length + letters.length ≤ 1000000000) (h : Sx.St w0 F0 ([Sx.blk g [.slice (A0) ((NL0).length) (c0), .map (some gk), .int .i64 (lf), .int .i64 (rt)] 55, Sx.row kNd 51 (A0) (c0) (NL0), Sx.maps (Sx.keyInt .i32) (fun n_ : Int => Value.int .i64 n_) (φ0), hlib (HL), Sx.row (Kd.int .i64) 3 (LA) (lc) (lv)] ++ R) w) : Calls Try.prog 27 #[.pointer (some ⟨g, 0, none⟩), .slice (XA) (letters.length) (xc), .slice (LA) (lv.length) (lc)] w (fun e w1 => e = .returned (.tuple #[]) ∧ ∃ A1 c1 NL1 φ1 HL1, Rel NL1 φ1 HL1 (putGo T0 0 letters lv) ∧ Sx.St w0 F0 ([Sx.blk g [.slice (A1) ((NL1).length) (c1), .map (some gk), .int .i64 (lf), .int .i64 (rt)] 55, Sx.row kNd 51 (A1) (c1) (NL1), Sx.maps (Sx.keyInt .i32) (fun n_ : Int => Value.int .i64 n_) (φ1), hlib (HL1)] ++ R) w1) := by
 refine Sx.calls_fn (vs := [.pointer (some ⟨g, 0, none⟩), .slice (XA) (letters.length) (xc), .slice (LA) (lv.length) (lc)]) Try.func27 rfl Try.ntmps27 rfl ?_
 refine wc_seq ?_
 refine wc_region ?_
 refine wl_v rfl rfl (ov_assign _ rfl) ?_
 refine wl_nil ?_
 refine qn_then ?_
 refine wc_seq ?_
 refine wc_seq ?_
 refine wc_region ?_
 refine wl_v rfl rfl (ov_move _ rfl) ?_
 refine wl_v rfl rfl (ov_len _ _ _ _ _ rfl es56) ?_
 refine wl_v rfl rfl (ov_move _ rfl) ?_
 refine wl_nil ?_
 refine qn_then ?_
 refine wc_block ?_
 replace h := st_front 4 h
 replace h := st_front 4 h
 replace h := st_front 4 h
 replace h := st_front 4 h
 replace h := st_front 4 h
 refine wc_loop (fun (x_ : Nat × Nat × (List Nd) × (Option Addr) × Nat × (List NdH) × (Nat → Option (List (Int × Int)))) => [(0, .pointer (some ⟨g, 0, none⟩)), (2, .slice (LA) (lv.length) (lc)), (6, .int .i64 (((x_.2.1 : Nat) : Int))), (11, .slice (XA) (letters.length) (xc)), (12, .int .i64 (((letters.length : Nat) : Int))), (13, .int .i64 (((x_.1 : Nat) : Int)))]) (fun (x_ : Nat × Nat × (List Nd) × (Option Addr) × Nat × (List NdH) × (Nat → Option (List (Int × Int)))) (w : World) => (Rel x_.2.2.2.2.2.1 (x_.2.2.2.2.2.2) HL x_.2.2.1 ∧ (x_.2.1 < x_.2.2.1.length ∧ x_.1 ≤ letters.length) ∧ putGo x_.2.2.1 x_.2.1 (letters.drop x_.1) lv = putGo T0 0 letters lv ∧ (x_.2.2.1.length ≤ T0.length + x_.1 ∧ Wn x_.2.2.1)) ∧ Sx.St w0 F0 ([Sx.blk g [.slice (x_.2.2.2.1) ((x_.2.2.2.2.2.1).length) (x_.2.2.2.2.1), .map (some gk), .int .i64 (lf), .int .i64 (rt)] 55, Sx.row kNd 51 (x_.2.2.2.1) (x_.2.2.2.2.1) (x_.2.2.2.2.2.1), Sx.maps (Sx.keyInt .i32) (fun n_ : Int => Value.int .i64 n_) (x_.2.2.2.2.2.2), hlib (HL), Sx.row (Kd.int .i64) 3 (LA) (lc) (lv)] ++ R) w) (fun (x_ : Nat × Nat × (List Nd) × (Option Addr) × Nat × (List NdH) × (Nat → Option (List (Int × Int)))) => letters.length - x_.1) (0, 0, T0, A0, c0, NL0, φ0) ?_ ?_ ?_
 · exact ⟨rfl, rfl, (congrArg (fun z_ => some (Value.int .i64 z_)) (show (0 : Int) = ((0 : Nat) : Int) by omega)), rfl, rfl, (congrArg (fun z_ => some (Value.int .i64 z_)) (show (0 : Int) = ((0 : Nat) : Int) by omega)), trivial⟩
 · exact ⟨⟨hrel, ⟨h0, Nat.zero_le _⟩, rfl, Nat.le_refl _, hwn⟩, h⟩
 rintro ⟨i, a, T, A, c, NL, φ⟩ w h
 obtain ⟨hJ, h⟩ := h
 replace hJ : Rel NL (φ) HL T ∧ (a < T.length ∧ i ≤ letters.length) ∧ putGo T a (letters.drop i) lv = putGo T0 0 letters lv ∧ (T.length ≤ T0.length + i ∧ Wn T) := hJ
 replace h : Sx.St w0 F0 ([Sx.blk g [.slice (A) ((NL).length) (c), .map (some gk), .int .i64 (lf), .int .i64 (rt)] 55, Sx.row kNd 51 (A) (c) (NL), Sx.maps (Sx.keyInt .i32) (fun n_ : Int => Value.int .i64 n_) (φ), hlib (HL), Sx.row (Kd.int .i64) 3 (LA) (lc) (lv)] ++ R) w := h
 show Sx.WC _ _ _ _ [(0, .pointer (some ⟨g, 0, none⟩)), (2, .slice (LA) (lv.length) (lc)), (6, .int .i64 (((a : Nat) : Int))), (11, .slice (XA) (letters.length) (xc)), (12, .int .i64 (((letters.length : Nat) : Int))), (13, .int .i64 (((i : Nat) : Int)))] _
 have hrl_ := hJ.1.1
 refine wc_seq ?_
 refine wc_region ?_
 refine wl_v rfl rfl (ov_bin _ rfl rfl (binR_lss)) ?_
 refine wl_nil ?_
 refine qn_then ?_
 refine wc_seq ?_
 refine wc_cond (by rfl) (fun c1 => ?_) (fun c1 => ?_)
 ·
  refine wc_skip ?_
  refine qn_then ?_
  refine wc_seq ?_
  refine wc_block ?_
  refine wc_seq ?_
  refine wc_region ?_
  obtain ⟨ad2, rfl⟩ := Sx.C_some ((hC [_, _, _, _, _] _ h)) (k := (i : Nat)) (by first | assumption | omega | (simp only [List.length_set, List.length_append, List.length_cons, List.length_nil]; omega))
  refine wl_v rfl rfl (ov_indexAddrN _ _ _ _ _ (i : Nat) rfl rfl es56 rfl (by first | assumption | omega | (simp only [List.length_take, List.length_drop, List.length_set, List.length_append, List.length_cons, List.length_nil]; omega))) ?_
  obtain ⟨cl5, _, hk4, hc3⟩ := Sx.C_cells ((hC [_, _, _, _, _] _ h)) (z := (0 : Int)) (k := (i : Nat)) (by first | assumption | omega | (simp only [List.length_set, List.length_append, List.length_cons, List.length_nil]; omega))
  obtain rfl : cl5 = [.int .i32 _] := hk4
  refine wl_v rfl rfl (ov_load1 _ _ rfl sh21 ((hc3 0 _ rfl))) ?_
  refine wl_v rfl rfl (ov_assign _ rfl) ?_
  refine wl_nil ?_
  refine qn_then ?_
  refine wc_seq ?_
  refine wc_seq ?_
  refine wc_region ?_
  refine wl_v rfl rfl (ov_move _ rfl) ?_
  refine wl_v rfl rfl (ov_nilCheck _ rfl) ?_
  refine wl_v rfl rfl (ov_fieldAddr _ ⟨g, 0, none⟩ _ rfl fo55_0 rfl) ?_
  refine wl_v rfl rfl (ov_loadb 0 _ h rfl rfl sh52 rfl) ?_
  refine wl_v rfl rfl (ov_move _ rfl) ?_
  obtain ⟨ad6, rfl⟩ := Sx.C_some ((Sx.row_reads h (i := 1) rfl).2) (k := (a : Nat)) (by first | assumption | omega | (simp only [List.length_set, List.length_append, List.length_cons, List.length_nil]; omega))
  refine wl_v rfl rfl (ov_indexAddrN _ _ _ _ _ (a : Nat) rfl rfl es52 rfl (by first | assumption | omega | (simp only [List.length_take, List.length_drop, List.length_set, List.length_append, List.length_cons, List.length_nil]; omega))) ?_
  refine wl_v rfl rfl (ov_fieldAddr _ ((ad6).add ((a : Nat) * 2 + 0)) _ rfl fo51_0 (by first | exact Deep.add_add _ _ _ | (rw [Deep.add_add]) | rfl)) ?_
  obtain ⟨cl9, _, hk8, hc7⟩ := Sx.C_cells ((Sx.row_reads h (i := 1) rfl).2) (z := zNdH) (k := (a : Nat)) (by first | assumption | omega | (simp only [List.length_set, List.length_append, List.length_cons, List.length_nil]; omega))
  obtain rfl := kNd_open hk8
  refine wl_v rfl rfl (ov_load1 _ _ rfl sh49 ((hc7 0 _ rfl))) ?_
  refine wl_v rfl rfl (ov_bin _ rfl rfl (binR_eqmap Try.underlying49)) ?_
  refine wl_nil ?_
  refine qn_then ?_
  refine wc_cond (by rfl) (fun c10 => ?_) (fun c10 => ?_)
  ·
   refine wc_region ?_
   refine wl_v rfl rfl (ov_move _ rfl) ?_
   refine wl_v rfl rfl (ov_nilCheck _ rfl) ?_
   refine wl_v rfl rfl (ov_fieldAddr _ ⟨g, 0, none⟩ _ rfl fo55_0 rfl) ?_
   refine wl_v rfl rfl (ov_loadb 0 _ h rfl rfl sh52 rfl) ?_
   refine wl_v rfl rfl (ov_move _ rfl) ?_
   refine wl_makemap (Sx.keyInt .i32) (fun n_ : Int => Value.int .i64 n_) h rfl rfl (fun gm11 _ h => ?_)
   refine wl_v rfl rfl (ov_indexAddrN _ _ _ _ _ (a : Nat) rfl rfl es52 rfl (by first | assumption | omega | (simp only [List.length_take, List.length_drop, List.length_set, List.length_append, List.length_cons, List.length_nil]; omega))) ?_
   refine wl_v rfl rfl (ov_fieldAddr _ ((ad6).add ((a : Nat) * 2 + 0)) _ rfl fo51_0 (by first | exact Deep.add_add _ _ _ | (rw [Deep.add_add]) | rfl)) ?_
   refine wl_storeeN 2 (a : Nat) 0 (.map (some gm11)) [.map (some gm11)] zNdH ((⟨some gm11, ⟨((NL).getD (a : Nat) zNdH).h.A, ((NL).getD (a : Nat) zNdH).h.n, ((NL).getD (a : Nat) zNdH).h.c⟩⟩ : NdH)) h rfl rfl rfl (by first | rfl | simp) rfl rfl (by simp [Value.oneCell']) szf49 (by first | assumption | omega | (simp only [List.length_set, List.length_append, List.length_cons, List.length_nil]; omega)) (Nat.le_of_ble_eq_true rfl) (by intro cl hcl hM; obtain ⟨_, _, _, hM⟩ := hM; obtain rfl := kNd_openM hM; intro _ _ _; exact kNd_mkM _ _ _ ((⟨some gm11, ⟨((NL).getD (a : Nat) zNdH).h.A, ((NL).getD (a : Nat) zNdH).h.n, ((NL).getD (a : Nat) zNdH).h.c⟩⟩ : NdH))) (fun _ h => ?_)
   replace h := st_front 3 h
   replace h := st_front 1 h
   obtain ⟨hfr14, h⟩ := Sx.maps_add h
   have hrel13 := rel_fresh (a := a) hJ.1 (by omega) c10 hfr14
   obtain ⟨φ15, hpφ15⟩ : ∃ p_, p_ = (fun x_ => if x_ = gm11 then some [] else (φ) x_) := ⟨_, rfl⟩
   rw [← hpφ15] at h hrel13
   obtain ⟨N12, hN12⟩ : ∃ n_, n_ = (NL).set (a : Nat) ((⟨some gm11, ⟨((NL).getD (a : Nat) zNdH).h.A, ((NL).getD (a : Nat) zNdH).h.n, ((NL).getD (a : Nat) zNdH).h.c⟩⟩ : NdH)) := ⟨_, rfl⟩
   have hmN12 : (N12.getD a zNdH).m = some gm11 := by rw [hN12, getH_set _ _ _ _ (by omega), if_pos rfl]
   replace hrel13 : Rel N12 φ15 HL T := by rw [hN12]; exact hrel13
   rw [← hN12] at h
   have hlN12 := hrel13.1
   replace h : Sx.St w0 F0 ([Sx.maps (Sx.keyInt .i32) (fun n_ : Int => Value.int .i64 n_) (φ15), Sx.blk g [.slice (some ad6) ((N12).length) (c), .map (some gk), .int .i64 (lf), .int .i64 (rt)] 55, Sx.row kNd 51 (some ad6) (c) (N12), hlib (HL), Sx.row (Kd.int .i64) 3 (LA) (lc) (lv)] ++ R) _ := (by first | exact h | (rw [hN12, List.length_set]; rw [hN12] at h; exact h))
   refine wl_nil ?_
   refine qn_then ?_
   refine wc_seq ?_
   refine wc_region ?_
   refine wl_v rfl rfl (ov_move _ rfl) ?_
   refine wl_v rfl rfl (ov_nilCheck _ rfl) ?_
   refine wl_v rfl rfl (ov_fieldAddr _ ⟨g, 0, none⟩ _ rfl fo55_0 rfl) ?_
   refine wl_v rfl rfl (ov_loadb 1 _ h rfl rfl sh52 rfl) ?_
   refine wl_v rfl rfl (ov_move _ rfl) ?_
   refine wl_v rfl rfl (ov_indexAddrN _ _ _ _ _ (a : Nat) rfl rfl es52 rfl (by first | assumption | omega | (simp only [List.length_take, List.length_drop, List.length_set, List.length_append, List.length_cons, List.length_nil]; omega))) ?_
   refine wl_v rfl rfl (ov_fieldAddr _ ((ad6).add ((a : Nat) * 2 + 0)) _ rfl fo51_0 (by first | exact Deep.add_add _ _ _ | (rw [Deep.add_add]) | rfl)) ?_
   obtain ⟨cl18, _, hk17, hc16⟩ := Sx.C_cells ((Sx.row_reads h (i := 2) rfl).2) (z := zNdH) (k := (a : Nat)) (by first | assumption | omega | (simp only [List.length_set, List.length_append, List.length_cons, List.length_nil]; omega))
   obtain rfl := kNd_open hk17
   refine wl_v rfl rfl (ov_load1 _ _ rfl sh49 ((hc16 0 _ rfl))) ?_
   refine wl_v rfl rfl (ov_move _ rfl) ?_
   refine wl_v rfl rfl ((ov_lookup (Sx.keyInt .i32) (fun n_ : Int => Value.int .i64 n_) (.int .i64 (0)) gm11 ((letters).getD (i : Nat) (0 : Int)) ((T.getD a zNd).nx) (by exact congrArg (fun z_ => some (Value.map z_)) hmN12) rfl Try.underlying49 Try.underlying21 zo3 (Sx.maps_now h (i := 0) rfl (rel_map hrel13 (by omega) hmN12))).to (lkD _ _)) ?_
   refine wl_v rfl rfl (ov_move _ rfl) ?_
   refine wl_v rfl rfl (ov_extract [.int .i64 ((Sx.lk (T.getD a zNd).nx ((letters).getD (i : Nat) (0 : Int))).getD 0), .bool ((Sx.lk ((T.getD a zNd).nx) ((letters).getD (i : Nat) (0 : Int))).isSome)] _ rfl rfl) ?_
   refine wl_v rfl rfl (ov_extract [.int .i64 ((Sx.lk (T.getD a zNd).nx ((letters).getD (i : Nat) (0 : Int))).getD 0), .bool ((Sx.lk ((T.getD a zNd).nx) ((letters).getD (i : Nat) (0 : Int))).isSome)] _ rfl rfl) ?_
   refine wl_v rfl rfl (ov_assign _ rfl) ?_
   refine wl_v rfl rfl (ov_assign _ rfl) ?_
   refine wl_nil ?_
   refine qn_then ?_
   refine wc_seq ?_
   refine wc_seq ?_
   refine wc_region ?_
   refine wl_v rfl rfl (ov_move _ rfl) ?_
   refine wl_v rfl rfl (ov_notb _ rfl) ?_
   refine wl_nil ?_
   refine qn_then ?_
   refine wc_condb (by rfl) (fun c19 => ?_) (fun c19 => ?_)
   ·
    refine wc_seq ?_
    refine wc_region ?_
    refine wl_v rfl rfl (ov_move _ rfl) ?_
    refine wl_v rfl rfl (ov_nilCheck _ rfl) ?_
    refine wl_v rfl rfl (ov_fieldAddr _ ⟨g, 0, none⟩ _ rfl fo55_0 rfl) ?_
    refine wl_v rfl rfl (ov_loadb 1 _ h rfl rfl sh52 rfl) ?_
    refine wl_v rfl rfl (ov_len _ _ _ _ _ rfl es52) ?_
    refine wl_v rfl rfl (ov_assign _ rfl) ?_
    refine wl_nil ?_
    refine qn_then ?_
    refine wc_seq ?_
    refine wc_region ?_
    refine wl_v rfl rfl (ov_move _ rfl) ?_
    refine wl_v rfl rfl (ov_move _ rfl) ?_
    refine wl_v rfl rfl (ov_nilCheck _ rfl) ?_
    refine wl_v rfl rfl (ov_fieldAddr _ ⟨g, 0, none⟩ _ rfl fo55_0 rfl) ?_
    refine wl_v rfl rfl (ov_loadb 1 _ h rfl rfl sh52 rfl) ?_
    refine wl_v rfl rfl (ov_build [] [.map (none), .slice (none) (0) (0)] rfl rfl (by kernel_rfl)) ?_
    refine wl_lit (d := kNd) [(0, .agg #[.map (none), .slice (none) (0) (0)])] _ [.map (none), .slice (none) (0) (0)] ([zNdH]) h rfl rfl rfl rfl Try.underlying52 infb51 rfl (by decide) (by kernel_rfl) rfl (fun _ _ _ => ((Reps.none _ _).snoc (kNd_mkM _ _ _ (zNdH)) rfl)) (fun A20 cp21 _ h => ?_)
    refine wl_append (d := kNd) (L := N12) 3 _ 32 _ _ _ ([zNdH]) flatNd h rfl rfl rfl rfl rfl ((Sx.row_reads h (i := 0) rfl).2) Try.underlying52 inf51 rfl (by decide) (by decide) (by first | omega | (simp only [List.length_cons, List.length_nil, List.length_append, List.length_set]; omega)) (by first | rfl | simp) (fun A22 cp23 _ h => ?_)
    replace h := st_selT [false, true, true, true, true, true] h
    refine wl_v rfl rfl (ov_nilCheck _ rfl) ?_
    refine wl_v rfl rfl (ov_fieldAddr _ ⟨g, 0, none⟩ _ rfl fo55_0 rfl) ?_
    refine wl_storeb 1 _ [.slice (A22) ((N12 ++ ([zNdH])).length) (cp23), .map (some gk), .int .i64 (lf), .int .i64 (rt)] h rfl rfl rfl rfl rfl rfl sh52 rfl rfl (fun _ h => ?_)
    refine wl_nil ?_
    refine qn_then ?_
    refine wc_region ?_
    refine wl_v rfl rfl (ov_move _ rfl) ?_
    refine wl_v rfl rfl (ov_nilCheck _ rfl) ?_
    refine wl_v rfl rfl (ov_fieldAddr _ ⟨g, 0, none⟩ _ rfl fo55_0 rfl) ?_
    refine wl_v rfl rfl (ov_loadb 1 _ h rfl rfl sh52 rfl) ?_
    refine wl_v rfl rfl (ov_move _ rfl) ?_
    obtain ⟨ad24, rfl⟩ := Sx.C_some ((Sx.row_reads h (i := 2) rfl).2) (k := (a : Nat)) (by first | assumption | omega | (simp only [List.length_set, List.length_append, List.length_cons, List.length_nil]; omega))
    refine wl_v rfl rfl (ov_indexAddrN _ _ _ _ _ (a : Nat) rfl rfl es52 rfl (by first | assumption | omega | (simp only [List.length_take, List.length_drop, List.length_set, List.length_append, List.length_cons, List.length_nil]; omega))) ?_
    refine wl_v rfl rfl (ov_fieldAddr _ ((ad24).add ((a : Nat) * 2 + 0)) _ rfl fo51_0 (by first | exact Deep.add_add _ _ _ | (rw [Deep.add_add]) | rfl)) ?_
    obtain ⟨cl27, _, hk26, hc25⟩ := Sx.C_cells ((Sx.row_reads h (i := 2) rfl).2) (z := zNdH) (k := (a : Nat)) (by first | assumption | omega | (simp only [List.length_set, List.length_append, List.length_cons, List.length_nil]; omega))
    obtain rfl := kNd_open hk26
    refine wl_v rfl rfl (ov_load1 _ _ rfl sh49 ((hc25 0 _ rfl))) ?_
    refine wl_v rfl rfl (ov_move _ rfl) ?_
    refine wl_v rfl rfl (ov_move _ rfl) ?_
    have hsn_ : ((N12 ++ [zNdH]).getD a zNdH).m = some gm11 := by rw [getH_snoc, if_pos (by omega)]; exact hmN12
    have hto_ : ((N12).length : Int) = (T.length : Int) := by omega
    rw [hto_]
    refine wl_mapupdate 0 (Sx.keyInt .i32) (fun n_ : Int => Value.int .i64 n_) gm11 ((T.getD a zNd).nx) ((letters).getD (i : Nat) (0 : Int)) ((T.length : Int)) h rfl (rel_map hrel13 (by omega) hmN12) rfl (by exact congrArg (fun z_ => some (Value.map z_)) hsn_) rfl rfl Try.underlying49 Try.underlying21 (fun _ h => ?_)
    refine wl_nil ?_
    refine qn_then ?_
    refine wc_region ?_
    refine wl_v rfl rfl (ov_move _ rfl) ?_
    refine wl_v rfl rfl (ov_assign _ rfl) ?_
    refine wl_nil ?_
    refine qn_block_normal ?_
    refine qn_then ?_
    refine wc_region ?_
    refine wl_v rfl rfl (ov_bin _ rfl rfl (binR_add (r := (((i : Nat) : Int)) + 1) (Sx.w64 (by omega)))) ?_
    refine wl_v rfl rfl (ov_move _ rfl) ?_
    refine wl_nil ?_
    replace h := st_front 4 h
    replace h := st_front 4 h
    replace h := st_front 2 h
    replace h := st_front 4 h
    replace h := st_front 4 h
    refine qn_next ((i + 1), T.length, (T.set a { T.getD a zNd with nx := Sx.upd (T.getD a zNd).nx (letters.getD i 0) (T.length : Int) } ++ [zNd]), some ad24, cp23, (N12 ++ ([zNdH])), ((fun x => if x = gm11 then some (Sx.upd (T.getD a zNd).nx ((letters).getD (i : Nat) (0 : Int)) (T.length : Int)) else (φ15) x))) (by show letters.length - (i + 1) < letters.length - i; omega) ⟨rfl, rfl, (congrArg (fun z_ => some (Value.int .i64 z_)) (show ((T.length : Int) : Int) = ((T.length : Nat) : Int) by omega)), (congrArg (fun z_ => some (Value.slice (some ad2) z_ (xc))) (show (letters.length : Nat) = letters.length by first | rfl | simp)), rfl, (congrArg (fun z_ => some (Value.int .i64 z_)) (show ((((i : Nat) : Int)) + 1 : Int) = (((i + 1) : Nat) : Int) by omega)), trivial⟩ ?_
    show (Rel (N12 ++ ([zNdH])) (((fun x => if x = gm11 then some (Sx.upd (T.getD a zNd).nx ((letters).getD (i : Nat) (0 : Int)) (T.length : Int)) else (φ15) x))) HL (T.set a { T.getD a zNd with nx := Sx.upd (T.getD a zNd).nx (letters.getD i 0) (T.length : Int) } ++ [zNd]) ∧ (T.length < (T.set a { T.getD a zNd with nx := Sx.upd (T.getD a zNd).nx (letters.getD i 0) (T.length : Int) } ++ [zNd]).length ∧ (i + 1) ≤ letters.length) ∧ putGo (T.set a { T.getD a zNd with nx := Sx.upd (T.getD a zNd).nx (letters.getD i 0) (T.length : Int) } ++ [zNd]) T.length (letters.drop (i + 1)) lv = putGo T0 0 letters lv ∧ ((T.set a { T.getD a zNd with nx := Sx.upd (T.getD a zNd).nx (letters.getD i 0) (T.length : Int) } ++ [zNd]).length ≤ T0.length + (i + 1) ∧ Wn (T.set a { T.getD a zNd with nx := Sx.upd (T.getD a zNd).nx (letters.getD i 0) (T.length : Int) } ++ [zNd]))) ∧ _
    have e_ := hJ.2.2.1
    rw [drop_get letters 0 (by omega), putGo] at e_
    have hno_ : Sx.lk (T.getD a zNd).nx (letters.getD i 0) = none := by simpa using c19
    rw [hno_] at e_
    refine ⟨⟨(rel_new hrel13 (by omega) hmN12), ⟨?_, by omega⟩, e_, ?_, wn_new hJ.2.2.2.2 (by omega)⟩, h⟩
    · simp only [List.length_append, List.length_set, List.length_cons, List.length_nil]; omega
    · simp only [List.length_append, List.length_set, List.length_cons, List.length_nil]; omega
   ·
    refine wc_skip ?_
    refine qn_then ?_
    refine wc_region ?_
    refine wl_v rfl rfl (ov_move _ rfl) ?_
    refine wl_v rfl rfl (ov_assign _ rfl) ?_
    refine wl_nil ?_
    refine qn_block_normal ?_
    refine qn_then ?_
    refine wc_region ?_
    refine wl_v rfl rfl (ov_bin _ rfl rfl (binR_add (r := (((i : Nat) : Int)) + 1) (Sx.w64 (by omega)))) ?_
    refine wl_v rfl rfl (ov_move _ rfl) ?_
    refine wl_nil ?_
    obtain ⟨q_, hq_⟩ := Option.isSome_iff_exists.1 (show (Sx.lk (T.getD a zNd).nx (letters.getD i 0)).isSome = true by simpa using c19)
    have hw_ := hJ.2.2.2.2 a (by omega) _ _ hq_
    replace h := st_front 4 h
    replace h := st_front 4 h
    replace h := st_front 2 h
    replace h := st_front 4 h
    replace h := st_front 4 h
    refine qn_next ((i + 1), ((Sx.lk (T.getD a zNd).nx (letters.getD i 0)).getD 0).toNat, T, some ad6, c, (N12), (φ15)) (by show letters.length - (i + 1) < letters.length - i; omega) ⟨rfl, rfl, (congrArg (fun z_ => some (Value.int .i64 z_)) (show ((Sx.lk (T.getD a zNd).nx ((letters).getD (i : Nat) (0 : Int))).getD 0 : Int) = ((((Sx.lk (T.getD a zNd).nx (letters.getD i 0)).getD 0).toNat : Nat) : Int) by rw [hq_]; show q_ = ((q_.toNat : Nat) : Int); omega)), (congrArg (fun z_ => some (Value.slice (some ad2) z_ (xc))) (show (letters.length : Nat) = letters.length by first | rfl | simp)), rfl, (congrArg (fun z_ => some (Value.int .i64 z_)) (show ((((i : Nat) : Int)) + 1 : Int) = (((i + 1) : Nat) : Int) by omega)), trivial⟩ ?_
    show (Rel (N12) ((φ15)) HL T ∧ (((Sx.lk (T.getD a zNd).nx (letters.getD i 0)).getD 0).toNat < T.length ∧ (i + 1) ≤ letters.length) ∧ putGo T ((Sx.lk (T.getD a zNd).nx (letters.getD i 0)).getD 0).toNat (letters.drop (i + 1)) lv = putGo T0 0 letters lv ∧ (T.length ≤ T0.length + (i + 1) ∧ Wn T)) ∧ _
    have e_ := hJ.2.2.1
    rw [drop_get letters 0 (by omega), putGo] at e_
    rw [hq_] at e_ ⊢
    exact ⟨⟨hrel13, ⟨hw_.2, by omega⟩, e_, by omega, hJ.2.2.2.2⟩, h⟩
  ·
   obtain ⟨gm, hgm⟩ := Option.ne_none_iff_exists'.1 c10
   refine wc_skip ?_
   refine qn_then ?_
   refine wc_seq ?_
   refine wc_region ?_
   refine wl_v rfl rfl (ov_move _ rfl) ?_
   refine wl_v rfl rfl (ov_nilCheck _ rfl) ?_
   refine wl_v rfl rfl (ov_fieldAddr _ ⟨g, 0, none⟩ _ rfl fo55_0 rfl) ?_
   refine wl_v rfl rfl (ov_loadb 0 _ h rfl rfl sh52 rfl) ?_
   refine wl_v rfl rfl (ov_move _ rfl) ?_
   refine wl_v rfl rfl (ov_indexAddrN _ _ _ _ _ (a : Nat) rfl rfl es52 rfl (by first | assumption | omega | (simp only [List.length_take, List.length_drop, List.length_set, List.length_append, List.length_cons, List.length_nil]; omega))) ?_
   refine wl_v rfl rfl (ov_fieldAddr _ ((ad6).add ((a : Nat) * 2 + 0)) _ rfl fo51_0 (by first | exact Deep.add_add _ _ _ | (rw [Deep.add_add]) | rfl)) ?_
   obtain ⟨cl30, _, hk29, hc28⟩ := Sx.C_cells ((Sx.row_reads h (i := 1) rfl).2) (z := zNdH) (k := (a : Nat)) (by first | assumption | omega | (simp only [List.length_set, List.length_append, List.length_cons, List.length_nil]; omega))
   obtain rfl := kNd_open hk29
   refine wl_v rfl rfl (ov_load1 _ _ rfl sh49 ((hc28 0 _ rfl))) ?_
   refine wl_v rfl rfl (ov_move _ rfl) ?_
   refine wl_v rfl rfl ((ov_lookup (Sx.keyInt .i32) (fun n_ : Int => Value.int .i64 n_) (.int .i64 (0)) gm ((letters).getD (i : Nat) (0 : Int)) ((T.getD a zNd).nx) (by exact congrArg (fun z_ => some (Value.map z_)) hgm) rfl Try.underlying49 Try.underlying21 zo3 (Sx.maps_now h (i := 2) rfl (rel_map hJ.1 (by omega) hgm))).to (lkD _ _)) ?_
   refine wl_v rfl rfl (ov_move _ rfl) ?_
   refine wl_v rfl rfl (ov_extract [.int .i64 ((Sx.lk (T.getD a zNd).nx ((letters).getD (i : Nat) (0 : Int))).getD 0), .bool ((Sx.lk ((T.getD a zNd).nx) ((letters).getD (i : Nat) (0 : Int))).isSome)] _ rfl rfl) ?_
   refine wl_v rfl rfl (ov_extract [.int .i64 ((Sx.lk (T.getD a zNd).nx ((letters).getD (i : Nat) (0 : Int))).getD 0), .bool ((Sx.lk ((T.getD a zNd).nx) ((letters).getD (i : Nat) (0 : Int))).isSome)] _ rfl rfl) ?_
   refine wl_v rfl rfl (ov_assign _ rfl) ?_
   refine wl_v rfl rfl (ov_assign _ rfl) ?_
   refine wl_nil ?_
   refine qn_then ?_
   refine wc_seq ?_
   refine wc_seq ?_
   refine wc_region ?_
   refine wl_v rfl rfl (ov_move _ rfl) ?_
   refine wl_v rfl rfl (ov_notb _ rfl) ?_
   refine wl_nil ?_
   refine qn_then ?_
   refine wc_condb (by rfl) (fun c31 => ?_) (fun c31 => ?_)
   ·
    refine wc_seq ?_
    refine wc_region ?_
    refine wl_v rfl rfl (ov_move _ rfl) ?_
    refine wl_v rfl rfl (ov_nilCheck _ rfl) ?_
    refine wl_v rfl rfl (ov_fieldAddr _ ⟨g, 0, none⟩ _ rfl fo55_0 rfl) ?_
    refine wl_v rfl rfl (ov_loadb 0 _ h rfl rfl sh52 rfl) ?_
    refine wl_v rfl rfl (ov_len _ _ _ _ _ rfl es52) ?_
    refine wl_v rfl rfl (ov_assign _ rfl) ?_
    refine wl_nil ?_
    refine qn_then ?_
    refine wc_seq ?_
    refine wc_region ?_
    refine wl_v rfl rfl (ov_move _ rfl) ?_
    refine wl_v rfl rfl (ov_move _ rfl) ?_
    refine wl_v rfl rfl (ov_nilCheck _ rfl) ?_
    refine wl_v rfl rfl (ov_fieldAddr _ ⟨g, 0, none⟩ _ rfl fo55_0 rfl) ?_
    refine wl_v rfl rfl (ov_loadb 0 _ h rfl rfl sh52 rfl) ?_
    refine wl_v rfl rfl (ov_build [] [.map (none), .slice (none) (0) (0)] rfl rfl (by kernel_rfl)) ?_
    refine wl_lit (d := kNd) [(0, .agg #[.map (none), .slice (none) (0) (0)])] _ [.map (none), .slice (none) (0) (0)] ([zNdH]) h rfl rfl rfl rfl Try.underlying52 infb51 rfl (by decide) (by kernel_rfl) rfl (fun _ _ _ => ((Reps.none _ _).snoc (kNd_mkM _ _ _ (zNdH)) rfl)) (fun A32 cp33 _ h => ?_)
    refine wl_append (d := kNd) (L := NL) 2 _ 32 _ _ _ ([zNdH]) flatNd h rfl rfl rfl rfl rfl ((Sx.row_reads h (i := 0) rfl).2) Try.underlying52 inf51 rfl (by decide) (by decide) (by first | omega | (simp only [List.length_cons, List.length_nil, List.length_append, List.length_set]; omega)) (by first | rfl | simp) (fun A34 cp35 _ h => ?_)
    replace h := st_selT [false, true, true, true, true, true] h
    refine wl_v rfl rfl (ov_nilCheck _ rfl) ?_
    refine wl_v rfl rfl (ov_fieldAddr _ ⟨g, 0, none⟩ _ rfl fo55_0 rfl) ?_
    refine wl_storeb 0 _ [.slice (A34) ((NL ++ ([zNdH])).length) (cp35), .map (some gk), .int .i64 (lf), .int .i64 (rt)] h rfl rfl rfl rfl rfl rfl sh52 rfl rfl (fun _ h => ?_)
    refine wl_nil ?_
    refine qn_then ?_
    refine wc_region ?_
    refine wl_v rfl rfl (ov_move _ rfl) ?_
    refine wl_v rfl rfl (ov_nilCheck _ rfl) ?_
    refine wl_v rfl rfl (ov_fieldAddr _ ⟨g, 0, none⟩ _ rfl fo55_0 rfl) ?_
    refine wl_v rfl rfl (ov_loadb 0 _ h rfl rfl sh52 rfl) ?_
    refine wl_v rfl rfl (ov_move _ rfl) ?_
    obtain ⟨ad36, rfl⟩ := Sx.C_some ((Sx.row_reads h (i := 1) rfl).2) (k := (a : Nat)) (by first | assumption | omega | (simp only [List.length_set, List.length_append, List.length_cons, List.length_nil]; omega))
    refine wl_v rfl rfl (ov_indexAddrN _ _ _ _ _ (a : Nat) rfl rfl es52 rfl (by first | assumption | omega | (simp only [List.length_take, List.length_drop, List.length_set, List.length_append, List.length_cons, List.length_nil]; omega))) ?_
    refine wl_v rfl rfl (ov_fieldAddr _ ((ad36).add ((a : Nat) * 2 + 0)) _ rfl fo51_0 (by first | exact Deep.add_add _ _ _ | (rw [Deep.add_add]) | rfl)) ?_
    obtain ⟨cl39, _, hk38, hc37⟩ := Sx.C_cells ((Sx.row_reads h (i := 1) rfl).2) (z := zNdH) (k := (a : Nat)) (by first | assumption | omega | (simp only [List.length_set, List.length_append, List.length_cons, List.length_nil]; omega))
    obtain rfl := kNd_open hk38
    refine wl_v rfl rfl (ov_load1 _ _ rfl sh49 ((hc37 0 _ rfl))) ?_
    refine wl_v rfl rfl (ov_move _ rfl) ?_
    refine wl_v rfl rfl (ov_move _ rfl) ?_
    have hsn_ : ((NL ++ [zNdH]).getD a zNdH).m = some gm := by rw [getH_snoc, if_pos (by omega)]; exact hgm
    have hto_ : ((NL).length : Int) = (T.length : Int) := by omega
    rw [hto_]
    refine wl_mapupdate 2 (Sx.keyInt .i32) (fun n_ : Int => Value.int .i64 n_) gm ((T.getD a zNd).nx) ((letters).getD (i : Nat) (0 : Int)) ((T.length : Int)) h rfl (rel_map hJ.1 (by omega) hgm) rfl (by exact congrArg (fun z_ => some (Value.map z_)) hsn_) rfl rfl Try.underlying49 Try.underlying21 (fun _ h => ?_)
    refine wl_nil ?_
    refine qn_then ?_
    refine wc_region ?_
    refine wl_v rfl rfl (ov_move _ rfl) ?_
    refine wl_v rfl rfl (ov_assign _ rfl) ?_
    refine wl_nil ?_
    refine qn_block_normal ?_
    refine qn_then ?_
    refine wc_region ?_
    refine wl_v rfl rfl (ov_bin _ rfl rfl (binR_add (r := (((i : Nat) : Int)) + 1) (Sx.w64 (by omega)))) ?_
    refine wl_v rfl rfl (ov_move _ rfl) ?_
    refine wl_nil ?_
    replace h := st_front 4 h
    replace h := st_front 4 h
    replace h := st_front 4 h
    replace h := st_front 4 h
    replace h := st_front 4 h
    refine qn_next ((i + 1), T.length, (T.set a { T.getD a zNd with nx := Sx.upd (T.getD a zNd).nx (letters.getD i 0) (T.length : Int) } ++ [zNd]), some ad36, cp35, (NL ++ ([zNdH])), ((fun x => if x = gm then some (Sx.upd (T.getD a zNd).nx ((letters).getD (i : Nat) (0 : Int)) (T.length : Int)) else (φ) x))) (by show letters.length - (i + 1) < letters.length - i; omega) ⟨rfl, rfl, (congrArg (fun z_ => some (Value.int .i64 z_)) (show ((T.length : Int) : Int) = ((T.length : Nat) : Int) by omega)), (congrArg (fun z_ => some (Value.slice (some ad2) z_ (xc))) (show (letters.length : Nat) = letters.length by first | rfl | simp)), rfl, (congrArg (fun z_ => some (Value.int .i64 z_)) (show ((((i : Nat) : Int)) + 1 : Int) = (((i + 1) : Nat) : Int) by omega)), trivial⟩ ?_
    show (Rel (NL ++ ([zNdH])) (((fun x => if x = gm then some (Sx.upd (T.getD a zNd).nx ((letters).getD (i : Nat) (0 : Int)) (T.length : Int)) else (φ) x))) HL (T.set a { T.getD a zNd with nx := Sx.upd (T.getD a zNd).nx (letters.getD i 0) (T.length : Int) } ++ [zNd]) ∧ (T.length < (T.set a { T.getD a zNd with nx := Sx.upd (T.getD a zNd).nx (letters.getD i 0) (T.length : Int) } ++ [zNd]).length ∧ (i + 1) ≤ letters.length) ∧ putGo (T.set a { T.getD a zNd with nx := Sx.upd (T.getD a zNd).nx (letters.getD i 0) (T.length : Int) } ++ [zNd]) T.length (letters.drop (i + 1)) lv = putGo T0 0 letters lv ∧ ((T.set a { T.getD a zNd with nx := Sx.upd (T.getD a zNd).nx (letters.getD i 0) (T.length : Int) } ++ [zNd]).length ≤ T0.length + (i + 1) ∧ Wn (T.set a { T.getD a zNd with nx := Sx.upd (T.getD a zNd).nx (letters.getD i 0) (T.length : Int) } ++ [zNd]))) ∧ _
    have e_ := hJ.2.2.1
    rw [drop_get letters 0 (by omega), putGo] at e_
    have hno_ : Sx.lk (T.getD a zNd).nx (letters.getD i 0) = none := by simpa using c31
    rw [hno_] at e_
    refine ⟨⟨(rel_new hJ.1 (by omega) hgm), ⟨?_, by omega⟩, e_, ?_, wn_new hJ.2.2.2.2 (by omega)⟩, h⟩
    · simp only [List.length_append, List.length_set, List.length_cons, List.length_nil]; omega
    · simp only [List.length_append, List.length_set, List.length_cons, List.length_nil]; omega
   ·
    refine wc_skip ?_
    refine qn_then ?_
    refine wc_region ?_
    refine wl_v rfl rfl (ov_move _ rfl) ?_
    refine wl_v rfl rfl (ov_assign _ rfl) ?_
    refine wl_nil ?_
    refine qn_block_normal ?_
    refine qn_then ?_
    refine wc_region ?_
    refine wl_v rfl rfl (ov_bin _ rfl rfl (binR_add (r := (((i : Nat) : Int)) + 1) (Sx.w64 (by omega)))) ?_
    refine wl_v rfl rfl (ov_move _ rfl) ?_
    refine wl_nil ?_
    obtain ⟨q_, hq_⟩ := Option.isSome_iff_exists.1 (show (Sx.lk (T.getD a zNd).nx (letters.getD i 0)).isSome = true by simpa using c31)
    have hw_ := hJ.2.2.2.2 a (by omega) _ _ hq_
    replace h := st_front 4 h
    replace h := st_front 4 h
    replace h := st_front 4 h
    replace h := st_front 4 h
    replace h := st_front 4 h
    refine qn_next ((i + 1), ((Sx.lk (T.getD a zNd).nx (letters.getD i 0)).getD 0).toNat, T, some ad6, c, (NL), (φ)) (by show letters.length - (i + 1) < letters.length - i; omega) ⟨rfl, rfl, (congrArg (fun z_ => some (Value.int .i64 z_)) (show ((Sx.lk (T.getD a zNd).nx ((letters).getD (i : Nat) (0 : Int))).getD 0 : Int) = ((((Sx.lk (T.getD a zNd).nx (letters.getD i 0)).getD 0).toNat : Nat) : Int) by rw [hq_]; show q_ = ((q_.toNat : Nat) : Int); omega)), (congrArg (fun z_ => some (Value.slice (some ad2) z_ (xc))) (show (letters.length : Nat) = letters.length by first | rfl | simp)), rfl, (congrArg (fun z_ => some (Value.int .i64 z_)) (show ((((i : Nat) : Int)) + 1 : Int) = (((i + 1) : Nat) : Int) by omega)), trivial⟩ ?_
    show (Rel (NL) ((φ)) HL T ∧ (((Sx.lk (T.getD a zNd).nx (letters.getD i 0)).getD 0).toNat < T.length ∧ (i + 1) ≤ letters.length) ∧ putGo T ((Sx.lk (T.getD a zNd).nx (letters.getD i 0)).getD 0).toNat (letters.drop (i + 1)) lv = putGo T0 0 letters lv ∧ (T.length ≤ T0.length + (i + 1) ∧ Wn T)) ∧ _
    have e_ := hJ.2.2.1
    rw [drop_get letters 0 (by omega), putGo] at e_
    rw [hq_] at e_ ⊢
    exact ⟨⟨hJ.1, ⟨hw_.2, by omega⟩, e_, by omega, hJ.2.2.2.2⟩, h⟩
 ·
  refine wc_exit ?_
  refine qn_then_exit ?_
  refine qn_then_exit ?_
  refine qn_block_exit ?_
  refine qn_then ?_
  refine wc_region ?_
  refine wl_v rfl rfl (ov_move _ rfl) ?_
  refine wl_v rfl rfl (ov_nilCheck _ rfl) ?_
  refine wl_v rfl rfl (ov_fieldAddr _ ⟨g, 0, none⟩ _ rfl fo55_0 rfl) ?_
  refine wl_v rfl rfl (ov_loadb 0 _ h rfl rfl sh52 rfl) ?_
  refine wl_v rfl rfl (ov_move _ rfl) ?_
  refine wl_v rfl rfl (ov_move _ rfl) ?_
  obtain ⟨ad40, rfl⟩ := Sx.C_some ((Sx.row_reads h (i := 1) rfl).2) (k := (a : Nat)) (by first | assumption | omega | (simp only [List.length_set, List.length_append, List.length_cons, List.length_nil]; omega))
  refine wl_v rfl rfl (ov_indexAddrN _ _ _ _ _ (a : Nat) rfl rfl es52 rfl (by first | assumption | omega | (simp only [List.length_take, List.length_drop, List.length_set, List.length_append, List.length_cons, List.length_nil]; omega))) ?_
  refine wl_v rfl rfl (ov_fieldAddr _ ((ad40).add ((a : Nat) * 2 + 1)) _ rfl fo51_1 (by first | exact Deep.add_add _ _ _ | (rw [Deep.add_add]) | rfl)) ?_
  refine wl_storeeN 1 (a : Nat) 1 (.slice (LA) (lv.length) (lc)) [.slice (LA) (lv.length) (lc)] zNdH ((⟨((NL).getD (a : Nat) zNdH).m, ⟨LA, lv.length, lc⟩⟩ : NdH)) h rfl rfl rfl (by first | rfl | simp) rfl rfl (by simp [Value.oneCell']) szf36 (by first | assumption | omega | (simp only [List.length_set, List.length_append, List.length_cons, List.length_nil]; omega)) (Nat.le_of_ble_eq_true rfl) (by intro cl hcl hM; obtain ⟨_, _, _, hM⟩ := hM; obtain rfl := kNd_openM hM; intro _ _ _; exact kNd_mkM _ _ _ ((⟨((NL).getD (a : Nat) zNdH).m, ⟨LA, lv.length, lc⟩⟩ : NdH))) (fun _ h => ?_)
  refine wl_nil ?_
  have hls_ : (NL).length = ((NL).set (a : Nat) ((⟨((NL).getD (a : Nat) zNdH).m, ⟨LA, lv.length, lc⟩⟩ : NdH))).length := (List.length_set ..).symm
  rw [hls_] at h
  replace h := st_front 3 h
  replace h := st_front 4 h
  replace h := hlib_add h
  replace h := st_front 3 h
  replace h := st_front 3 h
  replace h := st_front 3 h
  refine qn_end [] trivial ?_
  have e_ := hJ.2.2.1
  rw [List.drop_eq_nil_of_le (by omega), putGo] at e_
  rw [← e_]
  exact ⟨rfl, some ad40, c, _, φ, _, rel_levels hJ.1 (by omega), h⟩
end Go.Proofs.Ytbeihfcjfkddcaa.TR
