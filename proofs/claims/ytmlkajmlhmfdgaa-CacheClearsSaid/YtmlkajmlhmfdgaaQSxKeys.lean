/- Pruned by wip/prune.py. -/
import Derived.Test.YtmlkajmlhmfdgaaProg
import Derived.Test.YtmlkajmlhmfdgaaQSxGlue
import Derived.Test.YtmlkajmlhmfdgaaQSxArr
import Derived.Test.YtmlkajmlhmfdgaaQSxKinds
import Derived.Test.YtmlkajmlhmfdgaaQRunsTh
import Derived.Test.YtmlkajmlhmfdgaaQSxRunsR
import Derived.Test.YtmlkajmlhmfdgaaQCaP
import Derived.Test.YtmlkajmlhmfdgaaQCaRef
import Derived.Test.YtmlkajmlhmfdgaaQSxCKey
import Derived.Test.YtmlkajmlhmfdgaaQSxRowI
import Derived.Test.YtmlkajmlhmfdgaaQSxCaI
namespace Go.Proofs.Ytmlkajmlhmfdgaa.KY
open Go Go.RowKit Go.Proofs.YtmlkajmlhmfdgaaW.PrintWords Go.Proofs.Ytmlkajmlhmfdgaa.Kinds Go.Proofs.Ytmlkajmlhmfdgaa.Runs Go.Proofs.Ytmlkajmlhmfdgaa.RW Go.Proofs.Ytmlkajmlhmfdgaa.Ca Go.Proofs.Ytmlkajmlhmfdgaa.Sx Go.Proofs.Ytmlkajmlhmfdgaa.RI Go.Proofs.Ytmlkajmlhmfdgaa.CCI 
set_option linter.unusedVariables false
set_option linter.unusedSimpArgs false
theorem fo87_2 : Sx.fieldOff Try.prog 87 2 = some 2 := by kernel_rfl
theorem sh85 : Sx.shapeOf Try.prog 85 = some (false, 1) := by kernel_rfl
theorem fo90_0 : Sx.fieldOff Try.prog 90 0 = some 0 := by kernel_rfl
theorem sh33 : Sx.shapeOf Try.prog 33 = some (true, 11) := by kernel_rfl
theorem zo33 : Sx.zeroOf Try.prog 33 = some (.agg #[.string (ByteArray.empty), .slice (none) (0) (0), .int .i64 (0), .int .i64 (0), .int .i64 (0), .int .i64 (0), .int .i64 (0), .int .i64 (0), .int .i64 (0), .int .i64 (0), .int .i64 (0)]) := by kernel_rfl
theorem infb50 : (Try.prog.info? 50).map (fun i => (i.zero, i.size)) = some (some (.agg #[.int .i64 (0), .int .i64 (0)]), 2) := by kernel_rfl
theorem fo33_1 : Sx.fieldOff Try.prog 33 1 = some 1 := by kernel_rfl
theorem sh29 : Sx.shapeOf Try.prog 29 = some (false, 1) := by kernel_rfl
theorem inf50 : (Try.prog.info? 50).map (fun i => (i.zero, i.size, i.bytes)) = some (some (.agg #[.int .i64 (0), .int .i64 (0)]), 2, 16) := by kernel_rfl
theorem infb33 : (Try.prog.info? 33).map (fun i => (i.zero, i.size)) = some (some (.agg #[.string (ByteArray.empty), .slice (none) (0) (0), .int .i64 (0), .int .i64 (0), .int .i64 (0), .int .i64 (0), .int .i64 (0), .int .i64 (0), .int .i64 (0), .int .i64 (0), .int .i64 (0)]), 11) := by kernel_rfl
theorem inf33 : (Try.prog.info? 33).map (fun i => (i.zero, i.size, i.bytes)) = some (some (.agg #[.string (ByteArray.empty), .slice (none) (0) (0), .int .i64 (0), .int .i64 (0), .int .i64 (0), .int .i64 (0), .int .i64 (0), .int .i64 (0), .int .i64 (0), .int .i64 (0), .int .i64 (0)]), 11, 112) := by kernel_rfl
theorem fo90_4 : Sx.fieldOff Try.prog 90 4 = some 14 := by kernel_rfl
set_option maxHeartbeats 400000 in
set_option maxRecDepth 100000 in
theorem Keys_calls {w0 w : World} {F0 : Nat → Prop} {R : List Sx.HP} (c : Nat) (room hits misses : Int) (M : LM Int) (hm : M.length ≤ 1048576) (h : Sx.St w0 F0 ([cacheP 87 90 85 (Value.int .i64) c (room) (M) (hits) (misses)] ++ R) w) : Calls Try.prog 25 #[.pointer (some ⟨c, 0, none⟩)] w (fun e w1 => ∃ (A : Option Addr) (ac : Nat) (KL : List KH) (H2 : List (Sx.Hdr × List Rn)), e = .returned (.slice A KL.length ac) ∧ KL.map (·.key) = M.map (·.1) ∧ (∀ x ∈ KL, ((⟨x.A, x.key.f1.length, x.c⟩ : Sx.Hdr), x.key.f1) ∈ H2) ∧ Sx.St w0 F0 ([Sx.row kKH 33 A ac KL, rlib H2, cacheP 87 90 85 (Value.int .i64) c (room) (M) (hits) (misses)] ++ R) w1) := by
 obtain ⟨I, hI, hM, h⟩ := cache_open h
 have hlM_ : I.L.length = M.length := by rw [← hM]; simp [ML]
 have hlen_ : I.L.length ≤ 4611686018427387904 := by omega
 refine Sx.calls_fn (vs := [.pointer (some ⟨c, 0, none⟩)]) Try.func25 rfl Try.ntmps25 rfl ?_
 refine wc_seq ?_
 refine wc_region ?_
 refine wl_v rfl rfl (ov_assign _ rfl) ?_
 refine wl_nil ?_
 refine qn_then ?_
 refine wc_seq ?_
 refine wc_region ?_
 refine wl_v rfl rfl (ov_assign _ rfl) ?_
 refine wl_nil ?_
 refine qn_then ?_
 refine wc_seq ?_
 refine wc_seq ?_
 refine wc_region ?_
 refine wl_v rfl rfl (ov_move _ rfl) ?_
 refine wl_v rfl rfl (ov_nilCheck _ rfl) ?_
 refine wl_v rfl rfl (ov_fieldAddr _ ⟨c, 2, none⟩ _ rfl fo87_2 rfl) ?_
 refine wl_v rfl rfl (ov_loadb 0 _ h rfl rfl sh85 rfl) ?_
 refine wl_v rfl rfl (ov_assign _ rfl) ?_
 refine wl_nil ?_
 refine qn_then ?_
 refine wc_block ?_
 replace h := st_nilrow kKH 33 (rlib_nil h)
 replace h := st_front 1 h
 replace h := st_front 1 h
 replace h := st_front 6 h
 replace h := st_front 6 h
 replace h := st_front 6 h
 replace h := st_front 6 h
 replace h := st_front 6 h
 refine wc_loop (fun (x_ : Nat × (Option Nat) × (Option Addr) × Nat × (List KH) × (List (Sx.Hdr × List Rn))) => [(0, .pointer (some ⟨c, 0, none⟩)), (3, .slice (x_.2.2.1) (x_.2.2.2.2.1.length) (x_.2.2.2.1)), (4, .pointer (Sx.pa x_.2.1))]) (fun (x_ : Nat × (Option Nat) × (Option Addr) × Nat × (List KH) × (List (Sx.Hdr × List Rn))) (w : World) => (x_.1 ≤ I.L.length ∧ x_.2.1 = (adL I.L)[x_.1]? ∧ x_.2.2.2.2.1.map (·.key) = (I.L.take x_.1).map (·.2.key) ∧ (∀ x ∈ x_.2.2.2.2.1, ((⟨x.A, x.key.f1.length, x.c⟩ : Sx.Hdr), x.key.f1) ∈ x_.2.2.2.2.2)) ∧ Sx.St w0 F0 ([Sx.blk c [.int .i64 (room), .map (some I.gm), .pointer (Sx.pa ((adL I.L).head?)), .pointer (Sx.pa ((adL I.L).getLast?)), .int .i64 (((M.length : Nat) : Int)), .int .i64 (hits), .int .i64 (misses)] 87, Sx.mapo KU EH (I.gm) (I.BM), Sx.ents (enK 90 (Value.int .i64)) (I.δ) (I.lt) (I.er), Sx.brows 85 (I.B), rlib (I.HL), Sx.row kKH 33 (x_.2.2.1) (x_.2.2.2.1) (x_.2.2.2.2.1), rlib (x_.2.2.2.2.2)] ++ R) w) (fun (x_ : Nat × (Option Nat) × (Option Addr) × Nat × (List KH) × (List (Sx.Hdr × List Rn))) => I.L.length - x_.1) (0, (adL I.L).head?, none, 0, [], []) ?_ ?_ ?_
 · exact ⟨rfl, (congrArg (fun z_ => some (Value.slice (none) z_ (0))) (show (0 : Nat) = [].length by first | rfl | simp)), rfl, trivial⟩
 · exact ⟨⟨Nat.zero_le _, List.head?_eq_getElem?, rfl, fun x_ hx_ => by cases hx_⟩, h⟩
 rintro ⟨i, o, Ao, co, KL, H2⟩ w h
 obtain ⟨hJ, h⟩ := h
 replace hJ : i ≤ I.L.length ∧ o = (adL I.L)[i]? ∧ KL.map (·.key) = (I.L.take i).map (·.2.key) ∧ (∀ x ∈ KL, ((⟨x.A, x.key.f1.length, x.c⟩ : Sx.Hdr), x.key.f1) ∈ H2) := hJ
 replace h : Sx.St w0 F0 ([Sx.blk c [.int .i64 (room), .map (some I.gm), .pointer (Sx.pa ((adL I.L).head?)), .pointer (Sx.pa ((adL I.L).getLast?)), .int .i64 (((M.length : Nat) : Int)), .int .i64 (hits), .int .i64 (misses)] 87, Sx.mapo KU EH (I.gm) (I.BM), Sx.ents (enK 90 (Value.int .i64)) (I.δ) (I.lt) (I.er), Sx.brows 85 (I.B), rlib (I.HL), Sx.row kKH 33 (Ao) (co) (KL), rlib (H2)] ++ R) w := h
 show Sx.WC _ _ _ _ [(0, .pointer (some ⟨c, 0, none⟩)), (3, .slice (Ao) (KL.length) (co)), (4, .pointer (Sx.pa o))] _
 have hkl_ : KL.length = i := by have z_ := congrArg List.length hJ.2.2.1; simp only [List.length_map, List.length_take] at z_; omega
 refine wc_seq ?_
 refine wc_seq ?_
 refine wc_region ?_
 refine wl_v rfl rfl (ov_move _ rfl) ?_
 refine wl_v rfl rfl (ov_bin _ rfl rfl (binR_nenil Try.underlying85)) ?_
 refine wl_nil ?_
 refine qn_then ?_
 refine wc_cond (by rfl) (fun c1 => ?_) (fun c1 => ?_)
 ·
  obtain ⟨g2, rfl⟩ := Sx.pa_some c1
  obtain ⟨d, hdi⟩ := ad_at hJ.2.1
  have hdm_ := List.mem_of_getElem? hdi
  have hii_ : i < I.L.length := (List.getElem?_eq_some_iff.1 hdi).1
  have hsk_ : SmallK d.key := hI.sm _ hdm_
  have hsm_ := small_len hsk_
  refine wc_skip ?_
  refine qn_then ?_
  refine wc_seq ?_
  refine wc_block ?_
  refine wc_seq ?_
  refine wc_region ?_
  refine wl_v rfl rfl (ov_move _ rfl) ?_
  refine wl_v rfl rfl (ov_nilCheck _ rfl) ?_
  refine wl_v rfl rfl (ov_fieldAddr _ ⟨g2, 0, none⟩ _ rfl fo90_0 rfl) ?_
  refine wl_v rfl rfl (ov_loadN ⟨g2, 0, none⟩ [.string (((d).key).f0), .slice ((d).h.A) ((((d).key).f1).length) ((d).h.c), .int .i64 (((d).key).f2), .int .i64 (((d).key).f3), .int .i64 ((((d).key).f4).f0), .int .i64 ((((d).key).f4).f1), .int .i64 ((((d).key).f4).f2), .int .i64 ((((d).key).f4).f3), .int .i64 ((((d).key).f4).f4), .int .i64 ((((d).key).f4).f5), .int .i64 ((((d).key).f4).f6)] rfl sh33 (Sx.rob_cells (Sx.ents_at (i := 2) h rfl (hI.dat _ hdm_) rfl rfl) 0 rfl)) ?_
  refine wl_alloc _ h rfl rfl zo33 (fun b3 _ h => ?_)
  replace h : Sx.St _ _ (Sx.blk b3 [.string (ByteArray.empty), .slice (none) (0) (0), .int .i64 (0), .int .i64 (0), .int .i64 (0), .int .i64 (0), .int .i64 (0), .int .i64 (0), .int .i64 (0), .int .i64 (0), .int .i64 (0)] 33 :: _) _ := h
  refine wl_storebN 0 [.string (((d).key).f0), .slice ((d).h.A) ((((d).key).f1).length) ((d).h.c), .int .i64 (((d).key).f2), .int .i64 (((d).key).f3), .int .i64 ((((d).key).f4).f0), .int .i64 ((((d).key).f4).f1), .int .i64 ((((d).key).f4).f2), .int .i64 ((((d).key).f4).f3), .int .i64 ((((d).key).f4).f4), .int .i64 ((((d).key).f4).f5), .int .i64 ((((d).key).f4).f6)] [.string (((d).key).f0), .slice ((d).h.A) ((((d).key).f1).length) ((d).h.c), .int .i64 (((d).key).f2), .int .i64 (((d).key).f3), .int .i64 ((((d).key).f4).f0), .int .i64 ((((d).key).f4).f1), .int .i64 ((((d).key).f4).f2), .int .i64 ((((d).key).f4).f3), .int .i64 ((((d).key).f4).f4), .int .i64 ((((d).key).f4).f5), .int .i64 ((((d).key).f4).f6)] h rfl rfl rfl rfl (by simp [Value.oneCell']) sh33 rfl rfl (fun _ h => ?_)
  refine wl_nil ?_
  refine qn_then ?_
  refine wc_seq ?_
  refine wc_region ?_
  refine wl_lit (d := k50) [] _ [] ([]) h rfl rfl rfl rfl Try.underlying29 infb50 rfl (by decide) (by kernel_rfl) rfl (fun _ _ _ => (Reps.none _ _)) (fun A4 cp5 _ h => ?_)
  refine wl_v rfl rfl (ov_fieldAddr _ ⟨b3, 1, none⟩ _ rfl fo33_1 rfl) ?_
  refine wl_v rfl rfl (ov_loadb 1 _ h rfl rfl sh29 rfl) ?_
  refine wl_append (d := k50) (L := []) 0 _ 16 _ _ _ (((d).key).f1) flat50 h rfl rfl rfl rfl rfl ((ra_C (rlib_now h (i := 6) rfl) (hI.hdr _ hdm_))) Try.underlying29 inf50 rfl (by decide) (by decide) (by first | omega | (simp only [List.length_nil, List.length_cons, List.length_append]; omega)) (by first | rfl | simp) (fun A6 cp7 _ h => ?_)
  refine wl_v rfl rfl (ov_fieldAddr _ ⟨b3, 1, none⟩ _ rfl fo33_1 rfl) ?_
  refine wl_storeb 1 _ [.string (((d).key).f0), .slice (A6) ((([]) ++ (((d).key).f1)).length) (cp7), .int .i64 (((d).key).f2), .int .i64 (((d).key).f3), .int .i64 ((((d).key).f4).f0), .int .i64 ((((d).key).f4).f1), .int .i64 ((((d).key).f4).f2), .int .i64 ((((d).key).f4).f3), .int .i64 ((((d).key).f4).f4), .int .i64 ((((d).key).f4).f5), .int .i64 ((((d).key).f4).f6)] h rfl rfl rfl rfl rfl rfl sh29 rfl rfl (fun _ h => ?_)
  refine wl_nil ?_
  refine qn_then ?_
  refine wc_region ?_
  refine wl_v rfl rfl (ov_move _ rfl) ?_
  refine wl_v rfl rfl (ov_loadbN 1 [.string (((d).key).f0), .slice (A6) ((([]) ++ (((d).key).f1)).length) (cp7), .int .i64 (((d).key).f2), .int .i64 (((d).key).f3), .int .i64 ((((d).key).f4).f0), .int .i64 ((((d).key).f4).f1), .int .i64 ((((d).key).f4).f2), .int .i64 ((((d).key).f4).f3), .int .i64 ((((d).key).f4).f4), .int .i64 ((((d).key).f4).f5), .int .i64 ((((d).key).f4).f6)] h rfl rfl sh33 rfl) ?_
  refine wl_lit (d := kKH) [(0, .agg #[.string (((d).key).f0), .slice (A6) ((([]) ++ (((d).key).f1)).length) (cp7), .int .i64 (((d).key).f2), .int .i64 (((d).key).f3), .int .i64 ((((d).key).f4).f0), .int .i64 ((((d).key).f4).f1), .int .i64 ((((d).key).f4).f2), .int .i64 ((((d).key).f4).f3), .int .i64 ((((d).key).f4).f4), .int .i64 ((((d).key).f4).f5), .int .i64 ((((d).key).f4).f6)])] _ [.string (((d).key).f0), .slice (A6) ((([]) ++ (((d).key).f1)).length) (cp7), .int .i64 (((d).key).f2), .int .i64 (((d).key).f3), .int .i64 ((((d).key).f4).f0), .int .i64 ((((d).key).f4).f1), .int .i64 ((((d).key).f4).f2), .int .i64 ((((d).key).f4).f3), .int .i64 ((((d).key).f4).f4), .int .i64 ((((d).key).f4).f5), .int .i64 ((((d).key).f4).f6)] ([(⟨(d).key, A6, cp7⟩ : KH)]) h rfl rfl rfl rfl Try.underlying44 infb33 rfl (by decide) (by kernel_rfl) rfl (fun _ _ _ => ((Reps.none _ _).snoc (kKH_mkM _ _ _ ((⟨(d).key, A6, cp7⟩ : KH))) rfl)) (fun A8 cp9 _ h => ?_)
  refine wl_append (d := kKH) (L := KL) 8 _ 112 _ _ _ ([(⟨(d).key, A6, cp7⟩ : KH)]) flat_kh h rfl rfl rfl rfl rfl ((Sx.row_reads h (i := 0) rfl).2) Try.underlying44 inf33 rfl (by decide) (by decide) (by first | omega | (simp only [List.length_nil, List.length_cons, List.length_append]; omega)) (by first | rfl | simp) (fun A10 cp11 _ h => ?_)
  replace h := st_selT [false, true, true, true, true, true, true, true, true, true] h
  refine wl_v rfl rfl (ov_assign _ rfl) ?_
  refine wl_nil ?_
  refine qn_block_normal ?_
  refine qn_then ?_
  refine wc_region ?_
  refine wl_v rfl rfl (ov_move _ rfl) ?_
  refine wl_v rfl rfl (ov_nilCheck _ rfl) ?_
  refine wl_v rfl rfl (ov_fieldAddr _ ⟨g2, 14, none⟩ _ rfl fo90_4 rfl) ?_
  refine wl_v rfl rfl (ov_load1 ⟨g2, 14, none⟩ _ rfl sh85 ((Sx.ents_at (i := 4) h rfl (hI.dat _ hdm_) rfl rfl 14).trans rfl)) ?_
  refine wl_v rfl rfl (ov_assign _ rfl) ?_
  refine wl_nil ?_
  have e_ : ([]) ++ (((d).key).f1) = (d.key).f1 := by rfl
  replace h := st_cast (congrArg (fun z_ => ([Sx.row k50 50 (A6) (cp7) (z_), Sx.blk b3 [.string (((d).key).f0), .slice (A6) ((([]) ++ (((d).key).f1)).length) (cp7), .int .i64 (((d).key).f2), .int .i64 (((d).key).f3), .int .i64 ((((d).key).f4).f0), .int .i64 ((((d).key).f4).f1), .int .i64 ((((d).key).f4).f2), .int .i64 ((((d).key).f4).f3), .int .i64 ((((d).key).f4).f4), .int .i64 ((((d).key).f4).f5), .int .i64 ((((d).key).f4).f6)] 33, Sx.blk c [.int .i64 (room), .map (some I.gm), .pointer (Sx.pa ((adL I.L).head?)), .pointer (Sx.pa ((adL I.L).getLast?)), .int .i64 (((M.length : Nat) : Int)), .int .i64 (hits), .int .i64 (misses)] 87, Sx.mapo KU EH (I.gm) (I.BM), Sx.ents (enK 90 (Value.int .i64)) (I.δ) (I.lt) (I.er), Sx.brows 85 (I.B), rlib (I.HL), Sx.row kKH 33 (A10) (cp11) (KL ++ ([(⟨(d).key, A6, cp7⟩ : KH)])), rlib (H2)] ++ R)) e_) h
  clear e_
  replace h := st_front 8 h
  replace h := st_front 1 h
  replace h := rlib_add h
  replace h := st_front 7 h
  replace h := st_front 7 h
  replace h := st_front 7 h
  replace h := st_front 7 h
  replace h := st_front 7 h
  replace h := st_front 7 h
  replace h := st_selT [true, true, true, true, true, true, true, false] h
  refine qn_next ((i + 1), (I.er g2), A10, cp11, (KL ++ ([(⟨(d).key, A6, cp7⟩ : KH)])), (((⟨A6, (d.key).f1.length, cp7⟩ : Sx.Hdr), (d.key).f1) :: H2)) (by show I.L.length - (i + 1) < I.L.length - i; omega) ⟨rfl, rfl, rfl, trivial⟩ ?_
  show ((i + 1) ≤ I.L.length ∧ (I.er g2) = (adL I.L)[(i + 1)]? ∧ (KL ++ ([(⟨(d).key, A6, cp7⟩ : KH)])).map (·.key) = (I.L.take (i + 1)).map (·.2.key) ∧ (∀ x ∈ (KL ++ ([(⟨(d).key, A6, cp7⟩ : KH)])), ((⟨x.A, x.key.f1.length, x.c⟩ : Sx.Hdr), x.key.f1) ∈ (((⟨A6, (d.key).f1.length, cp7⟩ : Sx.Hdr), (d.key).f1) :: H2))) ∧ _
  have he_ := seg_er hI.seg hJ.2.1.symm
  refine ⟨⟨by omega, he_, ?_, ?_⟩, h⟩
  · rw [List.map_append, hJ.2.2.1, List.take_add_one, hdi]; simp
  · intro x_ hx_
    rcases List.mem_append.1 hx_ with z_ | z_
    · exact List.mem_cons_of_mem _ (hJ.2.2.2 x_ z_)
    · rw [List.mem_singleton.1 z_]; exact List.mem_cons_self
 ·
  obtain rfl := Sx.pa_none (Classical.not_not.1 c1)
  refine wc_exit ?_
  refine qn_then_exit ?_
  refine qn_then_exit ?_
  refine qn_block_exit ?_
  refine qn_then ?_
  refine wc_seq ?_
  refine wc_region ?_
  refine wl_v rfl rfl (ov_move _ rfl) ?_
  refine wl_v rfl rfl (ov_assign _ rfl) ?_
  refine wl_nil ?_
  refine qn_then ?_
  refine wc_ret ?_
  have hi_ : I.L.length ≤ i := by have z_ := hJ.2.1; rw [eq_comm, List.getElem?_eq_none_iff, List.length_map] at z_; exact z_
  replace h := st_front 6 h
  replace h := st_front 6 h
  replace h := st_front 6 h
  replace h := st_front 6 h
  replace h := st_front 6 h
  replace h := st_front 6 h
  replace h := st_front 6 h
  refine qn_ret [_] ⟨rfl, trivial⟩ ?_
  refine ⟨Ao, co, KL, H2, rfl, ?_, hJ.2.2.2, ?_⟩
  · rw [hJ.2.2.1, List.take_of_length_le hi_, ← hM]; simp [ML]
  · have h2 := cache_close I hI hM rfl rfl rfl h ⟨rfl, rfl, rfl, rfl, rfl, rfl, rfl⟩
    exact st_front 2 (st_front 2 h2)
end Go.Proofs.Ytmlkajmlhmfdgaa.KY
