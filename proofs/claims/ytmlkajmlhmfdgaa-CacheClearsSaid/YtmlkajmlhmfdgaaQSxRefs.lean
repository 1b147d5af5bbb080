/- Pruned by wip/prune.py. -/
import Derived.Test.YtmlkajmlhmfdgaaProg
import Derived.Test.YtmlkajmlhmfdgaaQSxGlue
import Derived.Test.YtmlkajmlhmfdgaaQSxArr
import Derived.Test.YtmlkajmlhmfdgaaQSxKinds
import Derived.Test.YtmlkajmlhmfdgaaQRunsTh
import Derived.Test.YtmlkajmlhmfdgaaQSxRunsR
import Derived.Test.YtmlkajmlhmfdgaaQCaP
import Derived.Test.YtmlkajmlhmfdgaaQCaRef
import Derived.Test.YtmlkajmlhmfdgaaQSxCKey
namespace Go.Proofs.Ytmlkajmlhmfdgaa.RF
open Go Go.RowKit Go.Proofs.YtmlkajmlhmfdgaaW.PrintWords Go.Proofs.Ytmlkajmlhmfdgaa.Kinds Go.Proofs.Ytmlkajmlhmfdgaa.Runs Go.Proofs.Ytmlkajmlhmfdgaa.RW Go.Proofs.Ytmlkajmlhmfdgaa.Ca Go.Proofs.Ytmlkajmlhmfdgaa.Sx 
set_option linter.unusedVariables false
set_option linter.unusedSimpArgs false
theorem fo58_1 : Sx.fieldOff Try.prog 58 1 = some 1 := by kernel_rfl
theorem sh56 : Sx.shapeOf Try.prog 56 = some (false, 1) := by kernel_rfl
theorem es56 : Sx.elemSz Try.prog 56 = some (65, 12) := by kernel_rfl
theorem fo65_0 : Sx.fieldOff Try.prog 65 0 = some 0 := by kernel_rfl
theorem sh40 : Sx.shapeOf Try.prog 40 = some (true, 11) := by kernel_rfl
theorem ent17 : Sx.Ent Try.prog 17 := ⟨Try.f17, Try.func17, by kernel_rfl, by kernel_rfl⟩
theorem sh65 : Sx.shapeOf Try.prog 65 = some (true, 12) := by kernel_rfl
theorem infb65 : (Try.prog.info? 65).map (fun i => (i.zero, i.size)) = some (some (.agg #[.string (ByteArray.empty), .slice (none) (0) (0), .int .i64 (0), .int .i64 (0), .int .i64 (0), .int .i64 (0), .int .i64 (0), .int .i64 (0), .int .i64 (0), .int .i64 (0), .int .i64 (0), .int .i64 (0)]), 12) := by kernel_rfl
theorem inf65 : (Try.prog.info? 65).map (fun i => (i.zero, i.size, i.bytes)) = some (some (.agg #[.string (ByteArray.empty), .slice (none) (0) (0), .int .i64 (0), .int .i64 (0), .int .i64 (0), .int .i64 (0), .int .i64 (0), .int .i64 (0), .int .i64 (0), .int .i64 (0), .int .i64 (0), .int .i64 (0)]), 12, 120) := by kernel_rfl
theorem zo58 : Sx.zeroOf Try.prog 58 = some (.agg #[.int .i64 (0), .slice (none) (0) (0), .int .i64 (0), .int .i64 (0)]) := by kernel_rfl
theorem sh58 : Sx.shapeOf Try.prog 58 = some (true, 4) := by kernel_rfl
theorem ent44 : Sx.Ent Try.prog 44 := ⟨Try.f44, Try.func44, by kernel_rfl, by kernel_rfl⟩
theorem fo58_3 : Sx.fieldOff Try.prog 58 3 = some 3 := by kernel_rfl
theorem sh3 : Sx.shapeOf Try.prog 3 = some (false, 1) := by kernel_rfl
theorem fo58_2 : Sx.fieldOff Try.prog 58 2 = some 2 := by kernel_rfl
theorem zo65 : Sx.zeroOf Try.prog 65 = some (.agg #[.string (ByteArray.empty), .slice (none) (0) (0), .int .i64 (0), .int .i64 (0), .int .i64 (0), .int .i64 (0), .int .i64 (0), .int .i64 (0), .int .i64 (0), .int .i64 (0), .int .i64 (0), .int .i64 (0)]) := by kernel_rfl
theorem ent45 : Sx.Ent Try.prog 45 := ⟨Try.f45, Try.func45, by kernel_rfl, by kernel_rfl⟩
theorem fo65_1 : Sx.fieldOff Try.prog 65 1 = some 11 := by kernel_rfl
theorem fo58_0 : Sx.fieldOff Try.prog 58 0 = some 0 := by kernel_rfl
theorem getD_mem3 {L : List RH} {i : Nat} (h : i < L.length) : L.getD i zRH ∈ L := by simp [List.getD, h]
set_option maxHeartbeats 400000 in
set_option maxRecDepth 100000 in
theorem rFind_calls {w0 w : World} {F0 : Nat → Prop} {R : List Sx.HP} (room hits misses : Int) (L : List RH) (A : Option Addr) (c : Nat) (k : KV) (Ak : Option Addr) (ck : Nat) (hLc : ∀ cs w, Sx.St w0 F0 (cs ++ R) w → kRH.C w A L.length L) (hll : L.length ≤ 1048576) (hE : ∀ x ∈ L, ∀ cs w, Sx.St w0 F0 (cs ++ R) w → k50.C w x.A x.key.f1.length x.key.f1) (hS : ∀ x ∈ L, SmallK x.key) (hs : SmallK k) (hr : ∀ cs w, Sx.St w0 F0 (cs ++ R) w → k50.C w Ak (k).f1.length (k).f1) (h : Sx.St w0 F0 ([] ++ R) w) : Calls Try.prog 44 #[.agg #[.int .i64 (room), .slice (A) (L.length) (c), .int .i64 (hits), .int .i64 (misses)], .agg #[.string ((k).f0), .slice (Ak) (((k).f1).length) (ck), .int .i64 ((k).f2), .int .i64 ((k).f3), .int .i64 (((k).f4).f0), .int .i64 (((k).f4).f1), .int .i64 (((k).f4).f2), .int .i64 (((k).f4).f3), .int .i64 (((k).f4).f4), .int .i64 (((k).f4).f5), .int .i64 (((k).f4).f6)]] w (fun e w1 => e = .returned (.int .i64 (findZ L k)) ∧ Sx.St w0 F0 R w1) := by
 refine Sx.calls_fn (vs := [.agg #[.int .i64 (room), .slice (A) (L.length) (c), .int .i64 (hits), .int .i64 (misses)], .agg #[.string ((k).f0), .slice (Ak) (((k).f1).length) (ck), .int .i64 ((k).f2), .int .i64 ((k).f3), .int .i64 (((k).f4).f0), .int .i64 (((k).f4).f1), .int .i64 (((k).f4).f2), .int .i64 (((k).f4).f3), .int .i64 (((k).f4).f4), .int .i64 (((k).f4).f5), .int .i64 (((k).f4).f6)]]) Try.func44 rfl Try.ntmps44 rfl ?_
 refine wc_seq ?_
 refine wc_region ?_
 refine wl_box _ h rfl rfl rfl (fun b1 _ h => ?_)
 replace h : Sx.St _ _ (Sx.blk b1 [.int .i64 (room), .slice (A) (L.length) (c), .int .i64 (hits), .int .i64 (misses)] 58 :: _) _ := h
 refine wl_box _ h rfl rfl rfl (fun b2 _ h => ?_)
 replace h : Sx.St _ _ (Sx.blk b2 [.string ((k).f0), .slice (Ak) (((k).f1).length) (ck), .int .i64 ((k).f2), .int .i64 ((k).f3), .int .i64 (((k).f4).f0), .int .i64 (((k).f4).f1), .int .i64 (((k).f4).f2), .int .i64 (((k).f4).f3), .int .i64 (((k).f4).f4), .int .i64 (((k).f4).f5), .int .i64 (((k).f4).f6)] 40 :: _) _ := h
 refine wl_v rfl rfl (ov_assign _ rfl) ?_
 refine wl_nil ?_
 refine qn_then ?_
 refine wc_seq ?_
 refine wc_seq ?_
 refine wc_region ?_
 refine wl_v rfl rfl (ov_assign _ rfl) ?_
 refine wl_nil ?_
 refine qn_then ?_
 refine wc_block ?_
 replace h := st_front 1 h
 refine wc_loop (fun (x_ : Nat × (Option Addr)) => [(2, .pointer (some ⟨b1, 0, none⟩)), (3, .pointer (some ⟨b2, 0, none⟩)), (5, .int .i64 (((x_.1 : Nat) : Int)))]) (fun (x_ : Nat × (Option Addr)) (w : World) => ((x_.1 ≤ L.length ∧ (∀ j, j < x_.1 → alikeB (L.getD j zRH).key k = false)) ∧ (∀ cs w, Sx.St w0 F0 (cs ++ R) w → kRH.C w (x_.2) L.length L)) ∧ Sx.St w0 F0 ([Sx.blk b1 [.int .i64 (room), .slice (x_.2) (L.length) (c), .int .i64 (hits), .int .i64 (misses)] 58, Sx.blk b2 [.string ((k).f0), .slice (Ak) (((k).f1).length) (ck), .int .i64 ((k).f2), .int .i64 ((k).f3), .int .i64 (((k).f4).f0), .int .i64 (((k).f4).f1), .int .i64 (((k).f4).f2), .int .i64 (((k).f4).f3), .int .i64 (((k).f4).f4), .int .i64 (((k).f4).f5), .int .i64 (((k).f4).f6)] 40] ++ R) w) (fun (x_ : Nat × (Option Addr)) => L.length - x_.1) (0, A) ?_ ?_ ?_
 · exact ⟨rfl, rfl, (congrArg (fun z_ => some (Value.int .i64 z_)) (show (0 : Int) = ((0 : Nat) : Int) by omega)), trivial⟩
 · exact ⟨⟨⟨Nat.zero_le _, fun j_ hj_ => absurd hj_ (Nat.not_lt_zero _)⟩, hLc⟩, h⟩
 rintro ⟨i, A2⟩ w h
 obtain ⟨hJ, h⟩ := h
 replace hJ : (i ≤ L.length ∧ (∀ j, j < i → alikeB (L.getD j zRH).key k = false)) ∧ (∀ cs w, Sx.St w0 F0 (cs ++ R) w → kRH.C w (A2) L.length L) := hJ
 replace h : Sx.St w0 F0 ([Sx.blk b1 [.int .i64 (room), .slice (A2) (L.length) (c), .int .i64 (hits), .int .i64 (misses)] 58, Sx.blk b2 [.string ((k).f0), .slice (Ak) (((k).f1).length) (ck), .int .i64 ((k).f2), .int .i64 ((k).f3), .int .i64 (((k).f4).f0), .int .i64 (((k).f4).f1), .int .i64 (((k).f4).f2), .int .i64 (((k).f4).f3), .int .i64 (((k).f4).f4), .int .i64 (((k).f4).f5), .int .i64 (((k).f4).f6)] 40] ++ R) w := h
 show Sx.WC _ _ _ _ [(2, .pointer (some ⟨b1, 0, none⟩)), (3, .pointer (some ⟨b2, 0, none⟩)), (5, .int .i64 (((i : Nat) : Int)))] _
 have hLz := hJ.2
 refine wc_seq ?_
 refine wc_seq ?_
 refine wc_region ?_
 refine wl_v rfl rfl (ov_move _ rfl) ?_
 refine wl_v rfl rfl (ov_fieldAddr _ ⟨b1, 1, none⟩ _ rfl fo58_1 rfl) ?_
 refine wl_v rfl rfl (ov_loadb 0 _ h rfl rfl sh56 rfl) ?_
 refine wl_v rfl rfl (ov_len _ _ _ _ _ rfl es56) ?_
 refine wl_v rfl rfl (ov_bin _ rfl rfl (binR_lss)) ?_
 refine wl_nil ?_
 refine qn_then ?_
 refine wc_cond (by rfl) (fun c3 => ?_) (fun c3 => ?_)
 ·
  have hi_ : i < L.length := by omega
  have hmem_ : L.getD i zRH ∈ L := by simp [List.getD, hi_]
  refine wc_skip ?_
  refine qn_then ?_
  refine wc_seq ?_
  refine wc_block ?_
  refine wc_seq ?_
  refine wc_draw (fun w => Sx.St w0 F0 ([Sx.blk b1 [.int .i64 (room), .slice (A2) (L.length) (c), .int .i64 (hits), .int .i64 (misses)] 58, Sx.blk b2 [.string ((k).f0), .slice (Ak) (((k).f1).length) (ck), .int .i64 ((k).f2), .int .i64 ((k).f3), .int .i64 (((k).f4).f0), .int .i64 (((k).f4).f1), .int .i64 (((k).f4).f2), .int .i64 (((k).f4).f3), .int .i64 (((k).f4).f4), .int .i64 (((k).f4).f5), .int .i64 (((k).f4).f6)] 40] ++ R) w) (by kernel_rfl) ?_
  replace h := st_drew h
  refine wa_tk 0 rfl rfl rfl (st_selT [true, true] h) (fun w_ hS => ov_fieldAddr _ ⟨b1, 1, none⟩ _ rfl fo58_1 rfl) ?_
  refine wa_tk 1 rfl rfl rfl (st_selT [true, true] h) (fun w_ hS => ov_loadb 0 _ hS rfl rfl sh56 rfl) ?_
  refine wa_tk 2 rfl rfl rfl (st_selT [true, true] h) (fun w_ hS => ov_move _ rfl) ?_
  obtain ⟨ad4, rfl⟩ := Sx.C_some ((hLz [_, _] _ h)) (k := (i : Nat)) (by first | assumption | omega | (simp only [List.length_set, List.length_append, List.length_cons, List.length_nil]; omega))
  refine wa_tk 3 rfl rfl rfl (st_selT [true, true] h) (fun w_ hS => ov_indexAddrN _ _ _ _ _ (i : Nat) rfl rfl es56 rfl (by first | assumption | omega | (simp only [List.length_take, List.length_drop, List.length_set, List.length_append, List.length_cons, List.length_nil]; omega))) ?_
  refine wa_tk 4 rfl rfl rfl (st_selT [true, true] h) (fun w_ hS => ov_fieldAddr _ ((ad4).add ((i : Nat) * 12 + 0)) _ rfl fo65_0 (by first | exact Deep.add_add _ _ _ | (rw [Deep.add_add]) | rfl)) ?_
  refine wa_tk 5 rfl rfl rfl (st_selT [true, true] h) (fun w_ hS => by
      obtain ⟨cl7, _, hk6, hc5⟩ := Sx.C_cells ((hLz [_, _] _ hS)) (z := zRH) (k := (i : Nat)) (by first | assumption | omega | (simp only [List.length_set, List.length_append, List.length_cons, List.length_nil]; omega))
      obtain rfl := kRH_open hk6
      exact ov_loadN _ [.string ((((L).getD (i : Nat) zRH).key).f0), .slice (((L).getD (i : Nat) zRH).A) (((((L).getD (i : Nat) zRH).key).f1).length) (((L).getD (i : Nat) zRH).c), .int .i64 ((((L).getD (i : Nat) zRH).key).f2), .int .i64 ((((L).getD (i : Nat) zRH).key).f3), .int .i64 (((((L).getD (i : Nat) zRH).key).f4).f0), .int .i64 (((((L).getD (i : Nat) zRH).key).f4).f1), .int .i64 (((((L).getD (i : Nat) zRH).key).f4).f2), .int .i64 (((((L).getD (i : Nat) zRH).key).f4).f3), .int .i64 (((((L).getD (i : Nat) zRH).key).f4).f4), .int .i64 (((((L).getD (i : Nat) zRH).key).f4).f5), .int .i64 (((((L).getD (i : Nat) zRH).key).f4).f6)] rfl sh40 (by intro j u hu; rw [Deep.add_add, Nat.add_assoc]; exact (hc5 _ _ (Sx.part_get 0 rfl hu)))) ?_
  refine wa_tk 6 rfl rfl rfl (st_selT [true, true] h) (fun w_ hS => ov_loadbN 1 [.string ((k).f0), .slice (Ak) (((k).f1).length) (ck), .int .i64 ((k).f2), .int .i64 ((k).f3), .int .i64 (((k).f4).f0), .int .i64 (((k).f4).f1), .int .i64 (((k).f4).f2), .int .i64 (((k).f4).f3), .int .i64 (((k).f4).f4), .int .i64 (((k).f4).f5), .int .i64 (((k).f4).f6)] hS rfl rfl sh40 rfl) ?_
  refine wa_one 7 rfl (by kernel_rfl) ?_
  refine wl_call _ rfl rfl rfl ent17 (CK.rAlike_calls (R := [Sx.blk b1 [.int .i64 (room), .slice (some ad4) (L.length) (c), .int .i64 (hits), .int .i64 (misses)] 58, Sx.blk b2 [.string ((k).f0), .slice (Ak) (((k).f1).length) (ck), .int .i64 ((k).f2), .int .i64 ((k).f3), .int .i64 (((k).f4).f0), .int .i64 (((k).f4).f1), .int .i64 (((k).f4).f2), .int .i64 (((k).f4).f3), .int .i64 (((k).f4).f4), .int .i64 (((k).f4).f5), .int .i64 (((k).f4).f6)] 40] ++ R) (((L).getD (i : Nat) zRH).key) (k) (((L).getD (i : Nat) zRH).A) (Ak) (((L).getD (i : Nat) zRH).c) (ck) (hS _ hmem_) hs (Sx.en_shift (cs2 := [Sx.blk b1 [.int .i64 (room), .slice (some ad4) (L.length) (c), .int .i64 (hits), .int .i64 (misses)] 58, Sx.blk b2 [.string ((k).f0), .slice (Ak) (((k).f1).length) (ck), .int .i64 ((k).f2), .int .i64 ((k).f3), .int .i64 (((k).f4).f0), .int .i64 (((k).f4).f1), .int .i64 (((k).f4).f2), .int .i64 (((k).f4).f3), .int .i64 (((k).f4).f4), .int .i64 (((k).f4).f5), .int .i64 (((k).f4).f6)] 40]) (hE _ hmem_)) (Sx.en_shift (cs2 := [Sx.blk b1 [.int .i64 (room), .slice (some ad4) (L.length) (c), .int .i64 (hits), .int .i64 (misses)] 58, Sx.blk b2 [.string ((k).f0), .slice (Ak) (((k).f1).length) (ck), .int .i64 ((k).f2), .int .i64 ((k).f3), .int .i64 (((k).f4).f0), .int .i64 (((k).f4).f1), .int .i64 (((k).f4).f2), .int .i64 (((k).f4).f3), .int .i64 (((k).f4).f4), .int .i64 (((k).f4).f5), .int .i64 (((k).f4).f6)] 40]) hr) h) ?_
  rintro e_ w_ ⟨rfl, h⟩
  refine ⟨_, rfl, ?_⟩
  refine wl_nil ?_
  refine qn_wa (st_selT [true, true] h) ?_
  refine wa_done (by kernel_rfl) ?_
  refine qn_then ?_
  refine wc_condb (by rfl) (fun c8 => ?_) (fun c8 => ?_)
  ·
   refine wc_seq ?_
   refine wc_region ?_
   refine wl_v rfl rfl (ov_move _ rfl) ?_
   refine wl_v rfl rfl (ov_assign _ rfl) ?_
   refine wl_nil ?_
   refine qn_then ?_
   refine wc_ret ?_
   refine qn_block_ret ?_
   refine qn_then_ret ?_
   refine qn_then_ret ?_
   refine qn_block_ret ?_
   refine qn_then_ret ?_
   replace h := st_selT [false, false] h
   refine qn_ret [_] ⟨rfl, trivial⟩ ?_
   rw [show findZ L k = (i : Int) from by unfold findZ; rw [findI_first hi_ hJ.1.2 (by assumption)]]
   exact ⟨rfl, h⟩
  ·
   refine wc_skip ?_
   refine qn_block_normal ?_
   refine qn_then ?_
   refine wc_region ?_
   refine wl_v rfl rfl (ov_move _ rfl) ?_
   refine wl_v rfl rfl (ov_bin _ rfl rfl (binR_add (r := (((i : Nat) : Int)) + 1) (Sx.w64 (by omega)))) ?_
   refine wl_v rfl rfl (ov_assign _ rfl) ?_
   refine wl_nil ?_
   replace h := st_front 1 h
   replace h := st_front 1 h
   refine qn_next ((i + 1), some ad4) (by show L.length - (i + 1) < L.length - i; omega) ⟨rfl, rfl, (congrArg (fun z_ => some (Value.int .i64 z_)) (show ((((i : Nat) : Int)) + 1 : Int) = (((i + 1) : Nat) : Int) by omega)), trivial⟩ ?_
   show (((i + 1) ≤ L.length ∧ (∀ j, j < (i + 1) → alikeB (L.getD j zRH).key k = false)) ∧ (∀ cs w, Sx.St w0 F0 (cs ++ R) w → kRH.C w (some ad4) L.length L)) ∧ _
   refine ⟨⟨⟨by omega, fun j_ hj_ => ?_⟩, hLz⟩, h⟩
   rcases Nat.lt_succ_iff_lt_or_eq.1 hj_ with z_ | z_
   · exact hJ.1.2 j_ z_
   · rw [z_]; assumption
 ·
  refine wc_exit ?_
  refine qn_then_exit ?_
  refine qn_then_exit ?_
  refine qn_block_exit ?_
  refine qn_then ?_
  refine wc_seq ?_
  refine wc_region ?_
  refine wl_v rfl rfl (ov_assign _ rfl) ?_
  refine wl_nil ?_
  refine qn_then ?_
  refine wc_ret ?_
  replace h := st_selT [false, false] h
  refine qn_ret [_] ⟨rfl, trivial⟩ ?_
  rw [show findZ L k = -1 from by unfold findZ; rw [findI_no (fun j_ hj_ => hJ.1.2 j_ (by omega))]]
  exact ⟨rfl, h⟩
set_option maxHeartbeats 400000 in
set_option maxRecDepth 100000 in
theorem rfront_calls {w0 w : World} {F0 : Nat → Prop} {R : List Sx.HP} (L : List RH) (A : Option Addr) (c : Nat) (n : Int) (k : KV) (Ak : Option Addr) (ck : Nat) (x : Int) (hLc : ∀ cs w, Sx.St w0 F0 (cs ++ R) w → kRH.C w A L.length L) (hll : L.length ≤ 1048576) (h : Sx.St w0 F0 ([] ++ R) w) : Calls Try.prog 45 #[.slice (A) (L.length) (c), .int .i64 (n), .agg #[.string ((k).f0), .slice (Ak) (((k).f1).length) (ck), .int .i64 ((k).f2), .int .i64 ((k).f3), .int .i64 (((k).f4).f0), .int .i64 (((k).f4).f1), .int .i64 (((k).f4).f2), .int .i64 (((k).f4).f3), .int .i64 (((k).f4).f4), .int .i64 (((k).f4).f5), .int .i64 (((k).f4).f6), .int .i64 (x)]] w (fun e w1 => ∃ (A2 : Option Addr) (c2 : Nat), e = .returned (.slice A2 ((⟨k, Ak, ck, x⟩ : RH) :: skipL L n L.length).length c2) ∧ Sx.St w0 F0 ([Sx.row kRH 65 A2 c2 ((⟨k, Ak, ck, x⟩ : RH) :: skipL L n L.length)] ++ R) w1) := by
 refine Sx.calls_fn (vs := [.slice (A) (L.length) (c), .int .i64 (n), .agg #[.string ((k).f0), .slice (Ak) (((k).f1).length) (ck), .int .i64 ((k).f2), .int .i64 ((k).f3), .int .i64 (((k).f4).f0), .int .i64 (((k).f4).f1), .int .i64 (((k).f4).f2), .int .i64 (((k).f4).f3), .int .i64 (((k).f4).f4), .int .i64 (((k).f4).f5), .int .i64 (((k).f4).f6), .int .i64 (x)]]) Try.func45 rfl Try.ntmps45 rfl ?_
 refine wc_seq ?_
 refine wc_region ?_
 refine wl_box _ h rfl rfl rfl (fun b1 _ h => ?_)
 replace h : Sx.St _ _ (Sx.blk b1 [.string ((k).f0), .slice (Ak) (((k).f1).length) (ck), .int .i64 ((k).f2), .int .i64 ((k).f3), .int .i64 (((k).f4).f0), .int .i64 (((k).f4).f1), .int .i64 (((k).f4).f2), .int .i64 (((k).f4).f3), .int .i64 (((k).f4).f4), .int .i64 (((k).f4).f5), .int .i64 (((k).f4).f6), .int .i64 (x)] 65 :: _) _ := h
 refine wl_v rfl rfl (ov_assign _ rfl) ?_
 refine wl_nil ?_
 refine qn_then ?_
 refine wc_seq ?_
 refine wc_region ?_
 refine wl_v rfl rfl (ov_loadbN 0 [.string ((k).f0), .slice (Ak) (((k).f1).length) (ck), .int .i64 ((k).f2), .int .i64 ((k).f3), .int .i64 (((k).f4).f0), .int .i64 (((k).f4).f1), .int .i64 (((k).f4).f2), .int .i64 (((k).f4).f3), .int .i64 (((k).f4).f4), .int .i64 (((k).f4).f5), .int .i64 (((k).f4).f6), .int .i64 (x)] h rfl rfl sh65 rfl) ?_
 refine wl_lit (d := kRH) [(0, .agg #[.string ((k).f0), .slice (Ak) (((k).f1).length) (ck), .int .i64 ((k).f2), .int .i64 ((k).f3), .int .i64 (((k).f4).f0), .int .i64 (((k).f4).f1), .int .i64 (((k).f4).f2), .int .i64 (((k).f4).f3), .int .i64 (((k).f4).f4), .int .i64 (((k).f4).f5), .int .i64 (((k).f4).f6), .int .i64 (x)])] _ [.string ((k).f0), .slice (Ak) (((k).f1).length) (ck), .int .i64 ((k).f2), .int .i64 ((k).f3), .int .i64 (((k).f4).f0), .int .i64 (((k).f4).f1), .int .i64 (((k).f4).f2), .int .i64 (((k).f4).f3), .int .i64 (((k).f4).f4), .int .i64 (((k).f4).f5), .int .i64 (((k).f4).f6), .int .i64 (x)] ([(⟨k, Ak, ck, x⟩ : RH)]) h rfl rfl rfl rfl Try.underlying56 infb65 rfl (by decide) (by kernel_rfl) rfl (fun _ _ _ => ((Reps.none _ _).snoc (kRH_mkM _ _ _ ((⟨k, Ak, ck, x⟩ : RH))) rfl)) (fun A2 cp3 _ h => ?_)
 refine wl_v rfl rfl (ov_assign _ rfl) ?_
 refine wl_nil ?_
 refine qn_then ?_
 refine wc_seq ?_
 refine wc_seq ?_
 refine wc_region ?_
 refine wl_v rfl rfl (ov_assign _ rfl) ?_
 refine wl_nil ?_
 refine qn_then ?_
 refine wc_block ?_
 have e_ : [(⟨k, Ak, ck, x⟩ : RH)] = ((⟨k, Ak, ck, x⟩ : RH) :: skipL L n 0) := by rw [skip_zero]
 replace h := st_cast (congrArg (fun z_ => ([Sx.row kRH 65 (A2) (cp3) (z_), Sx.blk b1 [.string ((k).f0), .slice (Ak) (((k).f1).length) (ck), .int .i64 ((k).f2), .int .i64 ((k).f3), .int .i64 (((k).f4).f0), .int .i64 (((k).f4).f1), .int .i64 (((k).f4).f2), .int .i64 (((k).f4).f3), .int .i64 (((k).f4).f4), .int .i64 (((k).f4).f5), .int .i64 (((k).f4).f6), .int .i64 (x)] 65] ++ R)) e_) h
 clear e_
 replace h := st_front 1 h
 refine wc_loop (fun (x_ : Nat × (Option Addr) × Nat × (Option Addr)) => [(0, .slice (x_.2.2.2) (L.length) (c)), (1, .int .i64 (n)), (5, .pointer (some ⟨b1, 0, none⟩)), (7, .slice (x_.2.1) (((⟨k, Ak, ck, x⟩ : RH) :: skipL L n x_.1).length) (x_.2.2.1)), (8, .int .i64 (((x_.1 : Nat) : Int)))]) (fun (x_ : Nat × (Option Addr) × Nat × (Option Addr)) (w : World) => (x_.1 ≤ L.length ∧ (∀ cs w, Sx.St w0 F0 (cs ++ R) w → kRH.C w (x_.2.2.2) L.length L)) ∧ Sx.St w0 F0 ([Sx.blk b1 [.string ((k).f0), .slice (Ak) (((k).f1).length) (ck), .int .i64 ((k).f2), .int .i64 ((k).f3), .int .i64 (((k).f4).f0), .int .i64 (((k).f4).f1), .int .i64 (((k).f4).f2), .int .i64 (((k).f4).f3), .int .i64 (((k).f4).f4), .int .i64 (((k).f4).f5), .int .i64 (((k).f4).f6), .int .i64 (x)] 65, Sx.row kRH 65 (x_.2.1) (x_.2.2.1) (((⟨k, Ak, ck, x⟩ : RH) :: skipL L n x_.1))] ++ R) w) (fun (x_ : Nat × (Option Addr) × Nat × (Option Addr)) => L.length - x_.1) (0, A2, cp3, A) ?_ ?_ ?_
 · exact ⟨rfl, rfl, rfl, (congrArg (fun z_ => some (Value.slice _ z_ _)) (by rw [skip_zero])), (congrArg (fun z_ => some (Value.int .i64 z_)) (show (0 : Int) = ((0 : Nat) : Int) by omega)), trivial⟩
 · exact ⟨⟨Nat.zero_le _, hLc⟩, h⟩
 rintro ⟨j, Ao, co, A2⟩ w h
 obtain ⟨hJ, h⟩ := h
 replace hJ : j ≤ L.length ∧ (∀ cs w, Sx.St w0 F0 (cs ++ R) w → kRH.C w (A2) L.length L) := hJ
 replace h : Sx.St w0 F0 ([Sx.blk b1 [.string ((k).f0), .slice (Ak) (((k).f1).length) (ck), .int .i64 ((k).f2), .int .i64 ((k).f3), .int .i64 (((k).f4).f0), .int .i64 (((k).f4).f1), .int .i64 (((k).f4).f2), .int .i64 (((k).f4).f3), .int .i64 (((k).f4).f4), .int .i64 (((k).f4).f5), .int .i64 (((k).f4).f6), .int .i64 (x)] 65, Sx.row kRH 65 (Ao) (co) (((⟨k, Ak, ck, x⟩ : RH) :: skipL L n j))] ++ R) w := h
 show Sx.WC _ _ _ _ [(0, .slice (A2) (L.length) (c)), (1, .int .i64 (n)), (5, .pointer (some ⟨b1, 0, none⟩)), (7, .slice (Ao) (((⟨k, Ak, ck, x⟩ : RH) :: skipL L n j).length) (co)), (8, .int .i64 (((j : Nat) : Int)))] _
 have hLz := hJ.2
 have hsl_ := skip_len L n j
 refine wc_seq ?_
 refine wc_seq ?_
 refine wc_region ?_
 refine wl_v rfl rfl (ov_move _ rfl) ?_
 refine wl_v rfl rfl (ov_move _ rfl) ?_
 refine wl_v rfl rfl (ov_len _ _ _ _ _ rfl es56) ?_
 refine wl_v rfl rfl (ov_bin _ rfl rfl (binR_lss)) ?_
 refine wl_nil ?_
 refine qn_then ?_
 refine wc_cond (by rfl) (fun c4 => ?_) (fun c4 => ?_)
 ·
  refine wc_skip ?_
  refine qn_then ?_
  refine wc_seq ?_
  refine wc_block ?_
  refine wc_seq ?_
  refine wc_region ?_
  refine wl_v rfl rfl (ov_move _ rfl) ?_
  refine wl_v rfl rfl (ov_move _ rfl) ?_
  refine wl_v rfl rfl (ov_bin _ rfl rfl (binR_neq)) ?_
  refine wl_nil ?_
  refine qn_then ?_
  refine wc_cond (by rfl) (fun c5 => ?_) (fun c5 => ?_)
  ·
   refine wc_region ?_
   refine wl_v rfl rfl (ov_move _ rfl) ?_
   refine wl_v rfl rfl (ov_move _ rfl) ?_
   refine wl_v rfl rfl (ov_move _ rfl) ?_
   obtain ⟨ad6, rfl⟩ := Sx.C_some ((hLz [_, _] _ h)) (k := (j : Nat)) (by first | assumption | omega | (simp only [List.length_set, List.length_append, List.length_cons, List.length_nil]; omega))
   refine wl_v rfl rfl (ov_indexAddrN _ _ _ _ _ (j : Nat) rfl rfl es56 rfl (by first | assumption | omega | (simp only [List.length_take, List.length_drop, List.length_set, List.length_append, List.length_cons, List.length_nil]; omega))) ?_
   obtain ⟨cl9, _, hk8, hc7⟩ := Sx.C_cells ((hLz [_, _] _ h)) (z := zRH) (k := (j : Nat)) (by first | assumption | omega | (simp only [List.length_set, List.length_append, List.length_cons, List.length_nil]; omega))
   obtain rfl := kRH_open hk8
   refine wl_v rfl rfl (ov_loadN _ [.string ((((L).getD (j : Nat) zRH).key).f0), .slice (((L).getD (j : Nat) zRH).A) (((((L).getD (j : Nat) zRH).key).f1).length) (((L).getD (j : Nat) zRH).c), .int .i64 ((((L).getD (j : Nat) zRH).key).f2), .int .i64 ((((L).getD (j : Nat) zRH).key).f3), .int .i64 (((((L).getD (j : Nat) zRH).key).f4).f0), .int .i64 (((((L).getD (j : Nat) zRH).key).f4).f1), .int .i64 (((((L).getD (j : Nat) zRH).key).f4).f2), .int .i64 (((((L).getD (j : Nat) zRH).key).f4).f3), .int .i64 (((((L).getD (j : Nat) zRH).key).f4).f4), .int .i64 (((((L).getD (j : Nat) zRH).key).f4).f5), .int .i64 (((((L).getD (j : Nat) zRH).key).f4).f6), .int .i64 (((L).getD (j : Nat) zRH).val)] rfl sh65 (by intro j u hu; rw [Deep.add_add]; exact (hc7 _ _ hu))) ?_
   refine wl_lit (d := kRH) [(0, .agg #[.string ((((L).getD (j : Nat) zRH).key).f0), .slice (((L).getD (j : Nat) zRH).A) (((((L).getD (j : Nat) zRH).key).f1).length) (((L).getD (j : Nat) zRH).c), .int .i64 ((((L).getD (j : Nat) zRH).key).f2), .int .i64 ((((L).getD (j : Nat) zRH).key).f3), .int .i64 (((((L).getD (j : Nat) zRH).key).f4).f0), .int .i64 (((((L).getD (j : Nat) zRH).key).f4).f1), .int .i64 (((((L).getD (j : Nat) zRH).key).f4).f2), .int .i64 (((((L).getD (j : Nat) zRH).key).f4).f3), .int .i64 (((((L).getD (j : Nat) zRH).key).f4).f4), .int .i64 (((((L).getD (j : Nat) zRH).key).f4).f5), .int .i64 (((((L).getD (j : Nat) zRH).key).f4).f6), .int .i64 (((L).getD (j : Nat) zRH).val)])] _ [.string ((((L).getD (j : Nat) zRH).key).f0), .slice (((L).getD (j : Nat) zRH).A) (((((L).getD (j : Nat) zRH).key).f1).length) (((L).getD (j : Nat) zRH).c), .int .i64 ((((L).getD (j : Nat) zRH).key).f2), .int .i64 ((((L).getD (j : Nat) zRH).key).f3), .int .i64 (((((L).getD (j : Nat) zRH).key).f4).f0), .int .i64 (((((L).getD (j : Nat) zRH).key).f4).f1), .int .i64 (((((L).getD (j : Nat) zRH).key).f4).f2), .int .i64 (((((L).getD (j : Nat) zRH).key).f4).f3), .int .i64 (((((L).getD (j : Nat) zRH).key).f4).f4), .int .i64 (((((L).getD (j : Nat) zRH).key).f4).f5), .int .i64 (((((L).getD (j : Nat) zRH).key).f4).f6), .int .i64 (((L).getD (j : Nat) zRH).val)] ([(⟨((L).getD (j : Nat) zRH).key, ((L).getD (j : Nat) zRH).A, ((L).getD (j : Nat) zRH).c, ((L).getD (j : Nat) zRH).val⟩ : RH)]) h rfl rfl rfl rfl Try.underlying56 infb65 rfl (by decide) (by kernel_rfl) rfl (fun _ _ _ => ((Reps.none _ _).snoc (kRH_mkM _ _ _ ((⟨((L).getD (j : Nat) zRH).key, ((L).getD (j : Nat) zRH).A, ((L).getD (j : Nat) zRH).c, ((L).getD (j : Nat) zRH).val⟩ : RH))) rfl)) (fun A10 cp11 _ h => ?_)
   refine wl_append (d := kRH) (L := ((⟨k, Ak, ck, x⟩ : RH) :: skipL L n j)) 2 _ 120 _ _ _ ([(⟨((L).getD (j : Nat) zRH).key, ((L).getD (j : Nat) zRH).A, ((L).getD (j : Nat) zRH).c, ((L).getD (j : Nat) zRH).val⟩ : RH)]) flat_rh h rfl rfl rfl rfl rfl ((Sx.row_reads h (i := 0) rfl).2) Try.underlying56 inf65 rfl (by decide) (by decide) (by first | omega | (simp only [List.length_nil, List.length_cons, List.length_append]; omega)) (by first | rfl | simp) (fun A12 cp13 _ h => ?_)
   replace h := st_selT [false, true, true] h
   refine wl_v rfl rfl (ov_assign _ rfl) ?_
   refine wl_nil ?_
   refine qn_block_normal ?_
   refine qn_then ?_
   refine wc_region ?_
   refine wl_v rfl rfl (ov_move _ rfl) ?_
   refine wl_v rfl rfl (ov_bin _ rfl rfl (binR_add (r := (((j : Nat) : Int)) + 1) (Sx.w64 (by omega)))) ?_
   refine wl_v rfl rfl (ov_assign _ rfl) ?_
   refine wl_nil ?_
   have hsk_ : ((⟨k, Ak, ck, x⟩ : RH) :: skipL L n (j + 1)) = (((⟨k, Ak, ck, x⟩ : RH) :: skipL L n j)) ++ ([(⟨((L).getD (j : Nat) zRH).key, ((L).getD (j : Nat) zRH).A, ((L).getD (j : Nat) zRH).c, ((L).getD (j : Nat) zRH).val⟩ : RH)]) := by
     first
     | (rw [skip_keep (by omega) (by assumption)]; rfl)
     | rw [skip_skip (by omega) (by assumption)]
   have e_ : (((⟨k, Ak, ck, x⟩ : RH) :: skipL L n j)) ++ ([(⟨((L).getD (j : Nat) zRH).key, ((L).getD (j : Nat) zRH).A, ((L).getD (j : Nat) zRH).c, ((L).getD (j : Nat) zRH).val⟩ : RH)]) = ((⟨k, Ak, ck, x⟩ : RH) :: skipL L n (j + 1)) := by exact hsk_.symm
   replace h := st_cast (congrArg (fun z_ => ([Sx.blk b1 [.string ((k).f0), .slice (Ak) (((k).f1).length) (ck), .int .i64 ((k).f2), .int .i64 ((k).f3), .int .i64 (((k).f4).f0), .int .i64 (((k).f4).f1), .int .i64 (((k).f4).f2), .int .i64 (((k).f4).f3), .int .i64 (((k).f4).f4), .int .i64 (((k).f4).f5), .int .i64 (((k).f4).f6), .int .i64 (x)] 65, Sx.row kRH 65 (A12) (cp13) (z_)] ++ R)) e_) h
   clear e_
   replace h := st_front 1 h
   replace h := st_front 1 h
   refine qn_next ((j + 1), A12, cp13, some ad6) (by show L.length - (j + 1) < L.length - j; omega) ⟨rfl, rfl, rfl, (congrArg (fun z_ => some (Value.slice (A12) z_ (cp13))) (by rw [hsk_])), (congrArg (fun z_ => some (Value.int .i64 z_)) (show ((((j : Nat) : Int)) + 1 : Int) = (((j + 1) : Nat) : Int) by omega)), trivial⟩ ?_
   show ((j + 1) ≤ L.length ∧ (∀ cs w, Sx.St w0 F0 (cs ++ R) w → kRH.C w (some ad6) L.length L)) ∧ _
   exact ⟨⟨by omega, hLz⟩, h⟩
  ·
   refine wc_skip ?_
   refine qn_block_normal ?_
   refine qn_then ?_
   refine wc_region ?_
   refine wl_v rfl rfl (ov_move _ rfl) ?_
   refine wl_v rfl rfl (ov_bin _ rfl rfl (binR_add (r := (((j : Nat) : Int)) + 1) (Sx.w64 (by omega)))) ?_
   refine wl_v rfl rfl (ov_assign _ rfl) ?_
   refine wl_nil ?_
   have hsk_ : ((⟨k, Ak, ck, x⟩ : RH) :: skipL L n (j + 1)) = ((⟨k, Ak, ck, x⟩ : RH) :: skipL L n j) := by
     first
     | (rw [skip_keep (by omega) (by assumption)]; rfl)
     | rw [skip_skip (by omega) (by assumption)]
   have e_ : ((⟨k, Ak, ck, x⟩ : RH) :: skipL L n j) = ((⟨k, Ak, ck, x⟩ : RH) :: skipL L n (j + 1)) := by exact hsk_.symm
   replace h := st_cast (congrArg (fun z_ => ([Sx.blk b1 [.string ((k).f0), .slice (Ak) (((k).f1).length) (ck), .int .i64 ((k).f2), .int .i64 ((k).f3), .int .i64 (((k).f4).f0), .int .i64 (((k).f4).f1), .int .i64 (((k).f4).f2), .int .i64 (((k).f4).f3), .int .i64 (((k).f4).f4), .int .i64 (((k).f4).f5), .int .i64 (((k).f4).f6), .int .i64 (x)] 65, Sx.row kRH 65 (Ao) (co) (z_)] ++ R)) e_) h
   clear e_
   replace h := st_front 1 h
   replace h := st_front 1 h
   refine qn_next ((j + 1), Ao, co, A2) (by show L.length - (j + 1) < L.length - j; omega) ⟨rfl, rfl, rfl, (congrArg (fun z_ => some (Value.slice (Ao) z_ (co))) (by rw [hsk_])), (congrArg (fun z_ => some (Value.int .i64 z_)) (show ((((j : Nat) : Int)) + 1 : Int) = (((j + 1) : Nat) : Int) by omega)), trivial⟩ ?_
   show ((j + 1) ≤ L.length ∧ (∀ cs w, Sx.St w0 F0 (cs ++ R) w → kRH.C w (A2) L.length L)) ∧ _
   exact ⟨⟨by omega, hLz⟩, h⟩
 ·
  refine wc_exit ?_
  refine qn_then_exit ?_
  refine qn_then_exit ?_
  refine qn_block_exit ?_
  refine qn_then ?_
  refine wc_seq ?_
  refine wc_region ?_
  refine wl_v rfl rfl (ov_move _ rfl) ?_
  refine wl_v rfl rfl (ov_assign _ rfl) ?_
  refine wl_nil ?_
  refine qn_then ?_
  refine wc_ret ?_
  have hjl_ : j = L.length := by omega
  subst hjl_
  replace h := st_front 1 h
  replace h := st_selT [true, false] h
  refine qn_ret [_] ⟨rfl, trivial⟩ ?_
  exact ⟨Ao, co, rfl, h⟩
set_option maxHeartbeats 400000 in
set_option maxRecDepth 100000 in
theorem rGet_calls {w0 w : World} {F0 : Nat → Prop} {R : List Sx.HP} (room hits misses : Int) (L : List RH) (A : Option Addr) (c : Nat) (k : KV) (Ak : Option Addr) (ck : Nat) (hll : L.length ≤ 1048576) (hE : ∀ x ∈ L, ∀ cs w, Sx.St w0 F0 (cs ++ R) w → k50.C w x.A x.key.f1.length x.key.f1) (hS : ∀ x ∈ L, SmallK x.key) (hs : SmallK k) (hr : ∀ cs w, Sx.St w0 F0 (cs ++ R) w → k50.C w Ak (k).f1.length (k).f1) (hh : 0 ≤ hits ∧ hits ≤ 2305843009213693952 ∧ 0 ≤ misses ∧ misses ≤ 2305843009213693952) (h : Sx.St w0 F0 ([rlst (A) (L)] ++ R) w) : Calls Try.prog 42 #[.agg #[.int .i64 (room), .slice (A) (L.length) (c), .int .i64 (hits), .int .i64 (misses)], .agg #[.string ((k).f0), .slice (Ak) (((k).f1).length) (ck), .int .i64 ((k).f2), .int .i64 ((k).f3), .int .i64 (((k).f4).f0), .int .i64 (((k).f4).f1), .int .i64 (((k).f4).f2), .int .i64 (((k).f4).f3), .int .i64 (((k).f4).f4), .int .i64 (((k).f4).f5), .int .i64 (((k).f4).f6)]] w (fun e w1 => ∃ (A2 : Option Addr) (c2 : Nat) (L2 : List RH), e = .returned (.tuple #[.agg #[.int .i64 room, .slice A2 L2.length c2, .int .i64 (if (getM (RMl L) k).2.isSome then hits + 1 else hits), .int .i64 (if (getM (RMl L) k).2.isSome then misses else misses + 1)], .int .i64 ((getM (RMl L) k).2.getD 0), .bool (getM (RMl L) k).2.isSome]) ∧ RMl L2 = (getM (RMl L) k).1 ∧ (∀ x ∈ L2, x ∈ L) ∧ Sx.St w0 F0 ([rlst A2 L2] ++ R) w1) := by
 refine Sx.calls_fn (vs := [.agg #[.int .i64 (room), .slice (A) (L.length) (c), .int .i64 (hits), .int .i64 (misses)], .agg #[.string ((k).f0), .slice (Ak) (((k).f1).length) (ck), .int .i64 ((k).f2), .int .i64 ((k).f3), .int .i64 (((k).f4).f0), .int .i64 (((k).f4).f1), .int .i64 (((k).f4).f2), .int .i64 (((k).f4).f3), .int .i64 (((k).f4).f4), .int .i64 (((k).f4).f5), .int .i64 (((k).f4).f6)]]) Try.func42 rfl Try.ntmps42 rfl ?_
 refine wc_seq ?_
 refine wc_region ?_
 refine wl_box _ h rfl rfl rfl (fun b1 _ h => ?_)
 replace h : Sx.St _ _ (Sx.blk b1 [.int .i64 (room), .slice (A) (L.length) (c), .int .i64 (hits), .int .i64 (misses)] 58 :: _) _ := h
 refine wl_box _ h rfl rfl rfl (fun b2 _ h => ?_)
 replace h : Sx.St _ _ (Sx.blk b2 [.string ((k).f0), .slice (Ak) (((k).f1).length) (ck), .int .i64 ((k).f2), .int .i64 ((k).f3), .int .i64 (((k).f4).f0), .int .i64 (((k).f4).f1), .int .i64 (((k).f4).f2), .int .i64 (((k).f4).f3), .int .i64 (((k).f4).f4), .int .i64 (((k).f4).f5), .int .i64 (((k).f4).f6)] 40 :: _) _ := h
 refine wl_alloc _ h rfl rfl zo58 (fun b3 _ h => ?_)
 replace h : Sx.St _ _ (Sx.blk b3 [.int .i64 (0), .slice (none) (0) (0), .int .i64 (0), .int .i64 (0)] 58 :: _) _ := h
 refine wl_v rfl rfl (ov_assign _ rfl) ?_
 refine wl_v rfl rfl (ov_assign _ rfl) ?_
 refine wl_nil ?_
 refine qn_then ?_
 refine wc_seq ?_
 refine wc_region ?_
 refine wl_v rfl rfl (ov_loadbN 2 [.int .i64 (room), .slice (A) (L.length) (c), .int .i64 (hits), .int .i64 (misses)] h rfl rfl sh58 rfl) ?_
 refine wl_v rfl rfl (ov_loadbN 1 [.string ((k).f0), .slice (Ak) (((k).f1).length) (ck), .int .i64 ((k).f2), .int .i64 ((k).f3), .int .i64 (((k).f4).f0), .int .i64 (((k).f4).f1), .int .i64 (((k).f4).f2), .int .i64 (((k).f4).f3), .int .i64 (((k).f4).f4), .int .i64 (((k).f4).f5), .int .i64 (((k).f4).f6)] h rfl rfl sh40 rfl) ?_
 refine wl_call _ rfl rfl rfl ent44 (RF.rFind_calls (R := [Sx.blk b3 [.int .i64 (0), .slice (none) (0) (0), .int .i64 (0), .int .i64 (0)] 58, Sx.blk b2 [.string ((k).f0), .slice (Ak) (((k).f1).length) (ck), .int .i64 ((k).f2), .int .i64 ((k).f3), .int .i64 (((k).f4).f0), .int .i64 (((k).f4).f1), .int .i64 (((k).f4).f2), .int .i64 (((k).f4).f3), .int .i64 (((k).f4).f4), .int .i64 (((k).f4).f5), .int .i64 (((k).f4).f6)] 40, Sx.blk b1 [.int .i64 (room), .slice (A) (L.length) (c), .int .i64 (hits), .int .i64 (misses)] 58, rlst (A) (L)] ++ R) (room) (hits) (misses) (L) (A) (c) (k) (Ak) (ck) (rlst_at (R := [Sx.blk b3 [.int .i64 (0), .slice (none) (0) (0), .int .i64 (0), .int .i64 (0)] 58, Sx.blk b2 [.string ((k).f0), .slice (Ak) (((k).f1).length) (ck), .int .i64 ((k).f2), .int .i64 ((k).f3), .int .i64 (((k).f4).f0), .int .i64 (((k).f4).f1), .int .i64 (((k).f4).f2), .int .i64 (((k).f4).f3), .int .i64 (((k).f4).f4), .int .i64 (((k).f4).f5), .int .i64 (((k).f4).f6)] 40, Sx.blk b1 [.int .i64 (room), .slice (A) (L.length) (c), .int .i64 (hits), .int .i64 (misses)] 58, rlst (A) (L)] ++ R) (j := 3) rfl) (by omega) (fun x_ hx_ => Sx.en_shift (cs2 := [Sx.blk b3 [.int .i64 (0), .slice (none) (0) (0), .int .i64 (0), .int .i64 (0)] 58, Sx.blk b2 [.string ((k).f0), .slice (Ak) (((k).f1).length) (ck), .int .i64 ((k).f2), .int .i64 ((k).f3), .int .i64 (((k).f4).f0), .int .i64 (((k).f4).f1), .int .i64 (((k).f4).f2), .int .i64 (((k).f4).f3), .int .i64 (((k).f4).f4), .int .i64 (((k).f4).f5), .int .i64 (((k).f4).f6)] 40, Sx.blk b1 [.int .i64 (room), .slice (A) (L.length) (c), .int .i64 (hits), .int .i64 (misses)] 58, rlst (A) (L)]) (hE x_ hx_)) hS hs (Sx.en_shift (cs2 := [Sx.blk b3 [.int .i64 (0), .slice (none) (0) (0), .int .i64 (0), .int .i64 (0)] 58, Sx.blk b2 [.string ((k).f0), .slice (Ak) (((k).f1).length) (ck), .int .i64 ((k).f2), .int .i64 ((k).f3), .int .i64 (((k).f4).f0), .int .i64 (((k).f4).f1), .int .i64 (((k).f4).f2), .int .i64 (((k).f4).f3), .int .i64 (((k).f4).f4), .int .i64 (((k).f4).f5), .int .i64 (((k).f4).f6)] 40, Sx.blk b1 [.int .i64 (room), .slice (A) (L.length) (c), .int .i64 (hits), .int .i64 (misses)] 58, rlst (A) (L)]) hr) h) ?_
 rintro e_ w_ ⟨rfl, h⟩
 refine ⟨_, rfl, ?_⟩
 have hfz_ := findZ_bd (L) (k)
 refine wl_v rfl rfl (ov_assign _ rfl) ?_
 refine wl_nil ?_
 refine qn_then ?_
 refine wc_seq ?_
 refine wc_seq ?_
 refine wc_region ?_
 refine wl_v rfl rfl (ov_move _ rfl) ?_
 refine wl_v rfl rfl (ov_bin _ rfl rfl (binR_lss)) ?_
 refine wl_nil ?_
 refine qn_then ?_
 refine wc_cond (by rfl) (fun c4 => ?_) (fun c4 => ?_)
 ·
  have hff_ := (hfz_.resolve_right (fun e_ => by obtain ⟨q_, _, q2_, _⟩ := e_; omega)).1
  refine wc_seq ?_
  refine wc_region ?_
  refine wl_v rfl rfl (ov_fieldAddr _ ⟨b1, 3, none⟩ _ rfl fo58_3 rfl) ?_
  refine wl_v rfl rfl (ov_loadb 2 _ h rfl rfl sh3 rfl) ?_
  refine wl_v rfl rfl (ov_bin _ rfl rfl (binR_add (r := misses + 1) (Sx.w64 (by omega)))) ?_
  refine wl_v rfl rfl (ov_fieldAddr _ ⟨b1, 3, none⟩ _ rfl fo58_3 rfl) ?_
  refine wl_storeb 2 _ [.int .i64 (room), .slice (A) (L.length) (c), .int .i64 (hits), .int .i64 (misses + 1)] h rfl rfl rfl rfl rfl rfl sh3 rfl rfl (fun _ h => ?_)
  refine wl_nil ?_
  refine qn_then ?_
  refine wc_seq ?_
  refine wc_region ?_
  refine wl_v rfl rfl (ov_loadbN 2 [.int .i64 (room), .slice (A) (L.length) (c), .int .i64 (hits), .int .i64 (misses + 1)] h rfl rfl sh58 rfl) ?_
  refine wl_storebN 0 [.int .i64 (room), .slice (A) (L.length) (c), .int .i64 (hits), .int .i64 (misses + 1)] [.int .i64 (room), .slice (A) (L.length) (c), .int .i64 (hits), .int .i64 (misses + 1)] h rfl rfl rfl rfl (by simp [Value.oneCell']) sh58 rfl rfl (fun _ h => ?_)
  refine wl_v rfl rfl (ov_assign _ rfl) ?_
  refine wl_v rfl rfl (ov_assign _ rfl) ?_
  refine wl_nil ?_
  refine qn_then ?_
  refine wc_ret ?_
  refine qn_then_ret ?_
  have hend_ := h
  replace h := st_front 3 h
  replace h := st_selT [true, false, false, false] h
  refine qn_ret [_, _, _] ⟨⟨_, rfl, Sx.loadVarN (vs := [.int .i64 (room), .slice (A) (L.length) (c), .int .i64 (hits), .int .i64 (misses + 1)]) sh58 (Sx.blk_cells (cells := [.int .i64 (room), .slice (A) (L.length) (c), .int .i64 (hits), .int .i64 (misses + 1)]) hend_ (i := 0) rfl 0 _ rfl)⟩, rfl, rfl, trivial⟩ ?_
  have hg_ := ref_getM0 hff_
  rw [hg_]
  exact ⟨A, c, L, rfl, rfl, fun x_ hx_ => hx_, h⟩
 ·
  obtain ⟨fi, hff_, hfe_, hfi_⟩ := hfz_.resolve_left (fun e_ => by omega)
  skip
  refine wc_skip ?_
  refine qn_then ?_
  refine wc_seq ?_
  refine wc_region ?_
  refine wl_v rfl rfl (ov_fieldAddr _ ⟨b1, 2, none⟩ _ rfl fo58_2 rfl) ?_
  refine wl_v rfl rfl (ov_loadb 2 _ h rfl rfl sh3 rfl) ?_
  refine wl_v rfl rfl (ov_bin _ rfl rfl (binR_add (r := hits + 1) (Sx.w64 (by omega)))) ?_
  refine wl_v rfl rfl (ov_fieldAddr _ ⟨b1, 2, none⟩ _ rfl fo58_2 rfl) ?_
  refine wl_storeb 2 _ [.int .i64 (room), .slice (A) (L.length) (c), .int .i64 (hits + 1), .int .i64 (misses)] h rfl rfl rfl rfl rfl rfl sh3 rfl rfl (fun _ h => ?_)
  refine wl_nil ?_
  refine qn_then ?_
  refine wc_seq ?_
  refine wc_region ?_
  refine wl_v rfl rfl (ov_fieldAddr _ ⟨b1, 1, none⟩ _ rfl fo58_1 rfl) ?_
  refine wl_v rfl rfl (ov_loadb 2 _ h rfl rfl sh56 rfl) ?_
  refine wl_v rfl rfl (ov_move _ rfl) ?_
  obtain ⟨ad5, rfl⟩ := Sx.C_some ((rlst_now h (i := 3) rfl)) (k := fi) (by first | assumption | omega | (simp only [List.length_set, List.length_append, List.length_cons, List.length_nil]; omega))
  refine wl_v rfl rfl (ov_indexAddrN _ _ _ _ _ fi rfl rfl es56 hfe_ (by first | assumption | omega | (simp only [List.length_take, List.length_drop, List.length_set, List.length_append, List.length_cons, List.length_nil]; omega))) ?_
  obtain ⟨cl8, _, hk7, hc6⟩ := Sx.C_cells ((rlst_now h (i := 3) rfl)) (z := zRH) (k := fi) (by first | assumption | omega | (simp only [List.length_set, List.length_append, List.length_cons, List.length_nil]; omega))
  obtain rfl := kRH_open hk7
  refine wl_v rfl rfl (ov_loadN _ [.string ((((L).getD fi zRH).key).f0), .slice (((L).getD fi zRH).A) (((((L).getD fi zRH).key).f1).length) (((L).getD fi zRH).c), .int .i64 ((((L).getD fi zRH).key).f2), .int .i64 ((((L).getD fi zRH).key).f3), .int .i64 (((((L).getD fi zRH).key).f4).f0), .int .i64 (((((L).getD fi zRH).key).f4).f1), .int .i64 (((((L).getD fi zRH).key).f4).f2), .int .i64 (((((L).getD fi zRH).key).f4).f3), .int .i64 (((((L).getD fi zRH).key).f4).f4), .int .i64 (((((L).getD fi zRH).key).f4).f5), .int .i64 (((((L).getD fi zRH).key).f4).f6), .int .i64 (((L).getD fi zRH).val)] rfl sh65 (by intro j u hu; rw [Deep.add_add]; exact (hc6 _ _ hu))) ?_
  refine wl_alloc _ h rfl rfl zo65 (fun b9 _ h => ?_)
  replace h : Sx.St _ _ (Sx.blk b9 [.string (ByteArray.empty), .slice (none) (0) (0), .int .i64 (0), .int .i64 (0), .int .i64 (0), .int .i64 (0), .int .i64 (0), .int .i64 (0), .int .i64 (0), .int .i64 (0), .int .i64 (0), .int .i64 (0)] 65 :: _) _ := h
  refine wl_storebN 0 [.string ((((L).getD fi zRH).key).f0), .slice (((L).getD fi zRH).A) (((((L).getD fi zRH).key).f1).length) (((L).getD fi zRH).c), .int .i64 ((((L).getD fi zRH).key).f2), .int .i64 ((((L).getD fi zRH).key).f3), .int .i64 (((((L).getD fi zRH).key).f4).f0), .int .i64 (((((L).getD fi zRH).key).f4).f1), .int .i64 (((((L).getD fi zRH).key).f4).f2), .int .i64 (((((L).getD fi zRH).key).f4).f3), .int .i64 (((((L).getD fi zRH).key).f4).f4), .int .i64 (((((L).getD fi zRH).key).f4).f5), .int .i64 (((((L).getD fi zRH).key).f4).f6), .int .i64 (((L).getD fi zRH).val)] [.string ((((L).getD fi zRH).key).f0), .slice (((L).getD fi zRH).A) (((((L).getD fi zRH).key).f1).length) (((L).getD fi zRH).c), .int .i64 ((((L).getD fi zRH).key).f2), .int .i64 ((((L).getD fi zRH).key).f3), .int .i64 (((((L).getD fi zRH).key).f4).f0), .int .i64 (((((L).getD fi zRH).key).f4).f1), .int .i64 (((((L).getD fi zRH).key).f4).f2), .int .i64 (((((L).getD fi zRH).key).f4).f3), .int .i64 (((((L).getD fi zRH).key).f4).f4), .int .i64 (((((L).getD fi zRH).key).f4).f5), .int .i64 (((((L).getD fi zRH).key).f4).f6), .int .i64 (((L).getD fi zRH).val)] h rfl rfl rfl rfl (by simp [Value.oneCell']) sh65 rfl rfl (fun _ h => ?_)
  refine wl_nil ?_
  refine qn_then ?_
  refine wc_seq ?_
  refine wc_region ?_
  refine wl_v rfl rfl (ov_fieldAddr _ ⟨b1, 1, none⟩ _ rfl fo58_1 rfl) ?_
  refine wl_v rfl rfl (ov_loadb 3 _ h rfl rfl sh56 rfl) ?_
  refine wl_v rfl rfl (ov_move _ rfl) ?_
  refine wl_v rfl rfl (ov_loadbN 0 [.string ((((L).getD fi zRH).key).f0), .slice (((L).getD fi zRH).A) (((((L).getD fi zRH).key).f1).length) (((L).getD fi zRH).c), .int .i64 ((((L).getD fi zRH).key).f2), .int .i64 ((((L).getD fi zRH).key).f3), .int .i64 (((((L).getD fi zRH).key).f4).f0), .int .i64 (((((L).getD fi zRH).key).f4).f1), .int .i64 (((((L).getD fi zRH).key).f4).f2), .int .i64 (((((L).getD fi zRH).key).f4).f3), .int .i64 (((((L).getD fi zRH).key).f4).f4), .int .i64 (((((L).getD fi zRH).key).f4).f5), .int .i64 (((((L).getD fi zRH).key).f4).f6), .int .i64 (((L).getD fi zRH).val)] h rfl rfl sh65 rfl) ?_
  refine wl_call _ rfl rfl rfl ent45 (RF.rfront_calls (R := [Sx.blk b9 [.string ((((L).getD fi zRH).key).f0), .slice (((L).getD fi zRH).A) (((((L).getD fi zRH).key).f1).length) (((L).getD fi zRH).c), .int .i64 ((((L).getD fi zRH).key).f2), .int .i64 ((((L).getD fi zRH).key).f3), .int .i64 (((((L).getD fi zRH).key).f4).f0), .int .i64 (((((L).getD fi zRH).key).f4).f1), .int .i64 (((((L).getD fi zRH).key).f4).f2), .int .i64 (((((L).getD fi zRH).key).f4).f3), .int .i64 (((((L).getD fi zRH).key).f4).f4), .int .i64 (((((L).getD fi zRH).key).f4).f5), .int .i64 (((((L).getD fi zRH).key).f4).f6), .int .i64 (((L).getD fi zRH).val)] 65, Sx.blk b3 [.int .i64 (0), .slice (none) (0) (0), .int .i64 (0), .int .i64 (0)] 58, Sx.blk b2 [.string ((k).f0), .slice (Ak) (((k).f1).length) (ck), .int .i64 ((k).f2), .int .i64 ((k).f3), .int .i64 (((k).f4).f0), .int .i64 (((k).f4).f1), .int .i64 (((k).f4).f2), .int .i64 (((k).f4).f3), .int .i64 (((k).f4).f4), .int .i64 (((k).f4).f5), .int .i64 (((k).f4).f6)] 40, Sx.blk b1 [.int .i64 (room), .slice (some ad5) (L.length) (c), .int .i64 (hits + 1), .int .i64 (misses)] 58, rlst (some ad5) (L)] ++ R) (L) (some ad5) (c) (findZ (L) (k)) (((L).getD fi zRH).key) (((L).getD fi zRH).A) (((L).getD fi zRH).c) (((L).getD fi zRH).val) (rlst_at (R := [Sx.blk b9 [.string ((((L).getD fi zRH).key).f0), .slice (((L).getD fi zRH).A) (((((L).getD fi zRH).key).f1).length) (((L).getD fi zRH).c), .int .i64 ((((L).getD fi zRH).key).f2), .int .i64 ((((L).getD fi zRH).key).f3), .int .i64 (((((L).getD fi zRH).key).f4).f0), .int .i64 (((((L).getD fi zRH).key).f4).f1), .int .i64 (((((L).getD fi zRH).key).f4).f2), .int .i64 (((((L).getD fi zRH).key).f4).f3), .int .i64 (((((L).getD fi zRH).key).f4).f4), .int .i64 (((((L).getD fi zRH).key).f4).f5), .int .i64 (((((L).getD fi zRH).key).f4).f6), .int .i64 (((L).getD fi zRH).val)] 65, Sx.blk b3 [.int .i64 (0), .slice (none) (0) (0), .int .i64 (0), .int .i64 (0)] 58, Sx.blk b2 [.string ((k).f0), .slice (Ak) (((k).f1).length) (ck), .int .i64 ((k).f2), .int .i64 ((k).f3), .int .i64 (((k).f4).f0), .int .i64 (((k).f4).f1), .int .i64 (((k).f4).f2), .int .i64 (((k).f4).f3), .int .i64 (((k).f4).f4), .int .i64 (((k).f4).f5), .int .i64 (((k).f4).f6)] 40, Sx.blk b1 [.int .i64 (room), .slice (some ad5) (L.length) (c), .int .i64 (hits + 1), .int .i64 (misses)] 58, rlst (some ad5) (L)] ++ R) (j := 4) rfl) (by omega) h) ?_
  rintro e_ w_ ⟨Ar10, cr10, rfl, h⟩
  refine ⟨_, rfl, ?_⟩
  replace h : Sx.St w0 F0 ([Sx.row kRH 65 (Ar10) (cr10) (((⟨((L).getD fi zRH).key, ((L).getD fi zRH).A, ((L).getD fi zRH).c, ((L).getD fi zRH).val⟩ : RH) :: skipL (L) (findZ (L) (k)) (L).length)), Sx.blk b9 [.string ((((L).getD fi zRH).key).f0), .slice (((L).getD fi zRH).A) (((((L).getD fi zRH).key).f1).length) (((L).getD fi zRH).c), .int .i64 ((((L).getD fi zRH).key).f2), .int .i64 ((((L).getD fi zRH).key).f3), .int .i64 (((((L).getD fi zRH).key).f4).f0), .int .i64 (((((L).getD fi zRH).key).f4).f1), .int .i64 (((((L).getD fi zRH).key).f4).f2), .int .i64 (((((L).getD fi zRH).key).f4).f3), .int .i64 (((((L).getD fi zRH).key).f4).f4), .int .i64 (((((L).getD fi zRH).key).f4).f5), .int .i64 (((((L).getD fi zRH).key).f4).f6), .int .i64 (((L).getD fi zRH).val)] 65, Sx.blk b3 [.int .i64 (0), .slice (none) (0) (0), .int .i64 (0), .int .i64 (0)] 58, Sx.blk b2 [.string ((k).f0), .slice (Ak) (((k).f1).length) (ck), .int .i64 ((k).f2), .int .i64 ((k).f3), .int .i64 (((k).f4).f0), .int .i64 (((k).f4).f1), .int .i64 (((k).f4).f2), .int .i64 (((k).f4).f3), .int .i64 (((k).f4).f4), .int .i64 (((k).f4).f5), .int .i64 (((k).f4).f6)] 40, Sx.blk b1 [.int .i64 (room), .slice (some ad5) (L.length) (c), .int .i64 (hits + 1), .int .i64 (misses)] 58, rlst (some ad5) (L)] ++ R) _ := h
  refine wl_v rfl rfl (ov_fieldAddr _ ⟨b1, 1, none⟩ _ rfl fo58_1 rfl) ?_
  refine wl_storeb 4 _ [.int .i64 (room), .slice (Ar10) (((⟨((L).getD fi zRH).key, ((L).getD fi zRH).A, ((L).getD fi zRH).c, ((L).getD fi zRH).val⟩ : RH) :: skipL (L) (findZ (L) (k)) (L).length).length) (cr10), .int .i64 (hits + 1), .int .i64 (misses)] h rfl rfl rfl rfl rfl rfl sh56 rfl rfl (fun _ h => ?_)
  refine wl_nil ?_
  refine qn_then ?_
  refine wc_seq ?_
  refine wc_draw (fun w => Sx.St w0 F0 ([Sx.row kRH 65 (Ar10) (cr10) (((⟨((L).getD fi zRH).key, ((L).getD fi zRH).A, ((L).getD fi zRH).c, ((L).getD fi zRH).val⟩ : RH) :: skipL (L) (findZ (L) (k)) (L).length)), Sx.blk b9 [.string ((((L).getD fi zRH).key).f0), .slice (((L).getD fi zRH).A) (((((L).getD fi zRH).key).f1).length) (((L).getD fi zRH).c), .int .i64 ((((L).getD fi zRH).key).f2), .int .i64 ((((L).getD fi zRH).key).f3), .int .i64 (((((L).getD fi zRH).key).f4).f0), .int .i64 (((((L).getD fi zRH).key).f4).f1), .int .i64 (((((L).getD fi zRH).key).f4).f2), .int .i64 (((((L).getD fi zRH).key).f4).f3), .int .i64 (((((L).getD fi zRH).key).f4).f4), .int .i64 (((((L).getD fi zRH).key).f4).f5), .int .i64 (((((L).getD fi zRH).key).f4).f6), .int .i64 (((L).getD fi zRH).val)] 65, Sx.blk b2 [.string ((k).f0), .slice (Ak) (((k).f1).length) (ck), .int .i64 ((k).f2), .int .i64 ((k).f3), .int .i64 (((k).f4).f0), .int .i64 (((k).f4).f1), .int .i64 (((k).f4).f2), .int .i64 (((k).f4).f3), .int .i64 (((k).f4).f4), .int .i64 (((k).f4).f5), .int .i64 (((k).f4).f6)] 40, Sx.blk b1 [.int .i64 (room), .slice (Ar10) (((⟨((L).getD fi zRH).key, ((L).getD fi zRH).A, ((L).getD fi zRH).c, ((L).getD fi zRH).val⟩ : RH) :: skipL (L) (findZ (L) (k)) (L).length).length) (cr10), .int .i64 (hits + 1), .int .i64 (misses)] 58, rlst (some ad5) (L)] ++ R) w) (by kernel_rfl) ?_
  replace h := st_drew h
  refine wa_tk 0 rfl rfl rfl (st_selT [true, true, false, true, true, true] h) (fun w_ hS => ov_loadbN 3 [.int .i64 (room), .slice (Ar10) (((⟨((L).getD fi zRH).key, ((L).getD fi zRH).A, ((L).getD fi zRH).c, ((L).getD fi zRH).val⟩ : RH) :: skipL (L) (findZ (L) (k)) (L).length).length) (cr10), .int .i64 (hits + 1), .int .i64 (misses)] hS rfl rfl sh58 rfl) ?_
  refine wa_tk 1 rfl rfl rfl (st_selT [true, true, false, true, true, true] h) (fun w_ hS => ov_fieldAddr _ ⟨b9, 11, none⟩ _ rfl fo65_1 rfl) ?_
  refine wa_tk 2 rfl rfl rfl (st_selT [true, true, false, true, true, true] h) (fun w_ hS => ov_loadb 1 _ hS rfl rfl sh3 rfl) ?_
  refine wa_one 3 rfl (by kernel_rfl) ?_
  refine wl_storebN 2 [.int .i64 (room), .slice (Ar10) (((⟨((L).getD fi zRH).key, ((L).getD fi zRH).A, ((L).getD fi zRH).c, ((L).getD fi zRH).val⟩ : RH) :: skipL (L) (findZ (L) (k)) (L).length).length) (cr10), .int .i64 (hits + 1), .int .i64 (misses)] [.int .i64 (room), .slice (Ar10) (((⟨((L).getD fi zRH).key, ((L).getD fi zRH).A, ((L).getD fi zRH).c, ((L).getD fi zRH).val⟩ : RH) :: skipL (L) (findZ (L) (k)) (L).length).length) (cr10), .int .i64 (hits + 1), .int .i64 (misses)] h rfl rfl rfl rfl (by simp [Value.oneCell']) sh58 rfl rfl (fun _ h => ?_)
  refine wl_nil ?_
  refine qn_wa (st_selT [true, true, false, true, true, true] h) ?_
  refine wa_tk 4 rfl rfl rfl (st_selT [true, true, false, true, true, true] h) (fun w_ hS => ov_assign _ rfl) ?_
  refine wa_tk 5 rfl rfl rfl (st_selT [true, true, false, true, true, true] h) (fun w_ hS => ov_assign _ rfl) ?_
  refine wa_done (by kernel_rfl) ?_
  refine qn_then ?_
  refine wc_ret ?_
  have hend_ := h
  replace h := rlst_row h
  replace h := st_selT [true, false, false, false, false, false] h
  refine qn_ret [_, _, _] ⟨⟨_, rfl, Sx.loadVarN (vs := [.int .i64 (room), .slice (Ar10) (((⟨((L).getD fi zRH).key, ((L).getD fi zRH).A, ((L).getD fi zRH).c, ((L).getD fi zRH).val⟩ : RH) :: skipL (L) (findZ (L) (k)) (L).length).length) (cr10), .int .i64 (hits + 1), .int .i64 (misses)]) sh58 (Sx.blk_cells (cells := [.int .i64 (room), .slice (Ar10) (((⟨((L).getD fi zRH).key, ((L).getD fi zRH).A, ((L).getD fi zRH).c, ((L).getD fi zRH).val⟩ : RH) :: skipL (L) (findZ (L) (k)) (L).length).length) (cr10), .int .i64 (hits + 1), .int .i64 (misses)]) hend_ (i := 2) rfl 0 _ rfl)⟩, rfl, rfl, trivial⟩ ?_
  have hg_ := ref_getM hff_ hfi_
  rw [hfe_] at h ⊢
  rw [hg_]
  refine ⟨_, _, _, rfl, rfl, fun x_ hx_ => ?_, h⟩
  rcases List.mem_cons.1 hx_ with z_ | z_
  · rw [z_]; exact getD_mem3 hfi_
  · exact skip_sub x_ z_
set_option maxHeartbeats 400000 in
set_option maxRecDepth 100000 in
theorem rPut_calls {w0 w : World} {F0 : Nat → Prop} {R : List Sx.HP} (room hits misses : Int) (L : List RH) (A : Option Addr) (c : Nat) (k : KV) (Ak : Option Addr) (ck : Nat) (v : Int) (hll : L.length ≤ 1048576) (hE : ∀ x ∈ L, ∀ cs w, Sx.St w0 F0 (cs ++ R) w → k50.C w x.A x.key.f1.length x.key.f1) (hS : ∀ x ∈ L, SmallK x.key) (hs : SmallK k) (hr : ∀ cs w, Sx.St w0 F0 (cs ++ R) w → k50.C w Ak (k).f1.length (k).f1) (hrm : (L.length : Int) ≤ room) (h : Sx.St w0 F0 ([rlst (A) (L)] ++ R) w) : Calls Try.prog 41 #[.agg #[.int .i64 (room), .slice (A) (L.length) (c), .int .i64 (hits), .int .i64 (misses)], .agg #[.string ((k).f0), .slice (Ak) (((k).f1).length) (ck), .int .i64 ((k).f2), .int .i64 ((k).f3), .int .i64 (((k).f4).f0), .int .i64 (((k).f4).f1), .int .i64 (((k).f4).f2), .int .i64 (((k).f4).f3), .int .i64 (((k).f4).f4), .int .i64 (((k).f4).f5), .int .i64 (((k).f4).f6)], .int .i64 (v)] w (fun e w1 => ∃ (A2 : Option Addr) (c2 : Nat) (L2 : List RH), e = .returned (.agg #[.int .i64 room, .slice A2 L2.length c2, .int .i64 hits, .int .i64 misses]) ∧ RMl L2 = putM room (RMl L) k v ∧ (∀ x ∈ L2, (∃ y ∈ L, x.A = y.A ∧ x.key = y.key) ∨ (x.A = Ak ∧ x.key = k)) ∧ Sx.St w0 F0 ([rlst A2 L2] ++ R) w1) := by
 refine Sx.calls_fn (vs := [.agg #[.int .i64 (room), .slice (A) (L.length) (c), .int .i64 (hits), .int .i64 (misses)], .agg #[.string ((k).f0), .slice (Ak) (((k).f1).length) (ck), .int .i64 ((k).f2), .int .i64 ((k).f3), .int .i64 (((k).f4).f0), .int .i64 (((k).f4).f1), .int .i64 (((k).f4).f2), .int .i64 (((k).f4).f3), .int .i64 (((k).f4).f4), .int .i64 (((k).f4).f5), .int .i64 (((k).f4).f6)], .int .i64 (v)]) Try.func41 rfl Try.ntmps41 rfl ?_
 refine wc_seq ?_
 refine wc_region ?_
 refine wl_box _ h rfl rfl rfl (fun b1 _ h => ?_)
 replace h : Sx.St _ _ (Sx.blk b1 [.int .i64 (room), .slice (A) (L.length) (c), .int .i64 (hits), .int .i64 (misses)] 58 :: _) _ := h
 refine wl_box _ h rfl rfl rfl (fun b2 _ h => ?_)
 replace h : Sx.St _ _ (Sx.blk b2 [.string ((k).f0), .slice (Ak) (((k).f1).length) (ck), .int .i64 ((k).f2), .int .i64 ((k).f3), .int .i64 (((k).f4).f0), .int .i64 (((k).f4).f1), .int .i64 (((k).f4).f2), .int .i64 (((k).f4).f3), .int .i64 (((k).f4).f4), .int .i64 (((k).f4).f5), .int .i64 (((k).f4).f6)] 40 :: _) _ := h
 refine wl_alloc _ h rfl rfl zo58 (fun b3 _ h => ?_)
 replace h : Sx.St _ _ (Sx.blk b3 [.int .i64 (0), .slice (none) (0) (0), .int .i64 (0), .int .i64 (0)] 58 :: _) _ := h
 refine wl_nil ?_
 refine qn_then ?_
 refine wc_seq ?_
 refine wc_seq ?_
 refine wc_region ?_
 refine wl_v rfl rfl (ov_fieldAddr _ ⟨b1, 0, none⟩ _ rfl fo58_0 rfl) ?_
 refine wl_v rfl rfl (ov_loadb 2 _ h rfl rfl sh3 rfl) ?_
 refine wl_v rfl rfl (ov_bin _ rfl rfl (binR_eql)) ?_
 refine wl_nil ?_
 refine qn_then ?_
 refine wc_cond (by rfl) (fun c4 => ?_) (fun c4 => ?_)
 ·
  refine wc_seq ?_
  refine wc_region ?_
  refine wl_v rfl rfl (ov_loadbN 2 [.int .i64 (room), .slice (A) (L.length) (c), .int .i64 (hits), .int .i64 (misses)] h rfl rfl sh58 rfl) ?_
  refine wl_storebN 0 [.int .i64 (room), .slice (A) (L.length) (c), .int .i64 (hits), .int .i64 (misses)] [.int .i64 (room), .slice (A) (L.length) (c), .int .i64 (hits), .int .i64 (misses)] h rfl rfl rfl rfl (by simp [Value.oneCell']) sh58 rfl rfl (fun _ h => ?_)
  refine wl_nil ?_
  refine qn_then ?_
  refine wc_ret ?_
  refine qn_then_ret ?_
  have hend_ := h
  replace h := st_front 3 h
  replace h := st_selT [true, false, false, false] h
  refine qn_ret [_] ⟨⟨_, rfl, Sx.loadVarN (vs := [.int .i64 (room), .slice (A) (L.length) (c), .int .i64 (hits), .int .i64 (misses)]) sh58 (Sx.blk_cells (cells := [.int .i64 (room), .slice (A) (L.length) (c), .int .i64 (hits), .int .i64 (misses)]) hend_ (i := 0) rfl 0 _ rfl)⟩, trivial⟩ ?_
  rw [show putM room (RMl L) k v = RMl L from by unfold putM; rw [if_pos (by omega)]]
  exact ⟨A, c, L, rfl, rfl, fun x_ hx_ => .inl ⟨x_, hx_, rfl, rfl⟩, h⟩
 ·
  refine wc_skip ?_
  refine qn_then ?_
  refine wc_seq ?_
  refine wc_region ?_
  refine wl_v rfl rfl (ov_loadbN 2 [.int .i64 (room), .slice (A) (L.length) (c), .int .i64 (hits), .int .i64 (misses)] h rfl rfl sh58 rfl) ?_
  refine wl_v rfl rfl (ov_loadbN 1 [.string ((k).f0), .slice (Ak) (((k).f1).length) (ck), .int .i64 ((k).f2), .int .i64 ((k).f3), .int .i64 (((k).f4).f0), .int .i64 (((k).f4).f1), .int .i64 (((k).f4).f2), .int .i64 (((k).f4).f3), .int .i64 (((k).f4).f4), .int .i64 (((k).f4).f5), .int .i64 (((k).f4).f6)] h rfl rfl sh40 rfl) ?_
  refine wl_call _ rfl rfl rfl ent44 (RF.rFind_calls (R := [Sx.blk b3 [.int .i64 (0), .slice (none) (0) (0), .int .i64 (0), .int .i64 (0)] 58, Sx.blk b2 [.string ((k).f0), .slice (Ak) (((k).f1).length) (ck), .int .i64 ((k).f2), .int .i64 ((k).f3), .int .i64 (((k).f4).f0), .int .i64 (((k).f4).f1), .int .i64 (((k).f4).f2), .int .i64 (((k).f4).f3), .int .i64 (((k).f4).f4), .int .i64 (((k).f4).f5), .int .i64 (((k).f4).f6)] 40, Sx.blk b1 [.int .i64 (room), .slice (A) (L.length) (c), .int .i64 (hits), .int .i64 (misses)] 58, rlst (A) (L)] ++ R) (room) (hits) (misses) (L) (A) (c) (k) (Ak) (ck) (rlst_at (R := [Sx.blk b3 [.int .i64 (0), .slice (none) (0) (0), .int .i64 (0), .int .i64 (0)] 58, Sx.blk b2 [.string ((k).f0), .slice (Ak) (((k).f1).length) (ck), .int .i64 ((k).f2), .int .i64 ((k).f3), .int .i64 (((k).f4).f0), .int .i64 (((k).f4).f1), .int .i64 (((k).f4).f2), .int .i64 (((k).f4).f3), .int .i64 (((k).f4).f4), .int .i64 (((k).f4).f5), .int .i64 (((k).f4).f6)] 40, Sx.blk b1 [.int .i64 (room), .slice (A) (L.length) (c), .int .i64 (hits), .int .i64 (misses)] 58, rlst (A) (L)] ++ R) (j := 3) rfl) (by omega) (fun x_ hx_ => Sx.en_shift (cs2 := [Sx.blk b3 [.int .i64 (0), .slice (none) (0) (0), .int .i64 (0), .int .i64 (0)] 58, Sx.blk b2 [.string ((k).f0), .slice (Ak) (((k).f1).length) (ck), .int .i64 ((k).f2), .int .i64 ((k).f3), .int .i64 (((k).f4).f0), .int .i64 (((k).f4).f1), .int .i64 (((k).f4).f2), .int .i64 (((k).f4).f3), .int .i64 (((k).f4).f4), .int .i64 (((k).f4).f5), .int .i64 (((k).f4).f6)] 40, Sx.blk b1 [.int .i64 (room), .slice (A) (L.length) (c), .int .i64 (hits), .int .i64 (misses)] 58, rlst (A) (L)]) (hE x_ hx_)) hS hs (Sx.en_shift (cs2 := [Sx.blk b3 [.int .i64 (0), .slice (none) (0) (0), .int .i64 (0), .int .i64 (0)] 58, Sx.blk b2 [.string ((k).f0), .slice (Ak) (((k).f1).length) (ck), .int .i64 ((k).f2), .int .i64 ((k).f3), .int .i64 (((k).f4).f0), .int .i64 (((k).f4).f1), .int .i64 (((k).f4).f2), .int .i64 (((k).f4).f3), .int .i64 (((k).f4).f4), .int .i64 (((k).f4).f5), .int .i64 (((k).f4).f6)] 40, Sx.blk b1 [.int .i64 (room), .slice (A) (L.length) (c), .int .i64 (hits), .int .i64 (misses)] 58, rlst (A) (L)]) hr) h) ?_
  rintro e_ w_ ⟨rfl, h⟩
  refine ⟨_, rfl, ?_⟩
  have hfz_ := findZ_bd (L) (k)
  refine wl_v rfl rfl (ov_assign _ rfl) ?_
  refine wl_nil ?_
  refine qn_then ?_
  refine wc_seq ?_
  refine wc_seq ?_
  refine wc_region ?_
  refine wl_v rfl rfl (ov_move _ rfl) ?_
  refine wl_v rfl rfl (ov_bin _ rfl rfl (binR_geq)) ?_
  refine wl_nil ?_
  refine qn_then ?_
  refine wc_cond (by rfl) (fun c5 => ?_) (fun c5 => ?_)
  ·
   obtain ⟨fi, hff_, hfe_, hfi_⟩ := hfz_.resolve_left (fun e_ => by omega)
   refine wc_region ?_
   refine wl_v rfl rfl (ov_fieldAddr _ ⟨b1, 1, none⟩ _ rfl fo58_1 rfl) ?_
   refine wl_v rfl rfl (ov_loadb 2 _ h rfl rfl sh56 rfl) ?_
   refine wl_v rfl rfl (ov_move _ rfl) ?_
   obtain ⟨ad6, rfl⟩ := Sx.C_some ((rlst_now h (i := 3) rfl)) (k := fi) (by first | assumption | omega | (simp only [List.length_set, List.length_append, List.length_cons, List.length_nil]; omega))
   refine wl_v rfl rfl (ov_indexAddrN _ _ _ _ _ fi rfl rfl es56 hfe_ (by first | assumption | omega | (simp only [List.length_take, List.length_drop, List.length_set, List.length_append, List.length_cons, List.length_nil]; omega))) ?_
   refine wl_v rfl rfl (ov_fieldAddr _ ((ad6).add (fi * 12 + 0)) _ rfl fo65_0 (by first | exact Deep.add_add _ _ _ | (rw [Deep.add_add]) | rfl)) ?_
   obtain ⟨cl9, _, hk8, hc7⟩ := Sx.C_cells ((rlst_now h (i := 3) rfl)) (z := zRH) (k := fi) (by first | assumption | omega | (simp only [List.length_set, List.length_append, List.length_cons, List.length_nil]; omega))
   obtain rfl := kRH_open hk8
   refine wl_v rfl rfl (ov_loadN _ [.string ((((L).getD fi zRH).key).f0), .slice (((L).getD fi zRH).A) (((((L).getD fi zRH).key).f1).length) (((L).getD fi zRH).c), .int .i64 ((((L).getD fi zRH).key).f2), .int .i64 ((((L).getD fi zRH).key).f3), .int .i64 (((((L).getD fi zRH).key).f4).f0), .int .i64 (((((L).getD fi zRH).key).f4).f1), .int .i64 (((((L).getD fi zRH).key).f4).f2), .int .i64 (((((L).getD fi zRH).key).f4).f3), .int .i64 (((((L).getD fi zRH).key).f4).f4), .int .i64 (((((L).getD fi zRH).key).f4).f5), .int .i64 (((((L).getD fi zRH).key).f4).f6)] rfl sh40 (by intro j u hu; rw [Deep.add_add, Nat.add_assoc]; exact (hc7 _ _ (Sx.part_get 0 rfl hu)))) ?_
   refine wl_storebN 1 [.string ((((L).getD fi zRH).key).f0), .slice (((L).getD fi zRH).A) (((((L).getD fi zRH).key).f1).length) (((L).getD fi zRH).c), .int .i64 ((((L).getD fi zRH).key).f2), .int .i64 ((((L).getD fi zRH).key).f3), .int .i64 (((((L).getD fi zRH).key).f4).f0), .int .i64 (((((L).getD fi zRH).key).f4).f1), .int .i64 (((((L).getD fi zRH).key).f4).f2), .int .i64 (((((L).getD fi zRH).key).f4).f3), .int .i64 (((((L).getD fi zRH).key).f4).f4), .int .i64 (((((L).getD fi zRH).key).f4).f5), .int .i64 (((((L).getD fi zRH).key).f4).f6)] [.string ((((L).getD fi zRH).key).f0), .slice (((L).getD fi zRH).A) (((((L).getD fi zRH).key).f1).length) (((L).getD fi zRH).c), .int .i64 ((((L).getD fi zRH).key).f2), .int .i64 ((((L).getD fi zRH).key).f3), .int .i64 (((((L).getD fi zRH).key).f4).f0), .int .i64 (((((L).getD fi zRH).key).f4).f1), .int .i64 (((((L).getD fi zRH).key).f4).f2), .int .i64 (((((L).getD fi zRH).key).f4).f3), .int .i64 (((((L).getD fi zRH).key).f4).f4), .int .i64 (((((L).getD fi zRH).key).f4).f5), .int .i64 (((((L).getD fi zRH).key).f4).f6)] h rfl rfl rfl rfl (by simp [Value.oneCell']) sh40 rfl rfl (fun _ h => ?_)
   refine wl_nil ?_
   refine qn_then ?_
   refine wc_seq ?_
   refine wc_region ?_
   refine wl_v rfl rfl (ov_fieldAddr _ ⟨b1, 1, none⟩ _ rfl fo58_1 rfl) ?_
   refine wl_v rfl rfl (ov_loadb 2 _ h rfl rfl sh56 rfl) ?_
   refine wl_v rfl rfl (ov_move _ rfl) ?_
   refine wl_v rfl rfl (ov_loadbN 1 [.string ((((L).getD fi zRH).key).f0), .slice (((L).getD fi zRH).A) (((((L).getD fi zRH).key).f1).length) (((L).getD fi zRH).c), .int .i64 ((((L).getD fi zRH).key).f2), .int .i64 ((((L).getD fi zRH).key).f3), .int .i64 (((((L).getD fi zRH).key).f4).f0), .int .i64 (((((L).getD fi zRH).key).f4).f1), .int .i64 (((((L).getD fi zRH).key).f4).f2), .int .i64 (((((L).getD fi zRH).key).f4).f3), .int .i64 (((((L).getD fi zRH).key).f4).f4), .int .i64 (((((L).getD fi zRH).key).f4).f5), .int .i64 (((((L).getD fi zRH).key).f4).f6)] h rfl rfl sh40 rfl) ?_
   refine wl_v rfl rfl (ov_move _ rfl) ?_
   refine wl_v rfl rfl (ov_build [(0, .agg #[.string ((((L).getD fi zRH).key).f0), .slice (((L).getD fi zRH).A) (((((L).getD fi zRH).key).f1).length) (((L).getD fi zRH).c), .int .i64 ((((L).getD fi zRH).key).f2), .int .i64 ((((L).getD fi zRH).key).f3), .int .i64 (((((L).getD fi zRH).key).f4).f0), .int .i64 (((((L).getD fi zRH).key).f4).f1), .int .i64 (((((L).getD fi zRH).key).f4).f2), .int .i64 (((((L).getD fi zRH).key).f4).f3), .int .i64 (((((L).getD fi zRH).key).f4).f4), .int .i64 (((((L).getD fi zRH).key).f4).f5), .int .i64 (((((L).getD fi zRH).key).f4).f6)]), (1, .int .i64 (v))] [.string ((((L).getD fi zRH).key).f0), .slice (((L).getD fi zRH).A) (((((L).getD fi zRH).key).f1).length) (((L).getD fi zRH).c), .int .i64 ((((L).getD fi zRH).key).f2), .int .i64 ((((L).getD fi zRH).key).f3), .int .i64 (((((L).getD fi zRH).key).f4).f0), .int .i64 (((((L).getD fi zRH).key).f4).f1), .int .i64 (((((L).getD fi zRH).key).f4).f2), .int .i64 (((((L).getD fi zRH).key).f4).f3), .int .i64 (((((L).getD fi zRH).key).f4).f4), .int .i64 (((((L).getD fi zRH).key).f4).f5), .int .i64 (((((L).getD fi zRH).key).f4).f6), .int .i64 (v)] rfl rfl (by kernel_rfl)) ?_
   refine wl_call _ rfl rfl rfl ent45 (RF.rfront_calls (R := [Sx.blk b3 [.int .i64 (0), .slice (none) (0) (0), .int .i64 (0), .int .i64 (0)] 58, Sx.blk b2 [.string ((((L).getD fi zRH).key).f0), .slice (((L).getD fi zRH).A) (((((L).getD fi zRH).key).f1).length) (((L).getD fi zRH).c), .int .i64 ((((L).getD fi zRH).key).f2), .int .i64 ((((L).getD fi zRH).key).f3), .int .i64 (((((L).getD fi zRH).key).f4).f0), .int .i64 (((((L).getD fi zRH).key).f4).f1), .int .i64 (((((L).getD fi zRH).key).f4).f2), .int .i64 (((((L).getD fi zRH).key).f4).f3), .int .i64 (((((L).getD fi zRH).key).f4).f4), .int .i64 (((((L).getD fi zRH).key).f4).f5), .int .i64 (((((L).getD fi zRH).key).f4).f6)] 40, Sx.blk b1 [.int .i64 (room), .slice (some ad6) (L.length) (c), .int .i64 (hits), .int .i64 (misses)] 58, rlst (some ad6) (L)] ++ R) (L) (some ad6) (c) (findZ (L) (k)) (((L).getD fi zRH).key) (((L).getD fi zRH).A) (((L).getD fi zRH).c) (v) (rlst_at (R := [Sx.blk b3 [.int .i64 (0), .slice (none) (0) (0), .int .i64 (0), .int .i64 (0)] 58, Sx.blk b2 [.string ((((L).getD fi zRH).key).f0), .slice (((L).getD fi zRH).A) (((((L).getD fi zRH).key).f1).length) (((L).getD fi zRH).c), .int .i64 ((((L).getD fi zRH).key).f2), .int .i64 ((((L).getD fi zRH).key).f3), .int .i64 (((((L).getD fi zRH).key).f4).f0), .int .i64 (((((L).getD fi zRH).key).f4).f1), .int .i64 (((((L).getD fi zRH).key).f4).f2), .int .i64 (((((L).getD fi zRH).key).f4).f3), .int .i64 (((((L).getD fi zRH).key).f4).f4), .int .i64 (((((L).getD fi zRH).key).f4).f5), .int .i64 (((((L).getD fi zRH).key).f4).f6)] 40, Sx.blk b1 [.int .i64 (room), .slice (some ad6) (L.length) (c), .int .i64 (hits), .int .i64 (misses)] 58, rlst (some ad6) (L)] ++ R) (j := 3) rfl) (by omega) h) ?_
   rintro e_ w_ ⟨Ar10, cr10, rfl, h⟩
   refine ⟨_, rfl, ?_⟩
   replace h : Sx.St w0 F0 ([Sx.row kRH 65 (Ar10) (cr10) (((⟨((L).getD fi zRH).key, ((L).getD fi zRH).A, ((L).getD fi zRH).c, v⟩ : RH) :: skipL (L) (findZ (L) (k)) (L).length)), Sx.blk b3 [.int .i64 (0), .slice (none) (0) (0), .int .i64 (0), .int .i64 (0)] 58, Sx.blk b2 [.string ((((L).getD fi zRH).key).f0), .slice (((L).getD fi zRH).A) (((((L).getD fi zRH).key).f1).length) (((L).getD fi zRH).c), .int .i64 ((((L).getD fi zRH).key).f2), .int .i64 ((((L).getD fi zRH).key).f3), .int .i64 (((((L).getD fi zRH).key).f4).f0), .int .i64 (((((L).getD fi zRH).key).f4).f1), .int .i64 (((((L).getD fi zRH).key).f4).f2), .int .i64 (((((L).getD fi zRH).key).f4).f3), .int .i64 (((((L).getD fi zRH).key).f4).f4), .int .i64 (((((L).getD fi zRH).key).f4).f5), .int .i64 (((((L).getD fi zRH).key).f4).f6)] 40, Sx.blk b1 [.int .i64 (room), .slice (some ad6) (L.length) (c), .int .i64 (hits), .int .i64 (misses)] 58, rlst (some ad6) (L)] ++ R) _ := h
   refine wl_v rfl rfl (ov_assign _ rfl) ?_
   refine wl_nil ?_
   refine qn_then ?_
   refine wc_seq ?_
   refine wc_seq ?_
   refine wc_region ?_
   refine wl_v rfl rfl (ov_move _ rfl) ?_
   refine wl_v rfl rfl (ov_len _ _ _ _ _ rfl es56) ?_
   refine wl_v rfl rfl (ov_fieldAddr _ ⟨b1, 0, none⟩ _ rfl fo58_0 rfl) ?_
   refine wl_v rfl rfl (ov_loadb 3 _ h rfl rfl sh3 rfl) ?_
   refine wl_v rfl rfl (ov_bin _ rfl rfl (binR_gtr)) ?_
   refine wl_nil ?_
   refine qn_then ?_
   refine wc_cond (by rfl) (fun c11 => ?_) (fun c11 => ?_)
   ·
    have hskl_ : (skipL L (findZ L k) L.length).length ≤ L.length := skip_len _ _ _
    refine wc_region ?_
    refine wl_v rfl rfl (ov_move _ rfl) ?_
    refine wl_v rfl rfl (ov_fieldAddr _ ⟨b1, 0, none⟩ _ rfl fo58_0 rfl) ?_
    refine wl_v rfl rfl (ov_loadb 3 _ h rfl rfl sh3 rfl) ?_
    have hcap12 := (Sx.row_reads h (i := 0) rfl).1
    obtain ⟨A13, hA14⟩ : ∃ A_, (if cr10 = 0 then Ar10 else Option.map (·.add (0 * 12)) (Ar10)) = A_ := ⟨_, rfl⟩
    refine wl_v rfl rfl (ov_slice _ _ _ 0 ((room : Int).toNat) (by rfl) (by exact rfl) (by exact ⟨_, _, rfl, (by omega)⟩) es56 (by omega) (by omega) hA14 (n' := (((((⟨((L).getD fi zRH).key, ((L).getD fi zRH).A, ((L).getD fi zRH).c, v⟩ : RH) :: skipL (L) (findZ (L) (k)) (L).length)).take ((room : Int).toNat)).drop 0).length) (by simp only [List.length_drop, List.length_take]; omega)) ?_
    refine wl_v rfl rfl (ov_assign _ rfl) ?_
    refine wl_nil ?_
    refine qn_then ?_
    refine wc_seq ?_
    refine wc_region ?_
    refine wl_v rfl rfl (ov_move _ rfl) ?_
    refine wl_v rfl rfl (ov_fieldAddr _ ⟨b1, 1, none⟩ _ rfl fo58_1 rfl) ?_
    refine wl_storeb 3 _ [.int .i64 (room), .slice (A13) ((((((⟨((L).getD fi zRH).key, ((L).getD fi zRH).A, ((L).getD fi zRH).c, v⟩ : RH) :: skipL (L) (findZ (L) (k)) (L).length)).take ((room : Int).toNat)).drop 0).length) (cr10 - 0), .int .i64 (hits), .int .i64 (misses)] h rfl rfl rfl rfl rfl rfl sh56 rfl rfl (fun _ h => ?_)
    refine wl_nil ?_
    refine qn_then ?_
    refine wc_seq ?_
    refine wc_region ?_
    refine wl_v rfl rfl (ov_loadbN 3 [.int .i64 (room), .slice (A13) ((((((⟨((L).getD fi zRH).key, ((L).getD fi zRH).A, ((L).getD fi zRH).c, v⟩ : RH) :: skipL (L) (findZ (L) (k)) (L).length)).take ((room : Int).toNat)).drop 0).length) (cr10 - 0), .int .i64 (hits), .int .i64 (misses)] h rfl rfl sh58 rfl) ?_
    refine wl_storebN 1 [.int .i64 (room), .slice (A13) ((((((⟨((L).getD fi zRH).key, ((L).getD fi zRH).A, ((L).getD fi zRH).c, v⟩ : RH) :: skipL (L) (findZ (L) (k)) (L).length)).take ((room : Int).toNat)).drop 0).length) (cr10 - 0), .int .i64 (hits), .int .i64 (misses)] [.int .i64 (room), .slice (A13) ((((((⟨((L).getD fi zRH).key, ((L).getD fi zRH).A, ((L).getD fi zRH).c, v⟩ : RH) :: skipL (L) (findZ (L) (k)) (L).length)).take ((room : Int).toNat)).drop 0).length) (cr10 - 0), .int .i64 (hits), .int .i64 (misses)] h rfl rfl rfl rfl (by simp [Value.oneCell']) sh58 rfl rfl (fun _ h => ?_)
    refine wl_nil ?_
    refine qn_then ?_
    refine wc_ret ?_
    have hend_ := h
    have hcap_ := (Sx.row_reads h (i := 0) rfl).1
    replace h := rlst_row h
    replace h := rlst_mid (c := cr10) h (Nat.zero_le _) (show (room : Int).toNat ≤ _ by first | omega | (simp only [List.length_cons]; omega)) hcap_ hA14
    replace h : Sx.St w0 F0 ([rlst (A13) (((((⟨((L).getD fi zRH).key, ((L).getD fi zRH).A, ((L).getD fi zRH).c, v⟩ : RH) :: skipL (L) (findZ (L) (k)) (L).length)).take ((room : Int).toNat)).drop 0), Sx.blk b3 [.int .i64 (room), .slice (A13) ((((((⟨((L).getD fi zRH).key, ((L).getD fi zRH).A, ((L).getD fi zRH).c, v⟩ : RH) :: skipL (L) (findZ (L) (k)) (L).length)).take ((room : Int).toNat)).drop 0).length) (cr10 - 0), .int .i64 (hits), .int .i64 (misses)] 58, Sx.blk b2 [.string ((((L).getD fi zRH).key).f0), .slice (((L).getD fi zRH).A) (((((L).getD fi zRH).key).f1).length) (((L).getD fi zRH).c), .int .i64 ((((L).getD fi zRH).key).f2), .int .i64 ((((L).getD fi zRH).key).f3), .int .i64 (((((L).getD fi zRH).key).f4).f0), .int .i64 (((((L).getD fi zRH).key).f4).f1), .int .i64 (((((L).getD fi zRH).key).f4).f2), .int .i64 (((((L).getD fi zRH).key).f4).f3), .int .i64 (((((L).getD fi zRH).key).f4).f4), .int .i64 (((((L).getD fi zRH).key).f4).f5), .int .i64 (((((L).getD fi zRH).key).f4).f6)] 40, Sx.blk b1 [.int .i64 (room), .slice (A13) ((((((⟨((L).getD fi zRH).key, ((L).getD fi zRH).A, ((L).getD fi zRH).c, v⟩ : RH) :: skipL (L) (findZ (L) (k)) (L).length)).take ((room : Int).toNat)).drop 0).length) (cr10 - 0), .int .i64 (hits), .int .i64 (misses)] 58, rlst (some ad6) (L)] ++ R) _ := h
    replace h := st_selT [true, false, false, false, false] h
    refine qn_ret [_] ⟨⟨_, rfl, Sx.loadVarN (vs := [.int .i64 (room), .slice (A13) ((((((⟨((L).getD fi zRH).key, ((L).getD fi zRH).A, ((L).getD fi zRH).c, v⟩ : RH) :: skipL (L) (findZ (L) (k)) (L).length)).take ((room : Int).toNat)).drop 0).length) (cr10 - 0), .int .i64 (hits), .int .i64 (misses)]) sh58 (Sx.blk_cells (cells := [.int .i64 (room), .slice (A13) ((((((⟨((L).getD fi zRH).key, ((L).getD fi zRH).A, ((L).getD fi zRH).c, v⟩ : RH) :: skipL (L) (findZ (L) (k)) (L).length)).take ((room : Int).toNat)).drop 0).length) (cr10 - 0), .int .i64 (hits), .int .i64 (misses)]) hend_ (i := 1) rfl 0 _ rfl)⟩, trivial⟩ ?_
    exfalso
    rw [hfe_, skip_at hfi_, List.length_cons, List.length_eraseIdx, if_pos hfi_] at *
    omega
   ·
    have hskl_ : (skipL L (findZ L k) L.length).length ≤ L.length := skip_len _ _ _
    refine wc_skip ?_
    refine qn_then ?_
    refine wc_seq ?_
    refine wc_region ?_
    refine wl_v rfl rfl (ov_move _ rfl) ?_
    refine wl_v rfl rfl (ov_fieldAddr _ ⟨b1, 1, none⟩ _ rfl fo58_1 rfl) ?_
    refine wl_storeb 3 _ [.int .i64 (room), .slice (Ar10) (((⟨((L).getD fi zRH).key, ((L).getD fi zRH).A, ((L).getD fi zRH).c, v⟩ : RH) :: skipL (L) (findZ (L) (k)) (L).length).length) (cr10), .int .i64 (hits), .int .i64 (misses)] h rfl rfl rfl rfl rfl rfl sh56 rfl rfl (fun _ h => ?_)
    refine wl_nil ?_
    refine qn_then ?_
    refine wc_seq ?_
    refine wc_region ?_
    refine wl_v rfl rfl (ov_loadbN 3 [.int .i64 (room), .slice (Ar10) (((⟨((L).getD fi zRH).key, ((L).getD fi zRH).A, ((L).getD fi zRH).c, v⟩ : RH) :: skipL (L) (findZ (L) (k)) (L).length).length) (cr10), .int .i64 (hits), .int .i64 (misses)] h rfl rfl sh58 rfl) ?_
    refine wl_storebN 1 [.int .i64 (room), .slice (Ar10) (((⟨((L).getD fi zRH).key, ((L).getD fi zRH).A, ((L).getD fi zRH).c, v⟩ : RH) :: skipL (L) (findZ (L) (k)) (L).length).length) (cr10), .int .i64 (hits), .int .i64 (misses)] [.int .i64 (room), .slice (Ar10) (((⟨((L).getD fi zRH).key, ((L).getD fi zRH).A, ((L).getD fi zRH).c, v⟩ : RH) :: skipL (L) (findZ (L) (k)) (L).length).length) (cr10), .int .i64 (hits), .int .i64 (misses)] h rfl rfl rfl rfl (by simp [Value.oneCell']) sh58 rfl rfl (fun _ h => ?_)
    refine wl_nil ?_
    refine qn_then ?_
    refine wc_ret ?_
    have hend_ := h
    have hcap_ := (Sx.row_reads h (i := 0) rfl).1
    replace h := rlst_row h
    replace h : Sx.St w0 F0 ([rlst (Ar10) (((⟨((L).getD fi zRH).key, ((L).getD fi zRH).A, ((L).getD fi zRH).c, v⟩ : RH) :: skipL (L) (findZ (L) (k)) (L).length)), Sx.blk b3 [.int .i64 (room), .slice (Ar10) (((⟨((L).getD fi zRH).key, ((L).getD fi zRH).A, ((L).getD fi zRH).c, v⟩ : RH) :: skipL (L) (findZ (L) (k)) (L).length).length) (cr10), .int .i64 (hits), .int .i64 (misses)] 58, Sx.blk b2 [.string ((((L).getD fi zRH).key).f0), .slice (((L).getD fi zRH).A) (((((L).getD fi zRH).key).f1).length) (((L).getD fi zRH).c), .int .i64 ((((L).getD fi zRH).key).f2), .int .i64 ((((L).getD fi zRH).key).f3), .int .i64 (((((L).getD fi zRH).key).f4).f0), .int .i64 (((((L).getD fi zRH).key).f4).f1), .int .i64 (((((L).getD fi zRH).key).f4).f2), .int .i64 (((((L).getD fi zRH).key).f4).f3), .int .i64 (((((L).getD fi zRH).key).f4).f4), .int .i64 (((((L).getD fi zRH).key).f4).f5), .int .i64 (((((L).getD fi zRH).key).f4).f6)] 40, Sx.blk b1 [.int .i64 (room), .slice (Ar10) (((⟨((L).getD fi zRH).key, ((L).getD fi zRH).A, ((L).getD fi zRH).c, v⟩ : RH) :: skipL (L) (findZ (L) (k)) (L).length).length) (cr10), .int .i64 (hits), .int .i64 (misses)] 58, rlst (some ad6) (L)] ++ R) _ := h
    replace h := st_selT [true, false, false, false, false] h
    refine qn_ret [_] ⟨⟨_, rfl, Sx.loadVarN (vs := [.int .i64 (room), .slice (Ar10) (((⟨((L).getD fi zRH).key, ((L).getD fi zRH).A, ((L).getD fi zRH).c, v⟩ : RH) :: skipL (L) (findZ (L) (k)) (L).length).length) (cr10), .int .i64 (hits), .int .i64 (misses)]) sh58 (Sx.blk_cells (cells := [.int .i64 (room), .slice (Ar10) (((⟨((L).getD fi zRH).key, ((L).getD fi zRH).A, ((L).getD fi zRH).c, v⟩ : RH) :: skipL (L) (findZ (L) (k)) (L).length).length) (cr10), .int .i64 (hits), .int .i64 (misses)]) hend_ (i := 1) rfl 0 _ rfl)⟩, trivial⟩ ?_
    have hg_ := ref_putM (v := v) (show room ≠ 0 by omega) hff_ hfi_
    rw [hfe_] at h ⊢
    rw [hg_]
    refine ⟨_, _, _, rfl, rfl, fun x_ hx_ => ?_, h⟩
    rcases List.mem_cons.1 hx_ with z_ | z_
    · rw [z_]; exact .inl ⟨_, getD_mem3 hfi_, rfl, rfl⟩
    · exact .inl ⟨x_, skip_sub x_ z_, rfl, rfl⟩
  ·
   have hff_ := (hfz_.resolve_right (fun e_ => by obtain ⟨q_, _, q2_, _⟩ := e_; omega)).1
   refine wc_skip ?_
   refine qn_then ?_
   refine wc_seq ?_
   refine wc_region ?_
   refine wl_v rfl rfl (ov_fieldAddr _ ⟨b1, 1, none⟩ _ rfl fo58_1 rfl) ?_
   refine wl_v rfl rfl (ov_loadb 2 _ h rfl rfl sh56 rfl) ?_
   refine wl_v rfl rfl (ov_move _ rfl) ?_
   refine wl_v rfl rfl (ov_loadbN 1 [.string ((k).f0), .slice (Ak) (((k).f1).length) (ck), .int .i64 ((k).f2), .int .i64 ((k).f3), .int .i64 (((k).f4).f0), .int .i64 (((k).f4).f1), .int .i64 (((k).f4).f2), .int .i64 (((k).f4).f3), .int .i64 (((k).f4).f4), .int .i64 (((k).f4).f5), .int .i64 (((k).f4).f6)] h rfl rfl sh40 rfl) ?_
   refine wl_v rfl rfl (ov_move _ rfl) ?_
   refine wl_v rfl rfl (ov_build [(0, .agg #[.string ((k).f0), .slice (Ak) (((k).f1).length) (ck), .int .i64 ((k).f2), .int .i64 ((k).f3), .int .i64 (((k).f4).f0), .int .i64 (((k).f4).f1), .int .i64 (((k).f4).f2), .int .i64 (((k).f4).f3), .int .i64 (((k).f4).f4), .int .i64 (((k).f4).f5), .int .i64 (((k).f4).f6)]), (1, .int .i64 (v))] [.string ((k).f0), .slice (Ak) (((k).f1).length) (ck), .int .i64 ((k).f2), .int .i64 ((k).f3), .int .i64 (((k).f4).f0), .int .i64 (((k).f4).f1), .int .i64 (((k).f4).f2), .int .i64 (((k).f4).f3), .int .i64 (((k).f4).f4), .int .i64 (((k).f4).f5), .int .i64 (((k).f4).f6), .int .i64 (v)] rfl rfl (by kernel_rfl)) ?_
   refine wl_call _ rfl rfl rfl ent45 (RF.rfront_calls (R := [Sx.blk b3 [.int .i64 (0), .slice (none) (0) (0), .int .i64 (0), .int .i64 (0)] 58, Sx.blk b2 [.string ((k).f0), .slice (Ak) (((k).f1).length) (ck), .int .i64 ((k).f2), .int .i64 ((k).f3), .int .i64 (((k).f4).f0), .int .i64 (((k).f4).f1), .int .i64 (((k).f4).f2), .int .i64 (((k).f4).f3), .int .i64 (((k).f4).f4), .int .i64 (((k).f4).f5), .int .i64 (((k).f4).f6)] 40, Sx.blk b1 [.int .i64 (room), .slice (A) (L.length) (c), .int .i64 (hits), .int .i64 (misses)] 58, rlst (A) (L)] ++ R) (L) (A) (c) (findZ (L) (k)) (k) (Ak) (ck) (v) (rlst_at (R := [Sx.blk b3 [.int .i64 (0), .slice (none) (0) (0), .int .i64 (0), .int .i64 (0)] 58, Sx.blk b2 [.string ((k).f0), .slice (Ak) (((k).f1).length) (ck), .int .i64 ((k).f2), .int .i64 ((k).f3), .int .i64 (((k).f4).f0), .int .i64 (((k).f4).f1), .int .i64 (((k).f4).f2), .int .i64 (((k).f4).f3), .int .i64 (((k).f4).f4), .int .i64 (((k).f4).f5), .int .i64 (((k).f4).f6)] 40, Sx.blk b1 [.int .i64 (room), .slice (A) (L.length) (c), .int .i64 (hits), .int .i64 (misses)] 58, rlst (A) (L)] ++ R) (j := 3) rfl) (by omega) h) ?_
   rintro e_ w_ ⟨Ar15, cr15, rfl, h⟩
   refine ⟨_, rfl, ?_⟩
   replace h : Sx.St w0 F0 ([Sx.row kRH 65 (Ar15) (cr15) (((⟨k, Ak, ck, v⟩ : RH) :: skipL (L) (findZ (L) (k)) (L).length)), Sx.blk b3 [.int .i64 (0), .slice (none) (0) (0), .int .i64 (0), .int .i64 (0)] 58, Sx.blk b2 [.string ((k).f0), .slice (Ak) (((k).f1).length) (ck), .int .i64 ((k).f2), .int .i64 ((k).f3), .int .i64 (((k).f4).f0), .int .i64 (((k).f4).f1), .int .i64 (((k).f4).f2), .int .i64 (((k).f4).f3), .int .i64 (((k).f4).f4), .int .i64 (((k).f4).f5), .int .i64 (((k).f4).f6)] 40, Sx.blk b1 [.int .i64 (room), .slice (A) (L.length) (c), .int .i64 (hits), .int .i64 (misses)] 58, rlst (A) (L)] ++ R) _ := h
   refine wl_v rfl rfl (ov_assign _ rfl) ?_
   refine wl_nil ?_
   refine qn_then ?_
   refine wc_seq ?_
   refine wc_seq ?_
   refine wc_region ?_
   refine wl_v rfl rfl (ov_move _ rfl) ?_
   refine wl_v rfl rfl (ov_len _ _ _ _ _ rfl es56) ?_
   refine wl_v rfl rfl (ov_fieldAddr _ ⟨b1, 0, none⟩ _ rfl fo58_0 rfl) ?_
   refine wl_v rfl rfl (ov_loadb 3 _ h rfl rfl sh3 rfl) ?_
   refine wl_v rfl rfl (ov_bin _ rfl rfl (binR_gtr)) ?_
   refine wl_nil ?_
   refine qn_then ?_
   refine wc_cond (by rfl) (fun c16 => ?_) (fun c16 => ?_)
   ·
    have hskl_ : (skipL L (findZ L k) L.length).length ≤ L.length := skip_len _ _ _
    refine wc_region ?_
    refine wl_v rfl rfl (ov_move _ rfl) ?_
    refine wl_v rfl rfl (ov_fieldAddr _ ⟨b1, 0, none⟩ _ rfl fo58_0 rfl) ?_
    refine wl_v rfl rfl (ov_loadb 3 _ h rfl rfl sh3 rfl) ?_
    have hcap17 := (Sx.row_reads h (i := 0) rfl).1
    obtain ⟨A18, hA19⟩ : ∃ A_, (if cr15 = 0 then Ar15 else Option.map (·.add (0 * 12)) (Ar15)) = A_ := ⟨_, rfl⟩
    refine wl_v rfl rfl (ov_slice _ _ _ 0 ((room : Int).toNat) (by rfl) (by exact rfl) (by exact ⟨_, _, rfl, (by omega)⟩) es56 (by omega) (by omega) hA19 (n' := (((((⟨k, Ak, ck, v⟩ : RH) :: skipL (L) (findZ (L) (k)) (L).length)).take ((room : Int).toNat)).drop 0).length) (by simp only [List.length_drop, List.length_take]; omega)) ?_
    refine wl_v rfl rfl (ov_assign _ rfl) ?_
    refine wl_nil ?_
    refine qn_then ?_
    refine wc_seq ?_
    refine wc_region ?_
    refine wl_v rfl rfl (ov_move _ rfl) ?_
    refine wl_v rfl rfl (ov_fieldAddr _ ⟨b1, 1, none⟩ _ rfl fo58_1 rfl) ?_
    refine wl_storeb 3 _ [.int .i64 (room), .slice (A18) ((((((⟨k, Ak, ck, v⟩ : RH) :: skipL (L) (findZ (L) (k)) (L).length)).take ((room : Int).toNat)).drop 0).length) (cr15 - 0), .int .i64 (hits), .int .i64 (misses)] h rfl rfl rfl rfl rfl rfl sh56 rfl rfl (fun _ h => ?_)
    refine wl_nil ?_
    refine qn_then ?_
    refine wc_seq ?_
    refine wc_region ?_
    refine wl_v rfl rfl (ov_loadbN 3 [.int .i64 (room), .slice (A18) ((((((⟨k, Ak, ck, v⟩ : RH) :: skipL (L) (findZ (L) (k)) (L).length)).take ((room : Int).toNat)).drop 0).length) (cr15 - 0), .int .i64 (hits), .int .i64 (misses)] h rfl rfl sh58 rfl) ?_
    refine wl_storebN 1 [.int .i64 (room), .slice (A18) ((((((⟨k, Ak, ck, v⟩ : RH) :: skipL (L) (findZ (L) (k)) (L).length)).take ((room : Int).toNat)).drop 0).length) (cr15 - 0), .int .i64 (hits), .int .i64 (misses)] [.int .i64 (room), .slice (A18) ((((((⟨k, Ak, ck, v⟩ : RH) :: skipL (L) (findZ (L) (k)) (L).length)).take ((room : Int).toNat)).drop 0).length) (cr15 - 0), .int .i64 (hits), .int .i64 (misses)] h rfl rfl rfl rfl (by simp [Value.oneCell']) sh58 rfl rfl (fun _ h => ?_)
    refine wl_nil ?_
    refine qn_then ?_
    refine wc_ret ?_
    have hend_ := h
    have hcap_ := (Sx.row_reads h (i := 0) rfl).1
    replace h := rlst_row h
    replace h := rlst_mid (c := cr15) h (Nat.zero_le _) (show (room : Int).toNat ≤ _ by first | omega | (simp only [List.length_cons]; omega)) hcap_ hA19
    replace h : Sx.St w0 F0 ([rlst (A18) (((((⟨k, Ak, ck, v⟩ : RH) :: skipL (L) (findZ (L) (k)) (L).length)).take ((room : Int).toNat)).drop 0), Sx.blk b3 [.int .i64 (room), .slice (A18) ((((((⟨k, Ak, ck, v⟩ : RH) :: skipL (L) (findZ (L) (k)) (L).length)).take ((room : Int).toNat)).drop 0).length) (cr15 - 0), .int .i64 (hits), .int .i64 (misses)] 58, Sx.blk b2 [.string ((k).f0), .slice (Ak) (((k).f1).length) (ck), .int .i64 ((k).f2), .int .i64 ((k).f3), .int .i64 (((k).f4).f0), .int .i64 (((k).f4).f1), .int .i64 (((k).f4).f2), .int .i64 (((k).f4).f3), .int .i64 (((k).f4).f4), .int .i64 (((k).f4).f5), .int .i64 (((k).f4).f6)] 40, Sx.blk b1 [.int .i64 (room), .slice (A18) ((((((⟨k, Ak, ck, v⟩ : RH) :: skipL (L) (findZ (L) (k)) (L).length)).take ((room : Int).toNat)).drop 0).length) (cr15 - 0), .int .i64 (hits), .int .i64 (misses)] 58, rlst (A) (L)] ++ R) _ := h
    replace h := st_selT [true, false, false, false, false] h
    refine qn_ret [_] ⟨⟨_, rfl, Sx.loadVarN (vs := [.int .i64 (room), .slice (A18) ((((((⟨k, Ak, ck, v⟩ : RH) :: skipL (L) (findZ (L) (k)) (L).length)).take ((room : Int).toNat)).drop 0).length) (cr15 - 0), .int .i64 (hits), .int .i64 (misses)]) sh58 (Sx.blk_cells (cells := [.int .i64 (room), .slice (A18) ((((((⟨k, Ak, ck, v⟩ : RH) :: skipL (L) (findZ (L) (k)) (L).length)).take ((room : Int).toNat)).drop 0).length) (cr15 - 0), .int .i64 (hits), .int .i64 (misses)]) hend_ (i := 1) rfl 0 _ rfl)⟩, trivial⟩ ?_
    have hfe_ : findZ L k = -1 := by unfold findZ; rw [hff_]
    have hsk_ := skip_none L
    have hll_ : (L.length : Int) = room := by
      have z_ : ((⟨k, Ak, ck, v⟩ : RH) :: skipL L (findZ L k) L.length).length = L.length + 1 := by rw [hfe_, hsk_]; rfl
      omega
    have hg_ := ref_putM1 (v := v) (A := Ak) (c := ck) (show room ≠ 0 by omega) hff_ hll_
    rw [hfe_] at h ⊢
    rw [hg_]
    refine ⟨_, _, _, rfl, rfl, fun x_ hx_ => ?_, h⟩
    replace hx_ := List.mem_of_mem_take (List.mem_of_mem_drop hx_)
    rcases List.mem_cons.1 hx_ with z_ | z_
    · rw [z_]; exact .inr ⟨rfl, rfl⟩
    · exact .inl ⟨x_, skip_sub x_ z_, rfl, rfl⟩
   ·
    have hskl_ : (skipL L (findZ L k) L.length).length ≤ L.length := skip_len _ _ _
    refine wc_skip ?_
    refine qn_then ?_
    refine wc_seq ?_
    refine wc_region ?_
    refine wl_v rfl rfl (ov_move _ rfl) ?_
    refine wl_v rfl rfl (ov_fieldAddr _ ⟨b1, 1, none⟩ _ rfl fo58_1 rfl) ?_
    refine wl_storeb 3 _ [.int .i64 (room), .slice (Ar15) (((⟨k, Ak, ck, v⟩ : RH) :: skipL (L) (findZ (L) (k)) (L).length).length) (cr15), .int .i64 (hits), .int .i64 (misses)] h rfl rfl rfl rfl rfl rfl sh56 rfl rfl (fun _ h => ?_)
    refine wl_nil ?_
    refine qn_then ?_
    refine wc_seq ?_
    refine wc_region ?_
    refine wl_v rfl rfl (ov_loadbN 3 [.int .i64 (room), .slice (Ar15) (((⟨k, Ak, ck, v⟩ : RH) :: skipL (L) (findZ (L) (k)) (L).length).length) (cr15), .int .i64 (hits), .int .i64 (misses)] h rfl rfl sh58 rfl) ?_
    refine wl_storebN 1 [.int .i64 (room), .slice (Ar15) (((⟨k, Ak, ck, v⟩ : RH) :: skipL (L) (findZ (L) (k)) (L).length).length) (cr15), .int .i64 (hits), .int .i64 (misses)] [.int .i64 (room), .slice (Ar15) (((⟨k, Ak, ck, v⟩ : RH) :: skipL (L) (findZ (L) (k)) (L).length).length) (cr15), .int .i64 (hits), .int .i64 (misses)] h rfl rfl rfl rfl (by simp [Value.oneCell']) sh58 rfl rfl (fun _ h => ?_)
    refine wl_nil ?_
    refine qn_then ?_
    refine wc_ret ?_
    have hend_ := h
    have hcap_ := (Sx.row_reads h (i := 0) rfl).1
    replace h := rlst_row h
    replace h : Sx.St w0 F0 ([rlst (Ar15) (((⟨k, Ak, ck, v⟩ : RH) :: skipL (L) (findZ (L) (k)) (L).length)), Sx.blk b3 [.int .i64 (room), .slice (Ar15) (((⟨k, Ak, ck, v⟩ : RH) :: skipL (L) (findZ (L) (k)) (L).length).length) (cr15), .int .i64 (hits), .int .i64 (misses)] 58, Sx.blk b2 [.string ((k).f0), .slice (Ak) (((k).f1).length) (ck), .int .i64 ((k).f2), .int .i64 ((k).f3), .int .i64 (((k).f4).f0), .int .i64 (((k).f4).f1), .int .i64 (((k).f4).f2), .int .i64 (((k).f4).f3), .int .i64 (((k).f4).f4), .int .i64 (((k).f4).f5), .int .i64 (((k).f4).f6)] 40, Sx.blk b1 [.int .i64 (room), .slice (Ar15) (((⟨k, Ak, ck, v⟩ : RH) :: skipL (L) (findZ (L) (k)) (L).length).length) (cr15), .int .i64 (hits), .int .i64 (misses)] 58, rlst (A) (L)] ++ R) _ := h
    replace h := st_selT [true, false, false, false, false] h
    refine qn_ret [_] ⟨⟨_, rfl, Sx.loadVarN (vs := [.int .i64 (room), .slice (Ar15) (((⟨k, Ak, ck, v⟩ : RH) :: skipL (L) (findZ (L) (k)) (L).length).length) (cr15), .int .i64 (hits), .int .i64 (misses)]) sh58 (Sx.blk_cells (cells := [.int .i64 (room), .slice (Ar15) (((⟨k, Ak, ck, v⟩ : RH) :: skipL (L) (findZ (L) (k)) (L).length).length) (cr15), .int .i64 (hits), .int .i64 (misses)]) hend_ (i := 1) rfl 0 _ rfl)⟩, trivial⟩ ?_
    have hfe_ : findZ L k = -1 := by unfold findZ; rw [hff_]
    have hsk_ := skip_none L
    have hll_ : ¬ (L.length : Int) = room := by
      have z_ : ((⟨k, Ak, ck, v⟩ : RH) :: skipL L (findZ L k) L.length).length = L.length + 1 := by rw [hfe_, hsk_]; rfl
      omega
    have hg_ := ref_putM0 (v := v) (A := Ak) (c := ck) (show room ≠ 0 by omega) hff_ hll_
    rw [hfe_] at h ⊢
    rw [hg_]
    refine ⟨_, _, _, rfl, rfl, fun x_ hx_ => ?_, h⟩
    rcases List.mem_cons.1 hx_ with z_ | z_
    · rw [z_]; exact .inr ⟨rfl, rfl⟩
    · exact .inl ⟨x_, skip_sub x_ z_, rfl, rfl⟩
end Go.Proofs.Ytmlkajmlhmfdgaa.RF
