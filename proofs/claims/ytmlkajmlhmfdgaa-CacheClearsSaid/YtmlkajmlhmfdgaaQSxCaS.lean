/- Pruned by wip/prune.py. -/
import Derived.Test.YtmlkajmlhmfdgaaProg
import Derived.Test.YtmlkajmlhmfdgaaQSxGlue
import Derived.Test.YtmlkajmlhmfdgaaQSxArr
import Derived.Test.YtmlkajmlhmfdgaaQSxKinds
import Derived.Test.YtmlkajmlhmfdgaaQRunsTh
import Derived.Test.YtmlkajmlhmfdgaaQSxRunsR
import Derived.Test.YtmlkajmlhmfdgaaQCaP
import Derived.Test.YtmlkajmlhmfdgaaQCaRef
import Derived.Test.YtmlkajmlhmfdgaaQSxCKey
import Derived.Test.YtmlkajmlhmfdgaaQSxRowS
namespace Go.Proofs.Ytmlkajmlhmfdgaa.CCS
open Go Go.RowKit Go.Proofs.YtmlkajmlhmfdgaaW.PrintWords Go.Proofs.Ytmlkajmlhmfdgaa.Kinds Go.Proofs.Ytmlkajmlhmfdgaa.Runs Go.Proofs.Ytmlkajmlhmfdgaa.RW Go.Proofs.Ytmlkajmlhmfdgaa.Ca Go.Proofs.Ytmlkajmlhmfdgaa.Sx Go.Proofs.Ytmlkajmlhmfdgaa.RS 
set_option linter.unusedVariables false
set_option linter.unusedSimpArgs false
theorem fo73_4 : Sx.fieldOff Try.prog 73 4 = some 4 := by kernel_rfl
theorem sh3 : Sx.shapeOf Try.prog 3 = some (false, 1) := by kernel_rfl
theorem fo73_0 : Sx.fieldOff Try.prog 73 0 = some 0 := by kernel_rfl
theorem sh33 : Sx.shapeOf Try.prog 33 = some (true, 11) := by kernel_rfl
theorem ent19 : Sx.Ent Try.prog 19 := ⟨Try.f19, Try.func19, by kernel_rfl, by kernel_rfl⟩
theorem ent29 : Sx.Ent Try.prog 29 := ⟨Try.f29, Try.func29, by kernel_rfl, by kernel_rfl⟩
theorem fo73_6 : Sx.fieldOff Try.prog 73 6 = some 6 := by kernel_rfl
theorem fo73_5 : Sx.fieldOff Try.prog 73 5 = some 5 := by kernel_rfl
theorem ent30 : Sx.Ent Try.prog 30 := ⟨Try.f30, Try.func30, by kernel_rfl, by kernel_rfl⟩
theorem ent31 : Sx.Ent Try.prog 31 := ⟨Try.f31, Try.func31, by kernel_rfl, by kernel_rfl⟩
theorem fo76_2 : Sx.fieldOff Try.prog 76 2 = some 12 := by kernel_rfl
theorem sh9 : Sx.shapeOf Try.prog 9 = some (false, 1) := by kernel_rfl
theorem fo73_1 : Sx.fieldOff Try.prog 73 1 = some 1 := by kernel_rfl
theorem sh70 : Sx.shapeOf Try.prog 70 = some (false, 1) := by kernel_rfl
theorem fo76_1 : Sx.fieldOff Try.prog 76 1 = some 11 := by kernel_rfl
theorem sh42 : Sx.shapeOf Try.prog 42 = some (false, 1) := by kernel_rfl
theorem zo78 : Sx.zeroOf Try.prog 78 = some (.slice (none) (0) (0)) := by kernel_rfl
theorem es78 : Sx.elemSz Try.prog 78 = some (71, 1) := by kernel_rfl
theorem sh71 : Sx.shapeOf Try.prog 71 = some (false, 1) := by kernel_rfl
theorem szf76 : (Try.prog.info? 76).map (·.size) = some 15 := by kernel_rfl
theorem infb71 : (Try.prog.info? 71).map (fun i => (i.zero, i.size)) = some (some (.pointer none), 1) := by kernel_rfl
theorem inf71 : (Try.prog.info? 71).map (fun i => (i.zero, i.size, i.bytes)) = some (some (.pointer none), 1, 8) := by kernel_rfl
theorem fo73_3 : Sx.fieldOff Try.prog 73 3 = some 3 := by kernel_rfl
theorem ent32 : Sx.Ent Try.prog 32 := ⟨Try.f32, Try.func32, by kernel_rfl, by kernel_rfl⟩
theorem infb50 : (Try.prog.info? 50).map (fun i => (i.zero, i.size)) = some (some (.agg #[.int .i64 (0), .int .i64 (0)]), 2) := by kernel_rfl
theorem fo33_1 : Sx.fieldOff Try.prog 33 1 = some 1 := by kernel_rfl
theorem sh29 : Sx.shapeOf Try.prog 29 = some (false, 1) := by kernel_rfl
theorem inf50 : (Try.prog.info? 50).map (fun i => (i.zero, i.size, i.bytes)) = some (some (.agg #[.int .i64 (0), .int .i64 (0)]), 2, 16) := by kernel_rfl
set_option maxHeartbeats 400000 in
set_option maxRecDepth 100000 in
theorem New_calls {w0 w : World} {F0 : Nat → Prop} {R : List Sx.HP} (room : Int)  (h : Sx.St w0 F0 ([] ++ R) w) : Calls Try.prog 10 #[.int .i64 (room)] w (fun e w1 => (¬ (0 ≤ room ∧ room ≤ 4096) ∧ e = .returned (.tuple #[.pointer none, .int .i64 1]) ∧ Sx.St w0 F0 R w1) ∨ (0 ≤ room ∧ room ≤ 4096 ∧ ∃ g : Nat, e = .returned (.tuple #[.pointer (some ⟨g, 0, none⟩), .int .i64 0]) ∧ Sx.St w0 F0 ([cacheP 73 76 71 Value.string g (room) ([]) (0) (0)] ++ R) w1)) := by
 refine Sx.calls_fn (vs := [.int .i64 (room)]) Try.func10 rfl Try.ntmps10 rfl ?_
 refine wc_seq ?_
 refine wc_region ?_
 refine wl_v rfl rfl (ov_assign _ rfl) ?_
 refine wl_v rfl rfl (ov_assign _ rfl) ?_
 refine wl_nil ?_
 refine qn_then ?_
 refine wc_seq ?_
 refine wc_seq ?_
 refine wc_region ?_
 refine wl_v rfl rfl (ov_move _ rfl) ?_
 refine wl_v rfl rfl (ov_bin _ rfl rfl (binR_lss)) ?_
 refine wl_v rfl rfl (ov_move _ rfl) ?_
 refine wl_split 6 rfl (fun c1 => ?_) (fun c1 => ?_)
 ·
  refine wl_skip rfl rfl ?_
  refine wl_skip rfl rfl ?_
  refine wl_v rfl rfl (ov_pick_true _ rfl rfl) ?_
  refine wl_nil ?_
  refine qn_then ?_
  refine wc_cond_true rfl ?_
  refine wc_seq ?_
  refine wc_region ?_
  refine wl_v rfl rfl (ov_assign _ rfl) ?_
  refine wl_v rfl rfl (ov_assign _ rfl) ?_
  refine wl_nil ?_
  refine qn_then ?_
  refine wc_ret ?_
  refine qn_then_ret ?_
  refine qn_ret [_, _] ⟨rfl, rfl, trivial⟩ ?_
  exact .inl ⟨by omega, rfl, h⟩
 ·
  refine wl_v rfl rfl (ov_move _ rfl) ?_
  refine wl_v rfl rfl (ov_bin _ rfl rfl (binR_gtr)) ?_
  refine wl_v rfl rfl (ov_pick_false _ rfl rfl) ?_
  refine wl_nil ?_
  refine qn_then ?_
  refine wc_cond (by rfl) (fun c2 => ?_) (fun c2 => ?_)
  ·
   refine wc_seq ?_
   refine wc_region ?_
   refine wl_v rfl rfl (ov_assign _ rfl) ?_
   refine wl_v rfl rfl (ov_assign _ rfl) ?_
   refine wl_nil ?_
   refine qn_then ?_
   refine wc_ret ?_
   refine qn_then_ret ?_
   refine qn_ret [_, _] ⟨rfl, rfl, trivial⟩ ?_
   exact .inl ⟨by omega, rfl, h⟩
  ·
   refine wc_skip ?_
   refine qn_then ?_
   refine wc_seq ?_
   refine wc_region ?_
   refine wl_v rfl rfl (ov_move _ rfl) ?_
   refine wl_makemap (KU) (EH) h rfl rfl (fun gm3 _ h => ?_)
   refine wl_v rfl rfl (ov_build [(0, .int .i64 (room)), (1, .map (some gm3))] [.int .i64 (room), .map (some gm3), .pointer none, .pointer none, .int .i64 (0), .int .i64 (0), .int .i64 (0)] rfl rfl (by kernel_rfl)) ?_
   refine wl_box _ h rfl rfl rfl (fun b4 _ h => ?_)
   replace h : Sx.St _ _ (Sx.blk b4 [.int .i64 (room), .map (some gm3), .pointer none, .pointer none, .int .i64 (0), .int .i64 (0), .int .i64 (0)] 73 :: _) _ := h
   refine wl_v rfl rfl (ov_assign _ rfl) ?_
   refine wl_v rfl rfl (ov_assign _ rfl) ?_
   refine wl_nil ?_
   refine qn_then ?_
   refine wc_ret ?_
   replace h := Sx.ents_nil (enK 76 Value.string) (fun _ => none) (fun _ => none) (Sx.brows_nil 71 (rlib_nil h))
   replace h := st_front 2 h
   replace h := st_front 2 h
   replace h := st_front 2 h
   replace h := st_front 4 h
   replace h := st_front 4 h
   refine qn_ret [_, _] ⟨rfl, rfl, trivial⟩ ?_
   exact .inr ⟨by omega, by omega, b4, rfl, cache_close (f := none) (l := none) (⟨gm3, [], [], [], fun _ => none, fun _ => none, fun _ => none, []⟩ : CI ByteArray) (inv_nil gm3) rfl rfl rfl rfl h ⟨rfl, rfl, rfl, rfl, rfl, rfl, rfl⟩⟩
set_option maxHeartbeats 400000 in
set_option maxRecDepth 100000 in
theorem Len_calls {w0 w : World} {F0 : Nat → Prop} {R : List Sx.HP} (c : Nat) (room hits misses : Int) (M : LM ByteArray)  (h : Sx.St w0 F0 ([cacheP 73 76 71 Value.string c (room) (M) (hits) (misses)] ++ R) w) : Calls Try.prog 12 #[.pointer (some ⟨c, 0, none⟩)] w (fun e w1 => e = .returned (.int .i64 ((M.length : Nat) : Int)) ∧ Sx.St w0 F0 ([cacheP 73 76 71 Value.string c (room) (M) (hits) (misses)] ++ R) w1) := by
 obtain ⟨I, hI, hM, h⟩ := cache_open h
 refine Sx.calls_fn (vs := [.pointer (some ⟨c, 0, none⟩)]) Try.func12 rfl Try.ntmps12 rfl ?_
 refine wc_seq ?_
 refine wc_region ?_
 refine wl_v rfl rfl (ov_assign _ rfl) ?_
 refine wl_nil ?_
 refine qn_then ?_
 refine wc_seq ?_
 refine wc_region ?_
 refine wl_v rfl rfl (ov_move _ rfl) ?_
 refine wl_v rfl rfl (ov_nilCheck _ rfl) ?_
 refine wl_v rfl rfl (ov_fieldAddr _ ⟨c, 4, none⟩ _ rfl fo73_4 rfl) ?_
 refine wl_v rfl rfl (ov_loadb 0 _ h rfl rfl sh3 rfl) ?_
 refine wl_v rfl rfl (ov_assign _ rfl) ?_
 refine wl_nil ?_
 refine qn_then ?_
 refine wc_ret ?_
 replace h := st_front 4 h
 replace h := st_front 4 h
 replace h := st_front 4 h
 replace h := st_front 4 h
 replace h := st_front 4 h
 refine qn_ret [_] ⟨rfl, trivial⟩ ?_
 exact ⟨rfl, cache_close I hI hM rfl rfl rfl h ⟨rfl, rfl, rfl, rfl, rfl, rfl, rfl⟩⟩
set_option maxHeartbeats 400000 in
set_option maxRecDepth 100000 in
theorem Room_calls {w0 w : World} {F0 : Nat → Prop} {R : List Sx.HP} (c : Nat) (room hits misses : Int) (M : LM ByteArray)  (h : Sx.St w0 F0 ([cacheP 73 76 71 Value.string c (room) (M) (hits) (misses)] ++ R) w) : Calls Try.prog 11 #[.pointer (some ⟨c, 0, none⟩)] w (fun e w1 => e = .returned (.int .i64 room) ∧ Sx.St w0 F0 ([cacheP 73 76 71 Value.string c (room) (M) (hits) (misses)] ++ R) w1) := by
 obtain ⟨I, hI, hM, h⟩ := cache_open h
 refine Sx.calls_fn (vs := [.pointer (some ⟨c, 0, none⟩)]) Try.func11 rfl Try.ntmps11 rfl ?_
 refine wc_seq ?_
 refine wc_region ?_
 refine wl_v rfl rfl (ov_assign _ rfl) ?_
 refine wl_nil ?_
 refine qn_then ?_
 refine wc_seq ?_
 refine wc_region ?_
 refine wl_v rfl rfl (ov_move _ rfl) ?_
 refine wl_v rfl rfl (ov_nilCheck _ rfl) ?_
 refine wl_v rfl rfl (ov_fieldAddr _ ⟨c, 0, none⟩ _ rfl fo73_0 rfl) ?_
 refine wl_v rfl rfl (ov_loadb 0 _ h rfl rfl sh3 rfl) ?_
 refine wl_v rfl rfl (ov_assign _ rfl) ?_
 refine wl_nil ?_
 refine qn_then ?_
 refine wc_ret ?_
 replace h := st_front 4 h
 replace h := st_front 4 h
 replace h := st_front 4 h
 replace h := st_front 4 h
 replace h := st_front 4 h
 refine qn_ret [_] ⟨rfl, trivial⟩ ?_
 exact ⟨rfl, cache_close I hI hM rfl rfl rfl h ⟨rfl, rfl, rfl, rfl, rfl, rfl, rfl⟩⟩
set_option maxHeartbeats 400000 in
set_option maxRecDepth 100000 in
theorem Get_calls {w0 w : World} {F0 : Nat → Prop} {R : List Sx.HP} (c : Nat) (room hits misses : Int) (M : LM ByteArray) (k : KV) (A : Option Addr) (cc : Nat) (hm : M.length ≤ 1048576) (hh : 0 ≤ hits ∧ hits ≤ 2305843009213693952 ∧ 0 ≤ misses ∧ misses ≤ 2305843009213693952) (hs : SmallK k) (hz : k.f0.size ≤ 4611686018427387904) (hr : ∀ cs w, Sx.St w0 F0 (cs ++ R) w → k50.C w A (k).f1.length (k).f1) (h : Sx.St w0 F0 ([cacheP 73 76 71 Value.string c (room) (M) (hits) (misses)] ++ R) w) : Calls Try.prog 14 #[.pointer (some ⟨c, 0, none⟩), .agg #[.string ((k).f0), .slice (A) (((k).f1).length) (cc), .int .i64 ((k).f2), .int .i64 ((k).f3), .int .i64 (((k).f4).f0), .int .i64 (((k).f4).f1), .int .i64 (((k).f4).f2), .int .i64 (((k).f4).f3), .int .i64 (((k).f4).f4), .int .i64 (((k).f4).f5), .int .i64 (((k).f4).f6)]] w (fun e w1 => e = .returned (.tuple #[Value.string ((getM M k).2.getD ByteArray.empty), .bool (getM M k).2.isSome]) ∧ Sx.St w0 F0 ([cacheP 73 76 71 Value.string c (room) ((getM M k).1) ((if (getM M k).2.isSome then hits + 1 else hits)) ((if (getM M k).2.isSome then misses else misses + 1))] ++ R) w1) := by
 obtain ⟨I, hI, hM, h⟩ := cache_open h
 have hlM_ : I.L.length = M.length := by rw [← hM]; simp [ML]
 have hlen_ : I.L.length ≤ 4611686018427387904 := by omega
 refine Sx.calls_fn (vs := [.pointer (some ⟨c, 0, none⟩), .agg #[.string ((k).f0), .slice (A) (((k).f1).length) (cc), .int .i64 ((k).f2), .int .i64 ((k).f3), .int .i64 (((k).f4).f0), .int .i64 (((k).f4).f1), .int .i64 (((k).f4).f2), .int .i64 (((k).f4).f3), .int .i64 (((k).f4).f4), .int .i64 (((k).f4).f5), .int .i64 (((k).f4).f6)]]) Try.func14 rfl Try.ntmps14 rfl ?_
 refine wc_seq ?_
 refine wc_region ?_
 refine wl_box _ h rfl rfl rfl (fun b1 _ h => ?_)
 replace h : Sx.St _ _ (Sx.blk b1 [.string ((k).f0), .slice (A) (((k).f1).length) (cc), .int .i64 ((k).f2), .int .i64 ((k).f3), .int .i64 (((k).f4).f0), .int .i64 (((k).f4).f1), .int .i64 (((k).f4).f2), .int .i64 (((k).f4).f3), .int .i64 (((k).f4).f4), .int .i64 (((k).f4).f5), .int .i64 (((k).f4).f6)] 33 :: _) _ := h
 refine wl_v rfl rfl (ov_assign _ rfl) ?_
 refine wl_v rfl rfl (ov_assign _ rfl) ?_
 refine wl_nil ?_
 refine qn_then ?_
 refine wc_seq ?_
 refine wc_draw (fun w => Sx.St w0 F0 ([Sx.blk b1 [.string ((k).f0), .slice (A) (((k).f1).length) (cc), .int .i64 ((k).f2), .int .i64 ((k).f3), .int .i64 (((k).f4).f0), .int .i64 (((k).f4).f1), .int .i64 (((k).f4).f2), .int .i64 (((k).f4).f3), .int .i64 (((k).f4).f4), .int .i64 (((k).f4).f5), .int .i64 (((k).f4).f6)] 33, Sx.blk c [.int .i64 (room), .map (some I.gm), .pointer (Sx.pa ((adL I.L).head?)), .pointer (Sx.pa ((adL I.L).getLast?)), .int .i64 (((M.length : Nat) : Int)), .int .i64 (hits), .int .i64 (misses)] 73, Sx.mapo KU EH (I.gm) (I.BM), Sx.ents (enK 76 Value.string) (I.δ) (I.lt) (I.er), Sx.brows 71 (I.B), rlib (I.HL)] ++ R) w) (by kernel_rfl) ?_
 replace h := st_drew h
 refine wa_tk 0 rfl rfl rfl (st_selT [true, true, true, true, true, true] h) (fun w_ hS => ov_move _ rfl) ?_
 refine wa_tk 1 rfl rfl rfl (st_selT [true, true, true, true, true, true] h) (fun w_ hS => ov_loadbN 0 [.string ((k).f0), .slice (A) (((k).f1).length) (cc), .int .i64 ((k).f2), .int .i64 ((k).f3), .int .i64 (((k).f4).f0), .int .i64 (((k).f4).f1), .int .i64 (((k).f4).f2), .int .i64 (((k).f4).f3), .int .i64 (((k).f4).f4), .int .i64 (((k).f4).f5), .int .i64 (((k).f4).f6)] hS rfl rfl sh33 rfl) ?_
 refine wa_tk 2 rfl rfl rfl (st_selT [true, true, true, true, true, true] h) (fun w_ hS => ov_loadbN 0 [.string ((k).f0), .slice (A) (((k).f1).length) (cc), .int .i64 ((k).f2), .int .i64 ((k).f3), .int .i64 (((k).f4).f0), .int .i64 (((k).f4).f1), .int .i64 (((k).f4).f2), .int .i64 (((k).f4).f3), .int .i64 (((k).f4).f4), .int .i64 (((k).f4).f5), .int .i64 (((k).f4).f6)] hS rfl rfl sh33 rfl) ?_
 refine wa_one 3 rfl (by kernel_rfl) ?_
 refine wl_call _ rfl rfl rfl ent19 (CK.Hash_calls (R := [Sx.blk b1 [.string ((k).f0), .slice (A) (((k).f1).length) (cc), .int .i64 ((k).f2), .int .i64 ((k).f3), .int .i64 (((k).f4).f0), .int .i64 (((k).f4).f1), .int .i64 (((k).f4).f2), .int .i64 (((k).f4).f3), .int .i64 (((k).f4).f4), .int .i64 (((k).f4).f5), .int .i64 (((k).f4).f6)] 33, Sx.blk c [.int .i64 (room), .map (some I.gm), .pointer (Sx.pa ((adL I.L).head?)), .pointer (Sx.pa ((adL I.L).getLast?)), .int .i64 (((M.length : Nat) : Int)), .int .i64 (hits), .int .i64 (misses)] 73, Sx.mapo KU EH (I.gm) (I.BM), Sx.ents (enK 76 Value.string) (I.δ) (I.lt) (I.er), Sx.brows 71 (I.B), rlib (I.HL)] ++ R) (k) (A) (cc) (by assumption) (by omega) (Sx.en_shift (cs2 := [Sx.blk b1 [.string ((k).f0), .slice (A) (((k).f1).length) (cc), .int .i64 ((k).f2), .int .i64 ((k).f3), .int .i64 (((k).f4).f0), .int .i64 (((k).f4).f1), .int .i64 (((k).f4).f2), .int .i64 (((k).f4).f3), .int .i64 (((k).f4).f4), .int .i64 (((k).f4).f5), .int .i64 (((k).f4).f6)] 33, Sx.blk c [.int .i64 (room), .map (some I.gm), .pointer (Sx.pa ((adL I.L).head?)), .pointer (Sx.pa ((adL I.L).getLast?)), .int .i64 (((M.length : Nat) : Int)), .int .i64 (hits), .int .i64 (misses)] 73, Sx.mapo KU EH (I.gm) (I.BM), Sx.ents (enK 76 Value.string) (I.δ) (I.lt) (I.er), Sx.brows 71 (I.B), rlib (I.HL)]) hr) h) ?_
 rintro e_ w_ ⟨rfl, h⟩
 refine ⟨_, rfl, ?_⟩
 refine wl_nil ?_
 refine qn_wa (st_selT [true, true, true, true, true, true] h) ?_
 refine wa_one 4 rfl (by kernel_rfl) ?_
 refine wl_call _ rfl rfl rfl ent29 (RS.find_calls (R := [Sx.blk b1 [.string ((k).f0), .slice (A) (((k).f1).length) (cc), .int .i64 ((k).f2), .int .i64 ((k).f3), .int .i64 (((k).f4).f0), .int .i64 (((k).f4).f1), .int .i64 (((k).f4).f2), .int .i64 (((k).f4).f3), .int .i64 (((k).f4).f4), .int .i64 (((k).f4).f5), .int .i64 (((k).f4).f6)] 33, Sx.blk c [.int .i64 (room), .map (some I.gm), .pointer (Sx.pa ((adL I.L).head?)), .pointer (Sx.pa ((adL I.L).getLast?)), .int .i64 (((M.length : Nat) : Int)), .int .i64 (hits), .int .i64 (misses)] 73, Sx.mapo KU EH (I.gm) (I.BM), Sx.ents (enK 76 Value.string) (I.δ) (I.lt) (I.er), Sx.brows 71 (I.B), rlib (I.HL)] ++ R) c room (((M.length : Nat) : Int)) hits misses (((adL I.L).head?)) (((adL I.L).getLast?)) I (k) (A) (cc) (Sx.en_shift (cs2 := [Sx.blk b1 [.string ((k).f0), .slice (A) (((k).f1).length) (cc), .int .i64 ((k).f2), .int .i64 ((k).f3), .int .i64 (((k).f4).f0), .int .i64 (((k).f4).f1), .int .i64 (((k).f4).f2), .int .i64 (((k).f4).f3), .int .i64 (((k).f4).f4), .int .i64 (((k).f4).f5), .int .i64 (((k).f4).f6)] 33]) (cache_at (TC := 73))) hI hlen_ (by assumption) (Sx.en_shift (cs2 := [Sx.blk b1 [.string ((k).f0), .slice (A) (((k).f1).length) (cc), .int .i64 ((k).f2), .int .i64 ((k).f3), .int .i64 (((k).f4).f0), .int .i64 (((k).f4).f1), .int .i64 (((k).f4).f2), .int .i64 (((k).f4).f3), .int .i64 (((k).f4).f4), .int .i64 (((k).f4).f5), .int .i64 (((k).f4).f6)] 33, Sx.blk c [.int .i64 (room), .map (some I.gm), .pointer (Sx.pa ((adL I.L).head?)), .pointer (Sx.pa ((adL I.L).getLast?)), .int .i64 (((M.length : Nat) : Int)), .int .i64 (hits), .int .i64 (misses)] 73, Sx.mapo KU EH (I.gm) (I.BM), Sx.ents (enK 76 Value.string) (I.δ) (I.lt) (I.er), Sx.brows 71 (I.B), rlib (I.HL)]) hr) h) ?_
 rintro e_ w_ ⟨o2, rfl, hno2, hso2, h⟩
 refine ⟨_, rfl, ?_⟩
 refine wl_nil ?_
 refine qn_wa (st_selT [true, true, true, true, true, true] h) ?_
 refine wa_tk 5 rfl rfl rfl (st_selT [true, true, true, true, true, true] h) (fun w_ hS => ov_assign _ rfl) ?_
 refine wa_done (by kernel_rfl) ?_
 refine qn_then ?_
 refine wc_seq ?_
 refine wc_seq ?_
 refine wc_region ?_
 refine wl_v rfl rfl (ov_move _ rfl) ?_
 refine wl_v rfl rfl (ov_bin _ rfl rfl (binR_eqnil Try.underlying71)) ?_
 refine wl_nil ?_
 refine qn_then ?_
 refine wc_cond (by rfl) (fun c3 => ?_) (fun c3 => ?_)
 ·
  obtain rfl := Sx.pa_none c3
  refine wc_seq ?_
  refine wc_region ?_
  refine wl_v rfl rfl (ov_move _ rfl) ?_
  refine wl_v rfl rfl (ov_nilCheck _ rfl) ?_
  refine wl_v rfl rfl (ov_fieldAddr _ ⟨c, 6, none⟩ _ rfl fo73_6 rfl) ?_
  refine wl_v rfl rfl (ov_loadb 1 _ h rfl rfl sh3 rfl) ?_
  refine wl_v rfl rfl (ov_bin _ rfl rfl (binR_add (r := misses + 1) (Sx.w64 (by omega)))) ?_
  refine wl_v rfl rfl (ov_nilCheck _ rfl) ?_
  refine wl_v rfl rfl (ov_fieldAddr _ ⟨c, 6, none⟩ _ rfl fo73_6 rfl) ?_
  refine wl_storeb 1 _ [.int .i64 (room), .map (some I.gm), .pointer (Sx.pa ((adL I.L).head?)), .pointer (Sx.pa ((adL I.L).getLast?)), .int .i64 (((M.length : Nat) : Int)), .int .i64 (hits), .int .i64 (misses + 1)] h rfl rfl rfl rfl rfl rfl sh3 rfl rfl (fun _ h => ?_)
  refine wl_nil ?_
  refine qn_then ?_
  refine wc_seq ?_
  refine wc_region ?_
  refine wl_v rfl rfl (ov_assign _ rfl) ?_
  refine wl_nil ?_
  refine qn_then ?_
  refine wc_seq ?_
  refine wc_region ?_
  refine wl_v rfl rfl (ov_move _ rfl) ?_
  refine wl_v rfl rfl (ov_assign _ rfl) ?_
  refine wl_v rfl rfl (ov_assign _ rfl) ?_
  refine wl_nil ?_
  refine qn_then ?_
  refine wc_ret ?_
  refine qn_then_ret ?_
  replace h := st_front 5 h
  replace h := st_front 5 h
  replace h := st_front 5 h
  replace h := st_front 5 h
  replace h := st_front 5 h
  replace h := st_selT [true, true, true, true, true, false] h
  refine qn_ret [_, _] ⟨rfl, rfl, trivial⟩ ?_
  have hg_ : getM M k = (M, none) := getM_none (by rw [← hM]; exact find_ML (hno2 rfl))
  rw [hg_]
  exact ⟨rfl, cache_close I hI hM rfl rfl rfl h ⟨rfl, rfl, rfl, rfl, rfl, rfl, rfl⟩⟩
 ·
  obtain ⟨g4, rfl⟩ := Sx.pa_some c3
  obtain ⟨d, hd, hal⟩ := hso2 g4 rfl
  obtain ⟨L1, L2, hL⟩ := List.append_of_mem hd
  have hMe_ : M = ML L1 ++ (d.key, d.val) :: ML L2 := by rw [← hM, hL, ML_mid]
  have hu_ := hI.ul
  rw [hM, hMe_] at hu_
  refine wc_skip ?_
  refine qn_then ?_
  refine wc_seq ?_
  refine wc_region ?_
  refine wl_v rfl rfl (ov_move _ rfl) ?_
  refine wl_v rfl rfl (ov_nilCheck _ rfl) ?_
  refine wl_v rfl rfl (ov_fieldAddr _ ⟨c, 5, none⟩ _ rfl fo73_5 rfl) ?_
  refine wl_v rfl rfl (ov_loadb 1 _ h rfl rfl sh3 rfl) ?_
  refine wl_v rfl rfl (ov_bin _ rfl rfl (binR_add (r := hits + 1) (Sx.w64 (by omega)))) ?_
  refine wl_v rfl rfl (ov_nilCheck _ rfl) ?_
  refine wl_v rfl rfl (ov_fieldAddr _ ⟨c, 5, none⟩ _ rfl fo73_5 rfl) ?_
  refine wl_storeb 1 _ [.int .i64 (room), .map (some I.gm), .pointer (Sx.pa ((adL I.L).head?)), .pointer (Sx.pa ((adL I.L).getLast?)), .int .i64 (((M.length : Nat) : Int)), .int .i64 (hits + 1), .int .i64 (misses)] h rfl rfl rfl rfl rfl rfl sh3 rfl rfl (fun _ h => ?_)
  refine wl_nil ?_
  refine qn_then ?_
  refine wc_seq ?_
  refine wc_region ?_
  refine wl_v rfl rfl (ov_move _ rfl) ?_
  refine wl_v rfl rfl (ov_move _ rfl) ?_
  replace h := st_front 3 h
  replace h := st_front 2 h
  refine wl_call _ rfl rfl rfl ent30 (RS.out_calls (R := [Sx.blk b1 [.string ((k).f0), .slice (A) (((k).f1).length) (cc), .int .i64 ((k).f2), .int .i64 ((k).f3), .int .i64 (((k).f4).f0), .int .i64 (((k).f4).f1), .int .i64 (((k).f4).f2), .int .i64 (((k).f4).f3), .int .i64 (((k).f4).f4), .int .i64 (((k).f4).f5), .int .i64 (((k).f4).f6)] 33, Sx.mapo KU EH (I.gm) (I.BM), Sx.brows 71 (I.B), rlib (I.HL)] ++ R) c g4 I.gm room (((M.length : Nat) : Int)) (hits + 1) misses (((adL I.L).head?)) (((adL I.L).getLast?)) _ _ (I.δ) (I.lt) (I.er) _ (hI.dat _ hd) rfl rfl (fun x_ e_ => link_lt hI hL e_) (fun x_ e_ => link_er hI hL e_) h) ?_
  rintro e_ w_ ⟨rfl, h⟩
  refine ⟨_, rfl, ?_⟩
  replace h : Sx.St w0 F0 ([Sx.blk c [.int .i64 (room), .map (some I.gm), .pointer (Sx.pa (outF (((adL I.L).head?)) ((I.lt) g4) ((I.er) g4))), .pointer (Sx.pa (outL (((adL I.L).getLast?)) ((I.lt) g4) ((I.er) g4))), .int .i64 (((M.length : Nat) : Int)), .int .i64 (hits + 1), .int .i64 (misses)] 73, Sx.ents (enK 76 Value.string) (I.δ) (outLt (I.lt) g4 ((I.lt) g4) ((I.er) g4)) (outEr (I.er) g4 ((I.lt) g4) ((I.er) g4)), Sx.blk b1 [.string ((k).f0), .slice (A) (((k).f1).length) (cc), .int .i64 ((k).f2), .int .i64 ((k).f3), .int .i64 (((k).f4).f0), .int .i64 (((k).f4).f1), .int .i64 (((k).f4).f2), .int .i64 (((k).f4).f3), .int .i64 (((k).f4).f4), .int .i64 (((k).f4).f5), .int .i64 (((k).f4).f6)] 33, Sx.mapo KU EH (I.gm) (I.BM), Sx.brows 71 (I.B), rlib (I.HL)] ++ R) _ := h
  refine wl_nil ?_
  refine qn_then ?_
  refine wc_seq ?_
  refine wc_region ?_
  refine wl_v rfl rfl (ov_move _ rfl) ?_
  refine wl_v rfl rfl (ov_move _ rfl) ?_
  replace h := st_front 1 h
  replace h := st_front 1 h
  refine wl_call _ rfl rfl rfl ent31 (RS.front_calls (R := [Sx.blk b1 [.string ((k).f0), .slice (A) (((k).f1).length) (cc), .int .i64 ((k).f2), .int .i64 ((k).f3), .int .i64 (((k).f4).f0), .int .i64 (((k).f4).f1), .int .i64 (((k).f4).f2), .int .i64 (((k).f4).f3), .int .i64 (((k).f4).f4), .int .i64 (((k).f4).f5), .int .i64 (((k).f4).f6)] 33, Sx.mapo KU EH (I.gm) (I.BM), Sx.brows 71 (I.B), rlib (I.HL)] ++ R) c g4 I.gm room (((M.length : Nat) : Int)) (hits + 1) misses ((outF (((adL I.L).head?)) ((I.lt) g4) ((I.er) g4))) ((outL (((adL I.L).getLast?)) ((I.lt) g4) ((I.er) g4)))  (I.δ) (outLt (I.lt) g4 ((I.lt) g4) ((I.er) g4)) (outEr (I.er) g4 ((I.lt) g4) ((I.er) g4)) _ (hI.dat _ hd) (link_first hI hL) h) ?_
  rintro e_ w_ ⟨rfl, h⟩
  refine ⟨_, rfl, ?_⟩
  replace h : Sx.St w0 F0 ([Sx.blk c [.int .i64 (room), .map (some I.gm), .pointer (some ⟨g4, 0, none⟩), .pointer (Sx.pa (frL ((outL (((adL I.L).getLast?)) ((I.lt) g4) ((I.er) g4))) g4)), .int .i64 (((M.length : Nat) : Int)), .int .i64 (hits + 1), .int .i64 (misses)] 73, Sx.ents (enK 76 Value.string) (I.δ) (frLt (outLt (I.lt) g4 ((I.lt) g4) ((I.er) g4)) g4 ((outF (((adL I.L).head?)) ((I.lt) g4) ((I.er) g4)))) (frEr (outEr (I.er) g4 ((I.lt) g4) ((I.er) g4)) g4 ((outF (((adL I.L).head?)) ((I.lt) g4) ((I.er) g4)))), Sx.blk b1 [.string ((k).f0), .slice (A) (((k).f1).length) (cc), .int .i64 ((k).f2), .int .i64 ((k).f3), .int .i64 (((k).f4).f0), .int .i64 (((k).f4).f1), .int .i64 (((k).f4).f2), .int .i64 (((k).f4).f3), .int .i64 (((k).f4).f4), .int .i64 (((k).f4).f5), .int .i64 (((k).f4).f6)] 33, Sx.mapo KU EH (I.gm) (I.BM), Sx.brows 71 (I.B), rlib (I.HL)] ++ R) _ := h
  refine wl_nil ?_
  refine qn_then ?_
  refine wc_seq ?_
  refine wc_region ?_
  refine wl_v rfl rfl (ov_move _ rfl) ?_
  refine wl_v rfl rfl (ov_nilCheck _ rfl) ?_
  refine wl_v rfl rfl (ov_fieldAddr _ ⟨g4, 12, none⟩ _ rfl fo76_2 rfl) ?_
  refine wl_v rfl rfl (ov_load1 ⟨g4, 12, none⟩ _ rfl sh9 ((Sx.ents_at (i := 1) h rfl (hI.dat _ hd) rfl rfl 12).trans rfl)) ?_
  refine wl_v rfl rfl (ov_assign _ rfl) ?_
  refine wl_v rfl rfl (ov_assign _ rfl) ?_
  refine wl_nil ?_
  refine qn_then ?_
  refine wc_ret ?_
  replace h := st_front 5 h
  replace h := st_front 5 h
  replace h := st_front 3 h
  replace h := st_front 5 h
  replace h := st_front 4 h
  replace h := st_selT [true, true, true, true, true, false] h
  refine qn_ret [_, _] ⟨rfl, rfl, trivial⟩ ?_
  have hg_ : getM M k = ((d.key, d.val) :: (ML L1 ++ ML L2), some d.val) := by rw [hMe_]; exact getM_at hu_ hal
  rw [hg_]
  exact ⟨rfl, cache_close _ (inv_move hI hL _ (inv_out_first hI hL)) (by simp [ML]) rfl (by rw [inv_out_last hI hL]; exact front_last _ _) (by rw [hMe_]; simp; omega) h ⟨rfl, rfl, rfl, rfl, rfl, rfl, rfl⟩⟩
set_option maxHeartbeats 400000 in
set_option maxRecDepth 100000 in
theorem drop_calls {w0 w : World} {F0 : Nat → Prop} {R : List Sx.HP} (c g : Nat) (room size hits misses : Int) (I : CI ByteArray) (d : Dat ByteArray) (L1 L2 : List (Nat × Dat ByteArray)) (hI : Inv I) (hL : I.L = L1 ++ (g, d) :: L2) (hlen : I.L.length ≤ 1048576) (hsz : 0 < size ∧ size ≤ 4611686018427387904) (h : Sx.St w0 F0 ([Sx.blk c [.int .i64 (room), .map (some I.gm), .pointer (Sx.pa ((adL I.L).head?)), .pointer (Sx.pa ((adL I.L).getLast?)), .int .i64 (size), .int .i64 (hits), .int .i64 (misses)] 73, Sx.mapo KU EH (I.gm) (I.BM), Sx.ents (enK 76 Value.string) (I.δ) (I.lt) (I.er), Sx.brows 71 (I.B), rlib (I.HL)] ++ R) w) : Calls Try.prog 32 #[.pointer (some ⟨c, 0, none⟩), .pointer (some ⟨g, 0, none⟩)] w (fun e w1 => ∃ I2 : CI ByteArray, e = .returned (.tuple #[]) ∧ Inv I2 ∧ I2.L = L1 ++ L2 ∧ Sx.St w0 F0 ([Sx.blk c [.int .i64 (room), .map (some I2.gm), .pointer (Sx.pa ((adL I2.L).head?)), .pointer (Sx.pa ((adL I2.L).getLast?)), .int .i64 (size - 1), .int .i64 (hits), .int .i64 (misses)] 73, Sx.mapo KU EH (I2.gm) (I2.BM), Sx.ents (enK 76 Value.string) (I2.δ) (I2.lt) (I2.er), Sx.brows 71 (I2.B), rlib (I2.HL)] ++ R) w1) := by
 obtain ⟨bl, hbn, hbp, hbC, hbr⟩ := bucket_of hI.bk d.hash
 have hgb : g ∈ bl := hbp.symm.subset (mem_adr.2 ⟨d, mid_mem hL, rfl⟩)
 obtain ⟨⟨bh, bA, bc, bL⟩, hbB, hbh, hbe, hbl⟩ := hbr.resolve_left (fun e_ => by rw [e_.2] at hgb; cases hgb)
 obtain rfl : bl = bL := hbe
 replace hbl : Sx.lk I.BM d.hash = some ⟨bA, bl.length, bc⟩ := hbl
 clear hbC hbn hbr
 have hrl_ : bl.length ≤ 1048576 := by rw [hbp.length_eq]; exact Nat.le_trans (adr_len _ _) hlen
 obtain ⟨bL, hbLe⟩ : ∃ z_, z_ = bl := ⟨_, rfl⟩
 subst hbLe
 refine Sx.calls_fn (vs := [.pointer (some ⟨c, 0, none⟩), .pointer (some ⟨g, 0, none⟩)]) Try.func32 rfl Try.ntmps32 rfl ?_
 refine wc_seq ?_
 refine wc_region ?_
 refine wl_v rfl rfl (ov_move _ rfl) ?_
 refine wl_v rfl rfl (ov_move _ rfl) ?_
 replace h := st_front 2 h
 replace h := st_front 1 h
 refine wl_call _ rfl rfl rfl ent30 (RS.out_calls (R := [Sx.mapo KU EH (I.gm) (I.BM), Sx.brows 71 (I.B), rlib (I.HL)] ++ R) c g I.gm room size hits misses (((adL I.L).head?)) (((adL I.L).getLast?)) _ _ (I.δ) (I.lt) (I.er) _ (hI.dat _ (mid_mem hL)) rfl rfl (fun x_ e_ => link_lt hI hL e_) (fun x_ e_ => link_er hI hL e_) h) ?_
 rintro e_ w_ ⟨rfl, h⟩
 refine ⟨_, rfl, ?_⟩
 replace h : Sx.St w0 F0 ([Sx.blk c [.int .i64 (room), .map (some I.gm), .pointer (Sx.pa (outF (((adL I.L).head?)) ((I.lt) g) ((I.er) g))), .pointer (Sx.pa (outL (((adL I.L).getLast?)) ((I.lt) g) ((I.er) g))), .int .i64 (size), .int .i64 (hits), .int .i64 (misses)] 73, Sx.ents (enK 76 Value.string) (I.δ) (outLt (I.lt) g ((I.lt) g) ((I.er) g)) (outEr (I.er) g ((I.lt) g) ((I.er) g)), Sx.mapo KU EH (I.gm) (I.BM), Sx.brows 71 (I.B), rlib (I.HL)] ++ R) _ := h
 refine wl_nil ?_
 refine qn_then ?_
 refine wc_seq ?_
 refine wc_region ?_
 refine wl_v rfl rfl (ov_assign _ rfl) ?_
 refine wl_nil ?_
 refine qn_then ?_
 refine wc_seq ?_
 refine wc_seq ?_
 refine wc_draw (fun w => Sx.St w0 F0 ([Sx.blk c [.int .i64 (room), .map (some I.gm), .pointer (Sx.pa (outF (((adL I.L).head?)) ((I.lt) g) ((I.er) g))), .pointer (Sx.pa (outL (((adL I.L).getLast?)) ((I.lt) g) ((I.er) g))), .int .i64 (size), .int .i64 (hits), .int .i64 (misses)] 73, Sx.ents (enK 76 Value.string) (I.δ) (outLt (I.lt) g ((I.lt) g) ((I.er) g)) (outEr (I.er) g ((I.lt) g) ((I.er) g)), Sx.mapo KU EH (I.gm) (I.BM), Sx.brows 71 (I.B), rlib (I.HL)] ++ R) w) (by kernel_rfl) ?_
 replace h := st_drew h
 refine wa_tk 0 rfl rfl rfl (st_selT [true, true, true, true, true] h) (fun w_ hS => ov_move _ rfl) ?_
 refine wa_tk 1 rfl rfl rfl (st_selT [true, true, true, true, true] h) (fun w_ hS => ov_nilCheck _ rfl) ?_
 refine wa_tk 2 rfl rfl rfl (st_selT [true, true, true, true, true] h) (fun w_ hS => ov_fieldAddr _ ⟨c, 1, none⟩ _ rfl fo73_1 rfl) ?_
 refine wa_tk 3 rfl rfl rfl (st_selT [true, true, true, true, true] h) (fun w_ hS => ov_loadb 0 _ hS rfl rfl sh70 rfl) ?_
 refine wa_tk 4 rfl rfl rfl (st_selT [true, true, true, true, true] h) (fun w_ hS => ov_move _ rfl) ?_
 refine wa_tk 5 rfl rfl rfl (st_selT [true, true, true, true, true] h) (fun w_ hS => ov_nilCheck _ rfl) ?_
 refine wa_tk 6 rfl rfl rfl (st_selT [true, true, true, true, true] h) (fun w_ hS => ov_fieldAddr _ ⟨g, 11, none⟩ _ rfl fo76_1 rfl) ?_
 refine wa_tk 7 rfl rfl rfl (st_selT [true, true, true, true, true] h) (fun w_ hS => ov_load1 ⟨g, 11, none⟩ _ rfl sh42 ((Sx.ents_at (i := 1) hS rfl (hI.dat _ (mid_mem hL)) rfl rfl 11).trans rfl)) ?_
 refine wa_tk 8 rfl rfl rfl (st_selT [true, true, true, true, true] h) (fun w_ hS => (ov_lookup1 (KU) (EH) (.slice (none) (0) (0)) I.gm ((d).hash) (I.BM) rfl rfl Try.underlying70 Try.underlying42 zo78 (Sx.mapo_now hS (i := 2) rfl)).toV ((Sx.lkH _ _).trans (by rw [hbl]))) ?_
 refine wa_tk 9 rfl rfl rfl (st_selT [true, true, true, true, true] h) (fun w_ hS => ov_len _ _ _ _ _ rfl es78) ?_
 refine wa_tk 10 rfl rfl rfl (st_selT [true, true, true, true, true] h) (fun w_ hS => ov_move _ rfl) ?_
 refine wa_done (by kernel_rfl) ?_
 refine qn_then ?_
 refine wc_block ?_
 replace h := st_nilrow Sx.kPtr 71 h
 have e_ : [] = (restL bL g 0) := by rfl
 replace h := st_cast (congrArg (fun z_ => ([Sx.row Sx.kPtr 71 (none) (0) (z_), Sx.blk c [.int .i64 (room), .map (some I.gm), .pointer (Sx.pa (outF (((adL I.L).head?)) ((I.lt) g) ((I.er) g))), .pointer (Sx.pa (outL (((adL I.L).getLast?)) ((I.lt) g) ((I.er) g))), .int .i64 (size), .int .i64 (hits), .int .i64 (misses)] 73, Sx.ents (enK 76 Value.string) (I.δ) (outLt (I.lt) g ((I.lt) g) ((I.er) g)) (outEr (I.er) g ((I.lt) g) ((I.er) g)), Sx.mapo KU EH (I.gm) (I.BM), Sx.brows 71 (I.B), rlib (I.HL)] ++ R)) e_) h
 clear e_
 replace h := st_front 5 h
 replace h := st_front 5 h
 replace h := st_front 4 h
 replace h := st_front 5 h
 replace h := st_front 5 h
 refine wc_loop (fun (x_ : Nat × (Option Addr) × Nat) => [(0, .pointer (some ⟨c, 0, none⟩)), (1, .pointer (some ⟨g, 0, none⟩)), (4, .slice (x_.2.1) ((restL bL g x_.1).length) (x_.2.2)), (18, .slice (bA) (bL.length) (bc)), (19, .int .i64 (((bL.length : Nat) : Int))), (20, .int .i64 (((x_.1 : Nat) : Int)))]) (fun (x_ : Nat × (Option Addr) × Nat) (w : World) => (x_.1 ≤ bL.length) ∧ Sx.St w0 F0 ([Sx.blk c [.int .i64 (room), .map (some I.gm), .pointer (Sx.pa (outF (((adL I.L).head?)) ((I.lt) g) ((I.er) g))), .pointer (Sx.pa (outL (((adL I.L).getLast?)) ((I.lt) g) ((I.er) g))), .int .i64 (size), .int .i64 (hits), .int .i64 (misses)] 73, Sx.mapo KU EH (I.gm) (I.BM), Sx.ents (enK 76 Value.string) (I.δ) (outLt (I.lt) g ((I.lt) g) ((I.er) g)) (outEr (I.er) g ((I.lt) g) ((I.er) g)), Sx.brows 71 (I.B), rlib (I.HL), Sx.row Sx.kPtr 71 (x_.2.1) (x_.2.2) ((restL bL g x_.1))] ++ R) w) (fun (x_ : Nat × (Option Addr) × Nat) => bL.length - x_.1) (0, none, 0) ?_ ?_ ?_
 · exact ⟨rfl, rfl, rfl, rfl, rfl, (congrArg (fun z_ => some (Value.int .i64 z_)) (show (0 : Int) = ((0 : Nat) : Int) by omega)), trivial⟩
 · exact ⟨by first | omega | simp, h⟩
 rintro ⟨i, A, ac⟩ w h
 obtain ⟨hJ, h⟩ := h
 replace hJ : i ≤ bL.length := hJ
 replace h : Sx.St w0 F0 ([Sx.blk c [.int .i64 (room), .map (some I.gm), .pointer (Sx.pa (outF (((adL I.L).head?)) ((I.lt) g) ((I.er) g))), .pointer (Sx.pa (outL (((adL I.L).getLast?)) ((I.lt) g) ((I.er) g))), .int .i64 (size), .int .i64 (hits), .int .i64 (misses)] 73, Sx.mapo KU EH (I.gm) (I.BM), Sx.ents (enK 76 Value.string) (I.δ) (outLt (I.lt) g ((I.lt) g) ((I.er) g)) (outEr (I.er) g ((I.lt) g) ((I.er) g)), Sx.brows 71 (I.B), rlib (I.HL), Sx.row Sx.kPtr 71 (A) (ac) ((restL bL g i))] ++ R) w := h
 show Sx.WC _ _ _ _ [(0, .pointer (some ⟨c, 0, none⟩)), (1, .pointer (some ⟨g, 0, none⟩)), (4, .slice (A) ((restL bL g i).length) (ac)), (18, .slice (bA) (bL.length) (bc)), (19, .int .i64 (((bL.length : Nat) : Int))), (20, .int .i64 (((i : Nat) : Int)))] _
 have hrl2_ := restL_len bL g i
 refine wc_seq ?_
 refine wc_region ?_
 refine wl_v rfl rfl (ov_bin _ rfl rfl (binR_lss)) ?_
 refine wl_nil ?_
 refine qn_then ?_
 refine wc_seq ?_
 refine wc_cond (by rfl) (fun c1 => ?_) (fun c1 => ?_)
 ·
  refine wc_skip ?_
  refine qn_then ?_
  refine wc_seq ?_
  refine wc_block ?_
  refine wc_seq ?_
  refine wc_region ?_
  obtain ⟨ad2, rfl⟩ := Sx.C_some ((Sx.brows_now h (i := 3) rfl hbB).2) (k := (i : Nat)) (by first | assumption | omega | (simp only [List.length_set, List.length_append, List.length_cons, List.length_nil]; omega))
  refine wl_v rfl rfl (ov_indexAddrN _ _ _ _ _ (i : Nat) rfl rfl es78 rfl (by first | assumption | omega | (simp only [List.length_take, List.length_drop, List.length_set, List.length_append, List.length_cons, List.length_nil]; omega))) ?_
  obtain ⟨cl5, _, hk4, hc3⟩ := Sx.C_cells ((Sx.brows_now h (i := 3) rfl hbB).2) (z := (0 : Nat)) (k := (i : Nat)) (by first | assumption | omega | (simp only [List.length_set, List.length_append, List.length_cons, List.length_nil]; omega))
  obtain rfl := Sx.kPtr_open hk4
  refine wl_v rfl rfl (ov_load1 _ _ rfl sh71 ((hc3 0 _ rfl))) ?_
  obtain ⟨d2, hd2, _⟩ := mem_adr.1 (hbp.subset (getD_in (show i < bL.length by omega)))
  refine wl_v rfl rfl (ov_assign _ rfl) ?_
  refine wl_nil ?_
  refine qn_then ?_
  refine wc_seq ?_
  refine wc_region ?_
  refine wl_v rfl rfl (ov_move _ rfl) ?_
  refine wl_v rfl rfl (ov_move _ rfl) ?_
  refine wl_v rfl rfl (ov_neptr ((bL).getD (i : Nat) (0 : Nat)) (g) rfl rfl Try.underlying71 szf76 (Sx.ent_obj (Sx.ents_now h (i := 2) rfl (hI.dat _ hd2))) (Sx.ent_obj (Sx.ents_now h (i := 2) rfl (hI.dat _ (mid_mem hL))))) ?_
  refine wl_nil ?_
  refine qn_then ?_
  refine wc_cond (by rfl) (fun c6 => ?_) (fun c6 => ?_)
  ·
   refine wc_region ?_
   refine wl_v rfl rfl (ov_move _ rfl) ?_
   refine wl_v rfl rfl (ov_move _ rfl) ?_
   refine wl_lit (d := Sx.kPtr) [(0, .pointer (some ⟨(bL).getD (i : Nat) (0 : Nat), 0, none⟩))] _ [.pointer (some ⟨(bL).getD (i : Nat) (0 : Nat), 0, none⟩)] ([(bL).getD (i : Nat) (0 : Nat)]) h rfl rfl rfl rfl Try.underlying78 infb71 rfl (by decide) (by kernel_rfl) rfl (fun _ _ _ => ((Reps.none _ _).snoc (Sx.kPtr_mkM _ _ _ ((bL).getD (i : Nat) (0 : Nat))) rfl)) (fun A7 cp8 _ h => ?_)
   refine wl_append (d := Sx.kPtr) (L := (restL bL g i)) 6 _ 8 _ _ _ ([(bL).getD (i : Nat) (0 : Nat)]) Sx.flat_ptr h rfl rfl rfl rfl rfl ((Sx.row_reads h (i := 0) rfl).2) Try.underlying78 inf71 rfl (by decide) (by decide) (by first | omega | (simp only [List.length_cons, List.length_nil, List.length_append, List.length_set]; omega)) (by first | rfl | simp) (fun A9 cp10 _ h => ?_)
   replace h := st_selT [false, true, true, true, true, true, true] h
   refine wl_v rfl rfl (ov_assign _ rfl) ?_
   refine wl_nil ?_
   refine qn_block_normal ?_
   refine qn_then ?_
   refine wc_region ?_
   refine wl_v rfl rfl (ov_bin _ rfl rfl (binR_add (r := (((i : Nat) : Int)) + 1) (Sx.w64 (by omega)))) ?_
   refine wl_v rfl rfl (ov_move _ rfl) ?_
   refine wl_nil ?_
   have e_ : ((restL bL g i)) ++ ([(bL).getD (i : Nat) (0 : Nat)]) = (restL bL g (i + 1)) := by first | exact (restL_keep (by omega) (by assumption)).symm | exact (restL_skip (by omega) (by assumption)).symm
   replace h := st_cast (congrArg (fun z_ => ([Sx.blk c [.int .i64 (room), .map (some I.gm), .pointer (Sx.pa (outF (((adL I.L).head?)) ((I.lt) g) ((I.er) g))), .pointer (Sx.pa (outL (((adL I.L).getLast?)) ((I.lt) g) ((I.er) g))), .int .i64 (size), .int .i64 (hits), .int .i64 (misses)] 73, Sx.mapo KU EH (I.gm) (I.BM), Sx.ents (enK 76 Value.string) (I.δ) (outLt (I.lt) g ((I.lt) g) ((I.er) g)) (outEr (I.er) g ((I.lt) g) ((I.er) g)), Sx.brows 71 (I.B), rlib (I.HL), Sx.row Sx.kPtr 71 (A9) (cp10) (z_)] ++ R)) e_) h
   clear e_
   replace h := st_front 5 h
   replace h := st_front 5 h
   replace h := st_front 5 h
   replace h := st_front 5 h
   replace h := st_front 5 h
   replace h := st_front 5 h
   refine qn_next ((i + 1), A9, cp10) (by show bL.length - (i + 1) < bL.length - i; omega) ⟨rfl, rfl, (congrArg (fun z_ => some (Value.slice (A9) z_ (cp10))) (by first | (rw [restL_keep (by omega) (by assumption)]) | (rw [restL_skip (by omega) (by assumption)]))), (congrArg (fun z_ => some (Value.slice (some ad2) z_ (bc))) (show (bL.length : Nat) = bL.length by first | rfl | simp)), rfl, (congrArg (fun z_ => some (Value.int .i64 z_)) (show ((((i : Nat) : Int)) + 1 : Int) = (((i + 1) : Nat) : Int) by omega)), trivial⟩ ?_
   show ((i + 1) ≤ bL.length) ∧ _
   exact ⟨by first | omega | simp, h⟩
  ·
   refine wc_skip ?_
   refine qn_block_normal ?_
   refine qn_then ?_
   refine wc_region ?_
   refine wl_v rfl rfl (ov_bin _ rfl rfl (binR_add (r := (((i : Nat) : Int)) + 1) (Sx.w64 (by omega)))) ?_
   refine wl_v rfl rfl (ov_move _ rfl) ?_
   refine wl_nil ?_
   have e_ : (restL bL g i) = (restL bL g (i + 1)) := by first | exact (restL_keep (by omega) (by assumption)).symm | exact (restL_skip (by omega) (by assumption)).symm
   replace h := st_cast (congrArg (fun z_ => ([Sx.blk c [.int .i64 (room), .map (some I.gm), .pointer (Sx.pa (outF (((adL I.L).head?)) ((I.lt) g) ((I.er) g))), .pointer (Sx.pa (outL (((adL I.L).getLast?)) ((I.lt) g) ((I.er) g))), .int .i64 (size), .int .i64 (hits), .int .i64 (misses)] 73, Sx.mapo KU EH (I.gm) (I.BM), Sx.ents (enK 76 Value.string) (I.δ) (outLt (I.lt) g ((I.lt) g) ((I.er) g)) (outEr (I.er) g ((I.lt) g) ((I.er) g)), Sx.brows 71 (I.B), rlib (I.HL), Sx.row Sx.kPtr 71 (A) (ac) (z_)] ++ R)) e_) h
   clear e_
   replace h := st_front 5 h
   replace h := st_front 5 h
   replace h := st_front 5 h
   replace h := st_front 5 h
   replace h := st_front 5 h
   replace h := st_front 5 h
   refine qn_next ((i + 1), A, ac) (by show bL.length - (i + 1) < bL.length - i; omega) ⟨rfl, rfl, (congrArg (fun z_ => some (Value.slice (A) z_ (ac))) (by first | (rw [restL_keep (by omega) (by assumption)]) | (rw [restL_skip (by omega) (by assumption)]))), (congrArg (fun z_ => some (Value.slice (some ad2) z_ (bc))) (show (bL.length : Nat) = bL.length by first | rfl | simp)), rfl, (congrArg (fun z_ => some (Value.int .i64 z_)) (show ((((i : Nat) : Int)) + 1 : Int) = (((i + 1) : Nat) : Int) by omega)), trivial⟩ ?_
   show ((i + 1) ≤ bL.length) ∧ _
   exact ⟨by first | omega | simp, h⟩
 ·
  refine wc_exit ?_
  refine qn_then_exit ?_
  refine qn_then_exit ?_
  refine qn_block_exit ?_
  refine qn_then ?_
  refine wc_seq ?_
  refine wc_seq ?_
  refine wc_region ?_
  refine wl_v rfl rfl (ov_move _ rfl) ?_
  refine wl_v rfl rfl (ov_len _ _ _ _ _ rfl es78) ?_
  refine wl_v rfl rfl (ov_bin _ rfl rfl (binR_eql)) ?_
  refine wl_nil ?_
  refine qn_then ?_
  refine wc_cond (by rfl) (fun c11 => ?_) (fun c11 => ?_)
  ·
   refine wc_draw (fun w => Sx.St w0 F0 ([Sx.blk c [.int .i64 (room), .map (some I.gm), .pointer (Sx.pa (outF (((adL I.L).head?)) ((I.lt) g) ((I.er) g))), .pointer (Sx.pa (outL (((adL I.L).getLast?)) ((I.lt) g) ((I.er) g))), .int .i64 (size), .int .i64 (hits), .int .i64 (misses)] 73, Sx.ents (enK 76 Value.string) (I.δ) (outLt (I.lt) g ((I.lt) g) ((I.er) g)) (outEr (I.er) g ((I.lt) g) ((I.er) g)), Sx.brows 71 (I.B), rlib (I.HL), Sx.row Sx.kPtr 71 (A) (ac) ((restL bL g i))] ++ R) w) (by kernel_rfl) ?_
   replace h := st_drew h
   refine wa_tk 0 rfl rfl rfl (st_selT [true, false, true, true, true, true] h) (fun w_ hS => ov_move _ rfl) ?_
   refine wa_tk 1 rfl rfl rfl (st_selT [true, false, true, true, true, true] h) (fun w_ hS => ov_nilCheck _ rfl) ?_
   refine wa_tk 2 rfl rfl rfl (st_selT [true, false, true, true, true, true] h) (fun w_ hS => ov_fieldAddr _ ⟨c, 1, none⟩ _ rfl fo73_1 rfl) ?_
   refine wa_tk 3 rfl rfl rfl (st_selT [true, false, true, true, true, true] h) (fun w_ hS => ov_loadb 0 _ hS rfl rfl sh70 rfl) ?_
   refine wa_tk 4 rfl rfl rfl (st_selT [true, false, true, true, true, true] h) (fun w_ hS => ov_move _ rfl) ?_
   refine wa_tk 5 rfl rfl rfl (st_selT [true, false, true, true, true, true] h) (fun w_ hS => ov_nilCheck _ rfl) ?_
   refine wa_tk 6 rfl rfl rfl (st_selT [true, false, true, true, true, true] h) (fun w_ hS => ov_fieldAddr _ ⟨g, 11, none⟩ _ rfl fo76_1 rfl) ?_
   refine wa_tk 7 rfl rfl rfl (st_selT [true, false, true, true, true, true] h) (fun w_ hS => ov_load1 ⟨g, 11, none⟩ _ rfl sh42 ((Sx.ents_at (i := 1) hS rfl (hI.dat _ (mid_mem hL)) rfl rfl 11).trans rfl)) ?_
   refine wa_one 8 rfl (by kernel_rfl) ?_
   refine wl_delete 1 (KU) (EH) I.gm (I.BM) ((d).hash) h rfl rfl rfl rfl Try.underlying70 Try.underlying42 (fun _ h => ?_)
   refine wl_nil ?_
   refine qn_wa (st_selT [true, false, true, true, true, true] h) ?_
   refine wa_done (by kernel_rfl) ?_
   refine qn_then ?_
   refine wc_region ?_
   refine wl_v rfl rfl (ov_move _ rfl) ?_
   refine wl_v rfl rfl (ov_nilCheck _ rfl) ?_
   refine wl_v rfl rfl (ov_fieldAddr _ ⟨c, 4, none⟩ _ rfl fo73_4 rfl) ?_
   refine wl_v rfl rfl (ov_loadb 0 _ h rfl rfl sh3 rfl) ?_
   refine wl_v rfl rfl (ov_bin _ rfl rfl (binR_sub (r := size - 1) (Sx.w64 (by omega)))) ?_
   refine wl_v rfl rfl (ov_nilCheck _ rfl) ?_
   refine wl_v rfl rfl (ov_fieldAddr _ ⟨c, 4, none⟩ _ rfl fo73_4 rfl) ?_
   refine wl_storeb 0 _ [.int .i64 (room), .map (some I.gm), .pointer (Sx.pa (outF (((adL I.L).head?)) ((I.lt) g) ((I.er) g))), .pointer (Sx.pa (outL (((adL I.L).getLast?)) ((I.lt) g) ((I.er) g))), .int .i64 (size - 1), .int .i64 (hits), .int .i64 (misses)] h rfl rfl rfl rfl rfl rfl sh3 rfl rfl (fun _ h => ?_)
   refine wl_nil ?_
   have hpr_ := restL_perm (i := i) hI hL hbp (by omega)
   have hbk_ := hI.bk
   rw [hL] at hbk_
   replace h := st_front 4 h
   replace h := st_front 4 h
   replace h := st_front 4 h
   replace h := st_front 4 h
   replace h := st_front 4 h
   replace h := st_selT [true, true, true, true, true, false] h
   refine qn_end [] trivial ?_
   rw [inv_out_first hI hL, inv_out_last hI hL] at h
   exact ⟨_, rfl, inv_drop hI hL _ _ (ib_del hbk_ (perm_none hpr_ (by assumption))), rfl, h⟩
  ·
   refine wc_draw (fun w => Sx.St w0 F0 ([Sx.blk c [.int .i64 (room), .map (some I.gm), .pointer (Sx.pa (outF (((adL I.L).head?)) ((I.lt) g) ((I.er) g))), .pointer (Sx.pa (outL (((adL I.L).getLast?)) ((I.lt) g) ((I.er) g))), .int .i64 (size), .int .i64 (hits), .int .i64 (misses)] 73, Sx.ents (enK 76 Value.string) (I.δ) (outLt (I.lt) g ((I.lt) g) ((I.er) g)) (outEr (I.er) g ((I.lt) g) ((I.er) g)), Sx.brows 71 (I.B), rlib (I.HL), Sx.row Sx.kPtr 71 (A) (ac) ((restL bL g i))] ++ R) w) (by kernel_rfl) ?_
   replace h := st_drew h
   refine wa_tk 0 rfl rfl rfl (st_selT [true, false, true, true, true, true] h) (fun w_ hS => ov_move _ rfl) ?_
   refine wa_tk 1 rfl rfl rfl (st_selT [true, false, true, true, true, true] h) (fun w_ hS => ov_nilCheck _ rfl) ?_
   refine wa_tk 2 rfl rfl rfl (st_selT [true, false, true, true, true, true] h) (fun w_ hS => ov_fieldAddr _ ⟨c, 1, none⟩ _ rfl fo73_1 rfl) ?_
   refine wa_tk 3 rfl rfl rfl (st_selT [true, false, true, true, true, true] h) (fun w_ hS => ov_loadb 0 _ hS rfl rfl sh70 rfl) ?_
   refine wa_tk 4 rfl rfl rfl (st_selT [true, false, true, true, true, true] h) (fun w_ hS => ov_move _ rfl) ?_
   refine wa_tk 5 rfl rfl rfl (st_selT [true, false, true, true, true, true] h) (fun w_ hS => ov_nilCheck _ rfl) ?_
   refine wa_tk 6 rfl rfl rfl (st_selT [true, false, true, true, true, true] h) (fun w_ hS => ov_fieldAddr _ ⟨g, 11, none⟩ _ rfl fo76_1 rfl) ?_
   refine wa_tk 7 rfl rfl rfl (st_selT [true, false, true, true, true, true] h) (fun w_ hS => ov_load1 ⟨g, 11, none⟩ _ rfl sh42 ((Sx.ents_at (i := 1) hS rfl (hI.dat _ (mid_mem hL)) rfl rfl 11).trans rfl)) ?_
   refine wa_tk 8 rfl rfl rfl (st_selT [true, false, true, true, true, true] h) (fun w_ hS => ov_move _ rfl) ?_
   refine wa_one 9 rfl (by kernel_rfl) ?_
   refine wl_mapupdate1 1 (KU) (EH) I.gm (I.BM) ((d).hash) ((⟨A, (restL bL g i).length, ac⟩ : Sx.Hdr)) h rfl rfl (by exact congrArg (fun z_ => some (Value.map z_)) rfl) rfl rfl Try.underlying70 Try.underlying42 (fun _ h => ?_)
   refine wl_nil ?_
   refine qn_wa (st_selT [true, false, true, true, true, true] h) ?_
   refine wa_done (by kernel_rfl) ?_
   refine qn_then ?_
   refine wc_region ?_
   refine wl_v rfl rfl (ov_move _ rfl) ?_
   refine wl_v rfl rfl (ov_nilCheck _ rfl) ?_
   refine wl_v rfl rfl (ov_fieldAddr _ ⟨c, 4, none⟩ _ rfl fo73_4 rfl) ?_
   refine wl_v rfl rfl (ov_loadb 0 _ h rfl rfl sh3 rfl) ?_
   refine wl_v rfl rfl (ov_bin _ rfl rfl (binR_sub (r := size - 1) (Sx.w64 (by omega)))) ?_
   refine wl_v rfl rfl (ov_nilCheck _ rfl) ?_
   refine wl_v rfl rfl (ov_fieldAddr _ ⟨c, 4, none⟩ _ rfl fo73_4 rfl) ?_
   refine wl_storeb 0 _ [.int .i64 (room), .map (some I.gm), .pointer (Sx.pa (outF (((adL I.L).head?)) ((I.lt) g) ((I.er) g))), .pointer (Sx.pa (outL (((adL I.L).getLast?)) ((I.lt) g) ((I.er) g))), .int .i64 (size - 1), .int .i64 (hits), .int .i64 (misses)] h rfl rfl rfl rfl rfl rfl sh3 rfl rfl (fun _ h => ?_)
   refine wl_nil ?_
   have hpr_ := restL_perm (i := i) hI hL hbp (by omega)
   have hbk_ := hI.bk
   rw [hL] at hbk_
   replace h := st_front 3 h
   replace h := st_front 5 h
   replace h := Sx.brows_in d.hash h
   replace h := st_front 4 h
   replace h := st_front 1 h
   replace h := st_front 4 h
   replace h := st_front 4 h
   replace h := st_front 4 h
   refine qn_end [] trivial ?_
   rw [inv_out_first hI hL, inv_out_last hI hL] at h
   exact ⟨_, rfl, inv_drop hI hL _ _ (ib_rest hbk_ hpr_ rfl), rfl, h⟩
set_option maxHeartbeats 400000 in
set_option maxRecDepth 100000 in
theorem Put_calls {w0 w : World} {F0 : Nat → Prop} {R : List Sx.HP} (c : Nat) (room hits misses : Int) (M : LM ByteArray) (k : KV) (A : Option Addr) (cc : Nat) (v : ByteArray) (hm : M.length ≤ 1048576) (hh : 0 ≤ hits ∧ hits ≤ 2305843009213693952 ∧ 0 ≤ misses ∧ misses ≤ 2305843009213693952) (hs : SmallK k) (hz : k.f0.size ≤ 4611686018427387904) (hr : ∀ cs w, Sx.St w0 F0 (cs ++ R) w → k50.C w A (k).f1.length (k).f1) (h : Sx.St w0 F0 ([cacheP 73 76 71 Value.string c (room) (M) (hits) (misses)] ++ R) w) : Calls Try.prog 13 #[.pointer (some ⟨c, 0, none⟩), .agg #[.string ((k).f0), .slice (A) (((k).f1).length) (cc), .int .i64 ((k).f2), .int .i64 ((k).f3), .int .i64 (((k).f4).f0), .int .i64 (((k).f4).f1), .int .i64 (((k).f4).f2), .int .i64 (((k).f4).f3), .int .i64 (((k).f4).f4), .int .i64 (((k).f4).f5), .int .i64 (((k).f4).f6)], .string (v)] w (fun e w1 => e = .returned (.tuple #[]) ∧ Sx.St w0 F0 ([cacheP 73 76 71 Value.string c (room) (putM room M k v) (hits) (misses)] ++ R) w1) := by
 obtain ⟨I, hI, hM, h⟩ := cache_open h
 have hlM_ : I.L.length = M.length := by rw [← hM]; simp [ML]
 have hlen_ : I.L.length ≤ 4611686018427387904 := by omega
 refine Sx.calls_fn (vs := [.pointer (some ⟨c, 0, none⟩), .agg #[.string ((k).f0), .slice (A) (((k).f1).length) (cc), .int .i64 ((k).f2), .int .i64 ((k).f3), .int .i64 (((k).f4).f0), .int .i64 (((k).f4).f1), .int .i64 (((k).f4).f2), .int .i64 (((k).f4).f3), .int .i64 (((k).f4).f4), .int .i64 (((k).f4).f5), .int .i64 (((k).f4).f6)], .string (v)]) Try.func13 rfl Try.ntmps13 rfl ?_
 refine wc_seq ?_
 refine wc_region ?_
 refine wl_box _ h rfl rfl rfl (fun b1 _ h => ?_)
 replace h : Sx.St _ _ (Sx.blk b1 [.string ((k).f0), .slice (A) (((k).f1).length) (cc), .int .i64 ((k).f2), .int .i64 ((k).f3), .int .i64 (((k).f4).f0), .int .i64 (((k).f4).f1), .int .i64 (((k).f4).f2), .int .i64 (((k).f4).f3), .int .i64 (((k).f4).f4), .int .i64 (((k).f4).f5), .int .i64 (((k).f4).f6)] 33 :: _) _ := h
 refine wl_nil ?_
 refine qn_then ?_
 refine wc_seq ?_
 refine wc_seq ?_
 refine wc_region ?_
 refine wl_v rfl rfl (ov_move _ rfl) ?_
 refine wl_v rfl rfl (ov_nilCheck _ rfl) ?_
 refine wl_v rfl rfl (ov_fieldAddr _ ⟨c, 0, none⟩ _ rfl fo73_0 rfl) ?_
 refine wl_v rfl rfl (ov_loadb 1 _ h rfl rfl sh3 rfl) ?_
 refine wl_v rfl rfl (ov_bin _ rfl rfl (binR_eql)) ?_
 refine wl_nil ?_
 refine qn_then ?_
 refine wc_cond (by rfl) (fun c2 => ?_) (fun c2 => ?_)
 ·
  refine wc_ret ?_
  refine qn_then_ret ?_
  replace h := st_front 5 h
  replace h := st_front 5 h
  replace h := st_front 5 h
  replace h := st_front 5 h
  replace h := st_front 5 h
  replace h := st_selT [true, true, true, true, true, false] h
  refine qn_ret [] trivial ?_
  rw [show putM room M k v = M from by unfold putM; rw [if_pos (by omega)]]
  exact ⟨rfl, cache_close I hI hM rfl rfl rfl h ⟨rfl, rfl, rfl, rfl, rfl, rfl, rfl⟩⟩
 ·
  refine wc_skip ?_
  refine qn_then ?_
  refine wc_seq ?_
  refine wc_region ?_
  refine wl_v rfl rfl (ov_loadbN 0 [.string ((k).f0), .slice (A) (((k).f1).length) (cc), .int .i64 ((k).f2), .int .i64 ((k).f3), .int .i64 (((k).f4).f0), .int .i64 (((k).f4).f1), .int .i64 (((k).f4).f2), .int .i64 (((k).f4).f3), .int .i64 (((k).f4).f4), .int .i64 (((k).f4).f5), .int .i64 (((k).f4).f6)] h rfl rfl sh33 rfl) ?_
  refine wl_call _ rfl rfl rfl ent19 (CK.Hash_calls (R := [Sx.blk b1 [.string ((k).f0), .slice (A) (((k).f1).length) (cc), .int .i64 ((k).f2), .int .i64 ((k).f3), .int .i64 (((k).f4).f0), .int .i64 (((k).f4).f1), .int .i64 (((k).f4).f2), .int .i64 (((k).f4).f3), .int .i64 (((k).f4).f4), .int .i64 (((k).f4).f5), .int .i64 (((k).f4).f6)] 33, Sx.blk c [.int .i64 (room), .map (some I.gm), .pointer (Sx.pa ((adL I.L).head?)), .pointer (Sx.pa ((adL I.L).getLast?)), .int .i64 (((M.length : Nat) : Int)), .int .i64 (hits), .int .i64 (misses)] 73, Sx.mapo KU EH (I.gm) (I.BM), Sx.ents (enK 76 Value.string) (I.δ) (I.lt) (I.er), Sx.brows 71 (I.B), rlib (I.HL)] ++ R) (k) (A) (cc) (by assumption) (by omega) (Sx.en_shift (cs2 := [Sx.blk b1 [.string ((k).f0), .slice (A) (((k).f1).length) (cc), .int .i64 ((k).f2), .int .i64 ((k).f3), .int .i64 (((k).f4).f0), .int .i64 (((k).f4).f1), .int .i64 (((k).f4).f2), .int .i64 (((k).f4).f3), .int .i64 (((k).f4).f4), .int .i64 (((k).f4).f5), .int .i64 (((k).f4).f6)] 33, Sx.blk c [.int .i64 (room), .map (some I.gm), .pointer (Sx.pa ((adL I.L).head?)), .pointer (Sx.pa ((adL I.L).getLast?)), .int .i64 (((M.length : Nat) : Int)), .int .i64 (hits), .int .i64 (misses)] 73, Sx.mapo KU EH (I.gm) (I.BM), Sx.ents (enK 76 Value.string) (I.δ) (I.lt) (I.er), Sx.brows 71 (I.B), rlib (I.HL)]) hr) h) ?_
  rintro e_ w_ ⟨rfl, h⟩
  refine ⟨_, rfl, ?_⟩
  refine wl_v rfl rfl (ov_assign _ rfl) ?_
  refine wl_nil ?_
  refine qn_then ?_
  refine wc_seq ?_
  refine wc_seq ?_
  refine wc_region ?_
  refine wl_v rfl rfl (ov_move _ rfl) ?_
  refine wl_v rfl rfl (ov_loadbN 0 [.string ((k).f0), .slice (A) (((k).f1).length) (cc), .int .i64 ((k).f2), .int .i64 ((k).f3), .int .i64 (((k).f4).f0), .int .i64 (((k).f4).f1), .int .i64 (((k).f4).f2), .int .i64 (((k).f4).f3), .int .i64 (((k).f4).f4), .int .i64 (((k).f4).f5), .int .i64 (((k).f4).f6)] h rfl rfl sh33 rfl) ?_
  refine wl_v rfl rfl (ov_move _ rfl) ?_
  refine wl_call _ rfl rfl rfl ent29 (RS.find_calls (R := [Sx.blk b1 [.string ((k).f0), .slice (A) (((k).f1).length) (cc), .int .i64 ((k).f2), .int .i64 ((k).f3), .int .i64 (((k).f4).f0), .int .i64 (((k).f4).f1), .int .i64 (((k).f4).f2), .int .i64 (((k).f4).f3), .int .i64 (((k).f4).f4), .int .i64 (((k).f4).f5), .int .i64 (((k).f4).f6)] 33, Sx.blk c [.int .i64 (room), .map (some I.gm), .pointer (Sx.pa ((adL I.L).head?)), .pointer (Sx.pa ((adL I.L).getLast?)), .int .i64 (((M.length : Nat) : Int)), .int .i64 (hits), .int .i64 (misses)] 73, Sx.mapo KU EH (I.gm) (I.BM), Sx.ents (enK 76 Value.string) (I.δ) (I.lt) (I.er), Sx.brows 71 (I.B), rlib (I.HL)] ++ R) c room (((M.length : Nat) : Int)) hits misses (((adL I.L).head?)) (((adL I.L).getLast?)) I (k) (A) (cc) (Sx.en_shift (cs2 := [Sx.blk b1 [.string ((k).f0), .slice (A) (((k).f1).length) (cc), .int .i64 ((k).f2), .int .i64 ((k).f3), .int .i64 (((k).f4).f0), .int .i64 (((k).f4).f1), .int .i64 (((k).f4).f2), .int .i64 (((k).f4).f3), .int .i64 (((k).f4).f4), .int .i64 (((k).f4).f5), .int .i64 (((k).f4).f6)] 33]) (cache_at (TC := 73))) hI hlen_ (by assumption) (Sx.en_shift (cs2 := [Sx.blk b1 [.string ((k).f0), .slice (A) (((k).f1).length) (cc), .int .i64 ((k).f2), .int .i64 ((k).f3), .int .i64 (((k).f4).f0), .int .i64 (((k).f4).f1), .int .i64 (((k).f4).f2), .int .i64 (((k).f4).f3), .int .i64 (((k).f4).f4), .int .i64 (((k).f4).f5), .int .i64 (((k).f4).f6)] 33, Sx.blk c [.int .i64 (room), .map (some I.gm), .pointer (Sx.pa ((adL I.L).head?)), .pointer (Sx.pa ((adL I.L).getLast?)), .int .i64 (((M.length : Nat) : Int)), .int .i64 (hits), .int .i64 (misses)] 73, Sx.mapo KU EH (I.gm) (I.BM), Sx.ents (enK 76 Value.string) (I.δ) (I.lt) (I.er), Sx.brows 71 (I.B), rlib (I.HL)]) hr) h) ?_
  rintro e_ w_ ⟨o3, rfl, hno3, hso3, h⟩
  refine ⟨_, rfl, ?_⟩
  refine wl_v rfl rfl (ov_assign _ rfl) ?_
  refine wl_nil ?_
  refine qn_then ?_
  refine wc_seq ?_
  refine wc_region ?_
  refine wl_v rfl rfl (ov_move _ rfl) ?_
  refine wl_v rfl rfl (ov_bin _ rfl rfl (binR_nenil Try.underlying71)) ?_
  refine wl_nil ?_
  refine qn_then ?_
  refine wc_cond (by rfl) (fun c4 => ?_) (fun c4 => ?_)
  ·
   obtain ⟨g5, rfl⟩ := Sx.pa_some c4
   obtain ⟨d, hd, hal⟩ := hso3 g5 rfl
   obtain ⟨L1, L2, hL⟩ := List.append_of_mem hd
   have hMe_ : M = ML L1 ++ (d.key, d.val) :: ML L2 := by rw [← hM, hL, ML_mid]
   have hu_ := hI.ul
   rw [hM, hMe_] at hu_
   refine wc_seq ?_
   refine wc_region ?_
   refine wl_v rfl rfl (ov_move _ rfl) ?_
   refine wl_v rfl rfl (ov_move _ rfl) ?_
   refine wl_v rfl rfl (ov_nilCheck _ rfl) ?_
   refine wl_v rfl rfl (ov_fieldAddr _ ⟨g5, 12, none⟩ _ rfl fo76_2 rfl) ?_
   refine wl_storeE (δ' := (Sx.up (I.δ) g5 (some ({ d with val := v } : Dat ByteArray)))) (lt' := I.lt) (er' := I.er) 3 g5 12 (.string (v)) (d) (({ d with val := v } : Dat ByteArray)) h rfl (hI.dat _ hd) rfl rfl rfl rfl rfl sh9 (Nat.le_of_ble_eq_true rfl) (Sx.up_self _ _ _) (by first | rfl | (simp only [Sx.up_self]; rfl)) (fun x_ hx_ => ⟨(Sx.up_ne hx_), rfl, rfl⟩) (fun _ h => ?_)
   replace h : Sx.St w0 F0 ([Sx.blk b1 [.string ((k).f0), .slice (A) (((k).f1).length) (cc), .int .i64 ((k).f2), .int .i64 ((k).f3), .int .i64 (((k).f4).f0), .int .i64 (((k).f4).f1), .int .i64 (((k).f4).f2), .int .i64 (((k).f4).f3), .int .i64 (((k).f4).f4), .int .i64 (((k).f4).f5), .int .i64 (((k).f4).f6)] 33, Sx.blk c [.int .i64 (room), .map (some I.gm), .pointer (Sx.pa ((adL I.L).head?)), .pointer (Sx.pa ((adL I.L).getLast?)), .int .i64 (((M.length : Nat) : Int)), .int .i64 (hits), .int .i64 (misses)] 73, Sx.mapo KU EH (I.gm) (I.BM), Sx.ents (enK 76 Value.string) ((Sx.up (I.δ) g5 (some ({ d with val := v } : Dat ByteArray)))) (I.lt) (I.er), Sx.brows 71 (I.B), rlib (I.HL)] ++ R) _ := h
   refine wl_nil ?_
   refine qn_then ?_
   refine wc_seq ?_
   refine wc_region ?_
   refine wl_v rfl rfl (ov_move _ rfl) ?_
   refine wl_v rfl rfl (ov_move _ rfl) ?_
   replace h := st_front 3 h
   replace h := st_front 2 h
   refine wl_call _ rfl rfl rfl ent30 (RS.out_calls (R := [Sx.blk b1 [.string ((k).f0), .slice (A) (((k).f1).length) (cc), .int .i64 ((k).f2), .int .i64 ((k).f3), .int .i64 (((k).f4).f0), .int .i64 (((k).f4).f1), .int .i64 (((k).f4).f2), .int .i64 (((k).f4).f3), .int .i64 (((k).f4).f4), .int .i64 (((k).f4).f5), .int .i64 (((k).f4).f6)] 33, Sx.mapo KU EH (I.gm) (I.BM), Sx.brows 71 (I.B), rlib (I.HL)] ++ R) c g5 I.gm room (((M.length : Nat) : Int)) hits misses (((adL I.L).head?)) (((adL I.L).getLast?)) _ _ ((Sx.up (I.δ) g5 (some ({ d with val := v } : Dat ByteArray)))) (I.lt) (I.er) _ (Sx.up_self _ _ _) rfl rfl (fun x_ e_ => link_lt (inv_val hI hL v) rfl e_) (fun x_ e_ => link_er (inv_val hI hL v) rfl e_) h) ?_
   rintro e_ w_ ⟨rfl, h⟩
   refine ⟨_, rfl, ?_⟩
   replace h : Sx.St w0 F0 ([Sx.blk c [.int .i64 (room), .map (some I.gm), .pointer (Sx.pa (outF (((adL I.L).head?)) ((I.lt) g5) ((I.er) g5))), .pointer (Sx.pa (outL (((adL I.L).getLast?)) ((I.lt) g5) ((I.er) g5))), .int .i64 (((M.length : Nat) : Int)), .int .i64 (hits), .int .i64 (misses)] 73, Sx.ents (enK 76 Value.string) ((Sx.up (I.δ) g5 (some ({ d with val := v } : Dat ByteArray)))) (outLt (I.lt) g5 ((I.lt) g5) ((I.er) g5)) (outEr (I.er) g5 ((I.lt) g5) ((I.er) g5)), Sx.blk b1 [.string ((k).f0), .slice (A) (((k).f1).length) (cc), .int .i64 ((k).f2), .int .i64 ((k).f3), .int .i64 (((k).f4).f0), .int .i64 (((k).f4).f1), .int .i64 (((k).f4).f2), .int .i64 (((k).f4).f3), .int .i64 (((k).f4).f4), .int .i64 (((k).f4).f5), .int .i64 (((k).f4).f6)] 33, Sx.mapo KU EH (I.gm) (I.BM), Sx.brows 71 (I.B), rlib (I.HL)] ++ R) _ := h
   refine wl_nil ?_
   refine qn_then ?_
   refine wc_seq ?_
   refine wc_region ?_
   refine wl_v rfl rfl (ov_move _ rfl) ?_
   refine wl_v rfl rfl (ov_move _ rfl) ?_
   replace h := st_front 1 h
   replace h := st_front 1 h
   refine wl_call _ rfl rfl rfl ent31 (RS.front_calls (R := [Sx.blk b1 [.string ((k).f0), .slice (A) (((k).f1).length) (cc), .int .i64 ((k).f2), .int .i64 ((k).f3), .int .i64 (((k).f4).f0), .int .i64 (((k).f4).f1), .int .i64 (((k).f4).f2), .int .i64 (((k).f4).f3), .int .i64 (((k).f4).f4), .int .i64 (((k).f4).f5), .int .i64 (((k).f4).f6)] 33, Sx.mapo KU EH (I.gm) (I.BM), Sx.brows 71 (I.B), rlib (I.HL)] ++ R) c g5 I.gm room (((M.length : Nat) : Int)) hits misses ((outF (((adL I.L).head?)) ((I.lt) g5) ((I.er) g5))) ((outL (((adL I.L).getLast?)) ((I.lt) g5) ((I.er) g5)))  ((Sx.up (I.δ) g5 (some ({ d with val := v } : Dat ByteArray)))) (outLt (I.lt) g5 ((I.lt) g5) ((I.er) g5)) (outEr (I.er) g5 ((I.lt) g5) ((I.er) g5)) _ (Sx.up_self _ _ _) (by have z_ := link_first (inv_val hI hL v) rfl; rw [show adL (L1 ++ (g5, ({ d with val := v } : Dat ByteArray)) :: L2) = adL I.L by rw [hL]; simp [adL]] at z_; exact z_) h) ?_
   rintro e_ w_ ⟨rfl, h⟩
   refine ⟨_, rfl, ?_⟩
   replace h : Sx.St w0 F0 ([Sx.blk c [.int .i64 (room), .map (some I.gm), .pointer (some ⟨g5, 0, none⟩), .pointer (Sx.pa (frL ((outL (((adL I.L).getLast?)) ((I.lt) g5) ((I.er) g5))) g5)), .int .i64 (((M.length : Nat) : Int)), .int .i64 (hits), .int .i64 (misses)] 73, Sx.ents (enK 76 Value.string) ((Sx.up (I.δ) g5 (some ({ d with val := v } : Dat ByteArray)))) (frLt (outLt (I.lt) g5 ((I.lt) g5) ((I.er) g5)) g5 ((outF (((adL I.L).head?)) ((I.lt) g5) ((I.er) g5)))) (frEr (outEr (I.er) g5 ((I.lt) g5) ((I.er) g5)) g5 ((outF (((adL I.L).head?)) ((I.lt) g5) ((I.er) g5)))), Sx.blk b1 [.string ((k).f0), .slice (A) (((k).f1).length) (cc), .int .i64 ((k).f2), .int .i64 ((k).f3), .int .i64 (((k).f4).f0), .int .i64 (((k).f4).f1), .int .i64 (((k).f4).f2), .int .i64 (((k).f4).f3), .int .i64 (((k).f4).f4), .int .i64 (((k).f4).f5), .int .i64 (((k).f4).f6)] 33, Sx.mapo KU EH (I.gm) (I.BM), Sx.brows 71 (I.B), rlib (I.HL)] ++ R) _ := h
   refine wl_nil ?_
   refine qn_then ?_
   refine wc_ret ?_
   refine qn_then_ret ?_
   replace h := st_front 5 h
   replace h := st_front 5 h
   replace h := st_front 3 h
   replace h := st_front 5 h
   replace h := st_front 4 h
   replace h := st_selT [true, true, true, true, true, false] h
   refine qn_ret [] trivial ?_
   have hg_ : putM room M k v = (d.key, v) :: (ML L1 ++ ML L2) := by rw [hMe_]; exact putM_at (by omega) hu_ hal
   rw [hg_]
   have hL1_ : adL I.L = adL (L1 ++ (g5, ({ d with val := v } : Dat ByteArray)) :: L2) := by rw [hL]; simp [adL]
   rw [hL1_] at h
   exact ⟨rfl, cache_close _ (inv_move (inv_val hI hL v) rfl _ (inv_out_first (inv_val hI hL v) rfl)) (by simp [ML]) rfl (by have z_ := inv_out_last (inv_val hI hL v) rfl; exact (congrArg (fun q_ => frL q_ _) z_).trans (front_last _ _)) (by rw [hMe_]; simp; omega) h ⟨rfl, rfl, rfl, rfl, rfl, rfl, rfl⟩⟩
  ·
   obtain rfl := Sx.pa_none (Classical.not_not.1 c4)
   refine wc_skip ?_
   refine qn_then ?_
   refine wc_seq ?_
   refine wc_seq ?_
   refine wc_draw (fun w => Sx.St w0 F0 ([Sx.blk b1 [.string ((k).f0), .slice (A) (((k).f1).length) (cc), .int .i64 ((k).f2), .int .i64 ((k).f3), .int .i64 (((k).f4).f0), .int .i64 (((k).f4).f1), .int .i64 (((k).f4).f2), .int .i64 (((k).f4).f3), .int .i64 (((k).f4).f4), .int .i64 (((k).f4).f5), .int .i64 (((k).f4).f6)] 33, Sx.blk c [.int .i64 (room), .map (some I.gm), .pointer (Sx.pa ((adL I.L).head?)), .pointer (Sx.pa ((adL I.L).getLast?)), .int .i64 (((M.length : Nat) : Int)), .int .i64 (hits), .int .i64 (misses)] 73, Sx.mapo KU EH (I.gm) (I.BM), Sx.ents (enK 76 Value.string) (I.δ) (I.lt) (I.er), Sx.brows 71 (I.B), rlib (I.HL)] ++ R) w) (by kernel_rfl) ?_
   replace h := st_drew h
   refine wa_tk 0 rfl rfl rfl (st_selT [true, true, true, true, true, true] h) (fun w_ hS => ov_move _ rfl) ?_
   refine wa_tk 1 rfl rfl rfl (st_selT [true, true, true, true, true, true] h) (fun w_ hS => ov_nilCheck _ rfl) ?_
   refine wa_tk 2 rfl rfl rfl (st_selT [true, true, true, true, true, true] h) (fun w_ hS => ov_fieldAddr _ ⟨c, 4, none⟩ _ rfl fo73_4 rfl) ?_
   refine wa_tk 3 rfl rfl rfl (st_selT [true, true, true, true, true, true] h) (fun w_ hS => ov_loadb 1 _ hS rfl rfl sh3 rfl) ?_
   refine wa_tk 4 rfl rfl rfl (st_selT [true, true, true, true, true, true] h) (fun w_ hS => ov_move _ rfl) ?_
   refine wa_tk 5 rfl rfl rfl (st_selT [true, true, true, true, true, true] h) (fun w_ hS => ov_nilCheck _ rfl) ?_
   refine wa_tk 6 rfl rfl rfl (st_selT [true, true, true, true, true, true] h) (fun w_ hS => ov_fieldAddr _ ⟨c, 0, none⟩ _ rfl fo73_0 rfl) ?_
   refine wa_tk 7 rfl rfl rfl (st_selT [true, true, true, true, true, true] h) (fun w_ hS => ov_loadb 1 _ hS rfl rfl sh3 rfl) ?_
   refine wa_tk 8 rfl rfl rfl (st_selT [true, true, true, true, true, true] h) (fun w_ hS => ov_bin _ rfl rfl (binR_eql)) ?_
   refine wa_done (by kernel_rfl) ?_
   refine qn_then ?_
   refine wc_cond (by rfl) (fun c6 => ?_) (fun c6 => ?_)
   ·
    obtain hz_ | ⟨L1, ⟨gl, dl⟩, hL⟩ := List.eq_nil_or_concat I.L
    · exfalso; rw [hz_] at hlM_; simp only [List.length_nil] at hlM_; omega
    rw [List.concat_eq_append] at hL
    have hlast_ : (adL I.L).getLast? = some gl := by rw [hL]; simp
    rw [hlast_] at h
    refine wc_region ?_
    refine wl_v rfl rfl (ov_move _ rfl) ?_
    refine wl_v rfl rfl (ov_move _ rfl) ?_
    refine wl_v rfl rfl (ov_nilCheck _ rfl) ?_
    refine wl_v rfl rfl (ov_fieldAddr _ ⟨c, 3, none⟩ _ rfl fo73_3 rfl) ?_
    refine wl_v rfl rfl (ov_loadb 1 _ h rfl rfl sh71 rfl) ?_
    replace h := st_front 5 h
    replace h := st_front 5 h
    replace h := st_front 5 h
    replace h := st_front 5 h
    replace h := st_front 5 h
    rw [← hlast_] at h
    refine wl_call _ rfl rfl rfl ent32 (CCS.drop_calls (R := [Sx.blk b1 [.string ((k).f0), .slice (A) (((k).f1).length) (cc), .int .i64 ((k).f2), .int .i64 ((k).f3), .int .i64 (((k).f4).f0), .int .i64 (((k).f4).f1), .int .i64 (((k).f4).f2), .int .i64 (((k).f4).f3), .int .i64 (((k).f4).f4), .int .i64 (((k).f4).f5), .int .i64 (((k).f4).f6)] 33] ++ R) c gl room (((M.length : Nat) : Int)) hits misses I dl L1 [] hI hL (by omega) (by omega) h) ?_
    rintro e_ w_ ⟨I2, rfl, hI2, hL2, h⟩
    refine ⟨_, rfl, ?_⟩
    rw [List.append_nil] at hL2
    have hMd_ : ML I2.L = M.dropLast := by rw [← hM, hL, hL2]; simp [ML]
    have hcM_ : ML I2.L = (if ((M.length : Nat) : Int) = room then M.dropLast else M) := by rw [if_pos (by omega)]; exact hMd_
    have hcN_ : ∀ p ∈ ML I2.L, alikeB p.1 k = false := fun p hp => find_ML (hno3 rfl) p (by rw [hM]; rw [hMd_] at hp; exact List.dropLast_subset _ hp)
    have hcL_ : I2.L.length = M.length - 1 := by have := congrArg List.length hMd_; simpa [ML] using this
    refine wl_nil ?_
    refine qn_then ?_
    refine wc_seq ?_
    refine wc_region ?_
    refine wl_lit (d := k50) [] _ [] ([]) h rfl rfl rfl rfl Try.underlying29 infb50 rfl (by decide) (by kernel_rfl) rfl (fun _ _ _ => (Reps.none _ _)) (fun A7 cp8 _ h => ?_)
    refine wl_v rfl rfl (ov_fieldAddr _ ⟨b1, 1, none⟩ _ rfl fo33_1 rfl) ?_
    refine wl_v rfl rfl (ov_loadb 6 _ h rfl rfl sh29 rfl) ?_
    refine wl_append (d := k50) (L := []) 0 _ 16 _ _ _ ((k).f1) flat50 h rfl rfl rfl rfl rfl ((hr [_, _, _, _, _, _, _] _ h)) Try.underlying29 inf50 rfl (by decide) (by decide) (by have hsl_ := small_len hs; first | omega | (simp only [List.length_nil, List.length_cons, List.length_append]; omega) | simp) (by first | rfl | simp) (fun A9 cp10 _ h => ?_)
    refine wl_v rfl rfl (ov_fieldAddr _ ⟨b1, 1, none⟩ _ rfl fo33_1 rfl) ?_
    refine wl_storeb 6 _ [.string ((k).f0), .slice (A9) ((([]) ++ ((k).f1)).length) (cp10), .int .i64 ((k).f2), .int .i64 ((k).f3), .int .i64 (((k).f4).f0), .int .i64 (((k).f4).f1), .int .i64 (((k).f4).f2), .int .i64 (((k).f4).f3), .int .i64 (((k).f4).f4), .int .i64 (((k).f4).f5), .int .i64 (((k).f4).f6)] h rfl rfl rfl rfl rfl rfl sh29 rfl rfl (fun _ h => ?_)
    refine wl_nil ?_
    refine qn_then ?_
    refine wc_seq ?_
    refine wc_region ?_
    refine wl_v rfl rfl (ov_loadbN 6 [.string ((k).f0), .slice (A9) ((([]) ++ ((k).f1)).length) (cp10), .int .i64 ((k).f2), .int .i64 ((k).f3), .int .i64 (((k).f4).f0), .int .i64 (((k).f4).f1), .int .i64 (((k).f4).f2), .int .i64 (((k).f4).f3), .int .i64 (((k).f4).f4), .int .i64 (((k).f4).f5), .int .i64 (((k).f4).f6)] h rfl rfl sh33 rfl) ?_
    refine wl_v rfl rfl (ov_move _ rfl) ?_
    refine wl_v rfl rfl (ov_move _ rfl) ?_
    refine wl_v rfl rfl (ov_build [(0, .agg #[.string ((k).f0), .slice (A9) ((([]) ++ ((k).f1)).length) (cp10), .int .i64 ((k).f2), .int .i64 ((k).f3), .int .i64 (((k).f4).f0), .int .i64 (((k).f4).f1), .int .i64 (((k).f4).f2), .int .i64 (((k).f4).f3), .int .i64 (((k).f4).f4), .int .i64 (((k).f4).f5), .int .i64 (((k).f4).f6)]), (1, .int .u64 ((hashK (k)))), (2, .string (v))] [.string ((k).f0), .slice (A9) ((([]) ++ ((k).f1)).length) (cp10), .int .i64 ((k).f2), .int .i64 ((k).f3), .int .i64 (((k).f4).f0), .int .i64 (((k).f4).f1), .int .i64 (((k).f4).f2), .int .i64 (((k).f4).f3), .int .i64 (((k).f4).f4), .int .i64 (((k).f4).f5), .int .i64 (((k).f4).f6), .int .u64 ((hashK (k))), .string (v), .pointer none, .pointer none] rfl rfl (by kernel_rfl)) ?_
    refine wl_box _ h rfl rfl rfl (fun b11 _ h => ?_)
    replace h : Sx.St _ _ (Sx.blk b11 [.string ((k).f0), .slice (A9) ((([]) ++ ((k).f1)).length) (cp10), .int .i64 ((k).f2), .int .i64 ((k).f3), .int .i64 (((k).f4).f0), .int .i64 (((k).f4).f1), .int .i64 (((k).f4).f2), .int .i64 (((k).f4).f3), .int .i64 (((k).f4).f4), .int .i64 (((k).f4).f5), .int .i64 (((k).f4).f6), .int .u64 ((hashK (k))), .string (v), .pointer none, .pointer none] 76 :: _) _ := h
    refine wl_v rfl rfl (ov_assign _ rfl) ?_
    refine wl_nil ?_
    refine qn_then ?_
    refine wc_seq ?_
    have e_ : ([]) ++ ((k).f1) = (k).f1 := by rfl
    replace h := st_cast (congrArg (fun z_ => ([Sx.blk b11 [.string ((k).f0), .slice (A9) ((([]) ++ ((k).f1)).length) (cp10), .int .i64 ((k).f2), .int .i64 ((k).f3), .int .i64 (((k).f4).f0), .int .i64 (((k).f4).f1), .int .i64 (((k).f4).f2), .int .i64 (((k).f4).f3), .int .i64 (((k).f4).f4), .int .i64 (((k).f4).f5), .int .i64 (((k).f4).f6), .int .u64 ((hashK (k))), .string (v), .pointer none, .pointer none] 76, Sx.row k50 50 (A9) (cp10) (z_), Sx.blk c [.int .i64 (room), .map (some I2.gm), .pointer (Sx.pa ((adL I2.L).head?)), .pointer (Sx.pa ((adL I2.L).getLast?)), .int .i64 (((M.length : Nat) : Int) - 1), .int .i64 (hits), .int .i64 (misses)] 73, Sx.mapo KU EH (I2.gm) (I2.BM), Sx.ents (enK 76 Value.string) (I2.δ) (I2.lt) (I2.er), Sx.brows 71 (I2.B), rlib (I2.HL), Sx.blk b1 [.string ((k).f0), .slice (A9) ((([]) ++ ((k).f1)).length) (cp10), .int .i64 ((k).f2), .int .i64 ((k).f3), .int .i64 (((k).f4).f0), .int .i64 (((k).f4).f1), .int .i64 (((k).f4).f2), .int .i64 (((k).f4).f3), .int .i64 (((k).f4).f4), .int .i64 (((k).f4).f5), .int .i64 (((k).f4).f6)] 33] ++ R)) e_) h
    clear e_
    replace h := st_front 6 h
    replace h := st_front 2 h
    replace h := rlib_add h
    obtain ⟨bl, _, hbp, _, (⟨hbl, hb0⟩ | ⟨⟨bh, bA, bc, bL⟩, hbB, hbh, hbe, hbl⟩)⟩ := bucket_of hI2.bk (hashK k)
    ·
     have hbr_ : bl.length = 0 := by rw [hb0]; rfl
     subst hb0
     refine wc_draw (fun w => Sx.St w0 F0 ([rlib ((⟨A9, (k).f1.length, cp10⟩, (k).f1) :: I2.HL), Sx.blk b11 [.string ((k).f0), .slice (A9) ((([]) ++ ((k).f1)).length) (cp10), .int .i64 ((k).f2), .int .i64 ((k).f3), .int .i64 (((k).f4).f0), .int .i64 (((k).f4).f1), .int .i64 (((k).f4).f2), .int .i64 (((k).f4).f3), .int .i64 (((k).f4).f4), .int .i64 (((k).f4).f5), .int .i64 (((k).f4).f6), .int .u64 ((hashK (k))), .string (v), .pointer none, .pointer none] 76, Sx.blk c [.int .i64 (room), .map (some I2.gm), .pointer (Sx.pa ((adL I2.L).head?)), .pointer (Sx.pa ((adL I2.L).getLast?)), .int .i64 (((M.length : Nat) : Int) - 1), .int .i64 (hits), .int .i64 (misses)] 73, Sx.ents (enK 76 Value.string) (I2.δ) (I2.lt) (I2.er), Sx.brows 71 (I2.B), Sx.blk b1 [.string ((k).f0), .slice (A9) ((([]) ++ ((k).f1)).length) (cp10), .int .i64 ((k).f2), .int .i64 ((k).f3), .int .i64 (((k).f4).f0), .int .i64 (((k).f4).f1), .int .i64 (((k).f4).f2), .int .i64 (((k).f4).f3), .int .i64 (((k).f4).f4), .int .i64 (((k).f4).f5), .int .i64 (((k).f4).f6)] 33] ++ R) w) (by kernel_rfl) ?_
     replace h := st_drew h
     refine wa_tk 0 rfl rfl rfl (st_selT [true, true, true, false, true, true, true] h) (fun w_ hS => ov_move _ rfl) ?_
     refine wa_tk 1 rfl rfl rfl (st_selT [true, true, true, false, true, true, true] h) (fun w_ hS => ov_nilCheck _ rfl) ?_
     refine wa_tk 2 rfl rfl rfl (st_selT [true, true, true, false, true, true, true] h) (fun w_ hS => ov_fieldAddr _ ⟨c, 1, none⟩ _ rfl fo73_1 rfl) ?_
     refine wa_tk 3 rfl rfl rfl (st_selT [true, true, true, false, true, true, true] h) (fun w_ hS => ov_loadb 2 _ hS rfl rfl sh70 rfl) ?_
     refine wa_tk 4 rfl rfl rfl (st_selT [true, true, true, false, true, true, true] h) (fun w_ hS => ov_move _ rfl) ?_
     refine wa_tk 5 rfl rfl rfl (st_selT [true, true, true, false, true, true, true] h) (fun w_ hS => ov_move _ rfl) ?_
     refine wa_tk 6 rfl rfl rfl (st_selT [true, true, true, false, true, true, true] h) (fun w_ hS => ov_nilCheck _ rfl) ?_
     refine wa_tk 7 rfl rfl rfl (st_selT [true, true, true, false, true, true, true] h) (fun w_ hS => ov_fieldAddr _ ⟨c, 1, none⟩ _ rfl fo73_1 rfl) ?_
     refine wa_tk 8 rfl rfl rfl (st_selT [true, true, true, false, true, true, true] h) (fun w_ hS => ov_loadb 2 _ hS rfl rfl sh70 rfl) ?_
     refine wa_tk 9 rfl rfl rfl (st_selT [true, true, true, false, true, true, true] h) (fun w_ hS => ov_move _ rfl) ?_
     refine wa_tk 11 rfl rfl rfl (st_selT [true, true, true, false, true, true, true] h) (fun w_ hS => ov_move _ rfl) ?_
     refine wa_two 10 12 rfl rfl (by kernel_rfl) ?_ ?_
     ·
      refine wl_v rfl rfl ((ov_lookup1 (KU) (EH) (.slice (none) (0) (0)) I2.gm ((hashK (k))) (I2.BM) rfl rfl Try.underlying70 Try.underlying42 zo78 (Sx.mapo_now h (i := 3) rfl)).toV ((Sx.lkH _ _).trans (by rw [hbl]))) ?_
      refine wl_nil ?_
      refine qn_wa (st_selT [true, true, true, false, true, true, true] h) ?_
      refine wa_one 12 rfl (by kernel_rfl) ?_
      refine wl_lit (d := Sx.kPtr) [(0, .pointer (some ⟨b11, 0, none⟩))] _ [.pointer (some ⟨b11, 0, none⟩)] ([b11]) h rfl rfl rfl rfl Try.underlying78 infb71 rfl (by decide) (by kernel_rfl) rfl (fun _ _ _ => ((Reps.none _ _).snoc (Sx.kPtr_mkM _ _ _ (b11)) rfl)) (fun A12 cp13 _ h => ?_)
      refine wl_nil ?_
      refine qn_wa (st_selT [false, true, true, true, false, true, true, true] h) ?_
      refine wa_one 13 rfl (by kernel_rfl) ?_
      replace h := st_nilrow Sx.kPtr 71 h
      refine wl_append (d := Sx.kPtr) (L := []) 0 _ 8 _ _ _ ([b11]) Sx.flat_ptr h rfl rfl rfl rfl rfl ((Sx.row_reads h (i := 1) rfl).2) Try.underlying78 inf71 rfl (by decide) (by decide) (by have hsl_ := small_len hs; first | omega | (simp only [List.length_nil, List.length_cons, List.length_append]; omega) | simp) (by first | rfl | simp) (fun A14 cp15 _ h => ?_)
      replace h := st_selT [true, false, true, true, true, true, true, true, true] h
      refine wl_nil ?_
      refine qn_wa (st_selT [false, true, true, true, false, true, true, true] h) ?_
      refine wa_one 14 rfl (by kernel_rfl) ?_
      refine wl_mapupdate1 4 (KU) (EH) I2.gm (I2.BM) ((hashK (k))) ((⟨A14, (([]) ++ ([b11])).length, cp15⟩ : Sx.Hdr)) h rfl rfl (by exact congrArg (fun z_ => some (Value.map z_)) rfl) rfl rfl Try.underlying70 Try.underlying42 (fun _ h => ?_)
      refine wl_nil ?_
      refine qn_wa (st_selT [false, true, true, true, false, true, true, true] h) ?_
      refine wa_done (by kernel_rfl) ?_
      refine qn_then ?_
      refine wc_seq ?_
      refine wc_region ?_
      refine wl_v rfl rfl (ov_move _ rfl) ?_
      refine wl_v rfl rfl (ov_move _ rfl) ?_
      replace h := st_front 5 h
      replace h := st_front 3 h
      replace h : Sx.St w0 F0 ([Sx.blk b11 [.string ((k).f0), .slice (A9) ((([]) ++ ((k).f1)).length) (cp10), .int .i64 ((k).f2), .int .i64 ((k).f3), .int .i64 (((k).f4).f0), .int .i64 (((k).f4).f1), .int .i64 (((k).f4).f2), .int .i64 (((k).f4).f3), .int .i64 (((k).f4).f4), .int .i64 (((k).f4).f5), .int .i64 (((k).f4).f6), .int .u64 ((hashK (k))), .string (v), .pointer none, .pointer none] 76, Sx.ents (enK 76 Value.string) (I2.δ) (I2.lt) (I2.er), Sx.row Sx.kPtr 71 (A14) (cp15) (([]) ++ ([b11])), rlib ((⟨A9, (k).f1.length, cp10⟩, (k).f1) :: I2.HL), Sx.blk c [.int .i64 (room), .map (some I2.gm), .pointer (Sx.pa ((adL I2.L).head?)), .pointer (Sx.pa ((adL I2.L).getLast?)), .int .i64 (((M.length : Nat) : Int) - 1), .int .i64 (hits), .int .i64 (misses)] 73, Sx.mapo KU EH (I2.gm) (Sx.upd I2.BM (hashK k) (⟨A14, (([]) ++ ([b11])).length, cp15⟩ : Sx.Hdr)), Sx.brows 71 (I2.B), Sx.blk b1 [.string ((k).f0), .slice (A9) ((([]) ++ ((k).f1)).length) (cp10), .int .i64 ((k).f2), .int .i64 ((k).f3), .int .i64 (((k).f4).f0), .int .i64 (((k).f4).f1), .int .i64 (((k).f4).f2), .int .i64 (((k).f4).f3), .int .i64 (((k).f4).f4), .int .i64 (((k).f4).f5), .int .i64 (((k).f4).f6)] 33] ++ R) _ := h
      obtain ⟨hbn_, h⟩ := Sx.ents_add (K := enK 76 Value.string) (cells := [.string ((k).f0), .slice (A9) ((([]) ++ ((k).f1)).length) (cp10), .int .i64 ((k).f2), .int .i64 ((k).f3), .int .i64 (((k).f4).f0), .int .i64 (((k).f4).f1), .int .i64 (((k).f4).f2), .int .i64 (((k).f4).f3), .int .i64 (((k).f4).f4), .int .i64 (((k).f4).f5), .int .i64 (((k).f4).f6), .int .u64 ((hashK (k))), .string (v), .pointer none, .pointer none]) (⟨k, ⟨A9, (k).f1.length, cp10⟩, hashK k, v⟩ : Dat ByteArray) none none rfl rfl h
      replace h := st_front 3 h
      refine wl_call _ rfl rfl rfl ent31 (RS.front_calls (R := [Sx.row Sx.kPtr 71 (A14) (cp15) (([]) ++ ([b11])), rlib ((⟨A9, (k).f1.length, cp10⟩, (k).f1) :: I2.HL), Sx.mapo KU EH (I2.gm) (Sx.upd I2.BM (hashK k) (⟨A14, (([]) ++ ([b11])).length, cp15⟩ : Sx.Hdr)), Sx.brows 71 (I2.B), Sx.blk b1 [.string ((k).f0), .slice (A9) ((([]) ++ ((k).f1)).length) (cp10), .int .i64 ((k).f2), .int .i64 ((k).f3), .int .i64 (((k).f4).f0), .int .i64 (((k).f4).f1), .int .i64 (((k).f4).f2), .int .i64 (((k).f4).f3), .int .i64 (((k).f4).f4), .int .i64 (((k).f4).f5), .int .i64 (((k).f4).f6)] 33] ++ R) c b11 I2.gm room (((M.length : Nat) : Int) - 1) hits misses (((adL I2.L).head?)) (((adL I2.L).getLast?))  (Sx.up I2.δ b11 (some (⟨k, ⟨A9, (k).f1.length, cp10⟩, hashK k, v⟩ : Dat ByteArray))) (Sx.up I2.lt b11 none) (Sx.up I2.er b11 none) _ (Sx.up_self _ _ _) (link_head hI2 _ _) h) ?_
      rintro e_ w_ ⟨rfl, h⟩
      refine ⟨_, rfl, ?_⟩
      replace h : Sx.St w0 F0 ([Sx.blk c [.int .i64 (room), .map (some I2.gm), .pointer (some ⟨b11, 0, none⟩), .pointer (Sx.pa (frL (((adL I2.L).getLast?)) b11)), .int .i64 (((M.length : Nat) : Int) - 1), .int .i64 (hits), .int .i64 (misses)] 73, Sx.ents (enK 76 Value.string) (Sx.up I2.δ b11 (some (⟨k, ⟨A9, (k).f1.length, cp10⟩, hashK k, v⟩ : Dat ByteArray))) (frLt (Sx.up I2.lt b11 none) b11 (((adL I2.L).head?))) (frEr (Sx.up I2.er b11 none) b11 (((adL I2.L).head?))), Sx.row Sx.kPtr 71 (A14) (cp15) (([]) ++ ([b11])), rlib ((⟨A9, (k).f1.length, cp10⟩, (k).f1) :: I2.HL), Sx.mapo KU EH (I2.gm) (Sx.upd I2.BM (hashK k) (⟨A14, (([]) ++ ([b11])).length, cp15⟩ : Sx.Hdr)), Sx.brows 71 (I2.B), Sx.blk b1 [.string ((k).f0), .slice (A9) ((([]) ++ ((k).f1)).length) (cp10), .int .i64 ((k).f2), .int .i64 ((k).f3), .int .i64 (((k).f4).f0), .int .i64 (((k).f4).f1), .int .i64 (((k).f4).f2), .int .i64 (((k).f4).f3), .int .i64 (((k).f4).f4), .int .i64 (((k).f4).f5), .int .i64 (((k).f4).f6)] 33] ++ R) _ := h
      refine wl_nil ?_
      refine qn_then ?_
      refine wc_region ?_
      refine wl_v rfl rfl (ov_move _ rfl) ?_
      refine wl_v rfl rfl (ov_nilCheck _ rfl) ?_
      refine wl_v rfl rfl (ov_fieldAddr _ ⟨c, 4, none⟩ _ rfl fo73_4 rfl) ?_
      refine wl_v rfl rfl (ov_loadb 0 _ h rfl rfl sh3 rfl) ?_
      refine wl_v rfl rfl (ov_bin _ rfl rfl (binR_add (r := (((M.length : Nat) : Int) - 1) + 1) (Sx.w64 (by omega)))) ?_
      refine wl_v rfl rfl (ov_nilCheck _ rfl) ?_
      refine wl_v rfl rfl (ov_fieldAddr _ ⟨c, 4, none⟩ _ rfl fo73_4 rfl) ?_
      refine wl_storeb 0 _ [.int .i64 (room), .map (some I2.gm), .pointer (some ⟨b11, 0, none⟩), .pointer (Sx.pa (frL (((adL I2.L).getLast?)) b11)), .int .i64 ((((M.length : Nat) : Int) - 1) + 1), .int .i64 (hits), .int .i64 (misses)] h rfl rfl rfl rfl rfl rfl sh3 rfl rfl (fun _ h => ?_)
      refine wl_nil ?_
      replace h := st_front 5 h
      replace h := st_front 3 h
      replace h := Sx.brows_in (hashK k) h
      replace h := st_front 3 h
      replace h := st_front 1 h
      replace h := st_front 3 h
      replace h := st_front 4 h
      replace h := st_front 4 h
      replace h := st_selT [true, true, true, true, true, false] h
      refine qn_end [] trivial ?_
      have hg_ : putM room M k v = (k, v) :: ML I2.L := by rw [hcM_]; exact putM_none (by omega) (by rw [← hM]; exact find_ML (hno3 rfl))
      rw [hg_]
      exact ⟨rfl, cache_close _ (inv_new hI2 hbn_ rfl hs hcN_ _ (fun p_ hp_ => List.mem_cons_of_mem _ hp_) List.mem_cons_self _ _ (ib_new (d := (⟨k, ⟨A9, (k).f1.length, cp10⟩, hashK k, v⟩ : Dat ByteArray)) hI2.bk (fun x_ hx_ => .inr hx_) hbp rfl) _ rfl) rfl rfl (front_last _ _) (by simp; omega) h ⟨rfl, rfl, rfl, rfl, rfl, rfl, rfl⟩⟩
     ·
      refine wl_lit (d := Sx.kPtr) [(0, .pointer (some ⟨b11, 0, none⟩))] _ [.pointer (some ⟨b11, 0, none⟩)] ([b11]) h rfl rfl rfl rfl Try.underlying78 infb71 rfl (by decide) (by kernel_rfl) rfl (fun _ _ _ => ((Reps.none _ _).snoc (Sx.kPtr_mkM _ _ _ (b11)) rfl)) (fun A16 cp17 _ h => ?_)
      refine wl_nil ?_
      refine qn_wa (st_selT [false, true, true, true, false, true, true, true] h) ?_
      refine wa_one 10 rfl (by kernel_rfl) ?_
      refine wl_v rfl rfl ((ov_lookup1 (KU) (EH) (.slice (none) (0) (0)) I2.gm ((hashK (k))) (I2.BM) rfl rfl Try.underlying70 Try.underlying42 zo78 (Sx.mapo_now h (i := 4) rfl)).toV ((Sx.lkH _ _).trans (by rw [hbl]))) ?_
      refine wl_nil ?_
      refine qn_wa (st_selT [false, true, true, true, false, true, true, true] h) ?_
      refine wa_one 13 rfl (by kernel_rfl) ?_
      replace h := st_nilrow Sx.kPtr 71 h
      refine wl_append (d := Sx.kPtr) (L := []) 0 _ 8 _ _ _ ([b11]) Sx.flat_ptr h rfl rfl rfl rfl rfl ((Sx.row_reads h (i := 1) rfl).2) Try.underlying78 inf71 rfl (by decide) (by decide) (by have hsl_ := small_len hs; first | omega | (simp only [List.length_nil, List.length_cons, List.length_append]; omega) | simp) (by first | rfl | simp) (fun A18 cp19 _ h => ?_)
      replace h := st_selT [true, false, true, true, true, true, true, true, true] h
      refine wl_nil ?_
      refine qn_wa (st_selT [false, true, true, true, false, true, true, true] h) ?_
      refine wa_one 14 rfl (by kernel_rfl) ?_
      refine wl_mapupdate1 4 (KU) (EH) I2.gm (I2.BM) ((hashK (k))) ((⟨A18, (([]) ++ ([b11])).length, cp19⟩ : Sx.Hdr)) h rfl rfl (by exact congrArg (fun z_ => some (Value.map z_)) rfl) rfl rfl Try.underlying70 Try.underlying42 (fun _ h => ?_)
      refine wl_nil ?_
      refine qn_wa (st_selT [false, true, true, true, false, true, true, true] h) ?_
      refine wa_done (by kernel_rfl) ?_
      refine qn_then ?_
      refine wc_seq ?_
      refine wc_region ?_
      refine wl_v rfl rfl (ov_move _ rfl) ?_
      refine wl_v rfl rfl (ov_move _ rfl) ?_
      replace h := st_front 5 h
      replace h := st_front 3 h
      replace h : Sx.St w0 F0 ([Sx.blk b11 [.string ((k).f0), .slice (A9) ((([]) ++ ((k).f1)).length) (cp10), .int .i64 ((k).f2), .int .i64 ((k).f3), .int .i64 (((k).f4).f0), .int .i64 (((k).f4).f1), .int .i64 (((k).f4).f2), .int .i64 (((k).f4).f3), .int .i64 (((k).f4).f4), .int .i64 (((k).f4).f5), .int .i64 (((k).f4).f6), .int .u64 ((hashK (k))), .string (v), .pointer none, .pointer none] 76, Sx.ents (enK 76 Value.string) (I2.δ) (I2.lt) (I2.er), Sx.row Sx.kPtr 71 (A18) (cp19) (([]) ++ ([b11])), rlib ((⟨A9, (k).f1.length, cp10⟩, (k).f1) :: I2.HL), Sx.blk c [.int .i64 (room), .map (some I2.gm), .pointer (Sx.pa ((adL I2.L).head?)), .pointer (Sx.pa ((adL I2.L).getLast?)), .int .i64 (((M.length : Nat) : Int) - 1), .int .i64 (hits), .int .i64 (misses)] 73, Sx.mapo KU EH (I2.gm) (Sx.upd I2.BM (hashK k) (⟨A18, (([]) ++ ([b11])).length, cp19⟩ : Sx.Hdr)), Sx.brows 71 (I2.B), Sx.blk b1 [.string ((k).f0), .slice (A9) ((([]) ++ ((k).f1)).length) (cp10), .int .i64 ((k).f2), .int .i64 ((k).f3), .int .i64 (((k).f4).f0), .int .i64 (((k).f4).f1), .int .i64 (((k).f4).f2), .int .i64 (((k).f4).f3), .int .i64 (((k).f4).f4), .int .i64 (((k).f4).f5), .int .i64 (((k).f4).f6)] 33] ++ R) _ := h
      obtain ⟨hbn_, h⟩ := Sx.ents_add (K := enK 76 Value.string) (cells := [.string ((k).f0), .slice (A9) ((([]) ++ ((k).f1)).length) (cp10), .int .i64 ((k).f2), .int .i64 ((k).f3), .int .i64 (((k).f4).f0), .int .i64 (((k).f4).f1), .int .i64 (((k).f4).f2), .int .i64 (((k).f4).f3), .int .i64 (((k).f4).f4), .int .i64 (((k).f4).f5), .int .i64 (((k).f4).f6), .int .u64 ((hashK (k))), .string (v), .pointer none, .pointer none]) (⟨k, ⟨A9, (k).f1.length, cp10⟩, hashK k, v⟩ : Dat ByteArray) none none rfl rfl h
      replace h := st_front 3 h
      refine wl_call _ rfl rfl rfl ent31 (RS.front_calls (R := [Sx.row Sx.kPtr 71 (A18) (cp19) (([]) ++ ([b11])), rlib ((⟨A9, (k).f1.length, cp10⟩, (k).f1) :: I2.HL), Sx.mapo KU EH (I2.gm) (Sx.upd I2.BM (hashK k) (⟨A18, (([]) ++ ([b11])).length, cp19⟩ : Sx.Hdr)), Sx.brows 71 (I2.B), Sx.blk b1 [.string ((k).f0), .slice (A9) ((([]) ++ ((k).f1)).length) (cp10), .int .i64 ((k).f2), .int .i64 ((k).f3), .int .i64 (((k).f4).f0), .int .i64 (((k).f4).f1), .int .i64 (((k).f4).f2), .int .i64 (((k).f4).f3), .int .i64 (((k).f4).f4), .int .i64 (((k).f4).f5), .int .i64 (((k).f4).f6)] 33] ++ R) c b11 I2.gm room (((M.length : Nat) : Int) - 1) hits misses (((adL I2.L).head?)) (((adL I2.L).getLast?))  (Sx.up I2.δ b11 (some (⟨k, ⟨A9, (k).f1.length, cp10⟩, hashK k, v⟩ : Dat ByteArray))) (Sx.up I2.lt b11 none) (Sx.up I2.er b11 none) _ (Sx.up_self _ _ _) (link_head hI2 _ _) h) ?_
      rintro e_ w_ ⟨rfl, h⟩
      refine ⟨_, rfl, ?_⟩
      replace h : Sx.St w0 F0 ([Sx.blk c [.int .i64 (room), .map (some I2.gm), .pointer (some ⟨b11, 0, none⟩), .pointer (Sx.pa (frL (((adL I2.L).getLast?)) b11)), .int .i64 (((M.length : Nat) : Int) - 1), .int .i64 (hits), .int .i64 (misses)] 73, Sx.ents (enK 76 Value.string) (Sx.up I2.δ b11 (some (⟨k, ⟨A9, (k).f1.length, cp10⟩, hashK k, v⟩ : Dat ByteArray))) (frLt (Sx.up I2.lt b11 none) b11 (((adL I2.L).head?))) (frEr (Sx.up I2.er b11 none) b11 (((adL I2.L).head?))), Sx.row Sx.kPtr 71 (A18) (cp19) (([]) ++ ([b11])), rlib ((⟨A9, (k).f1.length, cp10⟩, (k).f1) :: I2.HL), Sx.mapo KU EH (I2.gm) (Sx.upd I2.BM (hashK k) (⟨A18, (([]) ++ ([b11])).length, cp19⟩ : Sx.Hdr)), Sx.brows 71 (I2.B), Sx.blk b1 [.string ((k).f0), .slice (A9) ((([]) ++ ((k).f1)).length) (cp10), .int .i64 ((k).f2), .int .i64 ((k).f3), .int .i64 (((k).f4).f0), .int .i64 (((k).f4).f1), .int .i64 (((k).f4).f2), .int .i64 (((k).f4).f3), .int .i64 (((k).f4).f4), .int .i64 (((k).f4).f5), .int .i64 (((k).f4).f6)] 33] ++ R) _ := h
      refine wl_nil ?_
      refine qn_then ?_
      refine wc_region ?_
      refine wl_v rfl rfl (ov_move _ rfl) ?_
      refine wl_v rfl rfl (ov_nilCheck _ rfl) ?_
      refine wl_v rfl rfl (ov_fieldAddr _ ⟨c, 4, none⟩ _ rfl fo73_4 rfl) ?_
      refine wl_v rfl rfl (ov_loadb 0 _ h rfl rfl sh3 rfl) ?_
      refine wl_v rfl rfl (ov_bin _ rfl rfl (binR_add (r := (((M.length : Nat) : Int) - 1) + 1) (Sx.w64 (by omega)))) ?_
      refine wl_v rfl rfl (ov_nilCheck _ rfl) ?_
      refine wl_v rfl rfl (ov_fieldAddr _ ⟨c, 4, none⟩ _ rfl fo73_4 rfl) ?_
      refine wl_storeb 0 _ [.int .i64 (room), .map (some I2.gm), .pointer (some ⟨b11, 0, none⟩), .pointer (Sx.pa (frL (((adL I2.L).getLast?)) b11)), .int .i64 ((((M.length : Nat) : Int) - 1) + 1), .int .i64 (hits), .int .i64 (misses)] h rfl rfl rfl rfl rfl rfl sh3 rfl rfl (fun _ h => ?_)
      refine wl_nil ?_
      replace h := st_front 5 h
      replace h := st_front 3 h
      replace h := Sx.brows_in (hashK k) h
      replace h := st_front 3 h
      replace h := st_front 1 h
      replace h := st_front 3 h
      replace h := st_front 4 h
      replace h := st_front 4 h
      replace h := st_selT [true, true, true, true, true, false] h
      refine qn_end [] trivial ?_
      have hg_ : putM room M k v = (k, v) :: ML I2.L := by rw [hcM_]; exact putM_none (by omega) (by rw [← hM]; exact find_ML (hno3 rfl))
      rw [hg_]
      exact ⟨rfl, cache_close _ (inv_new hI2 hbn_ rfl hs hcN_ _ (fun p_ hp_ => List.mem_cons_of_mem _ hp_) List.mem_cons_self _ _ (ib_new (d := (⟨k, ⟨A9, (k).f1.length, cp10⟩, hashK k, v⟩ : Dat ByteArray)) hI2.bk (fun x_ hx_ => .inr hx_) hbp rfl) _ rfl) rfl rfl (front_last _ _) (by simp; omega) h ⟨rfl, rfl, rfl, rfl, rfl, rfl, rfl⟩⟩
    ·
     replace hbl : Sx.lk I2.BM (hashK k) = some ⟨bA, bL.length, bc⟩ := hbl
     replace hbe : bl = bL := hbe
     rw [hbe] at hbp
     clear hbe
     have hrl_ : bL.length ≤ 1048576 := by rw [hbp.length_eq]; exact Nat.le_trans (adr_len _ _) (by omega)
     replace h := st_front 5 h
     obtain ⟨B0, hB0, h⟩ := Sx.brows_out hbB h
     replace h : Sx.St w0 F0 ([Sx.row Sx.kPtr 71 (bA) (bc) (bL), Sx.brows 71 (B0), rlib ((⟨A9, (k).f1.length, cp10⟩, (k).f1) :: I2.HL), Sx.blk b11 [.string ((k).f0), .slice (A9) ((([]) ++ ((k).f1)).length) (cp10), .int .i64 ((k).f2), .int .i64 ((k).f3), .int .i64 (((k).f4).f0), .int .i64 (((k).f4).f1), .int .i64 (((k).f4).f2), .int .i64 (((k).f4).f3), .int .i64 (((k).f4).f4), .int .i64 (((k).f4).f5), .int .i64 (((k).f4).f6), .int .u64 ((hashK (k))), .string (v), .pointer none, .pointer none] 76, Sx.blk c [.int .i64 (room), .map (some I2.gm), .pointer (Sx.pa ((adL I2.L).head?)), .pointer (Sx.pa ((adL I2.L).getLast?)), .int .i64 (((M.length : Nat) : Int) - 1), .int .i64 (hits), .int .i64 (misses)] 73, Sx.mapo KU EH (I2.gm) (I2.BM), Sx.ents (enK 76 Value.string) (I2.δ) (I2.lt) (I2.er), Sx.blk b1 [.string ((k).f0), .slice (A9) ((([]) ++ ((k).f1)).length) (cp10), .int .i64 ((k).f2), .int .i64 ((k).f3), .int .i64 (((k).f4).f0), .int .i64 (((k).f4).f1), .int .i64 (((k).f4).f2), .int .i64 (((k).f4).f3), .int .i64 (((k).f4).f4), .int .i64 (((k).f4).f5), .int .i64 (((k).f4).f6)] 33] ++ R) _ := h
     refine wc_draw (fun w => Sx.St w0 F0 ([Sx.brows 71 (B0), rlib ((⟨A9, (k).f1.length, cp10⟩, (k).f1) :: I2.HL), Sx.blk b11 [.string ((k).f0), .slice (A9) ((([]) ++ ((k).f1)).length) (cp10), .int .i64 ((k).f2), .int .i64 ((k).f3), .int .i64 (((k).f4).f0), .int .i64 (((k).f4).f1), .int .i64 (((k).f4).f2), .int .i64 (((k).f4).f3), .int .i64 (((k).f4).f4), .int .i64 (((k).f4).f5), .int .i64 (((k).f4).f6), .int .u64 ((hashK (k))), .string (v), .pointer none, .pointer none] 76, Sx.blk c [.int .i64 (room), .map (some I2.gm), .pointer (Sx.pa ((adL I2.L).head?)), .pointer (Sx.pa ((adL I2.L).getLast?)), .int .i64 (((M.length : Nat) : Int) - 1), .int .i64 (hits), .int .i64 (misses)] 73, Sx.ents (enK 76 Value.string) (I2.δ) (I2.lt) (I2.er), Sx.blk b1 [.string ((k).f0), .slice (A9) ((([]) ++ ((k).f1)).length) (cp10), .int .i64 ((k).f2), .int .i64 ((k).f3), .int .i64 (((k).f4).f0), .int .i64 (((k).f4).f1), .int .i64 (((k).f4).f2), .int .i64 (((k).f4).f3), .int .i64 (((k).f4).f4), .int .i64 (((k).f4).f5), .int .i64 (((k).f4).f6)] 33] ++ R) w) (by kernel_rfl) ?_
     replace h := st_drew h
     refine wa_tk 0 rfl rfl rfl (st_selT [false, true, true, true, true, false, true, true] h) (fun w_ hS => ov_move _ rfl) ?_
     refine wa_tk 1 rfl rfl rfl (st_selT [false, true, true, true, true, false, true, true] h) (fun w_ hS => ov_nilCheck _ rfl) ?_
     refine wa_tk 2 rfl rfl rfl (st_selT [false, true, true, true, true, false, true, true] h) (fun w_ hS => ov_fieldAddr _ ⟨c, 1, none⟩ _ rfl fo73_1 rfl) ?_
     refine wa_tk 3 rfl rfl rfl (st_selT [false, true, true, true, true, false, true, true] h) (fun w_ hS => ov_loadb 3 _ hS rfl rfl sh70 rfl) ?_
     refine wa_tk 4 rfl rfl rfl (st_selT [false, true, true, true, true, false, true, true] h) (fun w_ hS => ov_move _ rfl) ?_
     refine wa_tk 5 rfl rfl rfl (st_selT [false, true, true, true, true, false, true, true] h) (fun w_ hS => ov_move _ rfl) ?_
     refine wa_tk 6 rfl rfl rfl (st_selT [false, true, true, true, true, false, true, true] h) (fun w_ hS => ov_nilCheck _ rfl) ?_
     refine wa_tk 7 rfl rfl rfl (st_selT [false, true, true, true, true, false, true, true] h) (fun w_ hS => ov_fieldAddr _ ⟨c, 1, none⟩ _ rfl fo73_1 rfl) ?_
     refine wa_tk 8 rfl rfl rfl (st_selT [false, true, true, true, true, false, true, true] h) (fun w_ hS => ov_loadb 3 _ hS rfl rfl sh70 rfl) ?_
     refine wa_tk 9 rfl rfl rfl (st_selT [false, true, true, true, true, false, true, true] h) (fun w_ hS => ov_move _ rfl) ?_
     refine wa_tk 11 rfl rfl rfl (st_selT [false, true, true, true, true, false, true, true] h) (fun w_ hS => ov_move _ rfl) ?_
     refine wa_two 10 12 rfl rfl (by kernel_rfl) ?_ ?_
     ·
      refine wl_v rfl rfl ((ov_lookup1 (KU) (EH) (.slice (none) (0) (0)) I2.gm ((hashK (k))) (I2.BM) rfl rfl Try.underlying70 Try.underlying42 zo78 (Sx.mapo_now h (i := 5) rfl)).toV ((Sx.lkH _ _).trans (by rw [hbl]))) ?_
      refine wl_nil ?_
      refine qn_wa (st_selT [false, true, true, true, true, false, true, true] h) ?_
      refine wa_one 12 rfl (by kernel_rfl) ?_
      refine wl_lit (d := Sx.kPtr) [(0, .pointer (some ⟨b11, 0, none⟩))] _ [.pointer (some ⟨b11, 0, none⟩)] ([b11]) h rfl rfl rfl rfl Try.underlying78 infb71 rfl (by decide) (by kernel_rfl) rfl (fun _ _ _ => ((Reps.none _ _).snoc (Sx.kPtr_mkM _ _ _ (b11)) rfl)) (fun A20 cp21 _ h => ?_)
      refine wl_nil ?_
      refine qn_wa (st_selT [false, false, true, true, true, true, false, true, true] h) ?_
      refine wa_one 13 rfl (by kernel_rfl) ?_
      refine wl_append (d := Sx.kPtr) (L := bL) 1 _ 8 _ _ _ ([b11]) Sx.flat_ptr h rfl rfl rfl rfl rfl ((Sx.row_reads h (i := 0) rfl).2) Try.underlying78 inf71 rfl (by decide) (by decide) (by have hsl_ := small_len hs; first | omega | (simp only [List.length_nil, List.length_cons, List.length_append]; omega) | simp) (by first | rfl | simp) (fun A22 cp23 _ h => ?_)
      replace h := st_selT [false, true, true, true, true, true, true, true, true] h
      refine wl_nil ?_
      refine qn_wa (st_selT [false, true, true, true, true, false, true, true] h) ?_
      refine wa_one 14 rfl (by kernel_rfl) ?_
      refine wl_mapupdate1 5 (KU) (EH) I2.gm (I2.BM) ((hashK (k))) ((⟨A22, (bL ++ ([b11])).length, cp23⟩ : Sx.Hdr)) h rfl rfl (by exact congrArg (fun z_ => some (Value.map z_)) rfl) rfl rfl Try.underlying70 Try.underlying42 (fun _ h => ?_)
      refine wl_nil ?_
      refine qn_wa (st_selT [false, true, true, true, true, false, true, true] h) ?_
      refine wa_done (by kernel_rfl) ?_
      refine qn_then ?_
      refine wc_seq ?_
      refine wc_region ?_
      refine wl_v rfl rfl (ov_move _ rfl) ?_
      refine wl_v rfl rfl (ov_move _ rfl) ?_
      replace h := st_front 6 h
      replace h := st_front 4 h
      replace h : Sx.St w0 F0 ([Sx.blk b11 [.string ((k).f0), .slice (A9) ((([]) ++ ((k).f1)).length) (cp10), .int .i64 ((k).f2), .int .i64 ((k).f3), .int .i64 (((k).f4).f0), .int .i64 (((k).f4).f1), .int .i64 (((k).f4).f2), .int .i64 (((k).f4).f3), .int .i64 (((k).f4).f4), .int .i64 (((k).f4).f5), .int .i64 (((k).f4).f6), .int .u64 ((hashK (k))), .string (v), .pointer none, .pointer none] 76, Sx.ents (enK 76 Value.string) (I2.δ) (I2.lt) (I2.er), Sx.row Sx.kPtr 71 (A22) (cp23) (bL ++ ([b11])), Sx.brows 71 (B0), rlib ((⟨A9, (k).f1.length, cp10⟩, (k).f1) :: I2.HL), Sx.blk c [.int .i64 (room), .map (some I2.gm), .pointer (Sx.pa ((adL I2.L).head?)), .pointer (Sx.pa ((adL I2.L).getLast?)), .int .i64 (((M.length : Nat) : Int) - 1), .int .i64 (hits), .int .i64 (misses)] 73, Sx.mapo KU EH (I2.gm) (Sx.upd I2.BM (hashK k) (⟨A22, (bL ++ ([b11])).length, cp23⟩ : Sx.Hdr)), Sx.blk b1 [.string ((k).f0), .slice (A9) ((([]) ++ ((k).f1)).length) (cp10), .int .i64 ((k).f2), .int .i64 ((k).f3), .int .i64 (((k).f4).f0), .int .i64 (((k).f4).f1), .int .i64 (((k).f4).f2), .int .i64 (((k).f4).f3), .int .i64 (((k).f4).f4), .int .i64 (((k).f4).f5), .int .i64 (((k).f4).f6)] 33] ++ R) _ := h
      obtain ⟨hbn_, h⟩ := Sx.ents_add (K := enK 76 Value.string) (cells := [.string ((k).f0), .slice (A9) ((([]) ++ ((k).f1)).length) (cp10), .int .i64 ((k).f2), .int .i64 ((k).f3), .int .i64 (((k).f4).f0), .int .i64 (((k).f4).f1), .int .i64 (((k).f4).f2), .int .i64 (((k).f4).f3), .int .i64 (((k).f4).f4), .int .i64 (((k).f4).f5), .int .i64 (((k).f4).f6), .int .u64 ((hashK (k))), .string (v), .pointer none, .pointer none]) (⟨k, ⟨A9, (k).f1.length, cp10⟩, hashK k, v⟩ : Dat ByteArray) none none rfl rfl h
      replace h := st_front 4 h
      refine wl_call _ rfl rfl rfl ent31 (RS.front_calls (R := [Sx.row Sx.kPtr 71 (A22) (cp23) (bL ++ ([b11])), Sx.brows 71 (B0), rlib ((⟨A9, (k).f1.length, cp10⟩, (k).f1) :: I2.HL), Sx.mapo KU EH (I2.gm) (Sx.upd I2.BM (hashK k) (⟨A22, (bL ++ ([b11])).length, cp23⟩ : Sx.Hdr)), Sx.blk b1 [.string ((k).f0), .slice (A9) ((([]) ++ ((k).f1)).length) (cp10), .int .i64 ((k).f2), .int .i64 ((k).f3), .int .i64 (((k).f4).f0), .int .i64 (((k).f4).f1), .int .i64 (((k).f4).f2), .int .i64 (((k).f4).f3), .int .i64 (((k).f4).f4), .int .i64 (((k).f4).f5), .int .i64 (((k).f4).f6)] 33] ++ R) c b11 I2.gm room (((M.length : Nat) : Int) - 1) hits misses (((adL I2.L).head?)) (((adL I2.L).getLast?))  (Sx.up I2.δ b11 (some (⟨k, ⟨A9, (k).f1.length, cp10⟩, hashK k, v⟩ : Dat ByteArray))) (Sx.up I2.lt b11 none) (Sx.up I2.er b11 none) _ (Sx.up_self _ _ _) (link_head hI2 _ _) h) ?_
      rintro e_ w_ ⟨rfl, h⟩
      refine ⟨_, rfl, ?_⟩
      replace h : Sx.St w0 F0 ([Sx.blk c [.int .i64 (room), .map (some I2.gm), .pointer (some ⟨b11, 0, none⟩), .pointer (Sx.pa (frL (((adL I2.L).getLast?)) b11)), .int .i64 (((M.length : Nat) : Int) - 1), .int .i64 (hits), .int .i64 (misses)] 73, Sx.ents (enK 76 Value.string) (Sx.up I2.δ b11 (some (⟨k, ⟨A9, (k).f1.length, cp10⟩, hashK k, v⟩ : Dat ByteArray))) (frLt (Sx.up I2.lt b11 none) b11 (((adL I2.L).head?))) (frEr (Sx.up I2.er b11 none) b11 (((adL I2.L).head?))), Sx.row Sx.kPtr 71 (A22) (cp23) (bL ++ ([b11])), Sx.brows 71 (B0), rlib ((⟨A9, (k).f1.length, cp10⟩, (k).f1) :: I2.HL), Sx.mapo KU EH (I2.gm) (Sx.upd I2.BM (hashK k) (⟨A22, (bL ++ ([b11])).length, cp23⟩ : Sx.Hdr)), Sx.blk b1 [.string ((k).f0), .slice (A9) ((([]) ++ ((k).f1)).length) (cp10), .int .i64 ((k).f2), .int .i64 ((k).f3), .int .i64 (((k).f4).f0), .int .i64 (((k).f4).f1), .int .i64 (((k).f4).f2), .int .i64 (((k).f4).f3), .int .i64 (((k).f4).f4), .int .i64 (((k).f4).f5), .int .i64 (((k).f4).f6)] 33] ++ R) _ := h
      refine wl_nil ?_
      refine qn_then ?_
      refine wc_region ?_
      refine wl_v rfl rfl (ov_move _ rfl) ?_
      refine wl_v rfl rfl (ov_nilCheck _ rfl) ?_
      refine wl_v rfl rfl (ov_fieldAddr _ ⟨c, 4, none⟩ _ rfl fo73_4 rfl) ?_
      refine wl_v rfl rfl (ov_loadb 0 _ h rfl rfl sh3 rfl) ?_
      refine wl_v rfl rfl (ov_bin _ rfl rfl (binR_add (r := (((M.length : Nat) : Int) - 1) + 1) (Sx.w64 (by omega)))) ?_
      refine wl_v rfl rfl (ov_nilCheck _ rfl) ?_
      refine wl_v rfl rfl (ov_fieldAddr _ ⟨c, 4, none⟩ _ rfl fo73_4 rfl) ?_
      refine wl_storeb 0 _ [.int .i64 (room), .map (some I2.gm), .pointer (some ⟨b11, 0, none⟩), .pointer (Sx.pa (frL (((adL I2.L).getLast?)) b11)), .int .i64 ((((M.length : Nat) : Int) - 1) + 1), .int .i64 (hits), .int .i64 (misses)] h rfl rfl rfl rfl rfl rfl sh3 rfl rfl (fun _ h => ?_)
      refine wl_nil ?_
      replace h := st_front 3 h
      replace h := st_front 3 h
      replace h := Sx.brows_in (hashK k) h
      replace h := st_front 3 h
      replace h := st_front 1 h
      replace h := st_front 3 h
      replace h := st_front 4 h
      replace h := st_front 4 h
      replace h := st_selT [true, true, true, true, true, false] h
      refine qn_end [] trivial ?_
      have hg_ : putM room M k v = (k, v) :: ML I2.L := by rw [hcM_]; exact putM_none (by omega) (by rw [← hM]; exact find_ML (hno3 rfl))
      rw [hg_]
      exact ⟨rfl, cache_close _ (inv_new hI2 hbn_ rfl hs hcN_ _ (fun p_ hp_ => List.mem_cons_of_mem _ hp_) List.mem_cons_self _ _ (ib_new (d := (⟨k, ⟨A9, (k).f1.length, cp10⟩, hashK k, v⟩ : Dat ByteArray)) hI2.bk (fun x_ hx_ => (hB0 x_ hx_).imp (fun z_ => by rw [z_]; exact hbh) id) hbp rfl) _ rfl) rfl rfl (front_last _ _) (by simp; omega) h ⟨rfl, rfl, rfl, rfl, rfl, rfl, rfl⟩⟩
     ·
      refine wl_lit (d := Sx.kPtr) [(0, .pointer (some ⟨b11, 0, none⟩))] _ [.pointer (some ⟨b11, 0, none⟩)] ([b11]) h rfl rfl rfl rfl Try.underlying78 infb71 rfl (by decide) (by kernel_rfl) rfl (fun _ _ _ => ((Reps.none _ _).snoc (Sx.kPtr_mkM _ _ _ (b11)) rfl)) (fun A24 cp25 _ h => ?_)
      refine wl_nil ?_
      refine qn_wa (st_selT [false, false, true, true, true, true, false, true, true] h) ?_
      refine wa_one 10 rfl (by kernel_rfl) ?_
      refine wl_v rfl rfl ((ov_lookup1 (KU) (EH) (.slice (none) (0) (0)) I2.gm ((hashK (k))) (I2.BM) rfl rfl Try.underlying70 Try.underlying42 zo78 (Sx.mapo_now h (i := 6) rfl)).toV ((Sx.lkH _ _).trans (by rw [hbl]))) ?_
      refine wl_nil ?_
      refine qn_wa (st_selT [false, false, true, true, true, true, false, true, true] h) ?_
      refine wa_one 13 rfl (by kernel_rfl) ?_
      refine wl_append (d := Sx.kPtr) (L := bL) 1 _ 8 _ _ _ ([b11]) Sx.flat_ptr h rfl rfl rfl rfl rfl ((Sx.row_reads h (i := 0) rfl).2) Try.underlying78 inf71 rfl (by decide) (by decide) (by have hsl_ := small_len hs; first | omega | (simp only [List.length_nil, List.length_cons, List.length_append]; omega) | simp) (by first | rfl | simp) (fun A26 cp27 _ h => ?_)
      replace h := st_selT [false, true, true, true, true, true, true, true, true] h
      refine wl_nil ?_
      refine qn_wa (st_selT [false, true, true, true, true, false, true, true] h) ?_
      refine wa_one 14 rfl (by kernel_rfl) ?_
      refine wl_mapupdate1 5 (KU) (EH) I2.gm (I2.BM) ((hashK (k))) ((⟨A26, (bL ++ ([b11])).length, cp27⟩ : Sx.Hdr)) h rfl rfl (by exact congrArg (fun z_ => some (Value.map z_)) rfl) rfl rfl Try.underlying70 Try.underlying42 (fun _ h => ?_)
      refine wl_nil ?_
      refine qn_wa (st_selT [false, true, true, true, true, false, true, true] h) ?_
      refine wa_done (by kernel_rfl) ?_
      refine qn_then ?_
      refine wc_seq ?_
      refine wc_region ?_
      refine wl_v rfl rfl (ov_move _ rfl) ?_
      refine wl_v rfl rfl (ov_move _ rfl) ?_
      replace h := st_front 6 h
      replace h := st_front 4 h
      replace h : Sx.St w0 F0 ([Sx.blk b11 [.string ((k).f0), .slice (A9) ((([]) ++ ((k).f1)).length) (cp10), .int .i64 ((k).f2), .int .i64 ((k).f3), .int .i64 (((k).f4).f0), .int .i64 (((k).f4).f1), .int .i64 (((k).f4).f2), .int .i64 (((k).f4).f3), .int .i64 (((k).f4).f4), .int .i64 (((k).f4).f5), .int .i64 (((k).f4).f6), .int .u64 ((hashK (k))), .string (v), .pointer none, .pointer none] 76, Sx.ents (enK 76 Value.string) (I2.δ) (I2.lt) (I2.er), Sx.row Sx.kPtr 71 (A26) (cp27) (bL ++ ([b11])), Sx.brows 71 (B0), rlib ((⟨A9, (k).f1.length, cp10⟩, (k).f1) :: I2.HL), Sx.blk c [.int .i64 (room), .map (some I2.gm), .pointer (Sx.pa ((adL I2.L).head?)), .pointer (Sx.pa ((adL I2.L).getLast?)), .int .i64 (((M.length : Nat) : Int) - 1), .int .i64 (hits), .int .i64 (misses)] 73, Sx.mapo KU EH (I2.gm) (Sx.upd I2.BM (hashK k) (⟨A26, (bL ++ ([b11])).length, cp27⟩ : Sx.Hdr)), Sx.blk b1 [.string ((k).f0), .slice (A9) ((([]) ++ ((k).f1)).length) (cp10), .int .i64 ((k).f2), .int .i64 ((k).f3), .int .i64 (((k).f4).f0), .int .i64 (((k).f4).f1), .int .i64 (((k).f4).f2), .int .i64 (((k).f4).f3), .int .i64 (((k).f4).f4), .int .i64 (((k).f4).f5), .int .i64 (((k).f4).f6)] 33] ++ R) _ := h
      obtain ⟨hbn_, h⟩ := Sx.ents_add (K := enK 76 Value.string) (cells := [.string ((k).f0), .slice (A9) ((([]) ++ ((k).f1)).length) (cp10), .int .i64 ((k).f2), .int .i64 ((k).f3), .int .i64 (((k).f4).f0), .int .i64 (((k).f4).f1), .int .i64 (((k).f4).f2), .int .i64 (((k).f4).f3), .int .i64 (((k).f4).f4), .int .i64 (((k).f4).f5), .int .i64 (((k).f4).f6), .int .u64 ((hashK (k))), .string (v), .pointer none, .pointer none]) (⟨k, ⟨A9, (k).f1.length, cp10⟩, hashK k, v⟩ : Dat ByteArray) none none rfl rfl h
      replace h := st_front 4 h
      refine wl_call _ rfl rfl rfl ent31 (RS.front_calls (R := [Sx.row Sx.kPtr 71 (A26) (cp27) (bL ++ ([b11])), Sx.brows 71 (B0), rlib ((⟨A9, (k).f1.length, cp10⟩, (k).f1) :: I2.HL), Sx.mapo KU EH (I2.gm) (Sx.upd I2.BM (hashK k) (⟨A26, (bL ++ ([b11])).length, cp27⟩ : Sx.Hdr)), Sx.blk b1 [.string ((k).f0), .slice (A9) ((([]) ++ ((k).f1)).length) (cp10), .int .i64 ((k).f2), .int .i64 ((k).f3), .int .i64 (((k).f4).f0), .int .i64 (((k).f4).f1), .int .i64 (((k).f4).f2), .int .i64 (((k).f4).f3), .int .i64 (((k).f4).f4), .int .i64 (((k).f4).f5), .int .i64 (((k).f4).f6)] 33] ++ R) c b11 I2.gm room (((M.length : Nat) : Int) - 1) hits misses (((adL I2.L).head?)) (((adL I2.L).getLast?))  (Sx.up I2.δ b11 (some (⟨k, ⟨A9, (k).f1.length, cp10⟩, hashK k, v⟩ : Dat ByteArray))) (Sx.up I2.lt b11 none) (Sx.up I2.er b11 none) _ (Sx.up_self _ _ _) (link_head hI2 _ _) h) ?_
      rintro e_ w_ ⟨rfl, h⟩
      refine ⟨_, rfl, ?_⟩
      replace h : Sx.St w0 F0 ([Sx.blk c [.int .i64 (room), .map (some I2.gm), .pointer (some ⟨b11, 0, none⟩), .pointer (Sx.pa (frL (((adL I2.L).getLast?)) b11)), .int .i64 (((M.length : Nat) : Int) - 1), .int .i64 (hits), .int .i64 (misses)] 73, Sx.ents (enK 76 Value.string) (Sx.up I2.δ b11 (some (⟨k, ⟨A9, (k).f1.length, cp10⟩, hashK k, v⟩ : Dat ByteArray))) (frLt (Sx.up I2.lt b11 none) b11 (((adL I2.L).head?))) (frEr (Sx.up I2.er b11 none) b11 (((adL I2.L).head?))), Sx.row Sx.kPtr 71 (A26) (cp27) (bL ++ ([b11])), Sx.brows 71 (B0), rlib ((⟨A9, (k).f1.length, cp10⟩, (k).f1) :: I2.HL), Sx.mapo KU EH (I2.gm) (Sx.upd I2.BM (hashK k) (⟨A26, (bL ++ ([b11])).length, cp27⟩ : Sx.Hdr)), Sx.blk b1 [.string ((k).f0), .slice (A9) ((([]) ++ ((k).f1)).length) (cp10), .int .i64 ((k).f2), .int .i64 ((k).f3), .int .i64 (((k).f4).f0), .int .i64 (((k).f4).f1), .int .i64 (((k).f4).f2), .int .i64 (((k).f4).f3), .int .i64 (((k).f4).f4), .int .i64 (((k).f4).f5), .int .i64 (((k).f4).f6)] 33] ++ R) _ := h
      refine wl_nil ?_
      refine qn_then ?_
      refine wc_region ?_
      refine wl_v rfl rfl (ov_move _ rfl) ?_
      refine wl_v rfl rfl (ov_nilCheck _ rfl) ?_
      refine wl_v rfl rfl (ov_fieldAddr _ ⟨c, 4, none⟩ _ rfl fo73_4 rfl) ?_
      refine wl_v rfl rfl (ov_loadb 0 _ h rfl rfl sh3 rfl) ?_
      refine wl_v rfl rfl (ov_bin _ rfl rfl (binR_add (r := (((M.length : Nat) : Int) - 1) + 1) (Sx.w64 (by omega)))) ?_
      refine wl_v rfl rfl (ov_nilCheck _ rfl) ?_
      refine wl_v rfl rfl (ov_fieldAddr _ ⟨c, 4, none⟩ _ rfl fo73_4 rfl) ?_
      refine wl_storeb 0 _ [.int .i64 (room), .map (some I2.gm), .pointer (some ⟨b11, 0, none⟩), .pointer (Sx.pa (frL (((adL I2.L).getLast?)) b11)), .int .i64 ((((M.length : Nat) : Int) - 1) + 1), .int .i64 (hits), .int .i64 (misses)] h rfl rfl rfl rfl rfl rfl sh3 rfl rfl (fun _ h => ?_)
      refine wl_nil ?_
      replace h := st_front 3 h
      replace h := st_front 3 h
      replace h := Sx.brows_in (hashK k) h
      replace h := st_front 3 h
      replace h := st_front 1 h
      replace h := st_front 3 h
      replace h := st_front 4 h
      replace h := st_front 4 h
      replace h := st_selT [true, true, true, true, true, false] h
      refine qn_end [] trivial ?_
      have hg_ : putM room M k v = (k, v) :: ML I2.L := by rw [hcM_]; exact putM_none (by omega) (by rw [← hM]; exact find_ML (hno3 rfl))
      rw [hg_]
      exact ⟨rfl, cache_close _ (inv_new hI2 hbn_ rfl hs hcN_ _ (fun p_ hp_ => List.mem_cons_of_mem _ hp_) List.mem_cons_self _ _ (ib_new (d := (⟨k, ⟨A9, (k).f1.length, cp10⟩, hashK k, v⟩ : Dat ByteArray)) hI2.bk (fun x_ hx_ => (hB0 x_ hx_).imp (fun z_ => by rw [z_]; exact hbh) id) hbp rfl) _ rfl) rfl rfl (front_last _ _) (by simp; omega) h ⟨rfl, rfl, rfl, rfl, rfl, rfl, rfl⟩⟩
   ·
    have hcM_ : ML I.L = (if ((M.length : Nat) : Int) = room then M.dropLast else M) := by rw [if_neg (by omega)]; exact hM
    have hcN_ : ∀ p ∈ ML I.L, alikeB p.1 k = false := find_ML (hno3 rfl)
    have hcL_ : I.L.length = M.length := hlM_
    refine wc_skip ?_
    refine qn_then ?_
    refine wc_seq ?_
    refine wc_region ?_
    refine wl_lit (d := k50) [] _ [] ([]) h rfl rfl rfl rfl Try.underlying29 infb50 rfl (by decide) (by kernel_rfl) rfl (fun _ _ _ => (Reps.none _ _)) (fun A28 cp29 _ h => ?_)
    refine wl_v rfl rfl (ov_fieldAddr _ ⟨b1, 1, none⟩ _ rfl fo33_1 rfl) ?_
    refine wl_v rfl rfl (ov_loadb 1 _ h rfl rfl sh29 rfl) ?_
    refine wl_append (d := k50) (L := []) 0 _ 16 _ _ _ ((k).f1) flat50 h rfl rfl rfl rfl rfl ((hr [_, _, _, _, _, _, _] _ h)) Try.underlying29 inf50 rfl (by decide) (by decide) (by have hsl_ := small_len hs; first | omega | (simp only [List.length_nil, List.length_cons, List.length_append]; omega) | simp) (by first | rfl | simp) (fun A30 cp31 _ h => ?_)
    refine wl_v rfl rfl (ov_fieldAddr _ ⟨b1, 1, none⟩ _ rfl fo33_1 rfl) ?_
    refine wl_storeb 1 _ [.string ((k).f0), .slice (A30) ((([]) ++ ((k).f1)).length) (cp31), .int .i64 ((k).f2), .int .i64 ((k).f3), .int .i64 (((k).f4).f0), .int .i64 (((k).f4).f1), .int .i64 (((k).f4).f2), .int .i64 (((k).f4).f3), .int .i64 (((k).f4).f4), .int .i64 (((k).f4).f5), .int .i64 (((k).f4).f6)] h rfl rfl rfl rfl rfl rfl sh29 rfl rfl (fun _ h => ?_)
    refine wl_nil ?_
    refine qn_then ?_
    refine wc_seq ?_
    refine wc_region ?_
    refine wl_v rfl rfl (ov_loadbN 1 [.string ((k).f0), .slice (A30) ((([]) ++ ((k).f1)).length) (cp31), .int .i64 ((k).f2), .int .i64 ((k).f3), .int .i64 (((k).f4).f0), .int .i64 (((k).f4).f1), .int .i64 (((k).f4).f2), .int .i64 (((k).f4).f3), .int .i64 (((k).f4).f4), .int .i64 (((k).f4).f5), .int .i64 (((k).f4).f6)] h rfl rfl sh33 rfl) ?_
    refine wl_v rfl rfl (ov_move _ rfl) ?_
    refine wl_v rfl rfl (ov_move _ rfl) ?_
    refine wl_v rfl rfl (ov_build [(0, .agg #[.string ((k).f0), .slice (A30) ((([]) ++ ((k).f1)).length) (cp31), .int .i64 ((k).f2), .int .i64 ((k).f3), .int .i64 (((k).f4).f0), .int .i64 (((k).f4).f1), .int .i64 (((k).f4).f2), .int .i64 (((k).f4).f3), .int .i64 (((k).f4).f4), .int .i64 (((k).f4).f5), .int .i64 (((k).f4).f6)]), (1, .int .u64 ((hashK (k)))), (2, .string (v))] [.string ((k).f0), .slice (A30) ((([]) ++ ((k).f1)).length) (cp31), .int .i64 ((k).f2), .int .i64 ((k).f3), .int .i64 (((k).f4).f0), .int .i64 (((k).f4).f1), .int .i64 (((k).f4).f2), .int .i64 (((k).f4).f3), .int .i64 (((k).f4).f4), .int .i64 (((k).f4).f5), .int .i64 (((k).f4).f6), .int .u64 ((hashK (k))), .string (v), .pointer none, .pointer none] rfl rfl (by kernel_rfl)) ?_
    refine wl_box _ h rfl rfl rfl (fun b32 _ h => ?_)
    replace h : Sx.St _ _ (Sx.blk b32 [.string ((k).f0), .slice (A30) ((([]) ++ ((k).f1)).length) (cp31), .int .i64 ((k).f2), .int .i64 ((k).f3), .int .i64 (((k).f4).f0), .int .i64 (((k).f4).f1), .int .i64 (((k).f4).f2), .int .i64 (((k).f4).f3), .int .i64 (((k).f4).f4), .int .i64 (((k).f4).f5), .int .i64 (((k).f4).f6), .int .u64 ((hashK (k))), .string (v), .pointer none, .pointer none] 76 :: _) _ := h
    refine wl_v rfl rfl (ov_assign _ rfl) ?_
    refine wl_nil ?_
    refine qn_then ?_
    refine wc_seq ?_
    have e_ : ([]) ++ ((k).f1) = (k).f1 := by rfl
    replace h := st_cast (congrArg (fun z_ => ([Sx.blk b32 [.string ((k).f0), .slice (A30) ((([]) ++ ((k).f1)).length) (cp31), .int .i64 ((k).f2), .int .i64 ((k).f3), .int .i64 (((k).f4).f0), .int .i64 (((k).f4).f1), .int .i64 (((k).f4).f2), .int .i64 (((k).f4).f3), .int .i64 (((k).f4).f4), .int .i64 (((k).f4).f5), .int .i64 (((k).f4).f6), .int .u64 ((hashK (k))), .string (v), .pointer none, .pointer none] 76, Sx.row k50 50 (A30) (cp31) (z_), Sx.blk b1 [.string ((k).f0), .slice (A30) ((([]) ++ ((k).f1)).length) (cp31), .int .i64 ((k).f2), .int .i64 ((k).f3), .int .i64 (((k).f4).f0), .int .i64 (((k).f4).f1), .int .i64 (((k).f4).f2), .int .i64 (((k).f4).f3), .int .i64 (((k).f4).f4), .int .i64 (((k).f4).f5), .int .i64 (((k).f4).f6)] 33, Sx.blk c [.int .i64 (room), .map (some I.gm), .pointer (Sx.pa ((adL I.L).head?)), .pointer (Sx.pa ((adL I.L).getLast?)), .int .i64 (((M.length : Nat) : Int)), .int .i64 (hits), .int .i64 (misses)] 73, Sx.mapo KU EH (I.gm) (I.BM), Sx.ents (enK 76 Value.string) (I.δ) (I.lt) (I.er), Sx.brows 71 (I.B), rlib (I.HL)] ++ R)) e_) h
    clear e_
    replace h := st_front 7 h
    replace h := st_front 2 h
    replace h := rlib_add h
    obtain ⟨bl, _, hbp, _, (⟨hbl, hb0⟩ | ⟨⟨bh, bA, bc, bL⟩, hbB, hbh, hbe, hbl⟩)⟩ := bucket_of hI.bk (hashK k)
    ·
     have hbr_ : bl.length = 0 := by rw [hb0]; rfl
     subst hb0
     refine wc_draw (fun w => Sx.St w0 F0 ([rlib ((⟨A30, (k).f1.length, cp31⟩, (k).f1) :: I.HL), Sx.blk b32 [.string ((k).f0), .slice (A30) ((([]) ++ ((k).f1)).length) (cp31), .int .i64 ((k).f2), .int .i64 ((k).f3), .int .i64 (((k).f4).f0), .int .i64 (((k).f4).f1), .int .i64 (((k).f4).f2), .int .i64 (((k).f4).f3), .int .i64 (((k).f4).f4), .int .i64 (((k).f4).f5), .int .i64 (((k).f4).f6), .int .u64 ((hashK (k))), .string (v), .pointer none, .pointer none] 76, Sx.blk b1 [.string ((k).f0), .slice (A30) ((([]) ++ ((k).f1)).length) (cp31), .int .i64 ((k).f2), .int .i64 ((k).f3), .int .i64 (((k).f4).f0), .int .i64 (((k).f4).f1), .int .i64 (((k).f4).f2), .int .i64 (((k).f4).f3), .int .i64 (((k).f4).f4), .int .i64 (((k).f4).f5), .int .i64 (((k).f4).f6)] 33, Sx.blk c [.int .i64 (room), .map (some I.gm), .pointer (Sx.pa ((adL I.L).head?)), .pointer (Sx.pa ((adL I.L).getLast?)), .int .i64 (((M.length : Nat) : Int)), .int .i64 (hits), .int .i64 (misses)] 73, Sx.ents (enK 76 Value.string) (I.δ) (I.lt) (I.er), Sx.brows 71 (I.B)] ++ R) w) (by kernel_rfl) ?_
     replace h := st_drew h
     refine wa_tk 0 rfl rfl rfl (st_selT [true, true, true, true, false, true, true] h) (fun w_ hS => ov_move _ rfl) ?_
     refine wa_tk 1 rfl rfl rfl (st_selT [true, true, true, true, false, true, true] h) (fun w_ hS => ov_nilCheck _ rfl) ?_
     refine wa_tk 2 rfl rfl rfl (st_selT [true, true, true, true, false, true, true] h) (fun w_ hS => ov_fieldAddr _ ⟨c, 1, none⟩ _ rfl fo73_1 rfl) ?_
     refine wa_tk 3 rfl rfl rfl (st_selT [true, true, true, true, false, true, true] h) (fun w_ hS => ov_loadb 3 _ hS rfl rfl sh70 rfl) ?_
     refine wa_tk 4 rfl rfl rfl (st_selT [true, true, true, true, false, true, true] h) (fun w_ hS => ov_move _ rfl) ?_
     refine wa_tk 5 rfl rfl rfl (st_selT [true, true, true, true, false, true, true] h) (fun w_ hS => ov_move _ rfl) ?_
     refine wa_tk 6 rfl rfl rfl (st_selT [true, true, true, true, false, true, true] h) (fun w_ hS => ov_nilCheck _ rfl) ?_
     refine wa_tk 7 rfl rfl rfl (st_selT [true, true, true, true, false, true, true] h) (fun w_ hS => ov_fieldAddr _ ⟨c, 1, none⟩ _ rfl fo73_1 rfl) ?_
     refine wa_tk 8 rfl rfl rfl (st_selT [true, true, true, true, false, true, true] h) (fun w_ hS => ov_loadb 3 _ hS rfl rfl sh70 rfl) ?_
     refine wa_tk 9 rfl rfl rfl (st_selT [true, true, true, true, false, true, true] h) (fun w_ hS => ov_move _ rfl) ?_
     refine wa_tk 11 rfl rfl rfl (st_selT [true, true, true, true, false, true, true] h) (fun w_ hS => ov_move _ rfl) ?_
     refine wa_two 10 12 rfl rfl (by kernel_rfl) ?_ ?_
     ·
      refine wl_v rfl rfl ((ov_lookup1 (KU) (EH) (.slice (none) (0) (0)) I.gm ((hashK (k))) (I.BM) rfl rfl Try.underlying70 Try.underlying42 zo78 (Sx.mapo_now h (i := 4) rfl)).toV ((Sx.lkH _ _).trans (by rw [hbl]))) ?_
      refine wl_nil ?_
      refine qn_wa (st_selT [true, true, true, true, false, true, true] h) ?_
      refine wa_one 12 rfl (by kernel_rfl) ?_
      refine wl_lit (d := Sx.kPtr) [(0, .pointer (some ⟨b32, 0, none⟩))] _ [.pointer (some ⟨b32, 0, none⟩)] ([b32]) h rfl rfl rfl rfl Try.underlying78 infb71 rfl (by decide) (by kernel_rfl) rfl (fun _ _ _ => ((Reps.none _ _).snoc (Sx.kPtr_mkM _ _ _ (b32)) rfl)) (fun A33 cp34 _ h => ?_)
      refine wl_nil ?_
      refine qn_wa (st_selT [false, true, true, true, true, false, true, true] h) ?_
      refine wa_one 13 rfl (by kernel_rfl) ?_
      replace h := st_nilrow Sx.kPtr 71 h
      refine wl_append (d := Sx.kPtr) (L := []) 0 _ 8 _ _ _ ([b32]) Sx.flat_ptr h rfl rfl rfl rfl rfl ((Sx.row_reads h (i := 1) rfl).2) Try.underlying78 inf71 rfl (by decide) (by decide) (by have hsl_ := small_len hs; first | omega | (simp only [List.length_nil, List.length_cons, List.length_append]; omega) | simp) (by first | rfl | simp) (fun A35 cp36 _ h => ?_)
      replace h := st_selT [true, false, true, true, true, true, true, true, true] h
      refine wl_nil ?_
      refine qn_wa (st_selT [false, true, true, true, true, false, true, true] h) ?_
      refine wa_one 14 rfl (by kernel_rfl) ?_
      refine wl_mapupdate1 5 (KU) (EH) I.gm (I.BM) ((hashK (k))) ((⟨A35, (([]) ++ ([b32])).length, cp36⟩ : Sx.Hdr)) h rfl rfl (by exact congrArg (fun z_ => some (Value.map z_)) rfl) rfl rfl Try.underlying70 Try.underlying42 (fun _ h => ?_)
      refine wl_nil ?_
      refine qn_wa (st_selT [false, true, true, true, true, false, true, true] h) ?_
      refine wa_done (by kernel_rfl) ?_
      refine qn_then ?_
      refine wc_seq ?_
      refine wc_region ?_
      refine wl_v rfl rfl (ov_move _ rfl) ?_
      refine wl_v rfl rfl (ov_move _ rfl) ?_
      replace h := st_front 6 h
      replace h := st_front 3 h
      replace h : Sx.St w0 F0 ([Sx.blk b32 [.string ((k).f0), .slice (A30) ((([]) ++ ((k).f1)).length) (cp31), .int .i64 ((k).f2), .int .i64 ((k).f3), .int .i64 (((k).f4).f0), .int .i64 (((k).f4).f1), .int .i64 (((k).f4).f2), .int .i64 (((k).f4).f3), .int .i64 (((k).f4).f4), .int .i64 (((k).f4).f5), .int .i64 (((k).f4).f6), .int .u64 ((hashK (k))), .string (v), .pointer none, .pointer none] 76, Sx.ents (enK 76 Value.string) (I.δ) (I.lt) (I.er), Sx.row Sx.kPtr 71 (A35) (cp36) (([]) ++ ([b32])), rlib ((⟨A30, (k).f1.length, cp31⟩, (k).f1) :: I.HL), Sx.blk b1 [.string ((k).f0), .slice (A30) ((([]) ++ ((k).f1)).length) (cp31), .int .i64 ((k).f2), .int .i64 ((k).f3), .int .i64 (((k).f4).f0), .int .i64 (((k).f4).f1), .int .i64 (((k).f4).f2), .int .i64 (((k).f4).f3), .int .i64 (((k).f4).f4), .int .i64 (((k).f4).f5), .int .i64 (((k).f4).f6)] 33, Sx.blk c [.int .i64 (room), .map (some I.gm), .pointer (Sx.pa ((adL I.L).head?)), .pointer (Sx.pa ((adL I.L).getLast?)), .int .i64 (((M.length : Nat) : Int)), .int .i64 (hits), .int .i64 (misses)] 73, Sx.mapo KU EH (I.gm) (Sx.upd I.BM (hashK k) (⟨A35, (([]) ++ ([b32])).length, cp36⟩ : Sx.Hdr)), Sx.brows 71 (I.B)] ++ R) _ := h
      obtain ⟨hbn_, h⟩ := Sx.ents_add (K := enK 76 Value.string) (cells := [.string ((k).f0), .slice (A30) ((([]) ++ ((k).f1)).length) (cp31), .int .i64 ((k).f2), .int .i64 ((k).f3), .int .i64 (((k).f4).f0), .int .i64 (((k).f4).f1), .int .i64 (((k).f4).f2), .int .i64 (((k).f4).f3), .int .i64 (((k).f4).f4), .int .i64 (((k).f4).f5), .int .i64 (((k).f4).f6), .int .u64 ((hashK (k))), .string (v), .pointer none, .pointer none]) (⟨k, ⟨A30, (k).f1.length, cp31⟩, hashK k, v⟩ : Dat ByteArray) none none rfl rfl h
      replace h := st_front 4 h
      refine wl_call _ rfl rfl rfl ent31 (RS.front_calls (R := [Sx.row Sx.kPtr 71 (A35) (cp36) (([]) ++ ([b32])), rlib ((⟨A30, (k).f1.length, cp31⟩, (k).f1) :: I.HL), Sx.blk b1 [.string ((k).f0), .slice (A30) ((([]) ++ ((k).f1)).length) (cp31), .int .i64 ((k).f2), .int .i64 ((k).f3), .int .i64 (((k).f4).f0), .int .i64 (((k).f4).f1), .int .i64 (((k).f4).f2), .int .i64 (((k).f4).f3), .int .i64 (((k).f4).f4), .int .i64 (((k).f4).f5), .int .i64 (((k).f4).f6)] 33, Sx.mapo KU EH (I.gm) (Sx.upd I.BM (hashK k) (⟨A35, (([]) ++ ([b32])).length, cp36⟩ : Sx.Hdr)), Sx.brows 71 (I.B)] ++ R) c b32 I.gm room (((M.length : Nat) : Int)) hits misses (((adL I.L).head?)) (((adL I.L).getLast?))  (Sx.up I.δ b32 (some (⟨k, ⟨A30, (k).f1.length, cp31⟩, hashK k, v⟩ : Dat ByteArray))) (Sx.up I.lt b32 none) (Sx.up I.er b32 none) _ (Sx.up_self _ _ _) (link_head hI _ _) h) ?_
      rintro e_ w_ ⟨rfl, h⟩
      refine ⟨_, rfl, ?_⟩
      replace h : Sx.St w0 F0 ([Sx.blk c [.int .i64 (room), .map (some I.gm), .pointer (some ⟨b32, 0, none⟩), .pointer (Sx.pa (frL (((adL I.L).getLast?)) b32)), .int .i64 (((M.length : Nat) : Int)), .int .i64 (hits), .int .i64 (misses)] 73, Sx.ents (enK 76 Value.string) (Sx.up I.δ b32 (some (⟨k, ⟨A30, (k).f1.length, cp31⟩, hashK k, v⟩ : Dat ByteArray))) (frLt (Sx.up I.lt b32 none) b32 (((adL I.L).head?))) (frEr (Sx.up I.er b32 none) b32 (((adL I.L).head?))), Sx.row Sx.kPtr 71 (A35) (cp36) (([]) ++ ([b32])), rlib ((⟨A30, (k).f1.length, cp31⟩, (k).f1) :: I.HL), Sx.blk b1 [.string ((k).f0), .slice (A30) ((([]) ++ ((k).f1)).length) (cp31), .int .i64 ((k).f2), .int .i64 ((k).f3), .int .i64 (((k).f4).f0), .int .i64 (((k).f4).f1), .int .i64 (((k).f4).f2), .int .i64 (((k).f4).f3), .int .i64 (((k).f4).f4), .int .i64 (((k).f4).f5), .int .i64 (((k).f4).f6)] 33, Sx.mapo KU EH (I.gm) (Sx.upd I.BM (hashK k) (⟨A35, (([]) ++ ([b32])).length, cp36⟩ : Sx.Hdr)), Sx.brows 71 (I.B)] ++ R) _ := h
      refine wl_nil ?_
      refine qn_then ?_
      refine wc_region ?_
      refine wl_v rfl rfl (ov_move _ rfl) ?_
      refine wl_v rfl rfl (ov_nilCheck _ rfl) ?_
      refine wl_v rfl rfl (ov_fieldAddr _ ⟨c, 4, none⟩ _ rfl fo73_4 rfl) ?_
      refine wl_v rfl rfl (ov_loadb 0 _ h rfl rfl sh3 rfl) ?_
      refine wl_v rfl rfl (ov_bin _ rfl rfl (binR_add (r := (((M.length : Nat) : Int)) + 1) (Sx.w64 (by omega)))) ?_
      refine wl_v rfl rfl (ov_nilCheck _ rfl) ?_
      refine wl_v rfl rfl (ov_fieldAddr _ ⟨c, 4, none⟩ _ rfl fo73_4 rfl) ?_
      refine wl_storeb 0 _ [.int .i64 (room), .map (some I.gm), .pointer (some ⟨b32, 0, none⟩), .pointer (Sx.pa (frL (((adL I.L).getLast?)) b32)), .int .i64 ((((M.length : Nat) : Int)) + 1), .int .i64 (hits), .int .i64 (misses)] h rfl rfl rfl rfl rfl rfl sh3 rfl rfl (fun _ h => ?_)
      refine wl_nil ?_
      replace h := st_front 6 h
      replace h := st_front 3 h
      replace h := Sx.brows_in (hashK k) h
      replace h := st_front 3 h
      replace h := st_front 1 h
      replace h := st_front 3 h
      replace h := st_front 5 h
      replace h := st_front 4 h
      replace h := st_selT [true, true, true, true, true, false] h
      refine qn_end [] trivial ?_
      have hg_ : putM room M k v = (k, v) :: ML I.L := by rw [hcM_]; exact putM_none (by omega) (by rw [← hM]; exact find_ML (hno3 rfl))
      rw [hg_]
      exact ⟨rfl, cache_close _ (inv_new hI hbn_ rfl hs hcN_ _ (fun p_ hp_ => List.mem_cons_of_mem _ hp_) List.mem_cons_self _ _ (ib_new (d := (⟨k, ⟨A30, (k).f1.length, cp31⟩, hashK k, v⟩ : Dat ByteArray)) hI.bk (fun x_ hx_ => .inr hx_) hbp rfl) _ rfl) rfl rfl (front_last _ _) (by simp; omega) h ⟨rfl, rfl, rfl, rfl, rfl, rfl, rfl⟩⟩
     ·
      refine wl_lit (d := Sx.kPtr) [(0, .pointer (some ⟨b32, 0, none⟩))] _ [.pointer (some ⟨b32, 0, none⟩)] ([b32]) h rfl rfl rfl rfl Try.underlying78 infb71 rfl (by decide) (by kernel_rfl) rfl (fun _ _ _ => ((Reps.none _ _).snoc (Sx.kPtr_mkM _ _ _ (b32)) rfl)) (fun A37 cp38 _ h => ?_)
      refine wl_nil ?_
      refine qn_wa (st_selT [false, true, true, true, true, false, true, true] h) ?_
      refine wa_one 10 rfl (by kernel_rfl) ?_
      refine wl_v rfl rfl ((ov_lookup1 (KU) (EH) (.slice (none) (0) (0)) I.gm ((hashK (k))) (I.BM) rfl rfl Try.underlying70 Try.underlying42 zo78 (Sx.mapo_now h (i := 5) rfl)).toV ((Sx.lkH _ _).trans (by rw [hbl]))) ?_
      refine wl_nil ?_
      refine qn_wa (st_selT [false, true, true, true, true, false, true, true] h) ?_
      refine wa_one 13 rfl (by kernel_rfl) ?_
      replace h := st_nilrow Sx.kPtr 71 h
      refine wl_append (d := Sx.kPtr) (L := []) 0 _ 8 _ _ _ ([b32]) Sx.flat_ptr h rfl rfl rfl rfl rfl ((Sx.row_reads h (i := 1) rfl).2) Try.underlying78 inf71 rfl (by decide) (by decide) (by have hsl_ := small_len hs; first | omega | (simp only [List.length_nil, List.length_cons, List.length_append]; omega) | simp) (by first | rfl | simp) (fun A39 cp40 _ h => ?_)
      replace h := st_selT [true, false, true, true, true, true, true, true, true] h
      refine wl_nil ?_
      refine qn_wa (st_selT [false, true, true, true, true, false, true, true] h) ?_
      refine wa_one 14 rfl (by kernel_rfl) ?_
      refine wl_mapupdate1 5 (KU) (EH) I.gm (I.BM) ((hashK (k))) ((⟨A39, (([]) ++ ([b32])).length, cp40⟩ : Sx.Hdr)) h rfl rfl (by exact congrArg (fun z_ => some (Value.map z_)) rfl) rfl rfl Try.underlying70 Try.underlying42 (fun _ h => ?_)
      refine wl_nil ?_
      refine qn_wa (st_selT [false, true, true, true, true, false, true, true] h) ?_
      refine wa_done (by kernel_rfl) ?_
      refine qn_then ?_
      refine wc_seq ?_
      refine wc_region ?_
      refine wl_v rfl rfl (ov_move _ rfl) ?_
      refine wl_v rfl rfl (ov_move _ rfl) ?_
      replace h := st_front 6 h
      replace h := st_front 3 h
      replace h : Sx.St w0 F0 ([Sx.blk b32 [.string ((k).f0), .slice (A30) ((([]) ++ ((k).f1)).length) (cp31), .int .i64 ((k).f2), .int .i64 ((k).f3), .int .i64 (((k).f4).f0), .int .i64 (((k).f4).f1), .int .i64 (((k).f4).f2), .int .i64 (((k).f4).f3), .int .i64 (((k).f4).f4), .int .i64 (((k).f4).f5), .int .i64 (((k).f4).f6), .int .u64 ((hashK (k))), .string (v), .pointer none, .pointer none] 76, Sx.ents (enK 76 Value.string) (I.δ) (I.lt) (I.er), Sx.row Sx.kPtr 71 (A39) (cp40) (([]) ++ ([b32])), rlib ((⟨A30, (k).f1.length, cp31⟩, (k).f1) :: I.HL), Sx.blk b1 [.string ((k).f0), .slice (A30) ((([]) ++ ((k).f1)).length) (cp31), .int .i64 ((k).f2), .int .i64 ((k).f3), .int .i64 (((k).f4).f0), .int .i64 (((k).f4).f1), .int .i64 (((k).f4).f2), .int .i64 (((k).f4).f3), .int .i64 (((k).f4).f4), .int .i64 (((k).f4).f5), .int .i64 (((k).f4).f6)] 33, Sx.blk c [.int .i64 (room), .map (some I.gm), .pointer (Sx.pa ((adL I.L).head?)), .pointer (Sx.pa ((adL I.L).getLast?)), .int .i64 (((M.length : Nat) : Int)), .int .i64 (hits), .int .i64 (misses)] 73, Sx.mapo KU EH (I.gm) (Sx.upd I.BM (hashK k) (⟨A39, (([]) ++ ([b32])).length, cp40⟩ : Sx.Hdr)), Sx.brows 71 (I.B)] ++ R) _ := h
      obtain ⟨hbn_, h⟩ := Sx.ents_add (K := enK 76 Value.string) (cells := [.string ((k).f0), .slice (A30) ((([]) ++ ((k).f1)).length) (cp31), .int .i64 ((k).f2), .int .i64 ((k).f3), .int .i64 (((k).f4).f0), .int .i64 (((k).f4).f1), .int .i64 (((k).f4).f2), .int .i64 (((k).f4).f3), .int .i64 (((k).f4).f4), .int .i64 (((k).f4).f5), .int .i64 (((k).f4).f6), .int .u64 ((hashK (k))), .string (v), .pointer none, .pointer none]) (⟨k, ⟨A30, (k).f1.length, cp31⟩, hashK k, v⟩ : Dat ByteArray) none none rfl rfl h
      replace h := st_front 4 h
      refine wl_call _ rfl rfl rfl ent31 (RS.front_calls (R := [Sx.row Sx.kPtr 71 (A39) (cp40) (([]) ++ ([b32])), rlib ((⟨A30, (k).f1.length, cp31⟩, (k).f1) :: I.HL), Sx.blk b1 [.string ((k).f0), .slice (A30) ((([]) ++ ((k).f1)).length) (cp31), .int .i64 ((k).f2), .int .i64 ((k).f3), .int .i64 (((k).f4).f0), .int .i64 (((k).f4).f1), .int .i64 (((k).f4).f2), .int .i64 (((k).f4).f3), .int .i64 (((k).f4).f4), .int .i64 (((k).f4).f5), .int .i64 (((k).f4).f6)] 33, Sx.mapo KU EH (I.gm) (Sx.upd I.BM (hashK k) (⟨A39, (([]) ++ ([b32])).length, cp40⟩ : Sx.Hdr)), Sx.brows 71 (I.B)] ++ R) c b32 I.gm room (((M.length : Nat) : Int)) hits misses (((adL I.L).head?)) (((adL I.L).getLast?))  (Sx.up I.δ b32 (some (⟨k, ⟨A30, (k).f1.length, cp31⟩, hashK k, v⟩ : Dat ByteArray))) (Sx.up I.lt b32 none) (Sx.up I.er b32 none) _ (Sx.up_self _ _ _) (link_head hI _ _) h) ?_
      rintro e_ w_ ⟨rfl, h⟩
      refine ⟨_, rfl, ?_⟩
      replace h : Sx.St w0 F0 ([Sx.blk c [.int .i64 (room), .map (some I.gm), .pointer (some ⟨b32, 0, none⟩), .pointer (Sx.pa (frL (((adL I.L).getLast?)) b32)), .int .i64 (((M.length : Nat) : Int)), .int .i64 (hits), .int .i64 (misses)] 73, Sx.ents (enK 76 Value.string) (Sx.up I.δ b32 (some (⟨k, ⟨A30, (k).f1.length, cp31⟩, hashK k, v⟩ : Dat ByteArray))) (frLt (Sx.up I.lt b32 none) b32 (((adL I.L).head?))) (frEr (Sx.up I.er b32 none) b32 (((adL I.L).head?))), Sx.row Sx.kPtr 71 (A39) (cp40) (([]) ++ ([b32])), rlib ((⟨A30, (k).f1.length, cp31⟩, (k).f1) :: I.HL), Sx.blk b1 [.string ((k).f0), .slice (A30) ((([]) ++ ((k).f1)).length) (cp31), .int .i64 ((k).f2), .int .i64 ((k).f3), .int .i64 (((k).f4).f0), .int .i64 (((k).f4).f1), .int .i64 (((k).f4).f2), .int .i64 (((k).f4).f3), .int .i64 (((k).f4).f4), .int .i64 (((k).f4).f5), .int .i64 (((k).f4).f6)] 33, Sx.mapo KU EH (I.gm) (Sx.upd I.BM (hashK k) (⟨A39, (([]) ++ ([b32])).length, cp40⟩ : Sx.Hdr)), Sx.brows 71 (I.B)] ++ R) _ := h
      refine wl_nil ?_
      refine qn_then ?_
      refine wc_region ?_
      refine wl_v rfl rfl (ov_move _ rfl) ?_
      refine wl_v rfl rfl (ov_nilCheck _ rfl) ?_
      refine wl_v rfl rfl (ov_fieldAddr _ ⟨c, 4, none⟩ _ rfl fo73_4 rfl) ?_
      refine wl_v rfl rfl (ov_loadb 0 _ h rfl rfl sh3 rfl) ?_
      refine wl_v rfl rfl (ov_bin _ rfl rfl (binR_add (r := (((M.length : Nat) : Int)) + 1) (Sx.w64 (by omega)))) ?_
      refine wl_v rfl rfl (ov_nilCheck _ rfl) ?_
      refine wl_v rfl rfl (ov_fieldAddr _ ⟨c, 4, none⟩ _ rfl fo73_4 rfl) ?_
      refine wl_storeb 0 _ [.int .i64 (room), .map (some I.gm), .pointer (some ⟨b32, 0, none⟩), .pointer (Sx.pa (frL (((adL I.L).getLast?)) b32)), .int .i64 ((((M.length : Nat) : Int)) + 1), .int .i64 (hits), .int .i64 (misses)] h rfl rfl rfl rfl rfl rfl sh3 rfl rfl (fun _ h => ?_)
      refine wl_nil ?_
      replace h := st_front 6 h
      replace h := st_front 3 h
      replace h := Sx.brows_in (hashK k) h
      replace h := st_front 3 h
      replace h := st_front 1 h
      replace h := st_front 3 h
      replace h := st_front 5 h
      replace h := st_front 4 h
      replace h := st_selT [true, true, true, true, true, false] h
      refine qn_end [] trivial ?_
      have hg_ : putM room M k v = (k, v) :: ML I.L := by rw [hcM_]; exact putM_none (by omega) (by rw [← hM]; exact find_ML (hno3 rfl))
      rw [hg_]
      exact ⟨rfl, cache_close _ (inv_new hI hbn_ rfl hs hcN_ _ (fun p_ hp_ => List.mem_cons_of_mem _ hp_) List.mem_cons_self _ _ (ib_new (d := (⟨k, ⟨A30, (k).f1.length, cp31⟩, hashK k, v⟩ : Dat ByteArray)) hI.bk (fun x_ hx_ => .inr hx_) hbp rfl) _ rfl) rfl rfl (front_last _ _) (by simp; omega) h ⟨rfl, rfl, rfl, rfl, rfl, rfl, rfl⟩⟩
    ·
     replace hbl : Sx.lk I.BM (hashK k) = some ⟨bA, bL.length, bc⟩ := hbl
     replace hbe : bl = bL := hbe
     rw [hbe] at hbp
     clear hbe
     have hrl_ : bL.length ≤ 1048576 := by rw [hbp.length_eq]; exact Nat.le_trans (adr_len _ _) (by omega)
     replace h := st_front 6 h
     obtain ⟨B0, hB0, h⟩ := Sx.brows_out hbB h
     replace h : Sx.St w0 F0 ([Sx.row Sx.kPtr 71 (bA) (bc) (bL), Sx.brows 71 (B0), rlib ((⟨A30, (k).f1.length, cp31⟩, (k).f1) :: I.HL), Sx.blk b32 [.string ((k).f0), .slice (A30) ((([]) ++ ((k).f1)).length) (cp31), .int .i64 ((k).f2), .int .i64 ((k).f3), .int .i64 (((k).f4).f0), .int .i64 (((k).f4).f1), .int .i64 (((k).f4).f2), .int .i64 (((k).f4).f3), .int .i64 (((k).f4).f4), .int .i64 (((k).f4).f5), .int .i64 (((k).f4).f6), .int .u64 ((hashK (k))), .string (v), .pointer none, .pointer none] 76, Sx.blk b1 [.string ((k).f0), .slice (A30) ((([]) ++ ((k).f1)).length) (cp31), .int .i64 ((k).f2), .int .i64 ((k).f3), .int .i64 (((k).f4).f0), .int .i64 (((k).f4).f1), .int .i64 (((k).f4).f2), .int .i64 (((k).f4).f3), .int .i64 (((k).f4).f4), .int .i64 (((k).f4).f5), .int .i64 (((k).f4).f6)] 33, Sx.blk c [.int .i64 (room), .map (some I.gm), .pointer (Sx.pa ((adL I.L).head?)), .pointer (Sx.pa ((adL I.L).getLast?)), .int .i64 (((M.length : Nat) : Int)), .int .i64 (hits), .int .i64 (misses)] 73, Sx.mapo KU EH (I.gm) (I.BM), Sx.ents (enK 76 Value.string) (I.δ) (I.lt) (I.er)] ++ R) _ := h
     refine wc_draw (fun w => Sx.St w0 F0 ([Sx.brows 71 (B0), rlib ((⟨A30, (k).f1.length, cp31⟩, (k).f1) :: I.HL), Sx.blk b32 [.string ((k).f0), .slice (A30) ((([]) ++ ((k).f1)).length) (cp31), .int .i64 ((k).f2), .int .i64 ((k).f3), .int .i64 (((k).f4).f0), .int .i64 (((k).f4).f1), .int .i64 (((k).f4).f2), .int .i64 (((k).f4).f3), .int .i64 (((k).f4).f4), .int .i64 (((k).f4).f5), .int .i64 (((k).f4).f6), .int .u64 ((hashK (k))), .string (v), .pointer none, .pointer none] 76, Sx.blk b1 [.string ((k).f0), .slice (A30) ((([]) ++ ((k).f1)).length) (cp31), .int .i64 ((k).f2), .int .i64 ((k).f3), .int .i64 (((k).f4).f0), .int .i64 (((k).f4).f1), .int .i64 (((k).f4).f2), .int .i64 (((k).f4).f3), .int .i64 (((k).f4).f4), .int .i64 (((k).f4).f5), .int .i64 (((k).f4).f6)] 33, Sx.blk c [.int .i64 (room), .map (some I.gm), .pointer (Sx.pa ((adL I.L).head?)), .pointer (Sx.pa ((adL I.L).getLast?)), .int .i64 (((M.length : Nat) : Int)), .int .i64 (hits), .int .i64 (misses)] 73, Sx.ents (enK 76 Value.string) (I.δ) (I.lt) (I.er)] ++ R) w) (by kernel_rfl) ?_
     replace h := st_drew h
     refine wa_tk 0 rfl rfl rfl (st_selT [false, true, true, true, true, true, false, true] h) (fun w_ hS => ov_move _ rfl) ?_
     refine wa_tk 1 rfl rfl rfl (st_selT [false, true, true, true, true, true, false, true] h) (fun w_ hS => ov_nilCheck _ rfl) ?_
     refine wa_tk 2 rfl rfl rfl (st_selT [false, true, true, true, true, true, false, true] h) (fun w_ hS => ov_fieldAddr _ ⟨c, 1, none⟩ _ rfl fo73_1 rfl) ?_
     refine wa_tk 3 rfl rfl rfl (st_selT [false, true, true, true, true, true, false, true] h) (fun w_ hS => ov_loadb 4 _ hS rfl rfl sh70 rfl) ?_
     refine wa_tk 4 rfl rfl rfl (st_selT [false, true, true, true, true, true, false, true] h) (fun w_ hS => ov_move _ rfl) ?_
     refine wa_tk 5 rfl rfl rfl (st_selT [false, true, true, true, true, true, false, true] h) (fun w_ hS => ov_move _ rfl) ?_
     refine wa_tk 6 rfl rfl rfl (st_selT [false, true, true, true, true, true, false, true] h) (fun w_ hS => ov_nilCheck _ rfl) ?_
     refine wa_tk 7 rfl rfl rfl (st_selT [false, true, true, true, true, true, false, true] h) (fun w_ hS => ov_fieldAddr _ ⟨c, 1, none⟩ _ rfl fo73_1 rfl) ?_
     refine wa_tk 8 rfl rfl rfl (st_selT [false, true, true, true, true, true, false, true] h) (fun w_ hS => ov_loadb 4 _ hS rfl rfl sh70 rfl) ?_
     refine wa_tk 9 rfl rfl rfl (st_selT [false, true, true, true, true, true, false, true] h) (fun w_ hS => ov_move _ rfl) ?_
     refine wa_tk 11 rfl rfl rfl (st_selT [false, true, true, true, true, true, false, true] h) (fun w_ hS => ov_move _ rfl) ?_
     refine wa_two 10 12 rfl rfl (by kernel_rfl) ?_ ?_
     ·
      refine wl_v rfl rfl ((ov_lookup1 (KU) (EH) (.slice (none) (0) (0)) I.gm ((hashK (k))) (I.BM) rfl rfl Try.underlying70 Try.underlying42 zo78 (Sx.mapo_now h (i := 6) rfl)).toV ((Sx.lkH _ _).trans (by rw [hbl]))) ?_
      refine wl_nil ?_
      refine qn_wa (st_selT [false, true, true, true, true, true, false, true] h) ?_
      refine wa_one 12 rfl (by kernel_rfl) ?_
      refine wl_lit (d := Sx.kPtr) [(0, .pointer (some ⟨b32, 0, none⟩))] _ [.pointer (some ⟨b32, 0, none⟩)] ([b32]) h rfl rfl rfl rfl Try.underlying78 infb71 rfl (by decide) (by kernel_rfl) rfl (fun _ _ _ => ((Reps.none _ _).snoc (Sx.kPtr_mkM _ _ _ (b32)) rfl)) (fun A41 cp42 _ h => ?_)
      refine wl_nil ?_
      refine qn_wa (st_selT [false, false, true, true, true, true, true, false, true] h) ?_
      refine wa_one 13 rfl (by kernel_rfl) ?_
      refine wl_append (d := Sx.kPtr) (L := bL) 1 _ 8 _ _ _ ([b32]) Sx.flat_ptr h rfl rfl rfl rfl rfl ((Sx.row_reads h (i := 0) rfl).2) Try.underlying78 inf71 rfl (by decide) (by decide) (by have hsl_ := small_len hs; first | omega | (simp only [List.length_nil, List.length_cons, List.length_append]; omega) | simp) (by first | rfl | simp) (fun A43 cp44 _ h => ?_)
      replace h := st_selT [false, true, true, true, true, true, true, true, true] h
      refine wl_nil ?_
      refine qn_wa (st_selT [false, true, true, true, true, true, false, true] h) ?_
      refine wa_one 14 rfl (by kernel_rfl) ?_
      refine wl_mapupdate1 6 (KU) (EH) I.gm (I.BM) ((hashK (k))) ((⟨A43, (bL ++ ([b32])).length, cp44⟩ : Sx.Hdr)) h rfl rfl (by exact congrArg (fun z_ => some (Value.map z_)) rfl) rfl rfl Try.underlying70 Try.underlying42 (fun _ h => ?_)
      refine wl_nil ?_
      refine qn_wa (st_selT [false, true, true, true, true, true, false, true] h) ?_
      refine wa_done (by kernel_rfl) ?_
      refine qn_then ?_
      refine wc_seq ?_
      refine wc_region ?_
      refine wl_v rfl rfl (ov_move _ rfl) ?_
      refine wl_v rfl rfl (ov_move _ rfl) ?_
      replace h := st_front 7 h
      replace h := st_front 4 h
      replace h : Sx.St w0 F0 ([Sx.blk b32 [.string ((k).f0), .slice (A30) ((([]) ++ ((k).f1)).length) (cp31), .int .i64 ((k).f2), .int .i64 ((k).f3), .int .i64 (((k).f4).f0), .int .i64 (((k).f4).f1), .int .i64 (((k).f4).f2), .int .i64 (((k).f4).f3), .int .i64 (((k).f4).f4), .int .i64 (((k).f4).f5), .int .i64 (((k).f4).f6), .int .u64 ((hashK (k))), .string (v), .pointer none, .pointer none] 76, Sx.ents (enK 76 Value.string) (I.δ) (I.lt) (I.er), Sx.row Sx.kPtr 71 (A43) (cp44) (bL ++ ([b32])), Sx.brows 71 (B0), rlib ((⟨A30, (k).f1.length, cp31⟩, (k).f1) :: I.HL), Sx.blk b1 [.string ((k).f0), .slice (A30) ((([]) ++ ((k).f1)).length) (cp31), .int .i64 ((k).f2), .int .i64 ((k).f3), .int .i64 (((k).f4).f0), .int .i64 (((k).f4).f1), .int .i64 (((k).f4).f2), .int .i64 (((k).f4).f3), .int .i64 (((k).f4).f4), .int .i64 (((k).f4).f5), .int .i64 (((k).f4).f6)] 33, Sx.blk c [.int .i64 (room), .map (some I.gm), .pointer (Sx.pa ((adL I.L).head?)), .pointer (Sx.pa ((adL I.L).getLast?)), .int .i64 (((M.length : Nat) : Int)), .int .i64 (hits), .int .i64 (misses)] 73, Sx.mapo KU EH (I.gm) (Sx.upd I.BM (hashK k) (⟨A43, (bL ++ ([b32])).length, cp44⟩ : Sx.Hdr))] ++ R) _ := h
      obtain ⟨hbn_, h⟩ := Sx.ents_add (K := enK 76 Value.string) (cells := [.string ((k).f0), .slice (A30) ((([]) ++ ((k).f1)).length) (cp31), .int .i64 ((k).f2), .int .i64 ((k).f3), .int .i64 (((k).f4).f0), .int .i64 (((k).f4).f1), .int .i64 (((k).f4).f2), .int .i64 (((k).f4).f3), .int .i64 (((k).f4).f4), .int .i64 (((k).f4).f5), .int .i64 (((k).f4).f6), .int .u64 ((hashK (k))), .string (v), .pointer none, .pointer none]) (⟨k, ⟨A30, (k).f1.length, cp31⟩, hashK k, v⟩ : Dat ByteArray) none none rfl rfl h
      replace h := st_front 5 h
      refine wl_call _ rfl rfl rfl ent31 (RS.front_calls (R := [Sx.row Sx.kPtr 71 (A43) (cp44) (bL ++ ([b32])), Sx.brows 71 (B0), rlib ((⟨A30, (k).f1.length, cp31⟩, (k).f1) :: I.HL), Sx.blk b1 [.string ((k).f0), .slice (A30) ((([]) ++ ((k).f1)).length) (cp31), .int .i64 ((k).f2), .int .i64 ((k).f3), .int .i64 (((k).f4).f0), .int .i64 (((k).f4).f1), .int .i64 (((k).f4).f2), .int .i64 (((k).f4).f3), .int .i64 (((k).f4).f4), .int .i64 (((k).f4).f5), .int .i64 (((k).f4).f6)] 33, Sx.mapo KU EH (I.gm) (Sx.upd I.BM (hashK k) (⟨A43, (bL ++ ([b32])).length, cp44⟩ : Sx.Hdr))] ++ R) c b32 I.gm room (((M.length : Nat) : Int)) hits misses (((adL I.L).head?)) (((adL I.L).getLast?))  (Sx.up I.δ b32 (some (⟨k, ⟨A30, (k).f1.length, cp31⟩, hashK k, v⟩ : Dat ByteArray))) (Sx.up I.lt b32 none) (Sx.up I.er b32 none) _ (Sx.up_self _ _ _) (link_head hI _ _) h) ?_
      rintro e_ w_ ⟨rfl, h⟩
      refine ⟨_, rfl, ?_⟩
      replace h : Sx.St w0 F0 ([Sx.blk c [.int .i64 (room), .map (some I.gm), .pointer (some ⟨b32, 0, none⟩), .pointer (Sx.pa (frL (((adL I.L).getLast?)) b32)), .int .i64 (((M.length : Nat) : Int)), .int .i64 (hits), .int .i64 (misses)] 73, Sx.ents (enK 76 Value.string) (Sx.up I.δ b32 (some (⟨k, ⟨A30, (k).f1.length, cp31⟩, hashK k, v⟩ : Dat ByteArray))) (frLt (Sx.up I.lt b32 none) b32 (((adL I.L).head?))) (frEr (Sx.up I.er b32 none) b32 (((adL I.L).head?))), Sx.row Sx.kPtr 71 (A43) (cp44) (bL ++ ([b32])), Sx.brows 71 (B0), rlib ((⟨A30, (k).f1.length, cp31⟩, (k).f1) :: I.HL), Sx.blk b1 [.string ((k).f0), .slice (A30) ((([]) ++ ((k).f1)).length) (cp31), .int .i64 ((k).f2), .int .i64 ((k).f3), .int .i64 (((k).f4).f0), .int .i64 (((k).f4).f1), .int .i64 (((k).f4).f2), .int .i64 (((k).f4).f3), .int .i64 (((k).f4).f4), .int .i64 (((k).f4).f5), .int .i64 (((k).f4).f6)] 33, Sx.mapo KU EH (I.gm) (Sx.upd I.BM (hashK k) (⟨A43, (bL ++ ([b32])).length, cp44⟩ : Sx.Hdr))] ++ R) _ := h
      refine wl_nil ?_
      refine qn_then ?_
      refine wc_region ?_
      refine wl_v rfl rfl (ov_move _ rfl) ?_
      refine wl_v rfl rfl (ov_nilCheck _ rfl) ?_
      refine wl_v rfl rfl (ov_fieldAddr _ ⟨c, 4, none⟩ _ rfl fo73_4 rfl) ?_
      refine wl_v rfl rfl (ov_loadb 0 _ h rfl rfl sh3 rfl) ?_
      refine wl_v rfl rfl (ov_bin _ rfl rfl (binR_add (r := (((M.length : Nat) : Int)) + 1) (Sx.w64 (by omega)))) ?_
      refine wl_v rfl rfl (ov_nilCheck _ rfl) ?_
      refine wl_v rfl rfl (ov_fieldAddr _ ⟨c, 4, none⟩ _ rfl fo73_4 rfl) ?_
      refine wl_storeb 0 _ [.int .i64 (room), .map (some I.gm), .pointer (some ⟨b32, 0, none⟩), .pointer (Sx.pa (frL (((adL I.L).getLast?)) b32)), .int .i64 ((((M.length : Nat) : Int)) + 1), .int .i64 (hits), .int .i64 (misses)] h rfl rfl rfl rfl rfl rfl sh3 rfl rfl (fun _ h => ?_)
      refine wl_nil ?_
      replace h := st_front 3 h
      replace h := st_front 3 h
      replace h := Sx.brows_in (hashK k) h
      replace h := st_front 3 h
      replace h := st_front 1 h
      replace h := st_front 3 h
      replace h := st_front 5 h
      replace h := st_front 4 h
      replace h := st_selT [true, true, true, true, true, false] h
      refine qn_end [] trivial ?_
      have hg_ : putM room M k v = (k, v) :: ML I.L := by rw [hcM_]; exact putM_none (by omega) (by rw [← hM]; exact find_ML (hno3 rfl))
      rw [hg_]
      exact ⟨rfl, cache_close _ (inv_new hI hbn_ rfl hs hcN_ _ (fun p_ hp_ => List.mem_cons_of_mem _ hp_) List.mem_cons_self _ _ (ib_new (d := (⟨k, ⟨A30, (k).f1.length, cp31⟩, hashK k, v⟩ : Dat ByteArray)) hI.bk (fun x_ hx_ => (hB0 x_ hx_).imp (fun z_ => by rw [z_]; exact hbh) id) hbp rfl) _ rfl) rfl rfl (front_last _ _) (by simp; omega) h ⟨rfl, rfl, rfl, rfl, rfl, rfl, rfl⟩⟩
     ·
      refine wl_lit (d := Sx.kPtr) [(0, .pointer (some ⟨b32, 0, none⟩))] _ [.pointer (some ⟨b32, 0, none⟩)] ([b32]) h rfl rfl rfl rfl Try.underlying78 infb71 rfl (by decide) (by kernel_rfl) rfl (fun _ _ _ => ((Reps.none _ _).snoc (Sx.kPtr_mkM _ _ _ (b32)) rfl)) (fun A45 cp46 _ h => ?_)
      refine wl_nil ?_
      refine qn_wa (st_selT [false, false, true, true, true, true, true, false, true] h) ?_
      refine wa_one 10 rfl (by kernel_rfl) ?_
      refine wl_v rfl rfl ((ov_lookup1 (KU) (EH) (.slice (none) (0) (0)) I.gm ((hashK (k))) (I.BM) rfl rfl Try.underlying70 Try.underlying42 zo78 (Sx.mapo_now h (i := 7) rfl)).toV ((Sx.lkH _ _).trans (by rw [hbl]))) ?_
      refine wl_nil ?_
      refine qn_wa (st_selT [false, false, true, true, true, true, true, false, true] h) ?_
      refine wa_one 13 rfl (by kernel_rfl) ?_
      refine wl_append (d := Sx.kPtr) (L := bL) 1 _ 8 _ _ _ ([b32]) Sx.flat_ptr h rfl rfl rfl rfl rfl ((Sx.row_reads h (i := 0) rfl).2) Try.underlying78 inf71 rfl (by decide) (by decide) (by have hsl_ := small_len hs; first | omega | (simp only [List.length_nil, List.length_cons, List.length_append]; omega) | simp) (by first | rfl | simp) (fun A47 cp48 _ h => ?_)
      replace h := st_selT [false, true, true, true, true, true, true, true, true] h
      refine wl_nil ?_
      refine qn_wa (st_selT [false, true, true, true, true, true, false, true] h) ?_
      refine wa_one 14 rfl (by kernel_rfl) ?_
      refine wl_mapupdate1 6 (KU) (EH) I.gm (I.BM) ((hashK (k))) ((⟨A47, (bL ++ ([b32])).length, cp48⟩ : Sx.Hdr)) h rfl rfl (by exact congrArg (fun z_ => some (Value.map z_)) rfl) rfl rfl Try.underlying70 Try.underlying42 (fun _ h => ?_)
      refine wl_nil ?_
      refine qn_wa (st_selT [false, true, true, true, true, true, false, true] h) ?_
      refine wa_done (by kernel_rfl) ?_
      refine qn_then ?_
      refine wc_seq ?_
      refine wc_region ?_
      refine wl_v rfl rfl (ov_move _ rfl) ?_
      refine wl_v rfl rfl (ov_move _ rfl) ?_
      replace h := st_front 7 h
      replace h := st_front 4 h
      replace h : Sx.St w0 F0 ([Sx.blk b32 [.string ((k).f0), .slice (A30) ((([]) ++ ((k).f1)).length) (cp31), .int .i64 ((k).f2), .int .i64 ((k).f3), .int .i64 (((k).f4).f0), .int .i64 (((k).f4).f1), .int .i64 (((k).f4).f2), .int .i64 (((k).f4).f3), .int .i64 (((k).f4).f4), .int .i64 (((k).f4).f5), .int .i64 (((k).f4).f6), .int .u64 ((hashK (k))), .string (v), .pointer none, .pointer none] 76, Sx.ents (enK 76 Value.string) (I.δ) (I.lt) (I.er), Sx.row Sx.kPtr 71 (A47) (cp48) (bL ++ ([b32])), Sx.brows 71 (B0), rlib ((⟨A30, (k).f1.length, cp31⟩, (k).f1) :: I.HL), Sx.blk b1 [.string ((k).f0), .slice (A30) ((([]) ++ ((k).f1)).length) (cp31), .int .i64 ((k).f2), .int .i64 ((k).f3), .int .i64 (((k).f4).f0), .int .i64 (((k).f4).f1), .int .i64 (((k).f4).f2), .int .i64 (((k).f4).f3), .int .i64 (((k).f4).f4), .int .i64 (((k).f4).f5), .int .i64 (((k).f4).f6)] 33, Sx.blk c [.int .i64 (room), .map (some I.gm), .pointer (Sx.pa ((adL I.L).head?)), .pointer (Sx.pa ((adL I.L).getLast?)), .int .i64 (((M.length : Nat) : Int)), .int .i64 (hits), .int .i64 (misses)] 73, Sx.mapo KU EH (I.gm) (Sx.upd I.BM (hashK k) (⟨A47, (bL ++ ([b32])).length, cp48⟩ : Sx.Hdr))] ++ R) _ := h
      obtain ⟨hbn_, h⟩ := Sx.ents_add (K := enK 76 Value.string) (cells := [.string ((k).f0), .slice (A30) ((([]) ++ ((k).f1)).length) (cp31), .int .i64 ((k).f2), .int .i64 ((k).f3), .int .i64 (((k).f4).f0), .int .i64 (((k).f4).f1), .int .i64 (((k).f4).f2), .int .i64 (((k).f4).f3), .int .i64 (((k).f4).f4), .int .i64 (((k).f4).f5), .int .i64 (((k).f4).f6), .int .u64 ((hashK (k))), .string (v), .pointer none, .pointer none]) (⟨k, ⟨A30, (k).f1.length, cp31⟩, hashK k, v⟩ : Dat ByteArray) none none rfl rfl h
      replace h := st_front 5 h
      refine wl_call _ rfl rfl rfl ent31 (RS.front_calls (R := [Sx.row Sx.kPtr 71 (A47) (cp48) (bL ++ ([b32])), Sx.brows 71 (B0), rlib ((⟨A30, (k).f1.length, cp31⟩, (k).f1) :: I.HL), Sx.blk b1 [.string ((k).f0), .slice (A30) ((([]) ++ ((k).f1)).length) (cp31), .int .i64 ((k).f2), .int .i64 ((k).f3), .int .i64 (((k).f4).f0), .int .i64 (((k).f4).f1), .int .i64 (((k).f4).f2), .int .i64 (((k).f4).f3), .int .i64 (((k).f4).f4), .int .i64 (((k).f4).f5), .int .i64 (((k).f4).f6)] 33, Sx.mapo KU EH (I.gm) (Sx.upd I.BM (hashK k) (⟨A47, (bL ++ ([b32])).length, cp48⟩ : Sx.Hdr))] ++ R) c b32 I.gm room (((M.length : Nat) : Int)) hits misses (((adL I.L).head?)) (((adL I.L).getLast?))  (Sx.up I.δ b32 (some (⟨k, ⟨A30, (k).f1.length, cp31⟩, hashK k, v⟩ : Dat ByteArray))) (Sx.up I.lt b32 none) (Sx.up I.er b32 none) _ (Sx.up_self _ _ _) (link_head hI _ _) h) ?_
      rintro e_ w_ ⟨rfl, h⟩
      refine ⟨_, rfl, ?_⟩
      replace h : Sx.St w0 F0 ([Sx.blk c [.int .i64 (room), .map (some I.gm), .pointer (some ⟨b32, 0, none⟩), .pointer (Sx.pa (frL (((adL I.L).getLast?)) b32)), .int .i64 (((M.length : Nat) : Int)), .int .i64 (hits), .int .i64 (misses)] 73, Sx.ents (enK 76 Value.string) (Sx.up I.δ b32 (some (⟨k, ⟨A30, (k).f1.length, cp31⟩, hashK k, v⟩ : Dat ByteArray))) (frLt (Sx.up I.lt b32 none) b32 (((adL I.L).head?))) (frEr (Sx.up I.er b32 none) b32 (((adL I.L).head?))), Sx.row Sx.kPtr 71 (A47) (cp48) (bL ++ ([b32])), Sx.brows 71 (B0), rlib ((⟨A30, (k).f1.length, cp31⟩, (k).f1) :: I.HL), Sx.blk b1 [.string ((k).f0), .slice (A30) ((([]) ++ ((k).f1)).length) (cp31), .int .i64 ((k).f2), .int .i64 ((k).f3), .int .i64 (((k).f4).f0), .int .i64 (((k).f4).f1), .int .i64 (((k).f4).f2), .int .i64 (((k).f4).f3), .int .i64 (((k).f4).f4), .int .i64 (((k).f4).f5), .int .i64 (((k).f4).f6)] 33, Sx.mapo KU EH (I.gm) (Sx.upd I.BM (hashK k) (⟨A47, (bL ++ ([b32])).length, cp48⟩ : Sx.Hdr))] ++ R) _ := h
      refine wl_nil ?_
      refine qn_then ?_
      refine wc_region ?_
      refine wl_v rfl rfl (ov_move _ rfl) ?_
      refine wl_v rfl rfl (ov_nilCheck _ rfl) ?_
      refine wl_v rfl rfl (ov_fieldAddr _ ⟨c, 4, none⟩ _ rfl fo73_4 rfl) ?_
      refine wl_v rfl rfl (ov_loadb 0 _ h rfl rfl sh3 rfl) ?_
      refine wl_v rfl rfl (ov_bin _ rfl rfl (binR_add (r := (((M.length : Nat) : Int)) + 1) (Sx.w64 (by omega)))) ?_
      refine wl_v rfl rfl (ov_nilCheck _ rfl) ?_
      refine wl_v rfl rfl (ov_fieldAddr _ ⟨c, 4, none⟩ _ rfl fo73_4 rfl) ?_
      refine wl_storeb 0 _ [.int .i64 (room), .map (some I.gm), .pointer (some ⟨b32, 0, none⟩), .pointer (Sx.pa (frL (((adL I.L).getLast?)) b32)), .int .i64 ((((M.length : Nat) : Int)) + 1), .int .i64 (hits), .int .i64 (misses)] h rfl rfl rfl rfl rfl rfl sh3 rfl rfl (fun _ h => ?_)
      refine wl_nil ?_
      replace h := st_front 3 h
      replace h := st_front 3 h
      replace h := Sx.brows_in (hashK k) h
      replace h := st_front 3 h
      replace h := st_front 1 h
      replace h := st_front 3 h
      replace h := st_front 5 h
      replace h := st_front 4 h
      replace h := st_selT [true, true, true, true, true, false] h
      refine qn_end [] trivial ?_
      have hg_ : putM room M k v = (k, v) :: ML I.L := by rw [hcM_]; exact putM_none (by omega) (by rw [← hM]; exact find_ML (hno3 rfl))
      rw [hg_]
      exact ⟨rfl, cache_close _ (inv_new hI hbn_ rfl hs hcN_ _ (fun p_ hp_ => List.mem_cons_of_mem _ hp_) List.mem_cons_self _ _ (ib_new (d := (⟨k, ⟨A30, (k).f1.length, cp31⟩, hashK k, v⟩ : Dat ByteArray)) hI.bk (fun x_ hx_ => (hB0 x_ hx_).imp (fun z_ => by rw [z_]; exact hbh) id) hbp rfl) _ rfl) rfl rfl (front_last _ _) (by simp; omega) h ⟨rfl, rfl, rfl, rfl, rfl, rfl, rfl⟩⟩
end Go.Proofs.Ytmlkajmlhmfdgaa.CCS
