/- Pruned by wip/prune.py. -/
import Derived.Test.YtieieindakbpoaaProg
import Derived.Test.YtieieindakbpoaaQSxGlue
import Derived.Test.YtieieindakbpoaaQSxRanged
import Derived.Test.YtieieindakbpoaaQSxFlow
import Derived.Test.YtieieindakbpoaaQSxBytes
import Derived.Test.YtieieindakbpoaaQSxKinds
import Derived.Test.YtieieindakbpoaaQPcText
import Derived.Test.YtieieindakbpoaaQSxTree
import Derived.Test.YtieieindakbpoaaQSxJoin3
import Derived.Test.YtieieindakbpoaaQSxLast
import Derived.Test.YtieieindakbpoaaQSxRunes
namespace Go.Proofs.Ytieieindakbpoaa.TS
open Go Go.RowKit Go.Proofs.YtieieindakbpoaaW.PrintWords Go.Proofs.Ytieieindakbpoaa.Kinds Go.Proofs.Ytieieindakbpoaa.Given Go.Proofs.Ytieieindakbpoaa.Rn Go.Proofs.Ytieieindakbpoaa.Sx 
set_option linter.unusedVariables false
set_option linter.unusedSimpArgs false
theorem fo77_0 : Sx.fieldOff Try.prog 77 0 = some 0 := by kernel_rfl
theorem sh4 : Sx.shapeOf Try.prog 4 = some (false, 1) := by kernel_rfl
theorem fo68_1 : Sx.fieldOff Try.prog 68 1 = some 1 := by kernel_rfl
theorem sh41 : Sx.shapeOf Try.prog 41 = some (false, 1) := by kernel_rfl
theorem fo77_1 : Sx.fieldOff Try.prog 77 1 = some 1 := by kernel_rfl
theorem sh3 : Sx.shapeOf Try.prog 3 = some (false, 1) := by kernel_rfl
theorem fo77_2 : Sx.fieldOff Try.prog 77 2 = some 2 := by kernel_rfl
theorem es41 : Sx.elemSz Try.prog 41 = some (5, 1) := by kernel_rfl
theorem fo68_0 : Sx.fieldOff Try.prog 68 0 = some 0 := by kernel_rfl
theorem sh9 : Sx.shapeOf Try.prog 9 = some (false, 1) := by kernel_rfl
theorem zo77 : Sx.zeroOf Try.prog 77 = some (.agg #[.bool false, .int .i64 (0), .int .i64 (0), .int .i64 (0)]) := by kernel_rfl
theorem sh77 : Sx.shapeOf Try.prog 77 = some (true, 4) := by kernel_rfl
theorem ent58 : Sx.Ent Try.prog 58 := ⟨Try.f58, Try.func58, by kernel_rfl, by kernel_rfl⟩
theorem ent46 : Sx.Ent Try.prog 46 := ⟨Try.f46, Try.func46, by kernel_rfl, by kernel_rfl⟩
theorem fo77_3 : Sx.fieldOff Try.prog 77 3 = some 3 := by kernel_rfl
theorem fo89_0 : Sx.fieldOff Try.prog 89 0 = some 0 := by kernel_rfl
theorem sh66 : Sx.shapeOf Try.prog 66 = some (false, 1) := by kernel_rfl
theorem ent39 : Sx.Ent Try.prog 39 := ⟨Try.f39, Try.func39, by kernel_rfl, by kernel_rfl⟩
theorem ent45 : Sx.Ent Try.prog 45 := ⟨Try.f45, Try.func45, by kernel_rfl, by kernel_rfl⟩
theorem fo89_2 : Sx.fieldOff Try.prog 89 2 = some 2 := by kernel_rfl
theorem fo89_1 : Sx.fieldOff Try.prog 89 1 = some 1 := by kernel_rfl
theorem ent48 : Sx.Ent Try.prog 48 := ⟨Try.f48, Try.func48, by kernel_rfl, by kernel_rfl⟩
theorem ent62 : Sx.Ent Try.prog 62 := ⟨Try.f62, Try.func62, by kernel_rfl, by kernel_rfl⟩
set_option maxHeartbeats 4000000 in
set_option maxRecDepth 100000 in
theorem text_calls {w0 w : World} {F0 : Nat → Prop} {R : List Sx.HP} (gt : Nat) (s0 : ByteArray) (A : Option Addr) (c : Nat) (L : List Int) (pr : Option Addr) (p : S77) (hz0 : s0.size ≤ 1000000) (hzL : L.length ≤ 1000000) (hb : Pc.Bd s0 L p) (h : Sx.St w0 F0 ([Sx.blk gt [.string (s0), .slice (A) (L.length) (c), .pointer pr] 68, Sx.row (Kd.int .u8) 5 (A) (c) (L)] ++ R) w) : Calls Try.prog 58 #[.pointer (some ⟨gt, 0, none⟩), .agg #[.bool ((p).f0), .int .i64 ((p).f1), .int .i64 ((p).f2), .int .i64 ((p).f3)]] w (fun e w1 => e = .returned (.string (Pc.txP s0 L p)) ∧ Sx.St w0 F0 ([Sx.blk gt [.string (s0), .slice (A) (L.length) (c), .pointer pr] 68, Sx.row (Kd.int .u8) 5 (A) (c) (L)] ++ R) w1) := by
 refine Sx.calls_fn (vs := [.pointer (some ⟨gt, 0, none⟩), .agg #[.bool ((p).f0), .int .i64 ((p).f1), .int .i64 ((p).f2), .int .i64 ((p).f3)]]) Try.func58 rfl Try.ntmps58 rfl ?_
 refine wc_seq ?_
 refine wc_region ?_
 refine wl_box _ h rfl rfl rfl (fun b1 _ h => ?_)
 replace h : Sx.St _ _ (Sx.blk b1 [.bool ((p).f0), .int .i64 ((p).f1), .int .i64 ((p).f2), .int .i64 ((p).f3)] 77 :: _) _ := h
 refine wl_v rfl rfl (ov_assign _ rfl) ?_
 refine wl_nil ?_
 refine qn_then ?_
 refine wc_seq ?_
 refine wc_seq ?_
 refine wc_region ?_
 refine wl_v rfl rfl (ov_fieldAddr _ ⟨b1, 0, none⟩ _ rfl fo77_0 rfl) ?_
 refine wl_v rfl rfl (ov_loadb 0 _ h rfl rfl sh4 rfl) ?_
 refine wl_nil ?_
 refine qn_then ?_
 refine wc_condb (by rfl) (fun c2 => ?_) (fun c2 => ?_)
 ·
  have hc_ := c2
  have hb3_ := hb.2.2
  rw [if_pos hc_] at hb3_
  have hb1_ := hb.1
  have hb2_ := hb.2.1
  refine wc_seq ?_
  refine wc_draw (fun w => Sx.St w0 F0 ([Sx.blk b1 [.bool ((p).f0), .int .i64 ((p).f1), .int .i64 ((p).f2), .int .i64 ((p).f3)] 77, Sx.blk gt [.string (s0), .slice (A) (L.length) (c), .pointer pr] 68, Sx.row (Kd.int .u8) 5 (A) (c) (L)] ++ R) w) (by kernel_rfl) ?_
  replace h := st_drew h
  refine wa_tk 0 rfl rfl rfl (st_selT [true, true, true] h) (fun w_ hS => ov_move _ rfl) ?_
  refine wa_tk 1 rfl rfl rfl (st_selT [true, true, true] h) (fun w_ hS => ov_nilCheck _ rfl) ?_
  refine wa_tk 2 rfl rfl rfl (st_selT [true, true, true] h) (fun w_ hS => ov_fieldAddr _ ⟨gt, 1, none⟩ _ rfl fo68_1 rfl) ?_
  refine wa_tk 3 rfl rfl rfl (st_selT [true, true, true] h) (fun w_ hS => ov_loadb 1 _ hS rfl rfl sh41 rfl) ?_
  refine wa_tk 4 rfl rfl rfl (st_selT [true, true, true] h) (fun w_ hS => ov_fieldAddr _ ⟨b1, 1, none⟩ _ rfl fo77_1 rfl) ?_
  refine wa_tk 5 rfl rfl rfl (st_selT [true, true, true] h) (fun w_ hS => ov_loadb 0 _ hS rfl rfl sh3 rfl) ?_
  refine wa_tk 6 rfl rfl rfl (st_selT [true, true, true] h) (fun w_ hS => ov_fieldAddr _ ⟨b1, 1, none⟩ _ rfl fo77_1 rfl) ?_
  refine wa_tk 7 rfl rfl rfl (st_selT [true, true, true] h) (fun w_ hS => ov_loadb 0 _ hS rfl rfl sh3 rfl) ?_
  refine wa_tk 8 rfl rfl rfl (st_selT [true, true, true] h) (fun w_ hS => ov_fieldAddr _ ⟨b1, 2, none⟩ _ rfl fo77_2 rfl) ?_
  refine wa_tk 9 rfl rfl rfl (st_selT [true, true, true] h) (fun w_ hS => ov_loadb 0 _ hS rfl rfl sh3 rfl) ?_
  refine wa_tk 10 rfl rfl rfl (st_selT [true, true, true] h) (fun w_ hS => ov_bin _ rfl rfl (binR_add (r := ((p).f1) + ((p).f2)) (Sx.w64 (by omega)))) ?_
  have hcap3 := (Sx.row_reads h (i := 2) rfl).1
  obtain ⟨A4, hA5⟩ : ∃ A_, (if c = (((p).f1 : Int).toNat) then A else Option.map (·.add ((((p).f1 : Int).toNat) * 1)) (A)) = A_ := ⟨_, rfl⟩
  refine wa_tk 11 rfl rfl rfl (st_selT [true, true, true] h) (fun w_ hS => by exact ov_slice _ _ _ (((p).f1 : Int).toNat) ((((p).f1) + ((p).f2) : Int).toNat) (by rfl) (by exact ⟨_, _, rfl, (by omega)⟩) (by exact ⟨_, _, rfl, (by omega)⟩) es41 (by omega) (by omega) hA5 (n' := (((L).take ((((p).f1) + ((p).f2) : Int).toNat)).drop (((p).f1 : Int).toNat)).length) (by simp only [List.length_drop, List.length_take]; omega)) ?_
  refine wa_tk 12 rfl rfl rfl (st_selT [true, true, true] h) (fun w_ hS => ov_string rfl ((Sx.mid_C (lo := (((p).f1 : Int).toNat)) (hi := ((((p).f1) + ((p).f2) : Int).toNat)) (by omega) (by omega) hcap3 hA5 ((Sx.row_reads hS (i := 2) rfl).2))) Try.underlying41 Try.underlying5 Try.underlying9) ?_
  refine wa_tk 13 rfl rfl rfl (st_selT [true, true, true] h) (fun w_ hS => ov_assign _ rfl) ?_
  refine wa_done (by kernel_rfl) ?_
  refine qn_then ?_
  refine wc_ret ?_
  refine qn_then_ret ?_
  replace h := st_front 2 h
  replace h := st_front 2 h
  replace h := st_selT [true, true, false] h
  refine qn_ret [_] ⟨rfl, trivial⟩ ?_
  have e_ : Pc.txP s0 L p = strOfNums (((L).take ((((p).f1) + ((p).f2) : Int).toNat)).drop (((p).f1 : Int).toNat)) := by unfold Pc.txP; rw [if_pos hc_]
  rw [e_]
  exact ⟨rfl, h⟩
 ·
  have hc_ := c2
  have hb3_ := hb.2.2
  rw [if_neg (by rw [hc_]; decide)] at hb3_
  have hb1_ := hb.1
  have hb2_ := hb.2.1
  refine wc_skip ?_
  refine qn_then ?_
  refine wc_seq ?_
  refine wc_draw (fun w => Sx.St w0 F0 ([Sx.blk b1 [.bool ((p).f0), .int .i64 ((p).f1), .int .i64 ((p).f2), .int .i64 ((p).f3)] 77, Sx.blk gt [.string (s0), .slice (A) (L.length) (c), .pointer pr] 68, Sx.row (Kd.int .u8) 5 (A) (c) (L)] ++ R) w) (by kernel_rfl) ?_
  replace h := st_drew h
  refine wa_tk 0 rfl rfl rfl (st_selT [true, true, true] h) (fun w_ hS => ov_move _ rfl) ?_
  refine wa_tk 1 rfl rfl rfl (st_selT [true, true, true] h) (fun w_ hS => ov_nilCheck _ rfl) ?_
  refine wa_tk 2 rfl rfl rfl (st_selT [true, true, true] h) (fun w_ hS => ov_fieldAddr _ ⟨gt, 0, none⟩ _ rfl fo68_0 rfl) ?_
  refine wa_tk 3 rfl rfl rfl (st_selT [true, true, true] h) (fun w_ hS => ov_loadb 1 _ hS rfl rfl sh9 rfl) ?_
  refine wa_tk 4 rfl rfl rfl (st_selT [true, true, true] h) (fun w_ hS => ov_fieldAddr _ ⟨b1, 1, none⟩ _ rfl fo77_1 rfl) ?_
  refine wa_tk 5 rfl rfl rfl (st_selT [true, true, true] h) (fun w_ hS => ov_loadb 0 _ hS rfl rfl sh3 rfl) ?_
  refine wa_tk 6 rfl rfl rfl (st_selT [true, true, true] h) (fun w_ hS => ov_fieldAddr _ ⟨b1, 1, none⟩ _ rfl fo77_1 rfl) ?_
  refine wa_tk 7 rfl rfl rfl (st_selT [true, true, true] h) (fun w_ hS => ov_loadb 0 _ hS rfl rfl sh3 rfl) ?_
  refine wa_tk 8 rfl rfl rfl (st_selT [true, true, true] h) (fun w_ hS => ov_fieldAddr _ ⟨b1, 2, none⟩ _ rfl fo77_2 rfl) ?_
  refine wa_tk 9 rfl rfl rfl (st_selT [true, true, true] h) (fun w_ hS => ov_loadb 0 _ hS rfl rfl sh3 rfl) ?_
  refine wa_tk 10 rfl rfl rfl (st_selT [true, true, true] h) (fun w_ hS => ov_bin _ rfl rfl (binR_add (r := ((p).f1) + ((p).f2)) (Sx.w64 (by omega)))) ?_
  refine wa_tk 11 rfl rfl rfl (st_selT [true, true, true] h) (fun w_ hS => by exact ov_slices _ (((p).f1 : Int).toNat) ((((p).f1) + ((p).f2) : Int).toNat) (by rfl) (by exact ⟨_, _, rfl, (by omega)⟩) (by exact ⟨_, _, rfl, (by omega)⟩) Try.underlying9 (by omega) (by omega)) ?_
  refine wa_tk 12 rfl rfl rfl (st_selT [true, true, true] h) (fun w_ hS => ov_assign _ rfl) ?_
  refine wa_done (by kernel_rfl) ?_
  refine qn_then ?_
  refine wc_ret ?_
  replace h := st_front 2 h
  replace h := st_front 2 h
  replace h := st_selT [true, true, false] h
  refine qn_ret [_] ⟨rfl, trivial⟩ ?_
  have e_ : Pc.txP s0 L p = (s0).extract (((p).f1 : Int).toNat) ((((p).f1) + ((p).f2) : Int).toNat) := by unfold Pc.txP; rw [if_neg (by simpa using hc_)]
  rw [e_]
  exact ⟨rfl, h⟩
set_option maxHeartbeats 4000000 in
set_option maxRecDepth 100000 in
theorem cut_calls {w0 w : World} {F0 : Nat → Prop} {R : List Sx.HP} (gt : Nat) (s0 : ByteArray) (A : Option Addr) (c : Nat) (L : List Int) (pr : Option Addr) (p : S77) (k : Int) (hz0 : s0.size ≤ 1000000) (hzL : L.length ≤ 1000000) (hw : Pc.WfP s0 L p) (h0 : 0 < k) (h1 : k < p.f2) (hb9 : p.f1 + p.f2 ≤ 1000000 ∧ p.f3 ≤ 1000000) (h : Sx.St w0 F0 ([Sx.blk gt [.string (s0), .slice (A) (L.length) (c), .pointer pr] 68, Sx.row (Kd.int .u8) 5 (A) (c) (L)] ++ R) w) : Calls Try.prog 62 #[.pointer (some ⟨gt, 0, none⟩), .agg #[.bool ((p).f0), .int .i64 ((p).f1), .int .i64 ((p).f2), .int .i64 ((p).f3)], .int .i64 (k)] w (fun e w1 => ∃ qa qb : S77, e = .returned (.tuple #[.agg #[.bool ((qa).f0), .int .i64 ((qa).f1), .int .i64 ((qa).f2), .int .i64 ((qa).f3)], .agg #[.bool ((qb).f0), .int .i64 ((qb).f1), .int .i64 ((qb).f2), .int .i64 ((qb).f3)]]) ∧ (Pc.WfP s0 L qa ∧ Pc.WfP s0 L qb ∧ Pc.txP s0 L qa ++ Pc.txP s0 L qb = Pc.txP s0 L p ∧ qa.f2 = k) ∧ Sx.St w0 F0 ([Sx.blk gt [.string (s0), .slice (A) (L.length) (c), .pointer pr] 68, Sx.row (Kd.int .u8) 5 (A) (c) (L)] ++ R) w1) := by
 have hts_ := Pc.tx_small s0 L (⟨p.f0, p.f1, k, p.f3⟩ : S77) hz0 hzL
 have hf1_ := hw.f0
 have hf3_ := hw.f3
 have hnn_ := Pc.nlB_le (Pc.txP s0 L p)
 refine Sx.calls_fn (vs := [.pointer (some ⟨gt, 0, none⟩), .agg #[.bool ((p).f0), .int .i64 ((p).f1), .int .i64 ((p).f2), .int .i64 ((p).f3)], .int .i64 (k)]) Try.func62 rfl Try.ntmps62 rfl ?_
 refine wc_seq ?_
 refine wc_region ?_
 refine wl_box _ h rfl rfl rfl (fun b1 _ h => ?_)
 replace h : Sx.St _ _ (Sx.blk b1 [.bool ((p).f0), .int .i64 ((p).f1), .int .i64 ((p).f2), .int .i64 ((p).f3)] 77 :: _) _ := h
 refine wl_alloc _ h rfl rfl zo77 (fun b2 _ h => ?_)
 replace h : Sx.St _ _ (Sx.blk b2 [.bool false, .int .i64 (0), .int .i64 (0), .int .i64 (0)] 77 :: _) _ := h
 refine wl_alloc _ h rfl rfl zo77 (fun b3 _ h => ?_)
 replace h : Sx.St _ _ (Sx.blk b3 [.bool false, .int .i64 (0), .int .i64 (0), .int .i64 (0)] 77 :: _) _ := h
 refine wl_nil ?_
 refine qn_then ?_
 refine wc_seq ?_
 refine wc_draw (fun w => Sx.St w0 F0 ([Sx.blk b3 [.bool false, .int .i64 (0), .int .i64 (0), .int .i64 (0)] 77, Sx.blk b2 [.bool false, .int .i64 (0), .int .i64 (0), .int .i64 (0)] 77, Sx.blk b1 [.bool ((p).f0), .int .i64 ((p).f1), .int .i64 ((p).f2), .int .i64 ((p).f3)] 77, Sx.blk gt [.string (s0), .slice (A) (L.length) (c), .pointer pr] 68, Sx.row (Kd.int .u8) 5 (A) (c) (L)] ++ R) w) (by kernel_rfl) ?_
 replace h := st_drew h
 refine wa_tk 0 rfl rfl rfl (st_selT [true, true, true, true, true] h) (fun w_ hS => ov_loadbN 2 [.bool ((p).f0), .int .i64 ((p).f1), .int .i64 ((p).f2), .int .i64 ((p).f3)] hS rfl rfl sh77 rfl) ?_
 refine wa_tk 1 rfl rfl rfl (st_selT [true, true, true, true, true] h) (fun w_ hS => ov_loadbN 2 [.bool ((p).f0), .int .i64 ((p).f1), .int .i64 ((p).f2), .int .i64 ((p).f3)] hS rfl rfl sh77 rfl) ?_
 refine wa_two 2 3 rfl rfl (by kernel_rfl) ?_ ?_
 ·
  refine wl_alloc _ h rfl rfl zo77 (fun b4 _ h => ?_)
  replace h : Sx.St _ _ (Sx.blk b4 [.bool false, .int .i64 (0), .int .i64 (0), .int .i64 (0)] 77 :: _) _ := h
  refine wl_nil ?_
  refine qn_wa (st_selT [false, true, true, true, true, true] h) ?_
  refine wa_one 3 rfl (by kernel_rfl) ?_
  refine wl_alloc _ h rfl rfl zo77 (fun b5 _ h => ?_)
  replace h : Sx.St _ _ (Sx.blk b5 [.bool false, .int .i64 (0), .int .i64 (0), .int .i64 (0)] 77 :: _) _ := h
  refine wl_nil ?_
  refine qn_wa (st_selT [false, false, true, true, true, true, true] h) ?_
  refine wa_one 4 rfl (by kernel_rfl) ?_
  refine wl_storebN 1 [.bool ((p).f0), .int .i64 ((p).f1), .int .i64 ((p).f2), .int .i64 ((p).f3)] [.bool ((p).f0), .int .i64 ((p).f1), .int .i64 ((p).f2), .int .i64 ((p).f3)] h rfl rfl rfl rfl (by simp [Value.oneCell']) sh77 rfl rfl (fun _ h => ?_)
  refine wl_nil ?_
  refine qn_wa (st_selT [false, false, true, true, true, true, true] h) ?_
  refine wa_one 5 rfl (by kernel_rfl) ?_
  refine wl_storebN 0 [.bool ((p).f0), .int .i64 ((p).f1), .int .i64 ((p).f2), .int .i64 ((p).f3)] [.bool ((p).f0), .int .i64 ((p).f1), .int .i64 ((p).f2), .int .i64 ((p).f3)] h rfl rfl rfl rfl (by simp [Value.oneCell']) sh77 rfl rfl (fun _ h => ?_)
  refine wl_nil ?_
  refine qn_wa (st_selT [false, false, true, true, true, true, true] h) ?_
  refine wa_done (by kernel_rfl) ?_
  refine qn_then ?_
  refine wc_seq ?_
  refine wc_region ?_
  refine wl_v rfl rfl (ov_move _ rfl) ?_
  refine wl_v rfl rfl (ov_fieldAddr _ ⟨b4, 2, none⟩ _ rfl fo77_2 rfl) ?_
  refine wl_storeb 1 _ [.bool ((p).f0), .int .i64 ((p).f1), .int .i64 (k), .int .i64 ((p).f3)] h rfl rfl rfl rfl rfl rfl sh3 rfl rfl (fun _ h => ?_)
  refine wl_nil ?_
  refine qn_then ?_
  refine wc_seq ?_
  refine wc_draw (fun w => Sx.St w0 F0 ([Sx.blk b4 [.bool ((p).f0), .int .i64 ((p).f1), .int .i64 (k), .int .i64 ((p).f3)] 77, Sx.blk b3 [.bool false, .int .i64 (0), .int .i64 (0), .int .i64 (0)] 77, Sx.blk b2 [.bool false, .int .i64 (0), .int .i64 (0), .int .i64 (0)] 77, Sx.blk b1 [.bool ((p).f0), .int .i64 ((p).f1), .int .i64 ((p).f2), .int .i64 ((p).f3)] 77, Sx.blk gt [.string (s0), .slice (A) (L.length) (c), .pointer pr] 68, Sx.row (Kd.int .u8) 5 (A) (c) (L)] ++ R) w) (by kernel_rfl) ?_
  replace h := st_drew h
  refine wa_tk 0 rfl rfl rfl (st_selT [false, true, true, true, true, true, true] h) (fun w_ hS => ov_fieldAddr _ ⟨b1, 1, none⟩ _ rfl fo77_1 rfl) ?_
  refine wa_tk 1 rfl rfl rfl (st_selT [false, true, true, true, true, true, true] h) (fun w_ hS => ov_loadb 3 _ hS rfl rfl sh3 rfl) ?_
  refine wa_tk 2 rfl rfl rfl (st_selT [false, true, true, true, true, true, true] h) (fun w_ hS => ov_move _ rfl) ?_
  refine wa_tk 3 rfl rfl rfl (st_selT [false, true, true, true, true, true, true] h) (fun w_ hS => ov_bin _ rfl rfl (binR_add (r := ((p).f1) + k) (Sx.w64 (by omega)))) ?_
  refine wa_tk 4 rfl rfl rfl (st_selT [false, true, true, true, true, true, true] h) (fun w_ hS => ov_fieldAddr _ ⟨b1, 2, none⟩ _ rfl fo77_2 rfl) ?_
  refine wa_tk 5 rfl rfl rfl (st_selT [false, true, true, true, true, true, true] h) (fun w_ hS => ov_loadb 3 _ hS rfl rfl sh3 rfl) ?_
  refine wa_tk 6 rfl rfl rfl (st_selT [false, true, true, true, true, true, true] h) (fun w_ hS => ov_move _ rfl) ?_
  refine wa_tk 7 rfl rfl rfl (st_selT [false, true, true, true, true, true, true] h) (fun w_ hS => ov_bin _ rfl rfl (binR_sub (r := ((p).f2) - k) (Sx.w64 (by omega)))) ?_
  refine wa_tk 8 rfl rfl rfl (st_selT [false, true, true, true, true, true, true] h) (fun w_ hS => ov_fieldAddr _ ⟨b5, 1, none⟩ _ rfl fo77_1 rfl) ?_
  refine wa_one 9 rfl (by kernel_rfl) ?_
  refine wl_storeb 0 _ [.bool ((p).f0), .int .i64 (((p).f1) + k), .int .i64 ((p).f2), .int .i64 ((p).f3)] h rfl rfl rfl rfl rfl rfl sh3 rfl rfl (fun _ h => ?_)
  refine wl_nil ?_
  refine qn_wa (st_selT [false, true, true, true, true, true, true] h) ?_
  refine wa_tk 10 rfl rfl rfl (st_selT [false, true, true, true, true, true, true] h) (fun w_ hS => ov_fieldAddr _ ⟨b5, 2, none⟩ _ rfl fo77_2 rfl) ?_
  refine wa_one 11 rfl (by kernel_rfl) ?_
  refine wl_storeb 0 _ [.bool ((p).f0), .int .i64 (((p).f1) + k), .int .i64 (((p).f2) - k), .int .i64 ((p).f3)] h rfl rfl rfl rfl rfl rfl sh3 rfl rfl (fun _ h => ?_)
  refine wl_nil ?_
  refine qn_wa (st_selT [false, true, true, true, true, true, true] h) ?_
  refine wa_done (by kernel_rfl) ?_
  refine qn_then ?_
  refine wc_seq ?_
  refine wc_region ?_
  refine wl_v rfl rfl (ov_move _ rfl) ?_
  refine wl_v rfl rfl (ov_loadbN 1 [.bool ((p).f0), .int .i64 ((p).f1), .int .i64 (k), .int .i64 ((p).f3)] h rfl rfl sh77 rfl) ?_
  replace h := st_front 6 h
  replace h := st_front 6 h
  refine wl_call _ rfl rfl rfl ent58 (TS.text_calls (R := [Sx.blk b5 [.bool ((p).f0), .int .i64 (((p).f1) + k), .int .i64 (((p).f2) - k), .int .i64 ((p).f3)] 77, Sx.blk b4 [.bool ((p).f0), .int .i64 ((p).f1), .int .i64 (k), .int .i64 ((p).f3)] 77, Sx.blk b3 [.bool false, .int .i64 (0), .int .i64 (0), .int .i64 (0)] 77, Sx.blk b2 [.bool false, .int .i64 (0), .int .i64 (0), .int .i64 (0)] 77, Sx.blk b1 [.bool ((p).f0), .int .i64 ((p).f1), .int .i64 ((p).f2), .int .i64 ((p).f3)] 77] ++ R) gt (s0) (A) (c) (L) (pr) (⟨((p).f0), (p).f1, k, (p).f3⟩ : S77) (by first | assumption | omega) (by first | assumption | omega) (Pc.cut_bd hw h0 h1) h) ?_
  rintro e_ w_ ⟨rfl, h⟩
  refine ⟨_, rfl, ?_⟩
  refine wl_call _ rfl rfl rfl ent46 (RN.Lines_calls (R := [Sx.blk gt [.string (s0), .slice (A) (L.length) (c), .pointer pr] 68, Sx.row (Kd.int .u8) 5 (A) (c) (L), Sx.blk b5 [.bool ((p).f0), .int .i64 (((p).f1) + k), .int .i64 (((p).f2) - k), .int .i64 ((p).f3)] 77, Sx.blk b4 [.bool ((p).f0), .int .i64 ((p).f1), .int .i64 (k), .int .i64 ((p).f3)] 77, Sx.blk b3 [.bool false, .int .i64 (0), .int .i64 (0), .int .i64 (0)] 77, Sx.blk b2 [.bool false, .int .i64 (0), .int .i64 (0), .int .i64 (0)] 77, Sx.blk b1 [.bool ((p).f0), .int .i64 ((p).f1), .int .i64 ((p).f2), .int .i64 ((p).f3)] 77] ++ R) (Pc.txP (s0) (L) (⟨((p).f0), (p).f1, k, (p).f3⟩ : S77)) (by have q_ := Pc.tx_small s0 L (⟨p.f0, p.f1, k, p.f3⟩ : S77) hz0 hzL; omega) h) ?_
  rintro e_ w_ ⟨rfl, h⟩
  refine ⟨_, rfl, ?_⟩
  have hnb6 := Pc.nlB_le (Pc.txP (s0) (L) (⟨((p).f0), (p).f1, k, (p).f3⟩ : S77))
  refine wl_v rfl rfl (ov_fieldAddr _ ⟨b4, 3, none⟩ _ rfl fo77_3 rfl) ?_
  refine wl_storeb 3 _ [.bool ((p).f0), .int .i64 ((p).f1), .int .i64 (k), .int .i64 (Pc.nlB (Pc.txP (s0) (L) (⟨((p).f0), (p).f1, k, (p).f3⟩ : S77)))] h rfl rfl rfl rfl rfl rfl sh3 rfl rfl (fun _ h => ?_)
  refine wl_nil ?_
  refine qn_then ?_
  refine wc_seq ?_
  refine wc_region ?_
  refine wl_v rfl rfl (ov_fieldAddr _ ⟨b1, 3, none⟩ _ rfl fo77_3 rfl) ?_
  refine wl_v rfl rfl (ov_loadb 6 _ h rfl rfl sh3 rfl) ?_
  refine wl_v rfl rfl (ov_fieldAddr _ ⟨b4, 3, none⟩ _ rfl fo77_3 rfl) ?_
  refine wl_v rfl rfl (ov_loadb 3 _ h rfl rfl sh3 rfl) ?_
  refine wl_v rfl rfl (ov_bin _ rfl rfl (binR_sub (r := ((p).f3) - (Pc.nlB (Pc.txP (s0) (L) (⟨((p).f0), (p).f1, k, (p).f3⟩ : S77)))) (Sx.w64 (by omega)))) ?_
  refine wl_v rfl rfl (ov_fieldAddr _ ⟨b5, 3, none⟩ _ rfl fo77_3 rfl) ?_
  refine wl_storeb 2 _ [.bool ((p).f0), .int .i64 (((p).f1) + k), .int .i64 (((p).f2) - k), .int .i64 (((p).f3) - (Pc.nlB (Pc.txP (s0) (L) (⟨((p).f0), (p).f1, k, (p).f3⟩ : S77))))] h rfl rfl rfl rfl rfl rfl sh3 rfl rfl (fun _ h => ?_)
  refine wl_nil ?_
  refine qn_then ?_
  refine wc_seq ?_
  refine wc_draw (fun w => Sx.St w0 F0 ([Sx.blk gt [.string (s0), .slice (A) (L.length) (c), .pointer pr] 68, Sx.row (Kd.int .u8) 5 (A) (c) (L), Sx.blk b5 [.bool ((p).f0), .int .i64 (((p).f1) + k), .int .i64 (((p).f2) - k), .int .i64 (((p).f3) - (Pc.nlB (Pc.txP (s0) (L) (⟨((p).f0), (p).f1, k, (p).f3⟩ : S77))))] 77, Sx.blk b4 [.bool ((p).f0), .int .i64 ((p).f1), .int .i64 (k), .int .i64 (Pc.nlB (Pc.txP (s0) (L) (⟨((p).f0), (p).f1, k, (p).f3⟩ : S77)))] 77, Sx.blk b1 [.bool ((p).f0), .int .i64 ((p).f1), .int .i64 ((p).f2), .int .i64 ((p).f3)] 77] ++ R) w) (by kernel_rfl) ?_
  replace h := st_drew h
  refine wa_tk 0 rfl rfl rfl (st_selT [true, true, true, true, false, false, true] h) (fun w_ hS => ov_loadbN 3 [.bool ((p).f0), .int .i64 ((p).f1), .int .i64 (k), .int .i64 (Pc.nlB (Pc.txP (s0) (L) (⟨((p).f0), (p).f1, k, (p).f3⟩ : S77)))] hS rfl rfl sh77 rfl) ?_
  refine wa_tk 1 rfl rfl rfl (st_selT [true, true, true, true, false, false, true] h) (fun w_ hS => ov_loadbN 2 [.bool ((p).f0), .int .i64 (((p).f1) + k), .int .i64 (((p).f2) - k), .int .i64 (((p).f3) - (Pc.nlB (Pc.txP (s0) (L) (⟨((p).f0), (p).f1, k, (p).f3⟩ : S77))))] hS rfl rfl sh77 rfl) ?_
  refine wa_one 2 rfl (by kernel_rfl) ?_
  refine wl_storebN 5 [.bool ((p).f0), .int .i64 ((p).f1), .int .i64 (k), .int .i64 (Pc.nlB (Pc.txP (s0) (L) (⟨((p).f0), (p).f1, k, (p).f3⟩ : S77)))] [.bool ((p).f0), .int .i64 ((p).f1), .int .i64 (k), .int .i64 (Pc.nlB (Pc.txP (s0) (L) (⟨((p).f0), (p).f1, k, (p).f3⟩ : S77)))] h rfl rfl rfl rfl (by simp [Value.oneCell']) sh77 rfl rfl (fun _ h => ?_)
  refine wl_nil ?_
  refine qn_wa (st_selT [true, true, true, true, false, false, true] h) ?_
  refine wa_one 3 rfl (by kernel_rfl) ?_
  refine wl_storebN 4 [.bool ((p).f0), .int .i64 (((p).f1) + k), .int .i64 (((p).f2) - k), .int .i64 (((p).f3) - (Pc.nlB (Pc.txP (s0) (L) (⟨((p).f0), (p).f1, k, (p).f3⟩ : S77))))] [.bool ((p).f0), .int .i64 (((p).f1) + k), .int .i64 (((p).f2) - k), .int .i64 (((p).f3) - (Pc.nlB (Pc.txP (s0) (L) (⟨((p).f0), (p).f1, k, (p).f3⟩ : S77))))] h rfl rfl rfl rfl (by simp [Value.oneCell']) sh77 rfl rfl (fun _ h => ?_)
  refine wl_nil ?_
  refine qn_wa (st_selT [true, true, true, true, false, false, true] h) ?_
  refine wa_done (by kernel_rfl) ?_
  refine qn_then ?_
  refine wc_ret ?_
  have hend_ := h
  replace h := st_front 1 h
  replace h := st_front 1 h
  replace h := st_selT [true, true, false, false, false, false, false] h
  refine qn_ret [_, _] ⟨⟨_, rfl, Sx.loadVarN (vs := [.bool ((p).f0), .int .i64 ((p).f1), .int .i64 (k), .int .i64 (Pc.nlB (Pc.txP (s0) (L) (⟨((p).f0), (p).f1, k, (p).f3⟩ : S77)))]) sh77 (Sx.blk_cells (cells := [.bool ((p).f0), .int .i64 ((p).f1), .int .i64 (k), .int .i64 (Pc.nlB (Pc.txP (s0) (L) (⟨((p).f0), (p).f1, k, (p).f3⟩ : S77)))]) hend_ (i := 5) rfl 0 _ rfl)⟩, ⟨_, rfl, Sx.loadVarN (vs := [.bool ((p).f0), .int .i64 (((p).f1) + k), .int .i64 (((p).f2) - k), .int .i64 (((p).f3) - (Pc.nlB (Pc.txP (s0) (L) (⟨((p).f0), (p).f1, k, (p).f3⟩ : S77))))]) sh77 (Sx.blk_cells (cells := [.bool ((p).f0), .int .i64 (((p).f1) + k), .int .i64 (((p).f2) - k), .int .i64 (((p).f3) - (Pc.nlB (Pc.txP (s0) (L) (⟨((p).f0), (p).f1, k, (p).f3⟩ : S77))))]) hend_ (i := 4) rfl 0 _ rfl)⟩, trivial⟩ ?_
  obtain ⟨k1_, k2_, k3_⟩ := Pc.cut_ok hw h0 h1
  exact ⟨Pc.cutA s0 L p k, Pc.cutB s0 L p k, rfl, ⟨k1_, k2_, k3_, rfl⟩, h⟩
 ·
  refine wl_alloc _ h rfl rfl zo77 (fun b7 _ h => ?_)
  replace h : Sx.St _ _ (Sx.blk b7 [.bool false, .int .i64 (0), .int .i64 (0), .int .i64 (0)] 77 :: _) _ := h
  refine wl_nil ?_
  refine qn_wa (st_selT [false, true, true, true, true, true] h) ?_
  refine wa_one 2 rfl (by kernel_rfl) ?_
  refine wl_alloc _ h rfl rfl zo77 (fun b8 _ h => ?_)
  replace h : Sx.St _ _ (Sx.blk b8 [.bool false, .int .i64 (0), .int .i64 (0), .int .i64 (0)] 77 :: _) _ := h
  refine wl_nil ?_
  refine qn_wa (st_selT [false, false, true, true, true, true, true] h) ?_
  refine wa_one 4 rfl (by kernel_rfl) ?_
  refine wl_storebN 0 [.bool ((p).f0), .int .i64 ((p).f1), .int .i64 ((p).f2), .int .i64 ((p).f3)] [.bool ((p).f0), .int .i64 ((p).f1), .int .i64 ((p).f2), .int .i64 ((p).f3)] h rfl rfl rfl rfl (by simp [Value.oneCell']) sh77 rfl rfl (fun _ h => ?_)
  refine wl_nil ?_
  refine qn_wa (st_selT [false, false, true, true, true, true, true] h) ?_
  refine wa_one 5 rfl (by kernel_rfl) ?_
  refine wl_storebN 1 [.bool ((p).f0), .int .i64 ((p).f1), .int .i64 ((p).f2), .int .i64 ((p).f3)] [.bool ((p).f0), .int .i64 ((p).f1), .int .i64 ((p).f2), .int .i64 ((p).f3)] h rfl rfl rfl rfl (by simp [Value.oneCell']) sh77 rfl rfl (fun _ h => ?_)
  refine wl_nil ?_
  refine qn_wa (st_selT [false, false, true, true, true, true, true] h) ?_
  refine wa_done (by kernel_rfl) ?_
  refine qn_then ?_
  refine wc_seq ?_
  refine wc_region ?_
  refine wl_v rfl rfl (ov_move _ rfl) ?_
  refine wl_v rfl rfl (ov_fieldAddr _ ⟨b8, 2, none⟩ _ rfl fo77_2 rfl) ?_
  refine wl_storeb 0 _ [.bool ((p).f0), .int .i64 ((p).f1), .int .i64 (k), .int .i64 ((p).f3)] h rfl rfl rfl rfl rfl rfl sh3 rfl rfl (fun _ h => ?_)
  refine wl_nil ?_
  refine qn_then ?_
  refine wc_seq ?_
  refine wc_draw (fun w => Sx.St w0 F0 ([Sx.blk b8 [.bool ((p).f0), .int .i64 ((p).f1), .int .i64 (k), .int .i64 ((p).f3)] 77, Sx.blk b3 [.bool false, .int .i64 (0), .int .i64 (0), .int .i64 (0)] 77, Sx.blk b2 [.bool false, .int .i64 (0), .int .i64 (0), .int .i64 (0)] 77, Sx.blk b1 [.bool ((p).f0), .int .i64 ((p).f1), .int .i64 ((p).f2), .int .i64 ((p).f3)] 77, Sx.blk gt [.string (s0), .slice (A) (L.length) (c), .pointer pr] 68, Sx.row (Kd.int .u8) 5 (A) (c) (L)] ++ R) w) (by kernel_rfl) ?_
  replace h := st_drew h
  refine wa_tk 0 rfl rfl rfl (st_selT [true, false, true, true, true, true, true] h) (fun w_ hS => ov_fieldAddr _ ⟨b1, 1, none⟩ _ rfl fo77_1 rfl) ?_
  refine wa_tk 1 rfl rfl rfl (st_selT [true, false, true, true, true, true, true] h) (fun w_ hS => ov_loadb 3 _ hS rfl rfl sh3 rfl) ?_
  refine wa_tk 2 rfl rfl rfl (st_selT [true, false, true, true, true, true, true] h) (fun w_ hS => ov_move _ rfl) ?_
  refine wa_tk 3 rfl rfl rfl (st_selT [true, false, true, true, true, true, true] h) (fun w_ hS => ov_bin _ rfl rfl (binR_add (r := ((p).f1) + k) (Sx.w64 (by omega)))) ?_
  refine wa_tk 4 rfl rfl rfl (st_selT [true, false, true, true, true, true, true] h) (fun w_ hS => ov_fieldAddr _ ⟨b1, 2, none⟩ _ rfl fo77_2 rfl) ?_
  refine wa_tk 5 rfl rfl rfl (st_selT [true, false, true, true, true, true, true] h) (fun w_ hS => ov_loadb 3 _ hS rfl rfl sh3 rfl) ?_
  refine wa_tk 6 rfl rfl rfl (st_selT [true, false, true, true, true, true, true] h) (fun w_ hS => ov_move _ rfl) ?_
  refine wa_tk 7 rfl rfl rfl (st_selT [true, false, true, true, true, true, true] h) (fun w_ hS => ov_bin _ rfl rfl (binR_sub (r := ((p).f2) - k) (Sx.w64 (by omega)))) ?_
  refine wa_tk 8 rfl rfl rfl (st_selT [true, false, true, true, true, true, true] h) (fun w_ hS => ov_fieldAddr _ ⟨b7, 1, none⟩ _ rfl fo77_1 rfl) ?_
  refine wa_one 9 rfl (by kernel_rfl) ?_
  refine wl_storeb 1 _ [.bool ((p).f0), .int .i64 (((p).f1) + k), .int .i64 ((p).f2), .int .i64 ((p).f3)] h rfl rfl rfl rfl rfl rfl sh3 rfl rfl (fun _ h => ?_)
  refine wl_nil ?_
  refine qn_wa (st_selT [true, false, true, true, true, true, true] h) ?_
  refine wa_tk 10 rfl rfl rfl (st_selT [true, false, true, true, true, true, true] h) (fun w_ hS => ov_fieldAddr _ ⟨b7, 2, none⟩ _ rfl fo77_2 rfl) ?_
  refine wa_one 11 rfl (by kernel_rfl) ?_
  refine wl_storeb 1 _ [.bool ((p).f0), .int .i64 (((p).f1) + k), .int .i64 (((p).f2) - k), .int .i64 ((p).f3)] h rfl rfl rfl rfl rfl rfl sh3 rfl rfl (fun _ h => ?_)
  refine wl_nil ?_
  refine qn_wa (st_selT [true, false, true, true, true, true, true] h) ?_
  refine wa_done (by kernel_rfl) ?_
  refine qn_then ?_
  refine wc_seq ?_
  refine wc_region ?_
  refine wl_v rfl rfl (ov_move _ rfl) ?_
  refine wl_v rfl rfl (ov_loadbN 0 [.bool ((p).f0), .int .i64 ((p).f1), .int .i64 (k), .int .i64 ((p).f3)] h rfl rfl sh77 rfl) ?_
  replace h := st_front 6 h
  replace h := st_front 6 h
  refine wl_call _ rfl rfl rfl ent58 (TS.text_calls (R := [Sx.blk b8 [.bool ((p).f0), .int .i64 ((p).f1), .int .i64 (k), .int .i64 ((p).f3)] 77, Sx.blk b7 [.bool ((p).f0), .int .i64 (((p).f1) + k), .int .i64 (((p).f2) - k), .int .i64 ((p).f3)] 77, Sx.blk b3 [.bool false, .int .i64 (0), .int .i64 (0), .int .i64 (0)] 77, Sx.blk b2 [.bool false, .int .i64 (0), .int .i64 (0), .int .i64 (0)] 77, Sx.blk b1 [.bool ((p).f0), .int .i64 ((p).f1), .int .i64 ((p).f2), .int .i64 ((p).f3)] 77] ++ R) gt (s0) (A) (c) (L) (pr) (⟨((p).f0), (p).f1, k, (p).f3⟩ : S77) (by first | assumption | omega) (by first | assumption | omega) (Pc.cut_bd hw h0 h1) h) ?_
  rintro e_ w_ ⟨rfl, h⟩
  refine ⟨_, rfl, ?_⟩
  refine wl_call _ rfl rfl rfl ent46 (RN.Lines_calls (R := [Sx.blk gt [.string (s0), .slice (A) (L.length) (c), .pointer pr] 68, Sx.row (Kd.int .u8) 5 (A) (c) (L), Sx.blk b8 [.bool ((p).f0), .int .i64 ((p).f1), .int .i64 (k), .int .i64 ((p).f3)] 77, Sx.blk b7 [.bool ((p).f0), .int .i64 (((p).f1) + k), .int .i64 (((p).f2) - k), .int .i64 ((p).f3)] 77, Sx.blk b3 [.bool false, .int .i64 (0), .int .i64 (0), .int .i64 (0)] 77, Sx.blk b2 [.bool false, .int .i64 (0), .int .i64 (0), .int .i64 (0)] 77, Sx.blk b1 [.bool ((p).f0), .int .i64 ((p).f1), .int .i64 ((p).f2), .int .i64 ((p).f3)] 77] ++ R) (Pc.txP (s0) (L) (⟨((p).f0), (p).f1, k, (p).f3⟩ : S77)) (by have q_ := Pc.tx_small s0 L (⟨p.f0, p.f1, k, p.f3⟩ : S77) hz0 hzL; omega) h) ?_
  rintro e_ w_ ⟨rfl, h⟩
  refine ⟨_, rfl, ?_⟩
  have hnb9 := Pc.nlB_le (Pc.txP (s0) (L) (⟨((p).f0), (p).f1, k, (p).f3⟩ : S77))
  refine wl_v rfl rfl (ov_fieldAddr _ ⟨b8, 3, none⟩ _ rfl fo77_3 rfl) ?_
  refine wl_storeb 2 _ [.bool ((p).f0), .int .i64 ((p).f1), .int .i64 (k), .int .i64 (Pc.nlB (Pc.txP (s0) (L) (⟨((p).f0), (p).f1, k, (p).f3⟩ : S77)))] h rfl rfl rfl rfl rfl rfl sh3 rfl rfl (fun _ h => ?_)
  refine wl_nil ?_
  refine qn_then ?_
  refine wc_seq ?_
  refine wc_region ?_
  refine wl_v rfl rfl (ov_fieldAddr _ ⟨b1, 3, none⟩ _ rfl fo77_3 rfl) ?_
  refine wl_v rfl rfl (ov_loadb 6 _ h rfl rfl sh3 rfl) ?_
  refine wl_v rfl rfl (ov_fieldAddr _ ⟨b8, 3, none⟩ _ rfl fo77_3 rfl) ?_
  refine wl_v rfl rfl (ov_loadb 2 _ h rfl rfl sh3 rfl) ?_
  refine wl_v rfl rfl (ov_bin _ rfl rfl (binR_sub (r := ((p).f3) - (Pc.nlB (Pc.txP (s0) (L) (⟨((p).f0), (p).f1, k, (p).f3⟩ : S77)))) (Sx.w64 (by omega)))) ?_
  refine wl_v rfl rfl (ov_fieldAddr _ ⟨b7, 3, none⟩ _ rfl fo77_3 rfl) ?_
  refine wl_storeb 3 _ [.bool ((p).f0), .int .i64 (((p).f1) + k), .int .i64 (((p).f2) - k), .int .i64 (((p).f3) - (Pc.nlB (Pc.txP (s0) (L) (⟨((p).f0), (p).f1, k, (p).f3⟩ : S77))))] h rfl rfl rfl rfl rfl rfl sh3 rfl rfl (fun _ h => ?_)
  refine wl_nil ?_
  refine qn_then ?_
  refine wc_seq ?_
  refine wc_draw (fun w => Sx.St w0 F0 ([Sx.blk gt [.string (s0), .slice (A) (L.length) (c), .pointer pr] 68, Sx.row (Kd.int .u8) 5 (A) (c) (L), Sx.blk b8 [.bool ((p).f0), .int .i64 ((p).f1), .int .i64 (k), .int .i64 (Pc.nlB (Pc.txP (s0) (L) (⟨((p).f0), (p).f1, k, (p).f3⟩ : S77)))] 77, Sx.blk b7 [.bool ((p).f0), .int .i64 (((p).f1) + k), .int .i64 (((p).f2) - k), .int .i64 (((p).f3) - (Pc.nlB (Pc.txP (s0) (L) (⟨((p).f0), (p).f1, k, (p).f3⟩ : S77))))] 77, Sx.blk b1 [.bool ((p).f0), .int .i64 ((p).f1), .int .i64 ((p).f2), .int .i64 ((p).f3)] 77] ++ R) w) (by kernel_rfl) ?_
  replace h := st_drew h
  refine wa_tk 0 rfl rfl rfl (st_selT [true, true, true, true, false, false, true] h) (fun w_ hS => ov_loadbN 2 [.bool ((p).f0), .int .i64 ((p).f1), .int .i64 (k), .int .i64 (Pc.nlB (Pc.txP (s0) (L) (⟨((p).f0), (p).f1, k, (p).f3⟩ : S77)))] hS rfl rfl sh77 rfl) ?_
  refine wa_tk 1 rfl rfl rfl (st_selT [true, true, true, true, false, false, true] h) (fun w_ hS => ov_loadbN 3 [.bool ((p).f0), .int .i64 (((p).f1) + k), .int .i64 (((p).f2) - k), .int .i64 (((p).f3) - (Pc.nlB (Pc.txP (s0) (L) (⟨((p).f0), (p).f1, k, (p).f3⟩ : S77))))] hS rfl rfl sh77 rfl) ?_
  refine wa_one 2 rfl (by kernel_rfl) ?_
  refine wl_storebN 5 [.bool ((p).f0), .int .i64 ((p).f1), .int .i64 (k), .int .i64 (Pc.nlB (Pc.txP (s0) (L) (⟨((p).f0), (p).f1, k, (p).f3⟩ : S77)))] [.bool ((p).f0), .int .i64 ((p).f1), .int .i64 (k), .int .i64 (Pc.nlB (Pc.txP (s0) (L) (⟨((p).f0), (p).f1, k, (p).f3⟩ : S77)))] h rfl rfl rfl rfl (by simp [Value.oneCell']) sh77 rfl rfl (fun _ h => ?_)
  refine wl_nil ?_
  refine qn_wa (st_selT [true, true, true, true, false, false, true] h) ?_
  refine wa_one 3 rfl (by kernel_rfl) ?_
  refine wl_storebN 4 [.bool ((p).f0), .int .i64 (((p).f1) + k), .int .i64 (((p).f2) - k), .int .i64 (((p).f3) - (Pc.nlB (Pc.txP (s0) (L) (⟨((p).f0), (p).f1, k, (p).f3⟩ : S77))))] [.bool ((p).f0), .int .i64 (((p).f1) + k), .int .i64 (((p).f2) - k), .int .i64 (((p).f3) - (Pc.nlB (Pc.txP (s0) (L) (⟨((p).f0), (p).f1, k, (p).f3⟩ : S77))))] h rfl rfl rfl rfl (by simp [Value.oneCell']) sh77 rfl rfl (fun _ h => ?_)
  refine wl_nil ?_
  refine qn_wa (st_selT [true, true, true, true, false, false, true] h) ?_
  refine wa_done (by kernel_rfl) ?_
  refine qn_then ?_
  refine wc_ret ?_
  have hend_ := h
  replace h := st_front 1 h
  replace h := st_front 1 h
  replace h := st_selT [true, true, false, false, false, false, false] h
  refine qn_ret [_, _] ⟨⟨_, rfl, Sx.loadVarN (vs := [.bool ((p).f0), .int .i64 ((p).f1), .int .i64 (k), .int .i64 (Pc.nlB (Pc.txP (s0) (L) (⟨((p).f0), (p).f1, k, (p).f3⟩ : S77)))]) sh77 (Sx.blk_cells (cells := [.bool ((p).f0), .int .i64 ((p).f1), .int .i64 (k), .int .i64 (Pc.nlB (Pc.txP (s0) (L) (⟨((p).f0), (p).f1, k, (p).f3⟩ : S77)))]) hend_ (i := 5) rfl 0 _ rfl)⟩, ⟨_, rfl, Sx.loadVarN (vs := [.bool ((p).f0), .int .i64 (((p).f1) + k), .int .i64 (((p).f2) - k), .int .i64 (((p).f3) - (Pc.nlB (Pc.txP (s0) (L) (⟨((p).f0), (p).f1, k, (p).f3⟩ : S77))))]) sh77 (Sx.blk_cells (cells := [.bool ((p).f0), .int .i64 (((p).f1) + k), .int .i64 (((p).f2) - k), .int .i64 (((p).f3) - (Pc.nlB (Pc.txP (s0) (L) (⟨((p).f0), (p).f1, k, (p).f3⟩ : S77))))]) hend_ (i := 4) rfl 0 _ rfl)⟩, trivial⟩ ?_
  obtain ⟨k1_, k2_, k3_⟩ := Pc.cut_ok hw h0 h1
  exact ⟨Pc.cutA s0 L p k, Pc.cutB s0 L p k, rfl, ⟨k1_, k2_, k3_, rfl⟩, h⟩
set_option maxHeartbeats 4000000 in
set_option maxRecDepth 100000 in
theorem split_step (N : Nat) (ih : ∀ {w0 w : World} {F0 : Nat → Prop} {R : List Sx.HP} (gt : Nat) (s0 : ByteArray) (A : Option Addr) (c : Nat) (L : List Int) (pr : Option Addr) (Φ : World → Prop) (T : Pc.AT) (k : Int) (hz0 : s0.size ≤ 1000000) (hzL : L.length ≤ 1000000) (hT : ∀ W, Φ W → Pc.At W T) (hb : Pc.AT.bal T) (hw : Pc.Wf s0 L (Pc.AT.fl T)) (hcs : (Pc.cat s0 L (Pc.AT.fl T)).size ≤ 150000) (hk0 : 0 ≤ k) (hk1 : k ≤ Pc.szF (Pc.AT.fl T)) (hN : Pc.AT.cnt T < N) (h : Sx.St w0 F0 ([Sx.blk gt [.string (s0), .slice (A) (L.length) (c), .pointer pr] 68, Sx.row (Kd.int .u8) 5 (A) (c) (L), Pc.lib (Φ)] ++ R) w), Calls Try.prog 45 #[.pointer (some ⟨gt, 0, none⟩), .pointer (Pc.AT.ptr T), .int .i64 k] w (fun e w1 => ∃ (T1 T2 : Pc.AT) (Φ2 : World → Prop), e = .returned (.tuple #[.pointer (Pc.AT.ptr T1), .pointer (Pc.AT.ptr T2)]) ∧ (∀ W, Φ2 W → Φ W) ∧ (∀ W, Φ2 W → Pc.At W T1) ∧ (∀ W, Φ2 W → Pc.At W T2) ∧ (Pc.AT.bal T1 ∧ Pc.AT.bal T2 ∧ Pc.Two s0 L (Pc.AT.fl T) (Pc.AT.fl T1) (Pc.AT.fl T2) k) ∧ Sx.St w0 F0 ([Sx.blk gt [.string (s0), .slice (A) (L.length) (c), .pointer pr] 68, Sx.row (Kd.int .u8) 5 (A) (c) (L), Pc.lib Φ2] ++ R) w1)) {w0 w : World} {F0 : Nat → Prop} {R : List Sx.HP} (gt : Nat) (s0 : ByteArray) (A : Option Addr) (c : Nat) (L : List Int) (pr : Option Addr) (Φ : World → Prop) (T : Pc.AT) (k : Int) (hz0 : s0.size ≤ 1000000) (hzL : L.length ≤ 1000000) (hT : ∀ W, Φ W → Pc.At W T) (hb : Pc.AT.bal T) (hw : Pc.Wf s0 L (Pc.AT.fl T)) (hcs : (Pc.cat s0 L (Pc.AT.fl T)).size ≤ 150000) (hk0 : 0 ≤ k) (hk1 : k ≤ Pc.szF (Pc.AT.fl T)) (hN : Pc.AT.cnt T = N) (h : Sx.St w0 F0 ([Sx.blk gt [.string (s0), .slice (A) (L.length) (c), .pointer pr] 68, Sx.row (Kd.int .u8) 5 (A) (c) (L), Pc.lib (Φ)] ++ R) w) : Calls Try.prog 45 #[.pointer (some ⟨gt, 0, none⟩), .pointer (Pc.AT.ptr T), .int .i64 k] w (fun e w1 => ∃ (T1 T2 : Pc.AT) (Φ2 : World → Prop), e = .returned (.tuple #[.pointer (Pc.AT.ptr T1), .pointer (Pc.AT.ptr T2)]) ∧ (∀ W, Φ2 W → Φ W) ∧ (∀ W, Φ2 W → Pc.At W T1) ∧ (∀ W, Φ2 W → Pc.At W T2) ∧ (Pc.AT.bal T1 ∧ Pc.AT.bal T2 ∧ Pc.Two s0 L (Pc.AT.fl T) (Pc.AT.fl T1) (Pc.AT.fl T2) k) ∧ Sx.St w0 F0 ([Sx.blk gt [.string (s0), .slice (A) (L.length) (c), .pointer pr] 68, Sx.row (Kd.int .u8) 5 (A) (c) (L), Pc.lib Φ2] ++ R) w1) := by
 refine Sx.calls_fn (vs := [.pointer (some ⟨gt, 0, none⟩), .pointer (Pc.AT.ptr T), .int .i64 (k)]) Try.func45 rfl Try.ntmps45 rfl ?_
 refine wc_seq ?_
 refine wc_region ?_
 refine wl_v rfl rfl (ov_assign _ rfl) ?_
 refine wl_v rfl rfl (ov_assign _ rfl) ?_
 refine wl_nil ?_
 refine qn_then ?_
 refine wc_seq ?_
 refine wc_seq ?_
 refine wc_region ?_
 refine wl_v rfl rfl (ov_move _ rfl) ?_
 refine wl_v rfl rfl (ov_bin _ rfl rfl (binR_eqnil Try.underlying66)) ?_
 refine wl_nil ?_
 refine qn_then ?_
 refine wc_cond (by rfl) (fun c1 => ?_) (fun c1 => ?_)
 ·
  obtain rfl := Pc.AT.ptr_none c1
  refine wc_seq ?_
  refine wc_region ?_
  refine wl_v rfl rfl (ov_assign _ rfl) ?_
  refine wl_v rfl rfl (ov_assign _ rfl) ?_
  refine wl_nil ?_
  refine qn_then ?_
  refine wc_ret ?_
  refine qn_then_ret ?_
  replace h := st_front 2 h
  replace h := st_front 2 h
  replace h := st_front 2 h
  refine qn_ret [_, _] ⟨rfl, rfl, trivial⟩ ?_
  exact ⟨Pc.AT.nil, Pc.AT.nil, _, rfl, fun W_ z_ => z_, (fun _ _ => trivial), (fun _ _ => trivial), ⟨trivial, trivial, (by have q_ : Pc.szF (Pc.AT.fl Pc.AT.nil) = 0 := rfl; rw [show k = 0 by omega]; exact Pc.two_nil)⟩, h⟩
 ·
  obtain ⟨g2, tl3, tp4, tr5, rfl⟩ := Pc.AT.ptr_some c1
  obtain ⟨hb1_, hb2_, hb3_, hb4_⟩ := hb
  obtain ⟨hw1_, hw2_, hw3_, hw4_⟩ := Pc.nd_facts hw
  have hcn_ : Pc.AT.cnt (Pc.AT.nd g2 tl3 tp4 tr5) = Pc.AT.cnt tl3 + 1 + Pc.AT.cnt tr5 := rfl
  have hz1_ := Pc.cat_size hw1_
  have hz2_ := Pc.tx_size hw2_
  have hz3_ := Pc.cat_size hw3_
  have hzz_ : Pc.szF (Pc.AT.fl (Pc.AT.nd g2 tl3 tp4 tr5)) = Pc.szF (Pc.AT.fl tl3) + (tp4).f2 + Pc.szF (Pc.AT.fl tr5) := by simp only [Pc.AT.fl]; rw [Pc.szF_app, Pc.szF_cons]; omega
  have hf1_ := hw2_.f0
  have hf2_ := hw2_.f1
  refine wc_skip ?_
  refine qn_then ?_
  refine wc_seq ?_
  refine wc_region ?_
  refine wl_v rfl rfl (ov_move _ rfl) ?_
  refine wl_v rfl rfl (ov_nilCheck _ rfl) ?_
  refine wl_v rfl rfl (ov_fieldAddr _ ⟨g2, 0, none⟩ _ rfl fo89_0 rfl) ?_
  refine wl_v rfl rfl (ov_load1 ⟨g2, 0, none⟩ _ rfl sh66 (((Pc.at_cell (hT _ (Pc.lib_now h (i := 2) rfl))) 0).trans rfl)) ?_
  replace h := st_front 2 h
  refine wl_call _ rfl rfl rfl ent39 (TR.bytes_calls (R := [Sx.blk gt [.string (s0), .slice (A) (L.length) (c), .pointer pr] 68, Sx.row (Kd.int .u8) 5 (A) (c) (L)] ++ R) (Φ) tl3 (fun W_ z_ => (hT W_ z_).2.1) h) ?_
  rintro e_ w_ ⟨rfl, h⟩
  refine ⟨_, rfl, ?_⟩
  refine wl_v rfl rfl (ov_assign _ rfl) ?_
  refine wl_nil ?_
  refine qn_then ?_
  refine wc_seq ?_
  refine wc_block ?_
  refine wc_seq ?_
  refine wc_region ?_
  refine wl_v rfl rfl (ov_move _ rfl) ?_
  refine wl_v rfl rfl (ov_move _ rfl) ?_
  refine wl_v rfl rfl (ov_bin _ rfl rfl (binR_leq)) ?_
  refine wl_v rfl rfl (ov_assign _ rfl) ?_
  refine wl_nil ?_
  refine qn_then ?_
  refine wc_cond (by rfl) (fun c6 => ?_) (fun c6 => ?_)
  ·
   refine wc_seq ?_
   refine wc_region ?_
   refine wl_v rfl rfl (ov_move _ rfl) ?_
   refine wl_v rfl rfl (ov_move _ rfl) ?_
   refine wl_v rfl rfl (ov_nilCheck _ rfl) ?_
   refine wl_v rfl rfl (ov_fieldAddr _ ⟨g2, 0, none⟩ _ rfl fo89_0 rfl) ?_
   refine wl_v rfl rfl (ov_load1 ⟨g2, 0, none⟩ _ rfl sh66 (((Pc.at_cell (hT _ (Pc.lib_now h (i := 0) rfl))) 0).trans rfl)) ?_
   refine wl_v rfl rfl (ov_move _ rfl) ?_
   replace h := st_front 2 h
   replace h := st_front 2 h
   refine wl_call _ rfl rfl rfl ent45 (ih (R := [] ++ R) gt (s0) (A) (c) (L) (pr) (Φ) tl3 (k) (by first | assumption | omega) (by first | assumption | omega) (fun W_ z_ => (hT W_ z_).2.1) hb1_ hw1_ (by omega) (by omega) (by omega) (by omega) h) ?_
   rintro e_ w_ ⟨T7, T8, Φ9, rfl, hsub10, hT11, hT12, ⟨hsb13, hsb14, htw15⟩, h⟩
   refine ⟨_, rfl, ?_⟩
   have hts16 := Pc.two_size htw15
   refine wl_v rfl rfl (ov_move _ rfl) ?_
   refine wl_v rfl rfl (ov_extract [.pointer (Pc.AT.ptr T7), .pointer (Pc.AT.ptr T8)] _ rfl rfl) ?_
   refine wl_v rfl rfl (ov_extract [.pointer (Pc.AT.ptr T7), .pointer (Pc.AT.ptr T8)] _ rfl rfl) ?_
   refine wl_v rfl rfl (ov_assign _ rfl) ?_
   refine wl_v rfl rfl (ov_assign _ rfl) ?_
   refine wl_nil ?_
   refine qn_then ?_
   refine wc_seq ?_
   refine wc_draw (fun w => Sx.St w0 F0 ([Sx.blk gt [.string (s0), .slice (A) (L.length) (c), .pointer pr] 68, Sx.row (Kd.int .u8) 5 (A) (c) (L), Pc.lib (Φ9)] ++ R) w) (by kernel_rfl) ?_
   replace h := st_drew h
   refine wa_tk 0 rfl rfl rfl (st_selT [true, true, true] h) (fun w_ hS => ov_move _ rfl) ?_
   refine wa_tk 1 rfl rfl rfl (st_selT [true, true, true] h) (fun w_ hS => ov_move _ rfl) ?_
   refine wa_tk 2 rfl rfl rfl (st_selT [true, true, true] h) (fun w_ hS => ov_move _ rfl) ?_
   refine wa_tk 3 rfl rfl rfl (st_selT [true, true, true] h) (fun w_ hS => ov_nilCheck _ rfl) ?_
   refine wa_tk 4 rfl rfl rfl (st_selT [true, true, true] h) (fun w_ hS => ov_fieldAddr _ ⟨g2, 2, none⟩ _ rfl fo89_2 rfl) ?_
   refine wa_tk 5 rfl rfl rfl (st_selT [true, true, true] h) (fun w_ hS => ov_loadN ⟨g2, 2, none⟩ [.bool ((tp4).f0), .int .i64 ((tp4).f1), .int .i64 ((tp4).f2), .int .i64 ((tp4).f3)] rfl sh77 (Sx.rob_cells ((Pc.at_cell ((fun W_ z_ => hT W_ (hsub10 W_ z_)) _ (Pc.lib_now hS (i := 2) rfl)))) 2 rfl)) ?_
   refine wa_tk 6 rfl rfl rfl (st_selT [true, true, true] h) (fun w_ hS => ov_move _ rfl) ?_
   refine wa_tk 7 rfl rfl rfl (st_selT [true, true, true] h) (fun w_ hS => ov_nilCheck _ rfl) ?_
   refine wa_tk 8 rfl rfl rfl (st_selT [true, true, true] h) (fun w_ hS => ov_fieldAddr _ ⟨g2, 1, none⟩ _ rfl fo89_1 rfl) ?_
   refine wa_tk 9 rfl rfl rfl (st_selT [true, true, true] h) (fun w_ hS => ov_load1 ⟨g2, 1, none⟩ _ rfl sh66 (((Pc.at_cell ((fun W_ z_ => hT W_ (hsub10 W_ z_)) _ (Pc.lib_now hS (i := 2) rfl))) 1).trans rfl)) ?_
   refine wa_one 10 rfl (by kernel_rfl) ?_
   replace h := st_front 2 h
   refine wl_call _ rfl rfl rfl ent48 (TJ.join_calls (R := [Sx.blk gt [.string (s0), .slice (A) (L.length) (c), .pointer pr] 68, Sx.row (Kd.int .u8) 5 (A) (c) (L)] ++ R) (Φ9) T8 tp4 tr5 hT12 (fun W_ z_ => (fun W_ z_ => (hT W_ z_).2.2) W_ (hsub10 W_ z_)) hsb14 hb2_ (Pc.sm_three htw15.wb hw2_ hw3_ (by omega)) h) ?_
   rintro e_ w_ ⟨T19, Φ20, rfl, hsub21, hT22, ⟨hjf17, hjb18⟩, h⟩
   refine ⟨_, rfl, ?_⟩
   refine wl_nil ?_
   refine qn_wa (Pc.lib_weakn 2 (fun W_ z_ => (hsub21 W_ z_)) (st_selT [true, true, true] (st_front 2 (st_front 2 h))) rfl) ?_
   refine wa_tk 11 rfl rfl rfl (Pc.lib_weakn 2 (fun W_ z_ => (hsub21 W_ z_)) (st_selT [true, true, true] (st_front 2 (st_front 2 h))) rfl) (fun w_ hS => ov_assign _ rfl) ?_
   refine wa_tk 12 rfl rfl rfl (Pc.lib_weakn 2 (fun W_ z_ => (hsub21 W_ z_)) (st_selT [true, true, true] (st_front 2 (st_front 2 h))) rfl) (fun w_ hS => ov_assign _ rfl) ?_
   refine wa_done (by kernel_rfl) ?_
   refine qn_then ?_
   refine wc_ret ?_
   refine qn_block_ret ?_
   refine qn_then_ret ?_
   replace h := st_front 2 h
   replace h := st_front 2 h
   refine qn_ret [_, _] ⟨rfl, rfl, trivial⟩ ?_
   exact ⟨T7, T19, _, rfl, fun W_ z_ => (hsub10 W_ (hsub21 W_ z_)), (fun W_ z_ => hT11 W_ (hsub21 W_ z_)), hT22, ⟨hsb13, hjb18, by rw [hjf17]; exact Pc.two_left htw15 hw2_ hw3_⟩, h⟩
  ·
   refine wc_seq ?_
   refine wc_region ?_
   refine wl_v rfl rfl (ov_move _ rfl) ?_
   refine wl_v rfl rfl (ov_move _ rfl) ?_
   refine wl_v rfl rfl (ov_move _ rfl) ?_
   refine wl_v rfl rfl (ov_nilCheck _ rfl) ?_
   refine wl_v rfl rfl (ov_fieldAddr _ ⟨g2, 2, none⟩ _ rfl fo89_2 rfl) ?_
   refine wl_v rfl rfl (ov_fieldAddr _ ⟨g2, 4, none⟩ _ rfl fo77_2 rfl) ?_
   refine wl_v rfl rfl (ov_load1 ⟨g2, 4, none⟩ _ rfl sh3 (((Pc.at_cell (hT _ (Pc.lib_now h (i := 0) rfl))) 4).trans rfl)) ?_
   refine wl_v rfl rfl (ov_bin _ rfl rfl (binR_add (r := (Pc.szF (Pc.AT.fl tl3)) + ((tp4).f2)) (Sx.w64 (by omega)))) ?_
   refine wl_v rfl rfl (ov_bin _ rfl rfl (binR_geq)) ?_
   refine wl_v rfl rfl (ov_assign _ rfl) ?_
   refine wl_nil ?_
   refine qn_then ?_
   refine wc_cond (by rfl) (fun c23 => ?_) (fun c23 => ?_)
   ·
    refine wc_seq ?_
    refine wc_draw (fun w => Sx.St w0 F0 ([Pc.lib (Φ), Sx.blk gt [.string (s0), .slice (A) (L.length) (c), .pointer pr] 68, Sx.row (Kd.int .u8) 5 (A) (c) (L)] ++ R) w) (by kernel_rfl) ?_
    replace h := st_drew h
    refine wa_tk 0 rfl rfl rfl (st_selT [true, true, true] h) (fun w_ hS => ov_move _ rfl) ?_
    refine wa_tk 1 rfl rfl rfl (st_selT [true, true, true] h) (fun w_ hS => ov_move _ rfl) ?_
    refine wa_tk 2 rfl rfl rfl (st_selT [true, true, true] h) (fun w_ hS => ov_nilCheck _ rfl) ?_
    refine wa_tk 3 rfl rfl rfl (st_selT [true, true, true] h) (fun w_ hS => ov_fieldAddr _ ⟨g2, 1, none⟩ _ rfl fo89_1 rfl) ?_
    refine wa_tk 4 rfl rfl rfl (st_selT [true, true, true] h) (fun w_ hS => ov_load1 ⟨g2, 1, none⟩ _ rfl sh66 (((Pc.at_cell (hT _ (Pc.lib_now hS (i := 0) rfl))) 1).trans rfl)) ?_
    refine wa_tk 5 rfl rfl rfl (st_selT [true, true, true] h) (fun w_ hS => ov_move _ rfl) ?_
    refine wa_tk 6 rfl rfl rfl (st_selT [true, true, true] h) (fun w_ hS => ov_move _ rfl) ?_
    refine wa_tk 7 rfl rfl rfl (st_selT [true, true, true] h) (fun w_ hS => ov_bin _ rfl rfl (binR_sub (r := k - (Pc.szF (Pc.AT.fl tl3))) (Sx.w64 (by omega)))) ?_
    refine wa_tk 8 rfl rfl rfl (st_selT [true, true, true] h) (fun w_ hS => ov_move _ rfl) ?_
    refine wa_tk 9 rfl rfl rfl (st_selT [true, true, true] h) (fun w_ hS => ov_nilCheck _ rfl) ?_
    refine wa_tk 10 rfl rfl rfl (st_selT [true, true, true] h) (fun w_ hS => ov_fieldAddr _ ⟨g2, 2, none⟩ _ rfl fo89_2 rfl) ?_
    refine wa_tk 11 rfl rfl rfl (st_selT [true, true, true] h) (fun w_ hS => ov_fieldAddr _ ⟨g2, 4, none⟩ _ rfl fo77_2 rfl) ?_
    refine wa_tk 12 rfl rfl rfl (st_selT [true, true, true] h) (fun w_ hS => ov_load1 ⟨g2, 4, none⟩ _ rfl sh3 (((Pc.at_cell (hT _ (Pc.lib_now hS (i := 0) rfl))) 4).trans rfl)) ?_
    refine wa_tk 13 rfl rfl rfl (st_selT [true, true, true] h) (fun w_ hS => ov_bin _ rfl rfl (binR_sub (r := (k - (Pc.szF (Pc.AT.fl tl3))) - ((tp4).f2)) (Sx.w64 (by omega)))) ?_
    refine wa_one 14 rfl (by kernel_rfl) ?_
    replace h := st_front 2 h
    replace h := st_front 2 h
    refine wl_call _ rfl rfl rfl ent45 (ih (R := [] ++ R) gt (s0) (A) (c) (L) (pr) (Φ) tr5 ((k - (Pc.szF (Pc.AT.fl tl3))) - ((tp4).f2)) (by first | assumption | omega) (by first | assumption | omega) (fun W_ z_ => (hT W_ z_).2.2) hb2_ hw3_ (by omega) (by omega) (by omega) (by omega) h) ?_
    rintro e_ w_ ⟨T24, T25, Φ26, rfl, hsub27, hT28, hT29, ⟨hsb30, hsb31, htw32⟩, h⟩
    refine ⟨_, rfl, ?_⟩
    have hts33 := Pc.two_size htw32
    refine wl_nil ?_
    refine qn_wa (Pc.lib_weakn 0 (fun W_ z_ => (hsub27 W_ z_)) (st_selT [true, true, true] (st_front 2 (st_front 1 (st_front 1 h)))) rfl) ?_
    refine wa_tk 15 rfl rfl rfl (Pc.lib_weakn 0 (fun W_ z_ => (hsub27 W_ z_)) (st_selT [true, true, true] (st_front 2 (st_front 1 (st_front 1 h)))) rfl) (fun w_ hS => ov_move _ rfl) ?_
    refine wa_tk 16 rfl rfl rfl (Pc.lib_weakn 0 (fun W_ z_ => (hsub27 W_ z_)) (st_selT [true, true, true] (st_front 2 (st_front 1 (st_front 1 h)))) rfl) (fun w_ hS => ov_extract [.pointer (Pc.AT.ptr T24), .pointer (Pc.AT.ptr T25)] _ rfl rfl) ?_
    refine wa_tk 17 rfl rfl rfl (Pc.lib_weakn 0 (fun W_ z_ => (hsub27 W_ z_)) (st_selT [true, true, true] (st_front 2 (st_front 1 (st_front 1 h)))) rfl) (fun w_ hS => ov_extract [.pointer (Pc.AT.ptr T24), .pointer (Pc.AT.ptr T25)] _ rfl rfl) ?_
    refine wa_tk 18 rfl rfl rfl (Pc.lib_weakn 0 (fun W_ z_ => (hsub27 W_ z_)) (st_selT [true, true, true] (st_front 2 (st_front 1 (st_front 1 h)))) rfl) (fun w_ hS => ov_assign _ rfl) ?_
    refine wa_tk 19 rfl rfl rfl (Pc.lib_weakn 0 (fun W_ z_ => (hsub27 W_ z_)) (st_selT [true, true, true] (st_front 2 (st_front 1 (st_front 1 h)))) rfl) (fun w_ hS => ov_assign _ rfl) ?_
    refine wa_done (by kernel_rfl) ?_
    refine qn_then ?_
    refine wc_seq ?_
    refine wc_draw (fun w => Sx.St w0 F0 ([Sx.blk gt [.string (s0), .slice (A) (L.length) (c), .pointer pr] 68, Sx.row (Kd.int .u8) 5 (A) (c) (L), Pc.lib (Φ26)] ++ R) w) (by kernel_rfl) ?_
    replace h := st_drew h
    refine wa_tk 0 rfl rfl rfl (st_selT [true, true, true] h) (fun w_ hS => ov_move _ rfl) ?_
    refine wa_tk 1 rfl rfl rfl (st_selT [true, true, true] h) (fun w_ hS => ov_nilCheck _ rfl) ?_
    refine wa_tk 2 rfl rfl rfl (st_selT [true, true, true] h) (fun w_ hS => ov_fieldAddr _ ⟨g2, 0, none⟩ _ rfl fo89_0 rfl) ?_
    refine wa_tk 3 rfl rfl rfl (st_selT [true, true, true] h) (fun w_ hS => ov_load1 ⟨g2, 0, none⟩ _ rfl sh66 (((Pc.at_cell ((fun W_ z_ => hT W_ (hsub27 W_ z_)) _ (Pc.lib_now hS (i := 2) rfl))) 0).trans rfl)) ?_
    refine wa_tk 4 rfl rfl rfl (st_selT [true, true, true] h) (fun w_ hS => ov_move _ rfl) ?_
    refine wa_tk 5 rfl rfl rfl (st_selT [true, true, true] h) (fun w_ hS => ov_nilCheck _ rfl) ?_
    refine wa_tk 6 rfl rfl rfl (st_selT [true, true, true] h) (fun w_ hS => ov_fieldAddr _ ⟨g2, 2, none⟩ _ rfl fo89_2 rfl) ?_
    refine wa_tk 7 rfl rfl rfl (st_selT [true, true, true] h) (fun w_ hS => ov_loadN ⟨g2, 2, none⟩ [.bool ((tp4).f0), .int .i64 ((tp4).f1), .int .i64 ((tp4).f2), .int .i64 ((tp4).f3)] rfl sh77 (Sx.rob_cells ((Pc.at_cell ((fun W_ z_ => hT W_ (hsub27 W_ z_)) _ (Pc.lib_now hS (i := 2) rfl)))) 2 rfl)) ?_
    refine wa_tk 8 rfl rfl rfl (st_selT [true, true, true] h) (fun w_ hS => ov_move _ rfl) ?_
    refine wa_tk 10 rfl rfl rfl (st_selT [true, true, true] h) (fun w_ hS => ov_move _ rfl) ?_
    refine wa_one 9 rfl (by kernel_rfl) ?_
    replace h := st_front 2 h
    refine wl_call _ rfl rfl rfl ent48 (TJ.join_calls (R := [Sx.blk gt [.string (s0), .slice (A) (L.length) (c), .pointer pr] 68, Sx.row (Kd.int .u8) 5 (A) (c) (L)] ++ R) (Φ26) tl3 tp4 T24 (fun W_ z_ => (fun W_ z_ => (hT W_ z_).2.1) W_ (hsub27 W_ z_)) hT28 hb1_ hsb30 (Pc.sm_three hw1_ hw2_ htw32.wa (by omega)) h) ?_
    rintro e_ w_ ⟨T36, Φ37, rfl, hsub38, hT39, ⟨hjf34, hjb35⟩, h⟩
    refine ⟨_, rfl, ?_⟩
    refine wl_nil ?_
    refine qn_wa (Pc.lib_weakn 2 (fun W_ z_ => (hsub38 W_ z_)) (st_selT [true, true, true] (st_front 2 (st_front 2 h))) rfl) ?_
    refine wa_tk 11 rfl rfl rfl (Pc.lib_weakn 2 (fun W_ z_ => (hsub38 W_ z_)) (st_selT [true, true, true] (st_front 2 (st_front 2 h))) rfl) (fun w_ hS => ov_assign _ rfl) ?_
    refine wa_tk 12 rfl rfl rfl (Pc.lib_weakn 2 (fun W_ z_ => (hsub38 W_ z_)) (st_selT [true, true, true] (st_front 2 (st_front 2 h))) rfl) (fun w_ hS => ov_assign _ rfl) ?_
    refine wa_done (by kernel_rfl) ?_
    refine qn_then ?_
    refine wc_ret ?_
    refine qn_block_ret ?_
    refine qn_then_ret ?_
    replace h := st_front 2 h
    replace h := st_front 2 h
    refine qn_ret [_, _] ⟨rfl, rfl, trivial⟩ ?_
    exact ⟨T36, T25, _, rfl, fun W_ z_ => (hsub27 W_ (hsub38 W_ z_)), hT39, (fun W_ z_ => hT29 W_ (hsub38 W_ z_)), ⟨hjb35, hsb31, by rw [hjf34]; exact Pc.two_right htw32 hw1_ hw2_ (by omega)⟩, h⟩
   ·
    refine wc_skip ?_
    refine qn_block_normal ?_
    refine qn_then ?_
    refine wc_seq ?_
    refine wc_region ?_
    refine wl_v rfl rfl (ov_move _ rfl) ?_
    refine wl_v rfl rfl (ov_move _ rfl) ?_
    refine wl_v rfl rfl (ov_nilCheck _ rfl) ?_
    refine wl_v rfl rfl (ov_fieldAddr _ ⟨g2, 2, none⟩ _ rfl fo89_2 rfl) ?_
    refine wl_v rfl rfl (ov_loadN ⟨g2, 2, none⟩ [.bool ((tp4).f0), .int .i64 ((tp4).f1), .int .i64 ((tp4).f2), .int .i64 ((tp4).f3)] rfl sh77 (Sx.rob_cells ((Pc.at_cell (hT _ (Pc.lib_now h (i := 0) rfl)))) 2 rfl)) ?_
    refine wl_v rfl rfl (ov_move _ rfl) ?_
    refine wl_v rfl rfl (ov_move _ rfl) ?_
    refine wl_v rfl rfl (ov_bin _ rfl rfl (binR_sub (r := k - (Pc.szF (Pc.AT.fl tl3))) (Sx.w64 (by omega)))) ?_
    replace h := st_front 2 h
    replace h := st_front 2 h
    refine wl_call _ rfl rfl rfl ent62 (TS.cut_calls (R := [Pc.lib (Φ)] ++ R) gt (s0) (A) (c) (L) (pr) tp4 (k - (Pc.szF (Pc.AT.fl tl3))) (by first | assumption | omega) (by first | assumption | omega) (hw2_) (by omega) (by omega) (Pc.wf_small hz0 hzL hw2_) h) ?_
    rintro e_ w_ ⟨qa40, qb41, rfl, hq42, h⟩
    refine ⟨_, rfl, ?_⟩
    refine wl_v rfl rfl (ov_move _ rfl) ?_
    refine wl_v rfl rfl (ov_extract [.agg #[.bool ((qa40).f0), .int .i64 ((qa40).f1), .int .i64 ((qa40).f2), .int .i64 ((qa40).f3)], .agg #[.bool ((qb41).f0), .int .i64 ((qb41).f1), .int .i64 ((qb41).f2), .int .i64 ((qb41).f3)]] _ rfl rfl) ?_
    refine wl_v rfl rfl (ov_extract [.agg #[.bool ((qa40).f0), .int .i64 ((qa40).f1), .int .i64 ((qa40).f2), .int .i64 ((qa40).f3)], .agg #[.bool ((qb41).f0), .int .i64 ((qb41).f1), .int .i64 ((qb41).f2), .int .i64 ((qb41).f3)]] _ rfl rfl) ?_
    refine wl_alloc _ h rfl rfl zo77 (fun b43 _ h => ?_)
    replace h : Sx.St _ _ (Sx.blk b43 [.bool false, .int .i64 (0), .int .i64 (0), .int .i64 (0)] 77 :: _) _ := h
    refine wl_alloc _ h rfl rfl zo77 (fun b44 _ h => ?_)
    replace h : Sx.St _ _ (Sx.blk b44 [.bool false, .int .i64 (0), .int .i64 (0), .int .i64 (0)] 77 :: _) _ := h
    refine wl_storebN 1 [.bool ((qa40).f0), .int .i64 ((qa40).f1), .int .i64 ((qa40).f2), .int .i64 ((qa40).f3)] [.bool ((qa40).f0), .int .i64 ((qa40).f1), .int .i64 ((qa40).f2), .int .i64 ((qa40).f3)] h rfl rfl rfl rfl (by simp [Value.oneCell']) sh77 rfl rfl (fun _ h => ?_)
    refine wl_storebN 0 [.bool ((qb41).f0), .int .i64 ((qb41).f1), .int .i64 ((qb41).f2), .int .i64 ((qb41).f3)] [.bool ((qb41).f0), .int .i64 ((qb41).f1), .int .i64 ((qb41).f2), .int .i64 ((qb41).f3)] h rfl rfl rfl rfl (by simp [Value.oneCell']) sh77 rfl rfl (fun _ h => ?_)
    refine wl_nil ?_
    refine qn_then ?_
    refine wc_seq ?_
    refine wc_draw (fun w => Sx.St w0 F0 ([Sx.blk b44 [.bool ((qb41).f0), .int .i64 ((qb41).f1), .int .i64 ((qb41).f2), .int .i64 ((qb41).f3)] 77, Sx.blk b43 [.bool ((qa40).f0), .int .i64 ((qa40).f1), .int .i64 ((qa40).f2), .int .i64 ((qa40).f3)] 77, Sx.blk gt [.string (s0), .slice (A) (L.length) (c), .pointer pr] 68, Sx.row (Kd.int .u8) 5 (A) (c) (L), Pc.lib (Φ)] ++ R) w) (by kernel_rfl) ?_
    replace h := st_drew h
    refine wa_tk 0 rfl rfl rfl (st_selT [true, true, true, true, true] h) (fun w_ hS => ov_move _ rfl) ?_
    refine wa_tk 1 rfl rfl rfl (st_selT [true, true, true, true, true] h) (fun w_ hS => ov_nilCheck _ rfl) ?_
    refine wa_tk 2 rfl rfl rfl (st_selT [true, true, true, true, true] h) (fun w_ hS => ov_fieldAddr _ ⟨g2, 0, none⟩ _ rfl fo89_0 rfl) ?_
    refine wa_tk 3 rfl rfl rfl (st_selT [true, true, true, true, true] h) (fun w_ hS => ov_load1 ⟨g2, 0, none⟩ _ rfl sh66 (((Pc.at_cell (hT _ (Pc.lib_now hS (i := 4) rfl))) 0).trans rfl)) ?_
    refine wa_tk 4 rfl rfl rfl (st_selT [true, true, true, true, true] h) (fun w_ hS => ov_loadbN 1 [.bool ((qa40).f0), .int .i64 ((qa40).f1), .int .i64 ((qa40).f2), .int .i64 ((qa40).f3)] hS rfl rfl sh77 rfl) ?_
    refine wa_tk 6 rfl rfl rfl (st_selT [true, true, true, true, true] h) (fun w_ hS => ov_loadbN 0 [.bool ((qb41).f0), .int .i64 ((qb41).f1), .int .i64 ((qb41).f2), .int .i64 ((qb41).f3)] hS rfl rfl sh77 rfl) ?_
    refine wa_tk 7 rfl rfl rfl (st_selT [true, true, true, true, true] h) (fun w_ hS => ov_move _ rfl) ?_
    refine wa_tk 8 rfl rfl rfl (st_selT [true, true, true, true, true] h) (fun w_ hS => ov_nilCheck _ rfl) ?_
    refine wa_tk 9 rfl rfl rfl (st_selT [true, true, true, true, true] h) (fun w_ hS => ov_fieldAddr _ ⟨g2, 1, none⟩ _ rfl fo89_1 rfl) ?_
    refine wa_tk 10 rfl rfl rfl (st_selT [true, true, true, true, true] h) (fun w_ hS => ov_load1 ⟨g2, 1, none⟩ _ rfl sh66 (((Pc.at_cell (hT _ (Pc.lib_now hS (i := 4) rfl))) 1).trans rfl)) ?_
    refine wa_one 5 rfl (by kernel_rfl) ?_
    replace h := st_front 4 h
    refine wl_call _ rfl rfl rfl ent48 (TJ.join_calls (R := [Sx.blk b44 [.bool ((qb41).f0), .int .i64 ((qb41).f1), .int .i64 ((qb41).f2), .int .i64 ((qb41).f3)] 77, Sx.blk b43 [.bool ((qa40).f0), .int .i64 ((qa40).f1), .int .i64 ((qa40).f2), .int .i64 ((qa40).f3)] 77, Sx.blk gt [.string (s0), .slice (A) (L.length) (c), .pointer pr] 68, Sx.row (Kd.int .u8) 5 (A) (c) (L)] ++ R) (Φ) tl3 qa40 Pc.AT.nil (fun W_ z_ => (hT W_ z_).2.1) (fun _ _ => trivial) hb1_ trivial (Pc.sm_three hw1_ hq42.1 Pc.wf_nil (by have q1_ := Pc.tx_size hq42.1; have q2_ := hq42.2.2.2; have q3_ : (Pc.cat s0 L (Pc.AT.fl Pc.AT.nil)).size = 0 := rfl; have q4_ : (Pc.cat s0 L []).size = 0 := rfl; omega)) h) ?_
    rintro e_ w_ ⟨T47, Φ48, rfl, hsub49, hT50, ⟨hjf45, hjb46⟩, h⟩
    refine ⟨_, rfl, ?_⟩
    refine wl_nil ?_
    refine qn_wa (Pc.lib_weakn 4 (fun W_ z_ => (hsub49 W_ z_)) (st_selT [true, true, true, true, true] (st_front 4 (st_front 4 (st_front 4 (st_front 4 h))))) rfl) ?_
    refine wa_one 11 rfl (by kernel_rfl) ?_
    refine wl_call _ rfl rfl rfl ent48 (TJ.join_calls (R := [Sx.blk b44 [.bool ((qb41).f0), .int .i64 ((qb41).f1), .int .i64 ((qb41).f2), .int .i64 ((qb41).f3)] 77, Sx.blk b43 [.bool ((qa40).f0), .int .i64 ((qa40).f1), .int .i64 ((qa40).f2), .int .i64 ((qa40).f3)] 77, Sx.blk gt [.string (s0), .slice (A) (L.length) (c), .pointer pr] 68, Sx.row (Kd.int .u8) 5 (A) (c) (L)] ++ R) (Φ48) Pc.AT.nil qb41 tr5 (fun W_ z_ => (fun _ _ => trivial) W_ (hsub49 W_ z_)) (fun W_ z_ => (fun W_ z_ => (hT W_ z_).2.2) W_ (hsub49 W_ z_)) trivial hb2_ (Pc.sm_three Pc.wf_nil hq42.2.1 hw3_ (by have q1_ := congrArg ByteArray.size hq42.2.2.1; rw [ByteArray.size_append] at q1_; have q3_ : (Pc.cat s0 L (Pc.AT.fl Pc.AT.nil)).size = 0 := rfl; have q4_ : (Pc.cat s0 L []).size = 0 := rfl; omega)) h) ?_
    rintro e_ w_ ⟨T53, Φ54, rfl, hsub55, hT56, ⟨hjf51, hjb52⟩, h⟩
    refine ⟨_, rfl, ?_⟩
    refine wl_nil ?_
    refine qn_wa (Pc.lib_weakn 4 (fun W_ z_ => (hsub49 W_ (hsub55 W_ z_))) (st_selT [true, true, true, true, true] (st_front 4 (st_front 4 (st_front 4 (st_front 4 h))))) rfl) ?_
    refine wa_tk 12 rfl rfl rfl (Pc.lib_weakn 4 (fun W_ z_ => (hsub49 W_ (hsub55 W_ z_))) (st_selT [true, true, true, true, true] (st_front 4 (st_front 4 (st_front 4 (st_front 4 h))))) rfl) (fun w_ hS => ov_assign _ rfl) ?_
    refine wa_tk 13 rfl rfl rfl (Pc.lib_weakn 4 (fun W_ z_ => (hsub49 W_ (hsub55 W_ z_))) (st_selT [true, true, true, true, true] (st_front 4 (st_front 4 (st_front 4 (st_front 4 h))))) rfl) (fun w_ hS => ov_assign _ rfl) ?_
    refine wa_done (by kernel_rfl) ?_
    refine qn_then ?_
    refine wc_ret ?_
    replace h := st_front 4 h
    replace h := st_front 4 h
    replace h := st_selT [true, true, true, false, false] h
    refine qn_ret [_, _] ⟨rfl, rfl, trivial⟩ ?_
    exact ⟨T47, T53, _, rfl, fun W_ z_ => (hsub49 W_ (hsub55 W_ z_)), (fun W_ z_ => hT50 W_ (hsub55 W_ z_)), hT56, ⟨hjb46, hjb52, by rw [hjf45, hjf51]; exact Pc.two_mid hw1_ hw3_ hq42.1 hq42.2.1 hq42.2.2.1 hq42.2.2.2 (by omega)⟩, h⟩
theorem split_calls {w0 w : World} {F0 : Nat → Prop} {R : List Sx.HP} (gt : Nat) (s0 : ByteArray) (A : Option Addr) (c : Nat) (L : List Int) (pr : Option Addr) (Φ : World → Prop) (T : Pc.AT) (k : Int) (hz0 : s0.size ≤ 1000000) (hzL : L.length ≤ 1000000) (hT : ∀ W, Φ W → Pc.At W T) (hb : Pc.AT.bal T) (hw : Pc.Wf s0 L (Pc.AT.fl T)) (hcs : (Pc.cat s0 L (Pc.AT.fl T)).size ≤ 150000) (hk0 : 0 ≤ k) (hk1 : k ≤ Pc.szF (Pc.AT.fl T)) (h : Sx.St w0 F0 ([Sx.blk gt [.string (s0), .slice (A) (L.length) (c), .pointer pr] 68, Sx.row (Kd.int .u8) 5 (A) (c) (L), Pc.lib (Φ)] ++ R) w) : Calls Try.prog 45 #[.pointer (some ⟨gt, 0, none⟩), .pointer (Pc.AT.ptr T), .int .i64 k] w (fun e w1 => ∃ (T1 T2 : Pc.AT) (Φ2 : World → Prop), e = .returned (.tuple #[.pointer (Pc.AT.ptr T1), .pointer (Pc.AT.ptr T2)]) ∧ (∀ W, Φ2 W → Φ W) ∧ (∀ W, Φ2 W → Pc.At W T1) ∧ (∀ W, Φ2 W → Pc.At W T2) ∧ (Pc.AT.bal T1 ∧ Pc.AT.bal T2 ∧ Pc.Two s0 L (Pc.AT.fl T) (Pc.AT.fl T1) (Pc.AT.fl T2) k) ∧ Sx.St w0 F0 ([Sx.blk gt [.string (s0), .slice (A) (L.length) (c), .pointer pr] 68, Sx.row (Kd.int .u8) 5 (A) (c) (L), Pc.lib Φ2] ++ R) w1) := by
  have key : ∀ (N : Nat) {w0 w : World} {F0 : Nat → Prop} {R : List Sx.HP} (gt : Nat) (s0 : ByteArray) (A : Option Addr) (c : Nat) (L : List Int) (pr : Option Addr) (Φ : World → Prop) (T : Pc.AT) (k : Int) (hz0 : s0.size ≤ 1000000) (hzL : L.length ≤ 1000000) (hT : ∀ W, Φ W → Pc.At W T) (hb : Pc.AT.bal T) (hw : Pc.Wf s0 L (Pc.AT.fl T)) (hcs : (Pc.cat s0 L (Pc.AT.fl T)).size ≤ 150000) (hk0 : 0 ≤ k) (hk1 : k ≤ Pc.szF (Pc.AT.fl T)) (hN : Pc.AT.cnt T < N) (h : Sx.St w0 F0 ([Sx.blk gt [.string (s0), .slice (A) (L.length) (c), .pointer pr] 68, Sx.row (Kd.int .u8) 5 (A) (c) (L), Pc.lib (Φ)] ++ R) w), Calls Try.prog 45 #[.pointer (some ⟨gt, 0, none⟩), .pointer (Pc.AT.ptr T), .int .i64 k] w (fun e w1 => ∃ (T1 T2 : Pc.AT) (Φ2 : World → Prop), e = .returned (.tuple #[.pointer (Pc.AT.ptr T1), .pointer (Pc.AT.ptr T2)]) ∧ (∀ W, Φ2 W → Φ W) ∧ (∀ W, Φ2 W → Pc.At W T1) ∧ (∀ W, Φ2 W → Pc.At W T2) ∧ (Pc.AT.bal T1 ∧ Pc.AT.bal T2 ∧ Pc.Two s0 L (Pc.AT.fl T) (Pc.AT.fl T1) (Pc.AT.fl T2) k) ∧ Sx.St w0 F0 ([Sx.blk gt [.string (s0), .slice (A) (L.length) (c), .pointer pr] 68, Sx.row (Kd.int .u8) 5 (A) (c) (L), Pc.lib Φ2] ++ R) w1) := by
    intro N
    induction N with
    | zero => intro w0 w F0 R gt s0 A c L pr Φ T k hz0 hzL hT hb hw hcs hk0 hk1 hN; omega
    | succ N ih =>
      intro w0 w F0 R gt s0 A c L pr Φ T k hz0 hzL hT hb hw hcs hk0 hk1 hN h
      exact split_step (Pc.AT.cnt T) (fun gt s0 A c L pr Φ T k hz0 hzL hT hb hw hcs hk0 hk1 hN2 h => ih gt s0 A c L pr Φ T k hz0 hzL hT hb hw hcs hk0 hk1 (by omega) h) gt s0 A c L pr Φ T k hz0 hzL hT hb hw hcs hk0 hk1 rfl h
  exact key (Pc.AT.cnt T + 1) gt s0 A c L pr Φ T k hz0 hzL hT hb hw hcs hk0 hk1 (by omega) h
end Go.Proofs.Ytieieindakbpoaa.TS
