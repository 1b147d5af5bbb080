/- Pruned by wip/prune.py. -/
import Derived.Test.YtieieindakbpoaaProg
import Derived.Test.YtieieindakbpoaaQSxGlue
import Derived.Test.YtieieindakbpoaaQSxRanged
import Derived.Test.YtieieindakbpoaaQSxRange1
import Derived.Test.YtieieindakbpoaaQSxFlow
import Derived.Test.YtieieindakbpoaaQSxBytes
import Derived.Test.YtieieindakbpoaaQSxKinds
import Derived.Test.YtieieindakbpoaaQPcText
import Derived.Test.YtieieindakbpoaaQPcWalk
import Derived.Test.YtieieindakbpoaaQPcRead
import Derived.Test.YtieieindakbpoaaQSxTree
import Derived.Test.YtieieindakbpoaaQSxRunes
import Derived.Test.YtieieindakbpoaaQSxLast
import Derived.Test.YtieieindakbpoaaQSxWalk
import Derived.Test.YtieieindakbpoaaQSxChunks
import Derived.Test.YtieieindakbpoaaQPcTx
import Derived.Test.YtieieindakbpoaaQSxRead
import Derived.Test.YtieieindakbpoaaQSxSplitR
import Derived.Test.YtieieindakbpoaaQSxString
import Derived.Test.YtieieindakbpoaaQSxText
import Derived.Test.YtieieindakbpoaaQSxEdit
import Derived.Test.YtieieindakbpoaaQSxWhole
import Derived.Test.YtieieindakbpoaaQPcEdit
namespace Go.Proofs.Ytieieindakbpoaa.PD
open Go Go.RowKit Go.Proofs.YtieieindakbpoaaW.PrintWords Go.Proofs.Ytieieindakbpoaa.Kinds Go.Proofs.Ytieieindakbpoaa.Given Go.Proofs.Ytieieindakbpoaa.Rn Go.Proofs.Ytieieindakbpoaa.Sx Go.Proofs.Ytieieindakbpoaa.Pc 
set_option linter.unusedVariables false
set_option linter.unusedSimpArgs false
theorem ent14 : Sx.Ent Try.prog 14 := ⟨Try.f14, Try.func14, by kernel_rfl, by kernel_rfl⟩
theorem fo48_0 : Sx.fieldOff Try.prog 48 0 = some 0 := by kernel_rfl
theorem sh4 : Sx.shapeOf Try.prog 4 = some (false, 1) := by kernel_rfl
theorem fo48_1 : Sx.fieldOff Try.prog 48 1 = some 1 := by kernel_rfl
theorem sh3 : Sx.shapeOf Try.prog 3 = some (false, 1) := by kernel_rfl
theorem fo48_2 : Sx.fieldOff Try.prog 48 2 = some 2 := by kernel_rfl
theorem ent50 : Sx.Ent Try.prog 50 := ⟨Try.f50, Try.func50, by kernel_rfl, by kernel_rfl⟩
theorem ent28 : Sx.Ent Try.prog 28 := ⟨Try.f28, Try.func28, by kernel_rfl, by kernel_rfl⟩
theorem fo48_3 : Sx.fieldOff Try.prog 48 3 = some 3 := by kernel_rfl
theorem sh9 : Sx.shapeOf Try.prog 9 = some (false, 1) := by kernel_rfl
theorem ent51 : Sx.Ent Try.prog 51 := ⟨Try.f51, Try.func51, by kernel_rfl, by kernel_rfl⟩
theorem ent25 : Sx.Ent Try.prog 25 := ⟨Try.f25, Try.func25, by kernel_rfl, by kernel_rfl⟩
theorem ent13 : Sx.Ent Try.prog 13 := ⟨Try.f13, Try.func13, by kernel_rfl, by kernel_rfl⟩
theorem es30 : Sx.elemSz Try.prog 30 = some (48, 4) := by kernel_rfl
theorem sh48 : Sx.shapeOf Try.prog 48 = some (true, 4) := by kernel_rfl
theorem ent27 : Sx.Ent Try.prog 27 := ⟨Try.f27, Try.func27, by kernel_rfl, by kernel_rfl⟩
set_option maxHeartbeats 4000000 in
set_option maxRecDepth 100000 in
theorem right_calls {w0 w : World} {F0 : Nat → Prop} {R : List Sx.HP} (s : ByteArray)  (h : Sx.St w0 F0 ([] ++ R) w) : Calls Try.prog 17 #[.string (s)] w (fun e w1 => e = .returned (.bool (decide (s.size ≤ 4096 ∧ (refV s).2 < 0))) ∧ Sx.St w0 F0 ([] ++ R) w1) := by
 refine Sx.calls_fn (vs := [.string (s)]) Try.func17 rfl Try.ntmps17 rfl ?_
 refine wc_seq ?_
 refine wc_region ?_
 refine wl_v rfl rfl (ov_assign _ rfl) ?_
 refine wl_nil ?_
 refine qn_then ?_
 refine wc_seq ?_
 refine wc_region ?_
 refine wl_v rfl rfl (ov_move _ rfl) ?_
 refine wl_v rfl rfl (ov_lens _ rfl Try.underlying9) ?_
 refine wl_v rfl rfl (ov_bin _ rfl rfl (binR_leq)) ?_
 refine wl_v rfl rfl (ov_move _ rfl) ?_
 refine wl_split 6 rfl (fun c1 => ?_) (fun c1 => ?_)
 ·
  refine wl_v rfl rfl (ov_move _ rfl) ?_
  refine wl_call _ rfl rfl rfl ent14 (RN.Right_calls (R := [] ++ R) s (by omega) h) ?_
  rintro e_ w_ ⟨rfl, h⟩
  refine ⟨_, rfl, ?_⟩
  refine wl_v rfl rfl (ov_pick_true _ rfl rfl) ?_
  refine wl_v rfl rfl (ov_assign _ rfl) ?_
  refine wl_nil ?_
  refine qn_then ?_
  refine wc_ret ?_
  refine qn_ret [_] ⟨rfl, trivial⟩ ?_
  exact ⟨congrArg (fun z => Ending.returned (Value.bool z)) (by rw [Bool.eq_iff_iff]; simp; omega), h⟩
 ·
  refine wl_skip rfl rfl ?_
  refine wl_skip rfl rfl ?_
  refine wl_v rfl rfl (ov_pick_false _ rfl rfl) ?_
  refine wl_v rfl rfl (ov_assign _ rfl) ?_
  refine wl_nil ?_
  refine qn_then ?_
  refine wc_ret ?_
  refine qn_ret [_] ⟨rfl, trivial⟩ ?_
  exact ⟨congrArg (fun z => Ending.returned (Value.bool z)) (by rw [Bool.eq_iff_iff]; simp; omega), h⟩
set_option maxHeartbeats 4000000 in
set_option maxRecDepth 100000 in
theorem edit_calls {w0 w : World} {F0 : Nat → Prop} {R : List Sx.HP} (Φ : World → Prop) (g : Nat) (D : List ByteArray) (d : Int) (o : S48) (ho : o.f3.size ≤ 17592186044416) (h : Sx.St w0 F0 ([Pc.tx Φ g D d, Pc.lib Φ] ++ R) w) : Calls Try.prog 27 #[.pointer (some ⟨g, 0, none⟩), .string (Pc.catB D), .agg #[.bool ((o).f0), .int .i64 ((o).f1), .int .i64 ((o).f2), .string ((o).f3)]] w (fun e w1 => ∃ (D2 : List ByteArray) (d2 : Int) (Φ2 : World → Prop), e = .returned (.tuple #[.string (PE.edT (Pc.catB D) o), .bool true]) ∧ (∀ W, Φ2 W → Φ W) ∧ (Pc.catB D2 = PE.edT (Pc.catB D) o ∧ D2.length ≤ D.length + 2) ∧ Sx.St w0 F0 ([Pc.tx Φ2 g D2 d2, Pc.lib Φ2] ++ R) w1) := by
 have hfc_ := (Pc.tx_facts h).size
 refine Sx.calls_fn (vs := [.pointer (some ⟨g, 0, none⟩), .string (Pc.catB D), .agg #[.bool ((o).f0), .int .i64 ((o).f1), .int .i64 ((o).f2), .string ((o).f3)]]) Try.func27 rfl Try.ntmps27 rfl ?_
 refine wc_seq ?_
 refine wc_region ?_
 refine wl_box _ h rfl rfl rfl (fun b1 _ h => ?_)
 replace h : Sx.St _ _ (Sx.blk b1 [.bool ((o).f0), .int .i64 ((o).f1), .int .i64 ((o).f2), .string ((o).f3)] 48 :: _) _ := h
 refine wl_v rfl rfl (ov_assign _ rfl) ?_
 refine wl_v rfl rfl (ov_assign _ rfl) ?_
 refine wl_nil ?_
 refine qn_then ?_
 refine wc_seq ?_
 refine wc_seq ?_
 refine wc_region ?_
 refine wl_v rfl rfl (ov_fieldAddr _ ⟨b1, 0, none⟩ _ rfl fo48_0 rfl) ?_
 refine wl_v rfl rfl (ov_loadb 0 _ h rfl rfl sh4 rfl) ?_
 refine wl_nil ?_
 refine qn_then ?_
 refine wc_condb (by rfl) (fun c2 => ?_) (fun c2 => ?_)
 ·
  refine wc_seq ?_
  refine wc_region ?_
  refine wl_v rfl rfl (ov_move _ rfl) ?_
  refine wl_v rfl rfl (ov_fieldAddr _ ⟨b1, 1, none⟩ _ rfl fo48_1 rfl) ?_
  refine wl_v rfl rfl (ov_loadb 0 _ h rfl rfl sh3 rfl) ?_
  refine wl_v rfl rfl (ov_fieldAddr _ ⟨b1, 2, none⟩ _ rfl fo48_2 rfl) ?_
  refine wl_v rfl rfl (ov_loadb 0 _ h rfl rfl sh3 rfl) ?_
  refine wl_call _ rfl rfl rfl ent50 (WH.refDelete_calls (R := [Sx.blk b1 [.bool ((o).f0), .int .i64 ((o).f1), .int .i64 ((o).f2), .string ((o).f3)] 48, Pc.tx (Φ) g (D) (d), Pc.lib (Φ)] ++ R) (Pc.catB D) ((o).f1) ((o).f2) (by omega) h) ?_
  rintro e_ w_ ⟨rfl, h⟩
  refine ⟨_, rfl, ?_⟩
  refine wl_v rfl rfl (ov_move _ rfl) ?_
  refine wl_v rfl rfl (ov_extract [.string (ED.delT (Pc.catB D) ((o).f1) ((o).f2)), .int .i64 (RD.pspan (Pc.catB D) ((o).f1) ((o).f2))] _ rfl rfl) ?_
  refine wl_v rfl rfl (ov_extract [.string (ED.delT (Pc.catB D) ((o).f1) ((o).f2)), .int .i64 (RD.pspan (Pc.catB D) ((o).f1) ((o).f2))] _ rfl rfl) ?_
  refine wl_v rfl rfl (ov_assign _ rfl) ?_
  refine wl_v rfl rfl (ov_assign _ rfl) ?_
  refine wl_nil ?_
  refine qn_then ?_
  refine wc_seq ?_
  refine wc_region ?_
  refine wl_v rfl rfl (ov_move _ rfl) ?_
  refine wl_v rfl rfl (ov_move _ rfl) ?_
  refine wl_v rfl rfl (ov_fieldAddr _ ⟨b1, 1, none⟩ _ rfl fo48_1 rfl) ?_
  refine wl_v rfl rfl (ov_loadb 0 _ h rfl rfl sh3 rfl) ?_
  refine wl_v rfl rfl (ov_fieldAddr _ ⟨b1, 2, none⟩ _ rfl fo48_2 rfl) ?_
  refine wl_v rfl rfl (ov_loadb 0 _ h rfl rfl sh3 rfl) ?_
  replace h := st_front 2 h
  replace h := st_front 2 h
  refine wl_call _ rfl rfl rfl ent28 (ED.Delete_calls (R := [Sx.blk b1 [.bool ((o).f0), .int .i64 ((o).f1), .int .i64 ((o).f2), .string ((o).f3)] 48] ++ R) (Φ) g (D) (d) ((o).f1) ((o).f2) h) ?_
  rintro e_ w_ ⟨D3, d4, Φ5, rfl, hsub6, ⟨hD7, hDl8⟩, h⟩
  refine ⟨_, rfl, ?_⟩
  refine wl_v rfl rfl (ov_move _ rfl) ?_
  refine wl_v rfl rfl (ov_bin _ rfl rfl (binR_eql)) ?_
  refine wl_v rfl rfl (ov_assign _ rfl) ?_
  refine wl_v rfl rfl (ov_assign _ rfl) ?_
  refine wl_nil ?_
  refine qn_then ?_
  refine wc_ret ?_
  refine qn_then_ret ?_
  refine qn_ret [_, _] ⟨rfl, rfl, trivial⟩ ?_
  replace h := st_front 1 h
  replace h := st_front 1 h
  replace h := st_selT [true, true, false] h
  have et_ : PE.edT (Pc.catB D) o = _ := PE.ed_del c2
  have eb_ : (decide ((RD.pspan (Pc.catB D) ((o).f1) ((o).f2) : Int) = (RD.pspan (Pc.catB D) ((o).f1) ((o).f2)))) = true := by first | exact decide_eq_true rfl | rfl
  rw [eb_, et_]
  exact ⟨D3, d4, Φ5, rfl, fun W_ z_ => (hsub6 W_ z_), ⟨hD7, hDl8⟩, h⟩
 ·
  refine wc_skip ?_
  refine qn_then ?_
  refine wc_seq ?_
  refine wc_region ?_
  refine wl_v rfl rfl (ov_move _ rfl) ?_
  refine wl_v rfl rfl (ov_fieldAddr _ ⟨b1, 1, none⟩ _ rfl fo48_1 rfl) ?_
  refine wl_v rfl rfl (ov_loadb 0 _ h rfl rfl sh3 rfl) ?_
  refine wl_v rfl rfl (ov_fieldAddr _ ⟨b1, 3, none⟩ _ rfl fo48_3 rfl) ?_
  refine wl_v rfl rfl (ov_loadb 0 _ h rfl rfl sh9 rfl) ?_
  refine wl_call _ rfl rfl rfl ent51 (WH.refInsert_calls (R := [Sx.blk b1 [.bool ((o).f0), .int .i64 ((o).f1), .int .i64 ((o).f2), .string ((o).f3)] 48, Pc.tx (Φ) g (D) (d), Pc.lib (Φ)] ++ R) (Pc.catB D) ((o).f1) ((o).f3) (by omega) (by omega) h) ?_
  rintro e_ w_ ⟨rfl, h⟩
  refine ⟨_, rfl, ?_⟩
  refine wl_v rfl rfl (ov_move _ rfl) ?_
  refine wl_v rfl rfl (ov_extract [.string (ED.insT (Pc.catB D) ((o).f1) ((o).f3)), .int .i64 (ED.pins (Pc.catB D) ((o).f1) ((o).f3))] _ rfl rfl) ?_
  refine wl_v rfl rfl (ov_extract [.string (ED.insT (Pc.catB D) ((o).f1) ((o).f3)), .int .i64 (ED.pins (Pc.catB D) ((o).f1) ((o).f3))] _ rfl rfl) ?_
  refine wl_v rfl rfl (ov_assign _ rfl) ?_
  refine wl_v rfl rfl (ov_assign _ rfl) ?_
  refine wl_nil ?_
  refine qn_then ?_
  refine wc_seq ?_
  refine wc_region ?_
  refine wl_v rfl rfl (ov_move _ rfl) ?_
  refine wl_v rfl rfl (ov_move _ rfl) ?_
  refine wl_v rfl rfl (ov_fieldAddr _ ⟨b1, 1, none⟩ _ rfl fo48_1 rfl) ?_
  refine wl_v rfl rfl (ov_loadb 0 _ h rfl rfl sh3 rfl) ?_
  refine wl_v rfl rfl (ov_fieldAddr _ ⟨b1, 3, none⟩ _ rfl fo48_3 rfl) ?_
  refine wl_v rfl rfl (ov_loadb 0 _ h rfl rfl sh9 rfl) ?_
  replace h := st_front 2 h
  replace h := st_front 2 h
  refine wl_call _ rfl rfl rfl ent25 (ED.Insert_calls (R := [Sx.blk b1 [.bool ((o).f0), .int .i64 ((o).f1), .int .i64 ((o).f2), .string ((o).f3)] 48] ++ R) (Φ) g (D) (d) ((o).f1) ((o).f3) (by omega) h) ?_
  rintro e_ w_ ⟨D9, d10, Φ11, rfl, hsub12, ⟨hD13, hDl14⟩, h⟩
  refine ⟨_, rfl, ?_⟩
  refine wl_v rfl rfl (ov_move _ rfl) ?_
  refine wl_v rfl rfl (ov_bin _ rfl rfl (binR_eql)) ?_
  refine wl_v rfl rfl (ov_assign _ rfl) ?_
  refine wl_v rfl rfl (ov_assign _ rfl) ?_
  refine wl_nil ?_
  refine qn_then ?_
  refine wc_ret ?_
  refine qn_ret [_, _] ⟨rfl, rfl, trivial⟩ ?_
  replace h := st_front 1 h
  replace h := st_front 1 h
  replace h := st_selT [true, true, false] h
  have et_ : PE.edT (Pc.catB D) o = _ := PE.ed_ins (by rw [c2]; decide)
  have eb_ : (decide ((ED.pins (Pc.catB D) ((o).f1) ((o).f3) : Int) = (ED.pins (Pc.catB D) ((o).f1) ((o).f3)))) = true := by first | exact decide_eq_true rfl | rfl
  rw [eb_, et_]
  exact ⟨D9, d10, Φ11, rfl, fun W_ z_ => (hsub12 W_ z_), ⟨hD13, hDl14⟩, h⟩
set_option maxHeartbeats 4000000 in
set_option maxRecDepth 100000 in
theorem played_calls {w0 w : World} {F0 : Nat → Prop} {R : List Sx.HP} (s : ByteArray) (A : Option Addr) (c : Nat) (l : List S48) (hs9 : s.size ≤ 1125899906842624) (hnew_ : TX.newV s = 0) (hop : ∀ o ∈ l, o.f3.size ≤ 17592186044416) (hll : l.length ≤ 1125899906842624) (hlc : l.length ≤ c) (hv : ∀ cs_ w_, Sx.St w0 F0 (cs_ ++ R) w_ → k48.C w_ A l.length l) (h : Sx.St w0 F0 ([] ++ R) w) : Calls Try.prog 18 #[.string (s), .slice (A) (l.length) (c)] w (fun e w1 => ∃ (g : Nat) (D : List ByteArray) (d : Int) (Φ : World → Prop), e = .returned (.tuple #[.pointer (some ⟨g, 0, none⟩), .string (Pc.catB D), .int .i64 ((min l.length 60 : Nat) : Int)]) ∧ Pc.catB D = PE.playT s (l.take (min l.length 60)) ∧ D.length ≤ 2 * min l.length 60 + 1 ∧ Sx.St w0 F0 ([Pc.tx Φ g D d, Pc.lib Φ] ++ R) w1) := by
 refine Sx.calls_fn (vs := [.string (s), .slice (A) (l.length) (c)]) Try.func18 rfl Try.ntmps18 rfl ?_
 refine wc_seq ?_
 refine wc_region ?_
 refine wl_v rfl rfl (ov_assign _ rfl) ?_
 refine wl_v rfl rfl (ov_assign _ rfl) ?_
 refine wl_v rfl rfl (ov_assign _ rfl) ?_
 refine wl_nil ?_
 refine qn_then ?_
 refine wc_seq ?_
 refine wc_region ?_
 refine wl_v rfl rfl (ov_move _ rfl) ?_
 refine wl_call _ rfl rfl rfl ent13 (TX.New_calls (R := [] ++ R) s h) ?_
 rintro e_ w_ (⟨hnw7, _, _⟩ | ⟨hnw7, g1, D2, d3, Φ4, rfl, hD5, hDl6, h⟩)
 · exact absurd hnew_ hnw7
 refine ⟨_, rfl, ?_⟩
 replace h : Sx.St w0 F0 ([Pc.tx (Φ4) g1 (D2) (d3), Pc.lib (Φ4)] ++ R) _ := h
 refine wl_v rfl rfl (ov_move _ rfl) ?_
 refine wl_v rfl rfl (ov_extract [.pointer (some ⟨g1, 0, none⟩), .int .i64 (0)] _ rfl rfl) ?_
 refine wl_v rfl rfl (ov_extract [.pointer (some ⟨g1, 0, none⟩), .int .i64 (0)] _ rfl rfl) ?_
 refine wl_v rfl rfl (ov_assign _ rfl) ?_
 refine wl_v rfl rfl (ov_assign _ rfl) ?_
 refine wl_nil ?_
 refine qn_then ?_
 refine wc_seq ?_
 refine wc_seq ?_
 refine wc_region ?_
 refine wl_v rfl rfl (ov_move _ rfl) ?_
 refine wl_v rfl rfl (ov_bin (.bool false) rfl rfl (binR_neq)) ?_
 refine wl_v rfl rfl (ov_move _ rfl) ?_
 refine wl_v rfl rfl (ov_move _ rfl) ?_
 refine wl_v rfl rfl (ov_bin (.bool false) rfl rfl (binR_eqnil Try.underlying23)) ?_
 refine wl_v rfl rfl (ov_pick_false _ rfl rfl) ?_
 refine wl_nil ?_
 refine qn_then ?_
 refine wc_cond_false rfl ?_
 refine wc_skip ?_
 refine qn_then ?_
 refine wc_seq ?_
 refine wc_region ?_
 refine wl_v rfl rfl (ov_assign _ rfl) ?_
 refine wl_nil ?_
 refine qn_then ?_
 refine wc_seq ?_
 refine wc_seq ?_
 refine wc_region ?_
 refine wl_v rfl rfl (ov_assign _ rfl) ?_
 refine wl_nil ?_
 refine qn_then ?_
 refine wc_block ?_
 replace h := st_front 1 h
 replace h := st_front 1 h
 refine wc_loop (fun (x_ : Nat × (List ByteArray) × Int × (World → Prop)) => [(0, .string (Pc.catB x_.2.1)), (1, .slice (A) (l.length) (c)), (7, .pointer (some ⟨g1, 0, none⟩)), (9, .int .i64 (((x_.1 : Nat) : Int))), (10, .int .i64 (((x_.1 : Nat) : Int)))]) (fun (x_ : Nat × (List ByteArray) × Int × (World → Prop)) (w : World) => (x_.1 ≤ l.length ∧ x_.1 ≤ 60 ∧ Pc.catB x_.2.1 = PE.playT s (l.take x_.1) ∧ x_.2.1.length ≤ 2 * x_.1 + 1) ∧ Sx.St w0 F0 ([Pc.tx (x_.2.2.2) g1 (x_.2.1) (x_.2.2.1), Pc.lib (x_.2.2.2)] ++ R) w) (fun (x_ : Nat × (List ByteArray) × Int × (World → Prop)) => 61 - x_.1) (0, D2, d3, Φ4) ?_ ?_ ?_
 · exact ⟨(congrArg (fun z_ => some (Value.string z_)) hD5.symm), rfl, rfl, (congrArg (fun z_ => some (Value.int .i64 z_)) (show (0 : Int) = ((0 : Nat) : Int) by omega)), (congrArg (fun z_ => some (Value.int .i64 z_)) (show (0 : Int) = ((0 : Nat) : Int) by omega)), trivial⟩
 · exact ⟨⟨Nat.zero_le _, Nat.zero_le _, by rw [hD5]; rfl, by omega⟩, h⟩
 rintro ⟨i, D, d, Φ⟩ w h
 obtain ⟨hJ, h⟩ := h
 replace hJ : i ≤ l.length ∧ i ≤ 60 ∧ Pc.catB D = PE.playT s (l.take i) ∧ D.length ≤ 2 * i + 1 := hJ
 replace h : Sx.St w0 F0 ([Pc.tx (Φ) g1 (D) (d), Pc.lib (Φ)] ++ R) w := h
 show Sx.WC _ _ _ _ [(0, .string (Pc.catB D)), (1, .slice (A) (l.length) (c)), (7, .pointer (some ⟨g1, 0, none⟩)), (9, .int .i64 (((i : Nat) : Int))), (10, .int .i64 (((i : Nat) : Int)))] _
 refine wc_seq ?_
 refine wc_seq ?_
 refine wc_region ?_
 refine wl_v rfl rfl (ov_move _ rfl) ?_
 refine wl_v rfl rfl (ov_move _ rfl) ?_
 refine wl_v rfl rfl (ov_len _ _ _ _ _ rfl es30) ?_
 refine wl_v rfl rfl (ov_bin _ rfl rfl (binR_lss)) ?_
 refine wl_v rfl rfl (ov_move _ rfl) ?_
 refine wl_split 28 rfl (fun c8 => ?_) (fun c8 => ?_)
 ·
  refine wl_v rfl rfl (ov_move _ rfl) ?_
  refine wl_v rfl rfl (ov_bin _ rfl rfl (binR_lss)) ?_
  refine wl_v rfl rfl (ov_pick_true _ rfl rfl) ?_
  refine wl_nil ?_
  refine qn_then ?_
  refine wc_cond (by rfl) (fun c9 => ?_) (fun c9 => ?_)
  ·
   refine wc_skip ?_
   refine qn_then ?_
   refine wc_seq ?_
   refine wc_block ?_
   refine wc_seq ?_
   refine wc_region ?_
   refine wl_v rfl rfl (ov_move _ rfl) ?_
   refine wl_v rfl rfl (ov_move _ rfl) ?_
   refine wl_v rfl rfl (ov_move _ rfl) ?_
   refine wl_v rfl rfl (ov_move _ rfl) ?_
   obtain ⟨ad10, rfl⟩ := Sx.C_some ((hv [_, _] _ h)) (k := (i : Nat)) (by first | assumption | omega)
   refine wl_v rfl rfl (ov_indexAddrN _ _ _ _ _ (i : Nat) rfl rfl es30 rfl (by first | assumption | omega | (simp only [List.length_take, List.length_drop, List.length_set]; omega))) ?_
   obtain ⟨cl13, _, hk12, hc11⟩ := Sx.C_cells ((hv [_, _] _ h)) (z := z48) (k := (i : Nat)) (by first | assumption | omega | (simp only [List.length_set]; omega))
   obtain rfl := k48_open hk12
   refine wl_v rfl rfl (ov_loadN _ [.bool (((l).getD (i : Nat) z48).f0), .int .i64 (((l).getD (i : Nat) z48).f1), .int .i64 (((l).getD (i : Nat) z48).f2), .string (((l).getD (i : Nat) z48).f3)] rfl sh48 (by intro j u hu; rw [Deep.add_add]; exact (hc11 _ _ hu))) ?_
   replace h := st_front 1 h
   replace h := st_front 1 h
   refine wl_call _ rfl rfl rfl ent27 (PD.edit_calls (R := [] ++ R) (Φ) g1 (D) (d) ((l).getD (i : Nat) z48) (hop _ (by rw [List.getD_eq_getElem?_getD, List.getElem?_eq_getElem (by omega), Option.getD_some]; exact List.getElem_mem _)) h) ?_
   rintro e_ w_ ⟨D14, d15, Φ16, rfl, hsub17, ⟨hD18, hDl19⟩, h⟩
   refine ⟨_, rfl, ?_⟩
   rw [← hD18]
   refine wl_v rfl rfl (ov_move _ rfl) ?_
   refine wl_v rfl rfl (ov_extract [.string (Pc.catB D14), .bool true] _ rfl rfl) ?_
   refine wl_v rfl rfl (ov_extract [.string (Pc.catB D14), .bool true] _ rfl rfl) ?_
   refine wl_v rfl rfl (ov_assign _ rfl) ?_
   refine wl_v rfl rfl (ov_assign _ rfl) ?_
   refine wl_nil ?_
   refine qn_then ?_
   refine wc_seq ?_
   refine wc_seq ?_
   refine wc_region ?_
   refine wl_v rfl rfl (ov_move _ rfl) ?_
   refine wl_v rfl rfl (ov_notb _ rfl) ?_
   refine wl_nil ?_
   refine qn_then ?_
   refine wc_cond_false rfl ?_
   refine wc_skip ?_
   refine qn_then ?_
   refine wc_seq ?_
   refine wc_region ?_
   refine wl_v rfl rfl (ov_move _ rfl) ?_
   refine wl_v rfl rfl (ov_assign _ rfl) ?_
   refine wl_nil ?_
   refine qn_then ?_
   refine wc_region ?_
   refine wl_v rfl rfl (ov_move _ rfl) ?_
   refine wl_v rfl rfl (ov_bin _ rfl rfl (binR_add (r := (((i : Nat) : Int)) + 1) (Sx.w64 (by omega)))) ?_
   refine wl_v rfl rfl (ov_assign _ rfl) ?_
   refine wl_nil ?_
   refine qn_block_normal ?_
   refine qn_then ?_
   refine wc_region ?_
   refine wl_v rfl rfl (ov_move _ rfl) ?_
   refine wl_v rfl rfl (ov_bin _ rfl rfl (binR_add (r := (((i : Nat) : Int)) + 1) (Sx.w64 (by omega)))) ?_
   refine wl_v rfl rfl (ov_assign _ rfl) ?_
   refine wl_nil ?_
   replace h := st_front 1 h
   replace h := st_front 1 h
   refine qn_next ((i + 1), D14, d15, Φ16) (by show 61 - (i + 1) < 61 - i; omega) ⟨rfl, (congrArg (fun z_ => some (Value.slice (some ad10) z_ (c))) (show (l.length : Nat) = l.length by first | rfl | simp)), rfl, (congrArg (fun z_ => some (Value.int .i64 z_)) (show ((((i : Nat) : Int)) + 1 : Int) = (((i + 1) : Nat) : Int) by omega)), (congrArg (fun z_ => some (Value.int .i64 z_)) (show ((((i : Nat) : Int)) + 1 : Int) = (((i + 1) : Nat) : Int) by omega)), trivial⟩ ?_
   show ((i + 1) ≤ l.length ∧ (i + 1) ≤ 60 ∧ Pc.catB D14 = PE.playT s (l.take (i + 1)) ∧ D14.length ≤ 2 * (i + 1) + 1) ∧ _
   exact ⟨⟨by omega, by omega, by rw [hD18, PE.play_take s l z48 i (by omega), ← hJ.2.2.1], by omega⟩, h⟩
  ·
   refine wc_exit ?_
   refine qn_then_exit ?_
   refine qn_then_exit ?_
   refine qn_block_exit ?_
   refine qn_then ?_
   refine wc_seq ?_
   refine wc_region ?_
   refine wl_v rfl rfl (ov_move _ rfl) ?_
   refine wl_v rfl rfl (ov_move _ rfl) ?_
   refine wl_v rfl rfl (ov_move _ rfl) ?_
   refine wl_v rfl rfl (ov_assign _ rfl) ?_
   refine wl_v rfl rfl (ov_assign _ rfl) ?_
   refine wl_v rfl rfl (ov_assign _ rfl) ?_
   refine wl_nil ?_
   refine qn_then ?_
   refine wc_ret ?_
   refine qn_ret [_, _, _] ⟨rfl, rfl, rfl, trivial⟩ ?_
   replace h := st_front 1 h
   replace h := st_front 1 h
   have ei_ : i = min l.length 60 := by omega
   subst ei_
   exact ⟨g1, D, d, Φ, rfl, by rw [hJ.2.2.1], hJ.2.2.2, h⟩
 ·
  refine wl_skip rfl rfl ?_
  refine wl_skip rfl rfl ?_
  refine wl_v rfl rfl (ov_pick_false _ rfl rfl) ?_
  refine wl_nil ?_
  refine qn_then ?_
  refine wc_cond_false rfl ?_
  refine wc_exit ?_
  refine qn_then_exit ?_
  refine qn_then_exit ?_
  refine qn_block_exit ?_
  refine qn_then ?_
  refine wc_seq ?_
  refine wc_region ?_
  refine wl_v rfl rfl (ov_move _ rfl) ?_
  refine wl_v rfl rfl (ov_move _ rfl) ?_
  refine wl_v rfl rfl (ov_move _ rfl) ?_
  refine wl_v rfl rfl (ov_assign _ rfl) ?_
  refine wl_v rfl rfl (ov_assign _ rfl) ?_
  refine wl_v rfl rfl (ov_assign _ rfl) ?_
  refine wl_nil ?_
  refine qn_then ?_
  refine wc_ret ?_
  refine qn_ret [_, _, _] ⟨rfl, rfl, rfl, trivial⟩ ?_
  replace h := st_front 1 h
  replace h := st_front 1 h
  have ei_ : i = min l.length 60 := by omega
  subst ei_
  exact ⟨g1, D, d, Φ, rfl, by rw [hJ.2.2.1], hJ.2.2.2, h⟩
end Go.Proofs.Ytieieindakbpoaa.PD
