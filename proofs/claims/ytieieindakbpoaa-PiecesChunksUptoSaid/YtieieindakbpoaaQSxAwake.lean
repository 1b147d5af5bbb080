/- Pruned by wip/prune.py. -/
import Derived.Test.YtieieindakbpoaaProg
import Derived.Test.YtieieindakbpoaaQSxGlue
import Derived.Test.YtieieindakbpoaaQSxRanged
import Derived.Test.YtieieindakbpoaaQSxRange1
import Derived.Test.YtieieindakbpoaaQSxFlow
import Derived.Test.YtieieindakbpoaaQSxBytes
import Derived.Test.YtieieindakbpoaaQSxKinds
import Derived.Test.YtieieindakbpoaaQPcText
import Derived.Test.YtieieindakbpoaaQPcWalk
import Derived.Test.YtieieindakbpoaaQPcRead
import Derived.Test.YtieieindakbpoaaQSxTree
import Derived.Test.YtieieindakbpoaaQSxRunes
import Derived.Test.YtieieindakbpoaaQSxLast
import Derived.Test.YtieieindakbpoaaQSxWalk
import Derived.Test.YtieieindakbpoaaQSxChunks
import Derived.Test.YtieieindakbpoaaQPcTx
import Derived.Test.YtieieindakbpoaaQSxRead
import Derived.Test.YtieieindakbpoaaQSxSplitR
import Derived.Test.YtieieindakbpoaaQSxString
import Derived.Test.YtieieindakbpoaaQSxText
import Derived.Test.YtieieindakbpoaaQSxEdit
import Derived.Test.YtieieindakbpoaaQSxWhole
import Derived.Test.YtieieindakbpoaaQPcEdit
import Derived.Test.YtieieindakbpoaaQSxPlayed
namespace Go.Proofs.Ytieieindakbpoaa.AW
open Go Go.RowKit Go.Proofs.YtieieindakbpoaaW.PrintWords Go.Proofs.Ytieieindakbpoaa.Kinds Go.Proofs.Ytieieindakbpoaa.Given Go.Proofs.Ytieieindakbpoaa.Rn Go.Proofs.Ytieieindakbpoaa.Sx Go.Proofs.Ytieieindakbpoaa.Pc 
set_option linter.unusedVariables false
set_option linter.unusedSimpArgs false
theorem infb48 : (Try.prog.info? 48).map (fun i => (i.zero, i.size)) = some (some (.agg #[.bool false, .int .i64 (0), .int .i64 (0), .string (ByteArray.empty)]), 4) := by kernel_rfl
theorem ent18 : Sx.Ent Try.prog 18 := ⟨Try.f18, Try.func18, by kernel_rfl, by kernel_rfl⟩
theorem ent15 : Sx.Ent Try.prog 15 := ⟨Try.f15, Try.func15, by kernel_rfl, by kernel_rfl⟩
theorem ent20 : Sx.Ent Try.prog 20 := ⟨Try.f20, Try.func20, by kernel_rfl, by kernel_rfl⟩
theorem infb3 : (Try.prog.info? 3).map (fun i => (i.zero, i.size)) = some (some (.int .i64 (0)), 1) := by kernel_rfl
theorem inf3 : (Try.prog.info? 3).map (fun i => (i.zero, i.size, i.bytes)) = some (some (.int .i64 (0)), 1, 8) := by kernel_rfl
set_option maxHeartbeats 4000000 in
set_option maxRecDepth 100000 in
theorem awake_calls {w0 w : World} {F0 : Nat → Prop} {R : List Sx.HP}   (h : Sx.St w0 F0 ([] ++ R) w) : Calls Try.prog 12 #[] w (fun e w1 => e = .returned (.bool true) ∧ Sx.St w0 F0 ([] ++ R) w1) := by
 have h2_ : (ByteArray.mk #[97, 98]).size ≤ 1125899906842624 := by decide
 refine Sx.calls_fn (vs := []) Try.func12 rfl Try.ntmps12 rfl ?_
 refine wc_seq ?_
 refine wc_region ?_
 refine wl_v rfl rfl (ov_assign _ rfl) ?_
 refine wl_nil ?_
 refine qn_then ?_
 refine wc_seq ?_
 refine wc_region ?_
 refine wl_v rfl rfl (ov_build [(1, .int .i64 (1)), (3, .string (ByteArray.mk #[120]))] [.bool false, .int .i64 (1), .int .i64 (0), .string (ByteArray.mk #[120])] rfl rfl (by kernel_rfl)) ?_
 refine wl_v rfl rfl (ov_build [(0, .bool true), (1, .int .i64 (0)), (2, .int .i64 (2))] [.bool true, .int .i64 (0), .int .i64 (2), .string (ByteArray.empty)] rfl rfl (by kernel_rfl)) ?_
 refine wl_lit (d := k48) [(0, .agg #[.bool false, .int .i64 (1), .int .i64 (0), .string (ByteArray.mk #[120])]), (1, .agg #[.bool true, .int .i64 (0), .int .i64 (2), .string (ByteArray.empty)])] _ [.bool false, .int .i64 (1), .int .i64 (0), .string (ByteArray.mk #[120]), .bool true, .int .i64 (0), .int .i64 (2), .string (ByteArray.empty)] ([(⟨false, 1, 0, ByteArray.mk #[120]⟩ : S48), (⟨true, 0, 2, ByteArray.empty⟩ : S48)]) h rfl rfl rfl rfl Try.underlying30 infb48 rfl (by decide) (by kernel_rfl) rfl (fun _ _ _ => (((Reps.none _ _).snoc (k48_mkM _ _ _ ((⟨false, 1, 0, ByteArray.mk #[120]⟩ : S48))) rfl).snoc (k48_mkM _ _ _ ((⟨true, 0, 2, ByteArray.empty⟩ : S48))) rfl)) (fun A1 cp2 _ h => ?_)
 refine wl_call _ rfl rfl rfl ent18 (PD.played_calls (R := [Sx.row k48 48 (A1) (cp2) ([(⟨false, 1, 0, ByteArray.mk #[120]⟩ : S48), (⟨true, 0, 2, ByteArray.empty⟩ : S48)])] ++ R) (ByteArray.mk #[97, 98]) (A1) (cp2) ([(⟨false, 1, 0, ByteArray.mk #[120]⟩ : S48), (⟨true, 0, 2, ByteArray.empty⟩ : S48)]) (by omega) (by kernel_rfl) (fun o_ ho_ => by simp only [List.mem_cons, List.not_mem_nil, or_false] at ho_; rcases ho_ with rfl | rfl <;> decide) (by simp) (Sx.row_reads h (i := 0) rfl).1 (Sx.row_reads_at (R := [Sx.row k48 48 (A1) (cp2) ([(⟨false, 1, 0, ByteArray.mk #[120]⟩ : S48), (⟨true, 0, 2, ByteArray.empty⟩ : S48)])] ++ R) (j := 0) rfl) h) ?_
 rintro e_ w_ ⟨g3, D4, d5, Φ6, rfl, hD7, hDl8, h⟩
 refine ⟨_, rfl, ?_⟩
 replace h : Sx.St w0 F0 ([Pc.tx (Φ6) g3 (D4) (d5), Pc.lib (Φ6), Sx.row k48 48 (A1) (cp2) ([(⟨false, 1, 0, ByteArray.mk #[120]⟩ : S48), (⟨true, 0, 2, ByteArray.empty⟩ : S48)])] ++ R) _ := h
 have hfc_ := Pc.tx_facts h
 have hfs_ := hfc_.size
 refine wl_v rfl rfl (ov_move _ rfl) ?_
 refine wl_v rfl rfl (ov_extract [.pointer (some ⟨g3, 0, none⟩), .string (Pc.catB D4), .int .i64 (((min ([(⟨false, 1, 0, ByteArray.mk #[120]⟩ : S48), (⟨true, 0, 2, ByteArray.empty⟩ : S48)]).length 60 : Nat) : Int))] _ rfl rfl) ?_
 refine wl_v rfl rfl (ov_extract [.pointer (some ⟨g3, 0, none⟩), .string (Pc.catB D4), .int .i64 (((min ([(⟨false, 1, 0, ByteArray.mk #[120]⟩ : S48), (⟨true, 0, 2, ByteArray.empty⟩ : S48)]).length 60 : Nat) : Int))] _ rfl rfl) ?_
 refine wl_v rfl rfl (ov_extract [.pointer (some ⟨g3, 0, none⟩), .string (Pc.catB D4), .int .i64 (((min ([(⟨false, 1, 0, ByteArray.mk #[120]⟩ : S48), (⟨true, 0, 2, ByteArray.empty⟩ : S48)]).length 60 : Nat) : Int))] _ rfl rfl) ?_
 refine wl_v rfl rfl (ov_assign _ rfl) ?_
 refine wl_v rfl rfl (ov_assign _ rfl) ?_
 refine wl_v rfl rfl (ov_assign _ rfl) ?_
 refine wl_nil ?_
 refine qn_then ?_
 refine wc_seq ?_
 refine wc_region ?_
 refine wl_v rfl rfl (ov_move _ rfl) ?_
 refine wl_v rfl rfl (ov_bin (.bool true) rfl rfl (binR_nenil Try.underlying23)) ?_
 refine wl_v rfl rfl (ov_move _ rfl) ?_
 refine wl_v rfl rfl (ov_move _ rfl) ?_
 refine wl_v rfl rfl (ov_bin _ rfl rfl (binR_eqs)) ?_
 refine wl_v rfl rfl (ov_pick_true _ rfl rfl) ?_
 refine wl_v rfl rfl (ov_move _ rfl) ?_
 refine wl_split 18 rfl (fun c9 => ?_) (fun c9 => ?_)
 ·
  refine wl_v rfl rfl (ov_move _ rfl) ?_
  replace h := st_front 1 h
  replace h := st_front 1 h
  refine wl_call _ rfl rfl rfl ent15 (WH.String_w (R := [Sx.row k48 48 (A1) (cp2) ([(⟨false, 1, 0, ByteArray.mk #[120]⟩ : S48), (⟨true, 0, 2, ByteArray.empty⟩ : S48)])] ++ R) (Φ6) g3 (D4) (d5)  h) ?_
  rintro e_ w_ ⟨rfl, h⟩
  refine ⟨_, rfl, ?_⟩
  refine wl_v rfl rfl (ov_bin _ rfl rfl (binR_eqs)) ?_
  refine wl_v rfl rfl (ov_pick_true _ rfl rfl) ?_
  refine wl_v rfl rfl (ov_move _ rfl) ?_
  refine wl_split 23 rfl (fun c10 => ?_) (fun c10 => ?_)
  ·
   refine wl_v rfl rfl (ov_move _ rfl) ?_
   replace h := st_front 1 h
   replace h := st_front 1 h
   refine wl_call _ rfl rfl rfl ent20 (WH.Pieces_w (R := [Sx.row k48 48 (A1) (cp2) ([(⟨false, 1, 0, ByteArray.mk #[120]⟩ : S48), (⟨true, 0, 2, ByteArray.empty⟩ : S48)])] ++ R) (Φ6) g3 (D4) (d5)  h) ?_
   rintro e_ w_ ⟨rfl, h⟩
   refine ⟨_, rfl, ?_⟩
   refine wl_v rfl rfl (ov_bin _ rfl rfl (binR_gtr)) ?_
   refine wl_v rfl rfl (ov_pick_true _ rfl rfl) ?_
   refine wl_v rfl rfl (ov_assign _ rfl) ?_
   refine wl_nil ?_
   refine qn_then ?_
   refine wc_ret ?_
   refine qn_ret [_] ⟨rfl, trivial⟩ ?_
   replace h := st_selT [false, false, false] h
   have hb_ : Pc.catB D4 = ByteArray.mk #[98] := hD7.trans (by kernel_rfl)
   have hl_ : 0 < D4.length := by
     rcases Nat.eq_zero_or_pos D4.length with z_ | z_
     · have q_ := List.eq_nil_of_length_eq_zero z_
       rw [q_] at hb_
       have q2_ := congrArg ByteArray.size hb_
       exact absurd q2_ (by decide)
     · exact z_
   have eb_ : (decide ((0 : Int) < ((D4.length : Int)))) = true := by first | rfl | exact decide_eq_true (by omega)
   rw [eb_]
   exact ⟨rfl, h⟩
  ·
   exact absurd c9 c10
 ·
  exact absurd (hD7.trans (by kernel_rfl)) c9
end Go.Proofs.Ytieieindakbpoaa.AW
