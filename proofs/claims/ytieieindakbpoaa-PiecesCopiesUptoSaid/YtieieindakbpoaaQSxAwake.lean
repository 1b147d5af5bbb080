/- Pruned by wip/prune.py. -/
import Derived.Test.YtieieindakbpoaaProg
import Derived.Test.YtieieindakbpoaaQSxGlue
import Derived.Test.YtieieindakbpoaaQSxRanged
import Derived.Test.YtieieindakbpoaaQSxRange1
import Derived.Test.YtieieindakbpoaaQSxFlow
import Derived.Test.YtieieindakbpoaaQSxBytes
import Derived.Test.YtieieindakbpoaaQSxKinds
import Derived.Test.YtieieindakbpoaaQPcText
import Derived.Test.YtieieindakbpoaaQPcWalk
import Derived.Test.YtieieindakbpoaaQPcRead
import Derived.Test.YtieieindakbpoaaQSxTree
import Derived.Test.YtieieindakbpoaaQSxRunes
import Derived.Test.YtieieindakbpoaaQSxLast
import Derived.Test.YtieieindakbpoaaQSxWalk
import Derived.Test.YtieieindakbpoaaQSxChunks
import Derived.Test.YtieieindakbpoaaQPcTx
import Derived.Test.YtieieindakbpoaaQSxRead
import Derived.Test.YtieieindakbpoaaQSxSplitR
import Derived.Test.YtieieindakbpoaaQSxString
import Derived.Test.YtieieindakbpoaaQSxText
import Derived.Test.YtieieindakbpoaaQSxEdit
import Derived.Test.YtieieindakbpoaaQSxWhole
import Derived.Test.YtieieindakbpoaaQPcEdit
import Derived.Test.YtieieindakbpoaaQSxPlayed
namespace Go.Proofs.Ytieieindakbpoaa.AW
open Go Go.RowKit Go.Proofs.YtieieindakbpoaaW.PrintWords Go.Proofs.Ytieieindakbpoaa.Kinds Go.Proofs.Ytieieindakbpoaa.Given Go.Proofs.Ytieieindakbpoaa.Rn Go.Proofs.Ytieieindakbpoaa.Sx Go.Proofs.Ytieieindakbpoaa.Pc 
set_option linter.unusedVariables false
set_option linter.unusedSimpArgs false
theorem infb48 : (Try.prog.info? 48).map (fun i => (i.zero, i.size)) = some (some (.agg #[.bool false, .int .i64 (0), .int .i64 (0), .string (ByteArray.empty)]), 4) := by kernel_rfl
theorem ent18 : Sx.Ent Try.prog 18 := ⟨Try.f18, Try.func18, by kernel_rfl, by kernel_rfl⟩
theorem ent15 : Sx.Ent Try.prog 15 := ⟨Try.f15, Try.func15, by kernel_rfl, by kernel_rfl⟩
theorem ent20 : Sx.Ent Try.prog 20 := ⟨Try.f20, Try.func20, by kernel_rfl, by kernel_rfl⟩
theorem infb3 : (Try.prog.info? 3).map (fun i => (i.zero, i.size)) = some (some (.int .i64 (0)), 1) := by kernel_rfl
theorem inf3 : (Try.prog.info? 3).map (fun i => (i.zero, i.size, i.bytes)) = some (some (.int .i64 (0)), 1, 8) := by kernel_rfl
set_option maxHeartbeats 4000000 in
set_option maxRecDepth 100000 in
theorem awake_calls {w0 w : World} {F0 : Nat → Prop} {R : List Sx.HP}   (h : Sx.St w0 F0 ([] ++ R) w) : Calls Try.prog 12 #[] w (fun e w1 => e = .returned (.bool true) ∧ Sx.St w0 F0 ([] ++ R) w1) := by
 have h2_ : (ByteArray.mk #[97, 98]).size ≤ 1125899906842624 := by decide
 refine Sx.calls_fn (vs := []) Try.func12 rfl Try.ntmps12 rfl ?_
 refine wc_seq ?_
 refine wc_region ?_
 refine wl_v rfl rfl (ov_assign _ rfl) ?_
 refine wl_nil ?_
 refine qn_then ?_
 refine wc_seq ?_
 refine wc_region ?_
 refine wl_v rfl rfl (ov_build [(1, .int .i64 (1)), (3, .string (ByteArray.mk #[120]))] [.bool false, .int .i64 (1), .int .i64 (0), .string (ByteArray.mk #[120])] rfl rfl (by kernel_rfl)) ?_
 refine wl_v rfl rfl (ov_build [(0, .bool true), (1, .int .i64 (0)), (2, .int .i64 (2))] [.bool true, .int .i64 (0), .int .i64 (2), .string (ByteArray.empty)] rfl rfl (by kernel_rfl)) ?_
 refine wl_lit (d := k48) [(0, .agg #[.bool false, .int .i64 (1), .int .i64 (0), .string (ByteArray.mk #[120])]), (1, .agg #[.bool true, .int .i64 (0), .int .i64 (2), .string (ByteArray.empty)])] _ [.bool false, .int .i64 (1), .int .i64 (0), .string (ByteArray.mk #[120]), .bool true, .int .i64 (0), .int .i64 (2), .string (ByteArray.empty)] ([(⟨false, 1, 0, ByteArray.mk #[120]⟩ : S48), (⟨true, 0, 2, ByteArray.empty⟩ : S48)]) h rfl rfl rfl rfl Try.underlying30 infb48 rfl (by decide) (by kernel_rfl) rfl (fun _ _ _ => (((Reps.none _ _).snoc (k48_mkM _ _ _ ((⟨false, 1, 0, ByteArray.mk #[120]⟩ : S48))) rfl).snoc (k48_mkM _ _ _ ((⟨true, 0, 2, ByteArray.empty⟩ : S48))) rfl)) (fun A1 cp2 _ h => ?_)
 refine wl_call _ rfl rfl rfl ent18 (PD.played_calls (R := [Sx.row k48 48 (A1) (cp2) ([(⟨false, 1, 0, ByteArray.mk #[120]⟩ : S48), (⟨true, 0, 2, ByteArray.empty⟩ : S48)])] ++ R) (ByteArray.mk #[97, 98]) (A1) (cp2) ([(⟨false, 1, 0, ByteArray.mk #[120]⟩ : S48), (⟨true, 0, 2, ByteArray.empty⟩ : S48)]) (by omega) (by kernel_rfl) (fun o_ ho_ => by simp only [List.mem_cons, List.not_mem_nil, or_false] at ho_; rcases ho_ with rfl | rfl <;> decide) (by simp) (Sx.row_reads h (i := 0) rfl).1 (Sx.row_reads_at (R := [Sx.row k48 48 (A1) (cp2) ([(⟨false, 1, 0, ByteArray.mk #[120]⟩ : S48), (⟨true, 0, 2, ByteArray.empty⟩ : S48)])] ++ R) (j := 0) rfl) h) ?_
 rintro e_ w_ ⟨g3, D4, d5, Φ6, rfl, hD7, hDl8, h⟩
 refine ⟨_, rfl, ?_⟩
 replace h : Sx.St w0 F0 ([Pc.tx (Φ6) g3 (D4) (d5), Pc.lib (Φ6), Sx.row k48 48 (A1) (cp2) ([(⟨false, 1, 0, ByteArray.mk #[120]⟩ : S48), (⟨true, 0, 2, ByteArray.empty⟩ : S48)])] ++ R) _ := h
 have hfc_ := Pc.tx_facts h
 have hfs_ := hfc_.size
 refine wl_v rfl rfl (ov_move _ rfl) ?_
 refine wl_v rfl rfl (ov_extract [.pointer (some ⟨g3, 0, none⟩), .string (Pc.catB D4), .int .i64 (((min ([(⟨false, 1, 0, ByteArray.mk #[120]⟩ : S48), (⟨true, 0, 2, ByteArray.empty⟩ : S48)]).length 60 : Nat) : Int))] _ rfl rfl) ?_
 refine wl_v rfl rfl (ov_extract [.pointer (some ⟨g3, 0, none⟩), .string (Pc.catB D4), .int .i64 (((min ([(⟨false, 1, 0, ByteArray.mk #[120]⟩ : S48), (⟨true, 0, 2, ByteArray.empty⟩ : S48)]).length 60 : Nat) : Int))] _ rfl rfl) ?_
 refine wl_v rfl rfl (ov_extract [.pointer (some ⟨g3, 0, none⟩), .string (Pc.catB D4), .int .i64 (((min ([(⟨false, 1, 0, ByteArray.mk #[120]⟩ : S48), (⟨true, 0, 2, ByteArray.empty⟩ : S48)]).length 60 : Nat) : Int))] _ rfl rfl) ?_
 refine wl_v rfl rfl (ov_assign _ rfl) ?_
 refine wl_v rfl rfl (ov_assign _ rfl) ?_
 refine wl_v rfl rfl (ov_assign _ rfl) ?_
 refine wl_nil ?_
 refine qn_then ?_
 refine wc_seq ?_
 refine wc_region ?_
 refine wl_v rfl rfl (ov_move _ rfl) ?_
 refine wl_v rfl rfl (ov_bin (.bool true) rfl rfl (binR_nenil Try.underlying23)) ?_
 refine wl_v rfl rfl (ov_move _ rfl) ?_
 refine wl_v rfl rfl (ov_move _ rfl) ?_
 refine wl_v rfl rfl (ov_bin _ rfl rfl (binR_eqs)) ?_
 refine wl_v rfl rfl (ov_pick_true _ rfl rfl) ?_
 refine wl_v rfl rfl (ov_move _ rfl) ?_
 refine wl_split 18 rfl (fun c9 => ?_) (fun c9 => ?_)
 ·
  refine wl_v rfl rfl (ov_move _ rfl) ?_
  replace h := st_front 1 h
  replace h := st_front 1 h
  refine wl_call _ rfl rfl rfl ent15 (WH.String_w (R := [Sx.row k48 48 (A1) (cp2) ([(⟨false, 1, 0, ByteArray.mk #[120]⟩ : S48), (⟨true, 0, 2, ByteArray.empty⟩ : S48)])] ++ R) (Φ6) g3 (D4) (d5)  h) ?_
  rintro e_ w_ ⟨rfl, h⟩
  refine ⟨_, rfl, ?_⟩
  refine wl_v rfl rfl (ov_bin _ rfl rfl (binR_eqs)) ?_
  refine wl_v rfl rfl (ov_pick_true _ rfl rfl) ?_
  refine wl_v rfl rfl (ov_move _ rfl) ?_
  refine wl_split 23 rfl (fun c10 => ?_) (fun c10 => ?_)
  ·
   refine wl_v rfl rfl (ov_move _ rfl) ?_
   replace h := st_front 1 h
   replace h := st_front 1 h
   refine wl_call _ rfl rfl rfl ent20 (WH.Pieces_w (R := [Sx.row k48 48 (A1) (cp2) ([(⟨false, 1, 0, ByteArray.mk #[120]⟩ : S48), (⟨true, 0, 2, ByteArray.empty⟩ : S48)])] ++ R) (Φ6) g3 (D4) (d5)  h) ?_
   rintro e_ w_ ⟨rfl, h⟩
   refine ⟨_, rfl, ?_⟩
   refine wl_v rfl rfl (ov_bin _ rfl rfl (binR_gtr)) ?_
   refine wl_v rfl rfl (ov_pick_true _ rfl rfl) ?_
   refine wl_v rfl rfl (ov_assign _ rfl) ?_
   refine wl_nil ?_
   refine qn_then ?_
   refine wc_ret ?_
   refine qn_ret [_] ⟨rfl, trivial⟩ ?_
   replace h := st_selT [false, false, false] h
   have hb_ : Pc.catB D4 = ByteArray.mk #[98] := hD7.trans (by kernel_rfl)
   have hl_ : 0 < D4.length := by
     rcases Nat.eq_zero_or_pos D4.length with z_ | z_
     · have q_ := List.eq_nil_of_length_eq_zero z_
       rw [q_] at hb_
       have q2_ := congrArg ByteArray.size hb_
       exact absurd q2_ (by decide)
     · exact z_
   have eb_ : (decide ((0 : Int) < ((D4.length : Int)))) = true := by first | rfl | exact decide_eq_true (by omega)
   rw [eb_]
   exact ⟨rfl, h⟩
  ·
   exact absurd c9 c10
 ·
  exact absurd (hD7.trans (by kernel_rfl)) c9
/-- The places of the line ends. -/
def endsF (s : ByteArray) : Nat → Nat → List Int
  | 0, _ => []
  | m + 1, p => if p < s.size then (if bt s p = 10 then [(p : Int)] else []) ++ endsF s m (p + 1) else []
def endsL (s : ByteArray) : List Int := endsF s (s.size + 1) 0
theorem endsF_len (s : ByteArray) : ∀ (m p : Nat), s.size < p + m → (endsF s m p).length = Pc.nlF s p
  | 0, p, h => by rw [Pc.nlF_end s p (by omega)]; rfl
  | m + 1, p, h => by
    unfold endsF
    by_cases c : p < s.size
    · rw [if_pos c, List.length_append, endsF_len s m (p + 1) (by omega), Pc.nlF_step s p c]
      split <;> rfl
    · rw [if_neg c, Pc.nlF_end s p (by omega)]; rfl
theorem endsL_len (s : ByteArray) : ((endsL s).length : Int) = Pc.nlB s := by
  unfold endsL
  rw [endsF_len s _ 0 (by omega)]
  rfl
theorem endsF_fit (s : ByteArray) : ∀ (m n p : Nat), s.size < p + m → s.size < p + n → endsF s m p = endsF s n p
  | 0, n, p, h, h2 => by
    cases n with
    | zero => rfl
    | succ n => unfold endsF; rw [if_neg (by omega)]
  | m + 1, 0, p, h, h2 => by unfold endsF; rw [if_neg (by omega)]
  | m + 1, n + 1, p, h, h2 => by
    unfold endsF
    by_cases c : p < s.size
    · rw [if_pos c, if_pos c, endsF_fit s m n (p + 1) (by omega) (by omega)]
    · rw [if_neg c, if_neg c]
set_option maxHeartbeats 4000000 in
set_option maxRecDepth 100000 in
theorem Ends_calls {w0 w : World} {F0 : Nat → Prop} {R : List Sx.HP} (s : ByteArray) (hs : s.size ≤ 1099511627776) (h : Sx.St w0 F0 ([] ++ R) w) : Calls Try.prog 22 #[.string (s)] w (fun e w1 => ∃ A c, e = .returned (.slice A (endsL s).length c) ∧ Sx.St w0 F0 ([Sx.row (Kd.int .i64) 3 (A) (c) ((endsL s))] ++ R) w1) := by
 refine Sx.calls_fn (vs := [.string (s)]) Try.func22 rfl Try.ntmps22 rfl ?_
 refine wc_seq ?_
 refine wc_region ?_
 refine wl_v rfl rfl (ov_assign _ rfl) ?_
 refine wl_nil ?_
 refine qn_then ?_
 refine wc_seq ?_
 refine wc_region ?_
 refine wl_v rfl rfl (ov_assign _ rfl) ?_
 refine wl_nil ?_
 refine qn_then ?_
 refine wc_seq ?_
 refine wc_seq ?_
 refine wc_region ?_
 refine wl_v rfl rfl (ov_assign _ rfl) ?_
 refine wl_nil ?_
 refine qn_then ?_
 refine wc_block ?_
 replace h := st_nilrow (Kd.int .i64) 3 h
 refine wc_loop (fun (x_ : Nat × (List Int) × (Option Addr) × Nat) => [(0, .string (s)), (3, .slice (x_.2.2.1) ((x_.2.1).length) (x_.2.2.2)), (4, .int .i64 (((x_.1 : Nat) : Int)))]) (fun (x_ : Nat × (List Int) × (Option Addr) × Nat) (w : World) => (x_.1 ≤ s.size ∧ x_.2.1 ++ (endsF s (s.size + 1 - x_.1) x_.1) = endsL s ∧ (x_.2.1).length ≤ x_.1) ∧ Sx.St w0 F0 ([Sx.row (Kd.int .i64) 3 (x_.2.2.1) (x_.2.2.2) (x_.2.1)] ++ R) w) (fun (x_ : Nat × (List Int) × (Option Addr) × Nat) => s.size - x_.1) (0, [], none, 0) ?_ ?_ ?_
 · exact ⟨rfl, (congrArg (fun z_ => some (Value.slice (none) z_ (0))) (show (0 : Nat) = ([]).length by first | rfl | simp)), (congrArg (fun z_ => some (Value.int .i64 z_)) (show (0 : Int) = ((0 : Nat) : Int) by omega)), trivial⟩
 · exact ⟨⟨Nat.zero_le _, rfl, Nat.le_refl _⟩, h⟩
 rintro ⟨p, l, A, c⟩ w h
 obtain ⟨hJ, h⟩ := h
 replace hJ : p ≤ s.size ∧ l ++ (endsF s (s.size + 1 - p) p) = endsL s ∧ (l).length ≤ p := hJ
 replace h : Sx.St w0 F0 ([Sx.row (Kd.int .i64) 3 (A) (c) (l)] ++ R) w := h
 show Sx.WC _ _ _ _ [(0, .string (s)), (3, .slice (A) ((l).length) (c)), (4, .int .i64 (((p : Nat) : Int)))] _
 refine wc_seq ?_
 refine wc_seq ?_
 refine wc_region ?_
 refine wl_v rfl rfl (ov_move _ rfl) ?_
 refine wl_v rfl rfl (ov_move _ rfl) ?_
 refine wl_v rfl rfl (ov_lens _ rfl Try.underlying9) ?_
 refine wl_v rfl rfl (ov_bin _ rfl rfl (binR_lss)) ?_
 refine wl_nil ?_
 refine qn_then ?_
 refine wc_cond (by rfl) (fun c1 => ?_) (fun c1 => ?_)
 ·
  refine wc_skip ?_
  refine qn_then ?_
  refine wc_seq ?_
  refine wc_block ?_
  refine wc_seq ?_
  refine wc_region ?_
  refine wl_v rfl rfl (ov_move _ rfl) ?_
  refine wl_v rfl rfl (ov_move _ rfl) ?_
  have hbt2 := Go.Proofs.Ytieieindakbpoaa.Given.bt_nonneg s (((p : Nat) : Int))
  refine wl_v rfl rfl (ov_indexbt _ _ rfl rfl Try.underlying9 (by omega) (by omega)) ?_
  refine wl_v rfl rfl (ov_bin _ rfl rfl (binR_eql)) ?_
  refine wl_nil ?_
  refine qn_then ?_
  refine wc_cond (by rfl) (fun c3 => ?_) (fun c3 => ?_)
  ·
   refine wc_region ?_
   refine wl_v rfl rfl (ov_move _ rfl) ?_
   refine wl_v rfl rfl (ov_move _ rfl) ?_
   refine wl_lit (d := (Kd.int .i64)) [(0, .int .i64 (((p : Nat) : Int)))] _ [.int .i64 (((p : Nat) : Int))] ([((p : Nat) : Int)]) h rfl rfl rfl rfl Try.underlying37 infb3 rfl (by decide) (by kernel_rfl) rfl (fun _ _ _ => ((Reps.none _ _).snoc ((Sx.mkInt .i64 (((p : Nat) : Int)))) rfl)) (fun A4 cp5 _ h => ?_)
   refine wl_append (d := (Kd.int .i64)) (L := l) 1 _ 8 _ _ _ ([((p : Nat) : Int)]) (Sx.flat_int _) h rfl rfl rfl rfl rfl ((Sx.row_reads h (i := 0) rfl).2) Try.underlying37 inf3 rfl (by decide) (by decide) (by first | omega | (simp only [List.length_cons, List.length_nil, List.length_append, List.length_set]; omega)) (by first | rfl | simp) (fun A6 cp7 _ h => ?_)
   replace h := st_selT [false, true] h
   refine wl_v rfl rfl (ov_assign _ rfl) ?_
   refine wl_nil ?_
   refine qn_block_normal ?_
   refine qn_then ?_
   refine wc_region ?_
   refine wl_v rfl rfl (ov_move _ rfl) ?_
   refine wl_v rfl rfl (ov_bin _ rfl rfl (binR_add (r := (((p : Nat) : Int)) + 1) (Sx.w64 (by omega)))) ?_
   refine wl_v rfl rfl (ov_assign _ rfl) ?_
   refine wl_nil ?_
   refine qn_next ((p + 1), l ++ ([((p : Nat) : Int)]), A6, cp7) (by show s.size - (p + 1) < s.size - p; omega) ⟨rfl, rfl, (congrArg (fun z_ => some (Value.int .i64 z_)) (show ((((p : Nat) : Int)) + 1 : Int) = (((p + 1) : Nat) : Int) by omega)), trivial⟩ ?_
   show ((p + 1) ≤ s.size ∧ l ++ ([((p : Nat) : Int)]) ++ (endsF s (s.size + 1 - (p + 1)) (p + 1)) = endsL s ∧ (l ++ ([((p : Nat) : Int)])).length ≤ (p + 1)) ∧ _
   have hs_ := hJ.2.1
   obtain ⟨m_, hm_⟩ : ∃ m_, s.size + 1 - p = m_ + 1 := ⟨s.size - p, by omega⟩
   rw [hm_] at hs_
   unfold endsF at hs_
   rw [if_pos (by omega), if_pos (by omega)] at hs_
   rw [endsF_fit s m_ (s.size + 1 - (p + 1)) (p + 1) (by omega) (by omega)] at hs_
   exact ⟨⟨by omega, by rw [← hs_]; simp, by rw [List.length_append, List.length_singleton]; omega⟩, h⟩
  ·
   refine wc_skip ?_
   refine qn_block_normal ?_
   refine qn_then ?_
   refine wc_region ?_
   refine wl_v rfl rfl (ov_move _ rfl) ?_
   refine wl_v rfl rfl (ov_bin _ rfl rfl (binR_add (r := (((p : Nat) : Int)) + 1) (Sx.w64 (by omega)))) ?_
   refine wl_v rfl rfl (ov_assign _ rfl) ?_
   refine wl_nil ?_
   refine qn_next ((p + 1), l, A, c) (by show s.size - (p + 1) < s.size - p; omega) ⟨rfl, rfl, (congrArg (fun z_ => some (Value.int .i64 z_)) (show ((((p : Nat) : Int)) + 1 : Int) = (((p + 1) : Nat) : Int) by omega)), trivial⟩ ?_
   show ((p + 1) ≤ s.size ∧ l ++ (endsF s (s.size + 1 - (p + 1)) (p + 1)) = endsL s ∧ (l).length ≤ (p + 1)) ∧ _
   have hs_ := hJ.2.1
   obtain ⟨m_, hm_⟩ : ∃ m_, s.size + 1 - p = m_ + 1 := ⟨s.size - p, by omega⟩
   rw [hm_] at hs_
   unfold endsF at hs_
   rw [if_pos (by omega), if_neg (by omega)] at hs_
   rw [endsF_fit s m_ (s.size + 1 - (p + 1)) (p + 1) (by omega) (by omega)] at hs_
   exact ⟨⟨by omega, by rw [← hs_]; simp, by omega⟩, h⟩
 ·
  refine wc_exit ?_
  refine qn_then_exit ?_
  refine qn_then_exit ?_
  refine qn_block_exit ?_
  refine qn_then ?_
  refine wc_seq ?_
  refine wc_region ?_
  refine wl_v rfl rfl (ov_move _ rfl) ?_
  refine wl_v rfl rfl (ov_assign _ rfl) ?_
  refine wl_nil ?_
  refine qn_then ?_
  refine wc_ret ?_
  refine qn_ret [_] ⟨rfl, trivial⟩ ?_
  have hs_ := hJ.2.1
  obtain rfl : p = s.size := by omega
  rw [show s.size + 1 - s.size = 0 + 1 by omega] at hs_
  unfold endsF at hs_
  rw [if_neg (by omega), List.append_nil] at hs_
  subst hs_
  exact ⟨A, c, rfl, h⟩
end Go.Proofs.Ytieieindakbpoaa.AW
