/- Pruned by wip/prune.py. -/
import Derived.Test.YtbakllppgekmoaaProg
import Derived.Test.YtbakllppgekmoaaQSxGlue
import Derived.Test.YtbakllppgekmoaaQSxKinds
import Derived.Test.YtbakllppgekmoaaQSxIter
import Derived.Test.YtbakllppgekmoaaQCmpText
namespace Go.Proofs.Ytbakllppgekmoaa.L
open Go Go.RowKit Go.Proofs.YtbakllppgekmoaaW.PrintWords Go.Proofs.Ytbakllppgekmoaa.Kinds Go.Proofs.Ytbakllppgekmoaa.Cmp Go.Proofs.Ytbakllppgekmoaa.Given Go.Proofs.Ytbakllppgekmoaa.Sx 
set_option linter.unusedVariables false
set_option linter.unusedSimpArgs false
theorem infb21 : (Try.prog.info? 21).map (fun i => (i.zero, i.size)) = some (some (.int .i32 (0)), 1) := by kernel_rfl
theorem inf21 : (Try.prog.info? 21).map (fun i => (i.zero, i.size, i.bytes)) = some (some (.int .i32 (0)), 1, 4) := by kernel_rfl
theorem infb3 : (Try.prog.info? 3).map (fun i => (i.zero, i.size)) = some (some (.int .i64 (0)), 1) := by kernel_rfl
theorem inf3 : (Try.prog.info? 3).map (fun i => (i.zero, i.size, i.bytes)) = some (some (.int .i64 (0)), 1, 8) := by kernel_rfl
set_option maxHeartbeats 4000000 in
set_option maxRecDepth 100000 in
theorem letters_calls {w0 w : World} {F0 : Nat → Prop} {R : List Sx.HP} (s : ByteArray) (hs : s.size ≤ 100000) (h : Sx.St w0 F0 ([] ++ R) w) : Calls Try.prog 32 #[.string (s)] w (fun e w1 => ∃ A1 c1 A2 c2, e = .returned (.tuple #[.slice A1 (lettersV s).length c1, .slice A2 (atsV s).length c2]) ∧ Sx.St w0 F0 ([Sx.row (Kd.int .i32) 21 (A1) (c1) ((lettersV s)), Sx.row (Kd.int .i64) 3 (A2) (c2) ((atsV s))] ++ R) w1) := by
 refine Sx.calls_fn (vs := [.string (s)]) Try.func32 rfl Try.ntmps32 rfl ?_
 refine wc_seq ?_
 refine wc_region ?_
 refine wl_v rfl rfl (ov_assign _ rfl) ?_
 refine wl_v rfl rfl (ov_assign _ rfl) ?_
 refine wl_nil ?_
 refine qn_then ?_
 refine wc_seq ?_
 refine wc_region ?_
 refine wl_v rfl rfl (ov_assign _ rfl) ?_
 refine wl_nil ?_
 refine qn_then ?_
 refine wc_seq ?_
 refine wc_region ?_
 refine wl_v rfl rfl (ov_assign _ rfl) ?_
 refine wl_nil ?_
 refine qn_then ?_
 refine wc_seq ?_
 refine wc_seq ?_
 refine wc_region ?_
 refine wl_v rfl rfl (ov_move _ rfl) ?_
 refine wl_range _ h rfl rfl rfl Try.underlying9 (fun b1 _ h => ?_)
 refine wl_nil ?_
 refine qn_then ?_
 refine wc_block ?_
 replace h := st_nilrow (Kd.int .i32) 21 (st_nilrow (Kd.int .i64) 3 h)
 replace h := st_front 1 h
 replace h := st_front 1 h
 replace h := st_front 2 h
 refine wc_loop (fun (x_ : Nat × (List (Nat × Nat)) × (Option Addr) × Nat × (Option Addr) × Nat) => [(0, .string (s)), (4, .slice (x_.2.2.1) ((rv x_.2.1).length) (x_.2.2.2.1)), (5, .slice (x_.2.2.2.2.1) ((pv x_.2.1).length) (x_.2.2.2.2.2)), (9, .pointer (some ⟨b1, 0, none⟩))]) (fun (x_ : Nat × (List (Nat × Nat)) × (Option Addr) × Nat × (Option Addr) × Nat) (w : World) => (x_.2.1 ++ decs s s.size x_.1 = runesV s ∧ (x_.2.1).length ≤ x_.1) ∧ Sx.St w0 F0 ([Sx.siter b1 (s) (x_.1), Sx.row (Kd.int .i32) 21 (x_.2.2.1) (x_.2.2.2.1) ((rv x_.2.1)), Sx.row (Kd.int .i64) 3 (x_.2.2.2.2.1) (x_.2.2.2.2.2) ((pv x_.2.1))] ++ R) w) (fun (x_ : Nat × (List (Nat × Nat)) × (Option Addr) × Nat × (Option Addr) × Nat) => s.size - x_.1) (0, [], none, 0, none, 0) ?_ ?_ ?_
 · exact ⟨rfl, (congrArg (fun z_ => some (Value.slice (none) z_ (0))) (show (0 : Nat) = (rv []).length by first | rfl | simp)), (congrArg (fun z_ => some (Value.slice (none) z_ (0))) (show (0 : Nat) = (pv []).length by first | rfl | simp)), rfl, trivial⟩
 · exact ⟨⟨rfl, Nat.le_refl _⟩, h⟩
 rintro ⟨p, l, A1, c1, A2, c2⟩ w h
 obtain ⟨hJ, h⟩ := h
 replace hJ : l ++ decs s s.size p = runesV s ∧ (l).length ≤ p := hJ
 replace h : Sx.St w0 F0 ([Sx.siter b1 (s) (p), Sx.row (Kd.int .i32) 21 (A1) (c1) ((rv l)), Sx.row (Kd.int .i64) 3 (A2) (c2) ((pv l))] ++ R) w := h
 show Sx.WC _ _ _ _ [(0, .string (s)), (4, .slice (A1) ((rv l).length) (c1)), (5, .slice (A2) ((pv l).length) (c2)), (9, .pointer (some ⟨b1, 0, none⟩))] _
 have hl1_ := rv_len l
 have hl2_ := pv_len l
 have hll_ : l.length ≤ s.size := by have q_ := runes_le s; rw [← hJ.1, List.length_append] at q_; omega
 refine wc_seq ?_
 refine wc_region ?_
 refine wl_next (i := 0) h rfl rfl rfl rfl (fun c2 _ h => ?_) (fun c2 _ h => ?_)
 ·
  have hp_ : p < s.size := c2
  have hdp_ := dec_pos s p hp_
  refine wl_v rfl rfl (ov_extract [.bool true, .int .i64 ((((p : Nat)) : Int)), .int .i32 ((((Utf8.decode (s) (p)).1 : Nat) : Int))] _ rfl rfl) ?_
  refine wl_nil ?_
  refine qn_then ?_
  refine wc_seq ?_
  refine wc_cond_true rfl ?_
  refine wc_skip ?_
  refine qn_then ?_
  refine wc_block ?_
  refine wc_seq ?_
  refine wc_region ?_
  refine wl_v rfl rfl (ov_extract [.bool true, .int .i64 ((((p : Nat)) : Int)), .int .i32 ((((Utf8.decode (s) (p)).1 : Nat) : Int))] _ rfl rfl) ?_
  refine wl_v rfl rfl (ov_extract [.bool true, .int .i64 ((((p : Nat)) : Int)), .int .i32 ((((Utf8.decode (s) (p)).1 : Nat) : Int))] _ rfl rfl) ?_
  refine wl_v rfl rfl (ov_assign _ rfl) ?_
  refine wl_v rfl rfl (ov_assign _ rfl) ?_
  refine wl_nil ?_
  refine qn_then ?_
  refine wc_region ?_
  refine wl_v rfl rfl (ov_move _ rfl) ?_
  refine wl_v rfl rfl (ov_move _ rfl) ?_
  refine wl_lit (d := (Kd.int .i32)) [(0, .int .i32 ((((Utf8.decode (s) (p)).1 : Nat) : Int)))] _ [.int .i32 ((((Utf8.decode (s) (p)).1 : Nat) : Int))] ([(((Utf8.decode (s) (p)).1 : Nat) : Int)]) h rfl rfl rfl rfl Try.underlying52 infb21 rfl (by decide) (by kernel_rfl) rfl (fun _ _ _ => ((Reps.none _ _).snoc ((Sx.mkInt .i32 ((((Utf8.decode (s) (p)).1 : Nat) : Int)))) rfl)) (fun A3 cp4 _ h => ?_)
  refine wl_append (d := (Kd.int .i32)) (L := (rv l)) 2 _ 4 _ _ _ ([(((Utf8.decode (s) (p)).1 : Nat) : Int)]) (Sx.flat_int _) h rfl rfl rfl rfl rfl ((Sx.row_reads h (i := 0) rfl).2) Try.underlying52 inf21 rfl (by decide) (by decide) (by first | omega | (simp only [List.length_cons, List.length_nil, List.length_append]; omega)) (by first | rfl | simp) (fun A5 cp6 _ h => ?_)
  replace h := st_selT [false, true, true, true] h
  refine wl_v rfl rfl (ov_move _ rfl) ?_
  refine wl_v rfl rfl (ov_move _ rfl) ?_
  refine wl_lit (d := (Kd.int .i64)) [(0, .int .i64 ((((p : Nat)) : Int)))] _ [.int .i64 ((((p : Nat)) : Int))] ([(((p : Nat)) : Int)]) h rfl rfl rfl rfl Try.underlying49 infb3 rfl (by decide) (by kernel_rfl) rfl (fun _ _ _ => ((Reps.none _ _).snoc ((Sx.mkInt .i64 ((((p : Nat)) : Int)))) rfl)) (fun A7 cp8 _ h => ?_)
  refine wl_append (d := (Kd.int .i64)) (L := (pv l)) 3 _ 8 _ _ _ ([(((p : Nat)) : Int)]) (Sx.flat_int _) h rfl rfl rfl rfl rfl ((Sx.row_reads h (i := 0) rfl).2) Try.underlying49 inf3 rfl (by decide) (by decide) (by first | omega | (simp only [List.length_cons, List.length_nil, List.length_append]; omega)) (by first | rfl | simp) (fun A9 cp10 _ h => ?_)
  replace h := st_selT [false, true, true, true] h
  refine wl_v rfl rfl (ov_assign _ rfl) ?_
  refine wl_v rfl rfl (ov_assign _ rfl) ?_
  refine wl_nil ?_
  refine qn_block_normal ?_
  have e_ : ((rv l)) ++ ([(((Utf8.decode (s) (p)).1 : Nat) : Int)]) = (rv (l ++ [(p, (Utf8.decode (s) (p)).1)])) := by exact rv_snoc l p (Utf8.decode (s) (p)).1
  replace h := st_cast (congrArg (fun z_ => ([Sx.siter b1 (s) (p + (Utf8.decode (s) (p)).2), Sx.row (Kd.int .i32) 21 (A5) (cp6) (z_), Sx.row (Kd.int .i64) 3 (A9) (cp10) (((pv l)) ++ ([(((p : Nat)) : Int)]))] ++ R)) e_) h
  clear e_
  have e_ : ((pv l)) ++ ([(((p : Nat)) : Int)]) = (pv (l ++ [(p, (Utf8.decode (s) (p)).1)])) := by exact pv_snoc l p (Utf8.decode (s) (p)).1
  replace h := st_cast (congrArg (fun z_ => ([Sx.siter b1 (s) (p + (Utf8.decode (s) (p)).2), Sx.row (Kd.int .i32) 21 (A5) (cp6) ((rv (l ++ [(p, (Utf8.decode (s) (p)).1)]))), Sx.row (Kd.int .i64) 3 (A9) (cp10) (z_)] ++ R)) e_) h
  clear e_
  replace h := st_front 2 h
  replace h := st_front 2 h
  replace h := st_front 2 h
  refine qn_next ((p + (Utf8.decode (s) (p)).2), (l ++ [(p, (Utf8.decode (s) (p)).1)]), A5, cp6, A9, cp10) (by show s.size - (p + (Utf8.decode (s) (p)).2) < s.size - p; omega) ⟨rfl, (congrArg (fun z_ => some (Value.slice (A5) z_ (cp6))) (by simp [rv_len])), (congrArg (fun z_ => some (Value.slice (A9) z_ (cp10))) (by simp [pv_len])), rfl, trivial⟩ ?_
  show ((l ++ [(p, (Utf8.decode (s) (p)).1)]) ++ decs s s.size (p + (Utf8.decode (s) (p)).2) = runesV s ∧ ((l ++ [(p, (Utf8.decode (s) (p)).1)])).length ≤ (p + (Utf8.decode (s) (p)).2)) ∧ _
  exact ⟨⟨by rw [List.append_assoc]; rw [decs_step s p hp_] at hJ; exact hJ.1, by simp only [List.length_append, List.length_cons, List.length_nil]; omega⟩, h⟩
 ·
  refine wl_v rfl rfl (ov_extract [.bool false] _ rfl rfl) ?_
  refine wl_nil ?_
  refine qn_then ?_
  refine wc_seq ?_
  refine wc_cond_false rfl ?_
  refine wc_exit ?_
  refine qn_then_exit ?_
  refine qn_then_exit ?_
  refine qn_block_exit ?_
  refine qn_then ?_
  refine wc_seq ?_
  refine wc_region ?_
  refine wl_v rfl rfl (ov_move _ rfl) ?_
  refine wl_v rfl rfl (ov_move _ rfl) ?_
  refine wl_v rfl rfl (ov_move _ rfl) ?_
  refine wl_v rfl rfl (ov_lens _ rfl Try.underlying9) ?_
  refine wl_lit (d := (Kd.int .i64)) [(0, .int .i64 (((s).size : Int)))] _ [.int .i64 (((s).size : Int))] ([((s).size : Int)]) h rfl rfl rfl rfl Try.underlying49 infb3 rfl (by decide) (by kernel_rfl) rfl (fun _ _ _ => ((Reps.none _ _).snoc ((Sx.mkInt .i64 (((s).size : Int)))) rfl)) (fun A11 cp12 _ h => ?_)
  refine wl_append (d := (Kd.int .i64)) (L := (pv l)) 3 _ 8 _ _ _ ([((s).size : Int)]) (Sx.flat_int _) h rfl rfl rfl rfl rfl ((Sx.row_reads h (i := 0) rfl).2) Try.underlying49 inf3 rfl (by decide) (by decide) (by first | omega | (simp only [List.length_cons, List.length_nil, List.length_append]; omega)) (by first | rfl | simp) (fun A13 cp14 _ h => ?_)
  replace h := st_selT [false, true, true, true] h
  refine wl_v rfl rfl (ov_assign _ rfl) ?_
  refine wl_v rfl rfl (ov_assign _ rfl) ?_
  refine wl_nil ?_
  refine qn_then ?_
  refine wc_ret ?_
  have hl_ : l = runesV s := by
    have hj_ := hJ.1
    rwa [decs_end s p (by assumption), List.append_nil] at hj_
  have e_ : ((pv l)) ++ ([((s).size : Int)]) = (atsV s) := by rw [hl_]; rfl
  replace h := st_cast (congrArg (fun z_ => ([Sx.siter b1 (s) (p), Sx.row (Kd.int .i32) 21 (A1) (c1) ((rv l)), Sx.row (Kd.int .i64) 3 (A13) (cp14) (z_)] ++ R)) e_) h
  clear e_
  have e_ : (rv l) = (lettersV s) := by rw [hl_]; rfl
  replace h := st_cast (congrArg (fun z_ => ([Sx.siter b1 (s) (p), Sx.row (Kd.int .i32) 21 (A1) (c1) (z_), Sx.row (Kd.int .i64) 3 (A13) (cp14) ((atsV s))] ++ R)) e_) h
  clear e_
  replace h := st_front 2 h
  replace h := st_front 2 h
  replace h := st_selT [true, true, false] h
  refine qn_ret [_, _] ⟨rfl, rfl, trivial⟩ ?_
  exact ⟨A1, c1, A13, cp14, by rw [hl_]; rfl, h⟩
end Go.Proofs.Ytbakllppgekmoaa.L
