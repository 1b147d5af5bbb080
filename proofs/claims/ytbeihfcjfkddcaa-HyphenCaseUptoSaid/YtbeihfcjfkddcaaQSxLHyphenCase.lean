/- Pruned by wip/prune.py. -/
import Derived.Test.YtbeihfcjfkddcaaProg
import Derived.Test.YtbeihfcjfkddcaaQSxGlue
import Derived.Test.YtbeihfcjfkddcaaQSxFlow
import Derived.Test.YtbeihfcjfkddcaaQSxIter
import Derived.Test.YtbeihfcjfkddcaaQSxBytes
import Derived.Test.YtbeihfcjfkddcaaQHyWf
import Derived.Test.YtbeihfcjfkddcaaQSxRunes
import Derived.Test.YtbeihfcjfkddcaaQSxLetter
import Derived.Test.YtbeihfcjfkddcaaQSxText
import Derived.Test.YtbeihfcjfkddcaaQSxHRead
import Derived.Test.YtbeihfcjfkddcaaQSxHRef
import Derived.Test.YtbeihfcjfkddcaaQSxTree
import Derived.Test.YtbeihfcjfkddcaaQSxBook
import Derived.Test.YtbeihfcjfkddcaaQSxPoints
import Derived.Test.YtbeihfcjfkddcaaQSxKinds
import Derived.Test.YtbeihfcjfkddcaaQSxAwake
import Derived.Test.YtbeihfcjfkddcaaQHyEq
import Derived.Test.YtbeihfcjfkddcaaQSxRefPts
import Derived.Test.YtbeihfcjfkddcaaQSxSame
import Derived.Test.YtbeihfcjfkddcaaQHyCase
import Derived.Test.YtbeihfcjfkddcaaQSxConv
namespace Go.Proofs.Ytbeihfcjfkddcaa.L
open Go Go.RowKit Go.Proofs.YtbeihfcjfkddcaaW.PrintWords Go.Proofs.Ytbeihfcjfkddcaa.Hy Go.Proofs.Ytbeihfcjfkddcaa.Given Go.Proofs.Ytbeihfcjfkddcaa.Rn Go.Proofs.Ytbeihfcjfkddcaa.Sx Go.Proofs.Ytbeihfcjfkddcaa.Kinds 
set_option linter.unusedVariables false
set_option linter.unusedSimpArgs false
theorem ent9 : Sx.Ent Try.prog 9 := ⟨Try.f9, Try.func9, by kernel_rfl, by kernel_rfl⟩
theorem sh24 : Sx.shapeOf Try.prog 24 = some (true, 4) := by kernel_rfl
theorem ent13 : Sx.Ent Try.prog 13 := ⟨Try.f13, Try.func13, by kernel_rfl, by kernel_rfl⟩
theorem es40 : Sx.elemSz Try.prog 40 = some (5, 1) := by kernel_rfl
theorem sh5 : Sx.shapeOf Try.prog 5 = some (false, 1) := by kernel_rfl
theorem ent15 : Sx.Ent Try.prog 15 := ⟨Try.f15, Try.func15, by kernel_rfl, by kernel_rfl⟩
theorem ent14 : Sx.Ent Try.prog 14 := ⟨Try.f14, Try.func14, by kernel_rfl, by kernel_rfl⟩
set_option maxHeartbeats 1000000 in
set_option maxRecDepth 100000 in
theorem HyphenCase_calls {w0 w : World} {F0 : Nat → Prop} {R : List Sx.HP} {v0 : World} (l : S24) (Al0 : Option Addr) (cl0 : Nat) (Al1 : Option Addr) (cl1 : Nat) (s : ByteArray) (hv : Sx.RO v0 w0 F0) (hll0 : l.f0.length ≤ cl0) (hCl0 : Kd.string.C v0 Al0 l.f0.length l.f0) (hll1 : l.f1.length ≤ cl1) (hCl1 : Kd.string.C v0 Al1 l.f1.length l.f1) (hzs : s.size ≤ 9223372036854775807) (hsP : ∀ x ∈ l.f0, x.size ≤ 1000000000) (hsW : ∀ x ∈ l.f1, x.size ≤ 1000000000) (hlP : l.f0.length ≤ 1048576) (hlW : l.f1.length ≤ 1048576) (h : Sx.St w0 F0 ([] ++ R) w) : Calls Try.prog 5 #[.agg #[.slice (Al0) (((l).f0).length) (cl0), .slice (Al1) (((l).f1).length) (cl1), .int .i64 ((l).f2), .int .i64 ((l).f3)], .string (s)] w (fun e w1 => e = .returned (.bool true) ∧ Sx.St w0 F0 R w1) := by
 refine Sx.calls_fn (vs := [.agg #[.slice (Al0) (((l).f0).length) (cl0), .slice (Al1) (((l).f1).length) (cl1), .int .i64 ((l).f2), .int .i64 ((l).f3)], .string (s)]) Try.func5 rfl Try.ntmps5 rfl ?_
 refine wc_seq ?_
 refine wc_region ?_
 refine wl_box _ h rfl rfl rfl (fun b1 _ h => ?_)
 replace h : Sx.St _ _ (Sx.blk b1 [.slice (Al0) (((l).f0).length) (cl0), .slice (Al1) (((l).f1).length) (cl1), .int .i64 ((l).f2), .int .i64 ((l).f3)] 24 :: _) _ := h
 refine wl_v rfl rfl (ov_assign _ rfl) ?_
 refine wl_nil ?_
 refine qn_then ?_
 refine wc_seq ?_
 refine wc_seq ?_
 refine wc_region ?_
 refine wl_call _ rfl rfl rfl ent9 (AW.awake_calls (R := [Sx.blk b1 [.slice (Al0) (((l).f0).length) (cl0), .slice (Al1) (((l).f1).length) (cl1), .int .i64 ((l).f2), .int .i64 ((l).f3)] 24] ++ R) h) ?_
 rintro e_ w_ ⟨rfl, h⟩
 refine ⟨_, rfl, ?_⟩
 refine wl_v rfl rfl (ov_notb _ rfl) ?_
 refine wl_nil ?_
 refine qn_then ?_
 refine wc_cond_false rfl ?_
 refine wc_skip ?_
 refine qn_then ?_
 refine wc_seq ?_
 refine wc_region ?_
 refine wl_v rfl rfl (ov_loadbN 0 [.slice (Al0) (((l).f0).length) (cl0), .slice (Al1) (((l).f1).length) (cl1), .int .i64 ((l).f2), .int .i64 ((l).f3)] h rfl rfl sh24 rfl) ?_
 refine wl_call _ rfl rfl rfl ent13 (BK.book_calls (R := [Sx.blk b1 [.slice (Al0) (((l).f0).length) (cl0), .slice (Al1) (((l).f1).length) (cl1), .int .i64 ((l).f2), .int .i64 ((l).f3)] 24] ++ R) (Al0) (cl0) ((l).f0) (Al1) (cl1) ((l).f1) ((l).f2) ((l).f3) (fun _ _ h_ => Sx.ro_C hv h_ hCl0) (fun _ _ h_ => Sx.ro_C hv h_ hCl1) hsP hsW (by omega) (by omega) h) ?_
 rintro e_ w_ (⟨hny2, rfl, h⟩ | ⟨hGy2, gy2, Dy2, rfl, hDy2, h⟩)
 ·
  refine ⟨_, rfl, ?_⟩
  refine wl_v rfl rfl (ov_assign _ rfl) ?_
  refine wl_nil ?_
  refine qn_then ?_
  refine wc_seq ?_
  refine wc_seq ?_
  refine wc_region ?_
  refine wl_v rfl rfl (ov_move _ rfl) ?_
  refine wl_v rfl rfl (ov_bin (.bool true) rfl rfl (binR_eqnil Try.underlying26)) ?_
  refine wl_v rfl rfl (ov_move _ rfl) ?_
  refine wl_skip rfl rfl ?_
  refine wl_skip rfl rfl ?_
  refine wl_skip rfl rfl ?_
  refine wl_v rfl rfl (ov_pick_true _ rfl rfl) ?_
  refine wl_nil ?_
  refine qn_then ?_
  refine wc_cond_true rfl ?_
  refine wc_seq ?_
  refine wc_region ?_
  refine wl_v rfl rfl (ov_assign _ rfl) ?_
  refine wl_nil ?_
  refine qn_then ?_
  refine wc_ret ?_
  refine qn_then_ret ?_
  replace h := st_selT [false] h
  refine qn_ret [_] ⟨rfl, trivial⟩ ?_
  exact ⟨rfl, h⟩
 ·
  replace h : Sx.St w0 F0 ([bookp gy2 ((l).f2) ((l).f3) Dy2, Sx.blk b1 [.slice (Al0) (((l).f0).length) (cl0), .slice (Al1) (((l).f1).length) (cl1), .int .i64 ((l).f2), .int .i64 ((l).f3)] 24] ++ R) _ := h
  refine ⟨_, rfl, ?_⟩
  obtain ⟨pthy2, hwfy2, hdeny2⟩ := treeV_wf ((l).f0) hGy2.2.2.1
  have htly2 := treeV_len ((l).f0)
  refine wl_v rfl rfl (ov_assign _ rfl) ?_
  refine wl_nil ?_
  refine qn_then ?_
  refine wc_seq ?_
  refine wc_seq ?_
  refine wc_region ?_
  refine wl_v rfl rfl (ov_move _ rfl) ?_
  refine wl_v rfl rfl (ov_bin (.bool false) rfl rfl (binR_eqnil Try.underlying26)) ?_
  refine wl_v rfl rfl (ov_move _ rfl) ?_
  refine wl_v rfl rfl (ov_move _ rfl) ?_
  refine wl_v rfl rfl (ov_lens _ rfl Try.underlying9) ?_
  refine wl_v rfl rfl (ov_bin _ rfl rfl (binR_gtr)) ?_
  refine wl_v rfl rfl (ov_pick_false _ rfl rfl) ?_
  refine wl_nil ?_
  refine qn_then ?_
  refine wc_cond (by rfl) (fun c3 => ?_) (fun c3 => ?_)
  ·
   refine wc_seq ?_
   refine wc_region ?_
   refine wl_v rfl rfl (ov_assign _ rfl) ?_
   refine wl_nil ?_
   refine qn_then ?_
   refine wc_ret ?_
   refine qn_then_ret ?_
   replace h := st_selT [false, false] h
   refine qn_ret [_] ⟨rfl, trivial⟩ ?_
   exact ⟨rfl, h⟩
  ·
   refine wc_skip ?_
   refine qn_then ?_
   refine wc_seq ?_
   refine wc_region ?_
   refine wl_v rfl rfl (ov_move _ rfl) ?_
   refine wl_tobytes _ h rfl rfl rfl Try.underlying9 Try.underlying40 Try.underlying5 (by omega) (fun A4 cp5 _ h => ?_)
   refine wl_v rfl rfl (ov_assign _ rfl) ?_
   refine wl_nil ?_
   refine qn_then ?_
   refine wc_seq ?_
   refine wc_seq ?_
   refine wc_region ?_
   refine wl_v rfl rfl (ov_assign _ rfl) ?_
   refine wl_nil ?_
   refine qn_then ?_
   refine wc_block ?_
   replace h := st_front 2 h
   replace h := st_front 2 h
   replace h := st_front 2 h
   refine wc_loop (fun (x_ : Nat × (Option Addr) × (List Int)) => [(1, .string (s)), (2, .pointer (some ⟨b1, 0, none⟩)), (5, .pointer (some ⟨gy2, 0, none⟩)), (6, .slice (x_.2.1) ((x_.2.2).length) (cp5)), (7, .int .i64 (((x_.1 : Nat) : Int)))]) (fun (x_ : Nat × (Option Addr) × (List Int)) (w : World) => (UpAt s x_.1 x_.2.2) ∧ Sx.St w0 F0 ([Sx.cvr 5 (x_.2.1) (cp5) (x_.2.2), bookp gy2 ((l).f2) ((l).f3) Dy2, Sx.blk b1 [.slice (Al0) (((l).f0).length) (cl0), .slice (Al1) (((l).f1).length) (cl1), .int .i64 ((l).f2), .int .i64 ((l).f3)] 24] ++ R) w) (fun (x_ : Nat × (Option Addr) × (List Int)) => s.size - x_.1) (0, A4, (bytesOf s)) ?_ ?_ ?_
   · exact ⟨rfl, rfl, rfl, (congrArg (fun z_ => some (Value.slice (A4) z_ (cp5))) (show ((bytesOf s).length : Nat) = ((bytesOf s)).length by first | rfl | simp)), (congrArg (fun z_ => some (Value.int .i64 z_)) (show (0 : Int) = ((0 : Nat) : Int) by omega)), trivial⟩
   · exact ⟨up_zero s, h⟩
   rintro ⟨i, A, o⟩ w h
   obtain ⟨hJ, h⟩ := h
   replace hJ : UpAt s i o := hJ
   replace h : Sx.St w0 F0 ([Sx.cvr 5 (A) (cp5) (o), bookp gy2 ((l).f2) ((l).f3) Dy2, Sx.blk b1 [.slice (Al0) (((l).f0).length) (cl0), .slice (Al1) (((l).f1).length) (cl1), .int .i64 ((l).f2), .int .i64 ((l).f3)] 24] ++ R) w := h
   show Sx.WC _ _ _ _ [(1, .string (s)), (2, .pointer (some ⟨b1, 0, none⟩)), (5, .pointer (some ⟨gy2, 0, none⟩)), (6, .slice (A) ((o).length) (cp5)), (7, .int .i64 (((i : Nat) : Int)))] _
   have hbl_ := bytesOf_length s
   have hob_ := up_bd hJ
   have hol_ := hJ.1
   refine wc_seq ?_
   refine wc_seq ?_
   refine wc_region ?_
   refine wl_v rfl rfl (ov_move _ rfl) ?_
   refine wl_v rfl rfl (ov_move _ rfl) ?_
   refine wl_v rfl rfl (ov_len _ _ _ _ _ rfl es40) ?_
   refine wl_v rfl rfl (ov_bin _ rfl rfl (binR_lss)) ?_
   refine wl_nil ?_
   refine qn_then ?_
   refine wc_cond (by rfl) (fun c6 => ?_) (fun c6 => ?_)
   ·
    refine wc_skip ?_
    refine qn_then ?_
    refine wc_seq ?_
    refine wc_block ?_
    refine wc_seq ?_
    refine wc_region ?_
    refine wl_v rfl rfl (ov_move _ rfl) ?_
    refine wl_v rfl rfl (ov_move _ rfl) ?_
    obtain ⟨ad7, rfl⟩ := Sx.C_some ((Sx.cvr_reads h (i := 0) rfl).2) (k := (i : Nat)) (by first | assumption | omega | (simp only [List.length_set, List.length_append, List.length_cons, List.length_nil]; omega))
    refine wl_v rfl rfl (ov_indexAddrN _ _ _ _ _ (i : Nat) rfl rfl es40 rfl (by first | assumption | omega | (simp only [List.length_take, List.length_drop, List.length_set, List.length_append, List.length_cons, List.length_nil]; omega))) ?_
    obtain ⟨cl10, _, hk9, hc8⟩ := Sx.C_cells ((Sx.cvr_reads h (i := 0) rfl).2) (z := (0 : Int)) (k := (i : Nat)) (by first | assumption | omega | (simp only [List.length_set, List.length_append, List.length_cons, List.length_nil]; omega))
    obtain rfl : cl10 = [.int .u8 _] := hk9
    refine wl_v rfl rfl (ov_load1 _ _ rfl sh5 ((hc8 0 _ rfl))) ?_
    refine wl_v rfl rfl (ov_bin _ rfl rfl (binR_geq)) ?_
    refine wl_v rfl rfl (ov_move _ rfl) ?_
    refine wl_split 32 rfl (fun c11 => ?_) (fun c11 => ?_)
    ·
     refine wl_v rfl rfl (ov_move _ rfl) ?_
     refine wl_v rfl rfl (ov_move _ rfl) ?_
     refine wl_v rfl rfl (ov_indexAddrN _ _ _ _ _ (i : Nat) rfl rfl es40 rfl (by first | assumption | omega | (simp only [List.length_take, List.length_drop, List.length_set, List.length_append, List.length_cons, List.length_nil]; omega))) ?_
     obtain ⟨cl14, _, hk13, hc12⟩ := Sx.C_cells ((Sx.cvr_reads h (i := 0) rfl).2) (z := (0 : Int)) (k := (i : Nat)) (by first | assumption | omega | (simp only [List.length_set, List.length_append, List.length_cons, List.length_nil]; omega))
     obtain rfl : cl14 = [.int .u8 _] := hk13
     refine wl_v rfl rfl (ov_load1 _ _ rfl sh5 ((hc12 0 _ rfl))) ?_
     refine wl_v rfl rfl (ov_bin _ rfl rfl (binR_leq)) ?_
     refine wl_v rfl rfl (ov_pick_true _ rfl rfl) ?_
     refine wl_nil ?_
     refine qn_then ?_
     refine wc_cond (by rfl) (fun c15 => ?_) (fun c15 => ?_)
     ·
      refine wc_region ?_
      refine wl_v rfl rfl (ov_move _ rfl) ?_
      refine wl_v rfl rfl (ov_move _ rfl) ?_
      refine wl_v rfl rfl (ov_move _ rfl) ?_
      refine wl_v rfl rfl (ov_move _ rfl) ?_
      refine wl_v rfl rfl (ov_indexAddrN _ _ _ _ _ (i : Nat) rfl rfl es40 rfl (by first | assumption | omega | (simp only [List.length_take, List.length_drop, List.length_set, List.length_append, List.length_cons, List.length_nil]; omega))) ?_
      obtain ⟨cl18, _, hk17, hc16⟩ := Sx.C_cells ((Sx.cvr_reads h (i := 0) rfl).2) (z := (0 : Int)) (k := (i : Nat)) (by first | assumption | omega | (simp only [List.length_set, List.length_append, List.length_cons, List.length_nil]; omega))
      obtain rfl : cl18 = [.int .u8 _] := hk17
      refine wl_v rfl rfl (ov_load1 _ _ rfl sh5 ((hc16 0 _ rfl))) ?_
      refine wl_v rfl rfl (ov_bin _ rfl rfl (binR_sub (r := ((o).getD (i : Nat) (0 : Int)) - 32) (Sx.w8 (by omega)))) ?_
      refine wl_v rfl rfl (ov_indexAddrN _ _ _ _ _ (i : Nat) rfl rfl es40 rfl (by first | assumption | omega | (simp only [List.length_take, List.length_drop, List.length_set, List.length_append, List.length_cons, List.length_nil]; omega))) ?_
      refine wl_storecv 0 (i : Nat) (((o).getD (i : Nat) (0 : Int)) - 32) h rfl rfl rfl rfl sh5 (by first | assumption | omega | (simp only [List.length_set]; omega)) (fun _ h => ?_)
      refine wl_nil ?_
      refine qn_block_normal ?_
      refine qn_then ?_
      refine wc_region ?_
      refine wl_v rfl rfl (ov_move _ rfl) ?_
      refine wl_v rfl rfl (ov_bin _ rfl rfl (binR_add (r := (((i : Nat) : Int)) + 1) (Sx.w64 (by omega)))) ?_
      refine wl_v rfl rfl (ov_assign _ rfl) ?_
      refine wl_nil ?_
      replace h := st_front 2 h
      replace h := st_front 2 h
      replace h := st_front 2 h
      refine qn_next ((i + 1), some ad7, ((o).set (i : Nat) (((o).getD (i : Nat) (0 : Int)) - 32))) (by show s.size - (i + 1) < s.size - i; omega) ⟨rfl, rfl, rfl, (congrArg (fun z_ => some (Value.slice (some ad7) z_ (cp5))) (show ((o).length : Nat) = (((o).set (i : Nat) (((o).getD (i : Nat) (0 : Int)) - 32))).length by first | rfl | simp)), (congrArg (fun z_ => some (Value.int .i64 z_)) (show ((((i : Nat) : Int)) + 1 : Int) = (((i + 1) : Nat) : Int) by omega)), trivial⟩ ?_
      show (UpAt s (i + 1) ((o).set (i : Nat) (((o).getD (i : Nat) (0 : Int)) - 32))) ∧ _
      exact ⟨up_set hJ (by omega) (by omega) (by omega), h⟩
     ·
      refine wc_skip ?_
      refine qn_block_normal ?_
      refine qn_then ?_
      refine wc_region ?_
      refine wl_v rfl rfl (ov_move _ rfl) ?_
      refine wl_v rfl rfl (ov_bin _ rfl rfl (binR_add (r := (((i : Nat) : Int)) + 1) (Sx.w64 (by omega)))) ?_
      refine wl_v rfl rfl (ov_assign _ rfl) ?_
      refine wl_nil ?_
      replace h := st_front 2 h
      replace h := st_front 2 h
      replace h := st_front 2 h
      refine qn_next ((i + 1), some ad7, (o)) (by show s.size - (i + 1) < s.size - i; omega) ⟨rfl, rfl, rfl, (congrArg (fun z_ => some (Value.slice (some ad7) z_ (cp5))) (show ((o).length : Nat) = ((o)).length by first | rfl | simp)), (congrArg (fun z_ => some (Value.int .i64 z_)) (show ((((i : Nat) : Int)) + 1 : Int) = (((i + 1) : Nat) : Int) by omega)), trivial⟩ ?_
      show (UpAt s (i + 1) (o)) ∧ _
      exact ⟨up_skip hJ (by omega), h⟩
    ·
     refine wl_skip rfl rfl ?_
     refine wl_skip rfl rfl ?_
     refine wl_skip rfl rfl ?_
     refine wl_skip rfl rfl ?_
     refine wl_skip rfl rfl ?_
     refine wl_v rfl rfl (ov_pick_false _ rfl rfl) ?_
     refine wl_nil ?_
     refine qn_then ?_
     refine wc_cond_false rfl ?_
     refine wc_skip ?_
     refine qn_block_normal ?_
     refine qn_then ?_
     refine wc_region ?_
     refine wl_v rfl rfl (ov_move _ rfl) ?_
     refine wl_v rfl rfl (ov_bin _ rfl rfl (binR_add (r := (((i : Nat) : Int)) + 1) (Sx.w64 (by omega)))) ?_
     refine wl_v rfl rfl (ov_assign _ rfl) ?_
     refine wl_nil ?_
     replace h := st_front 2 h
     replace h := st_front 2 h
     replace h := st_front 2 h
     refine qn_next ((i + 1), some ad7, (o)) (by show s.size - (i + 1) < s.size - i; omega) ⟨rfl, rfl, rfl, (congrArg (fun z_ => some (Value.slice (some ad7) z_ (cp5))) (show ((o).length : Nat) = ((o)).length by first | rfl | simp)), (congrArg (fun z_ => some (Value.int .i64 z_)) (show ((((i : Nat) : Int)) + 1 : Int) = (((i + 1) : Nat) : Int) by omega)), trivial⟩ ?_
     show (UpAt s (i + 1) (o)) ∧ _
     exact ⟨up_skip hJ (by omega), h⟩
   ·
    have ho_ : o = (bytesOf s).map upB := up_end hJ (by omega)
    have hup_ : strOfNums o = upT s := by rw [ho_]; rfl
    have hus_ := up_size s
    refine wc_exit ?_
    refine qn_then_exit ?_
    refine qn_then_exit ?_
    refine qn_block_exit ?_
    refine qn_then ?_
    refine wc_seq ?_
    refine wc_draw (fun w => Sx.St w0 F0 ([Sx.cvr 5 (A) (cp5) (o), bookp gy2 ((l).f2) ((l).f3) Dy2, Sx.blk b1 [.slice (Al0) (((l).f0).length) (cl0), .slice (Al1) (((l).f1).length) (cl1), .int .i64 ((l).f2), .int .i64 ((l).f3)] 24] ++ R) w) (by kernel_rfl) ?_
    replace h := st_drew h
    refine wa_tk 0 rfl rfl rfl (st_selT [true, true, true] h) (fun w_ hS => ov_move _ rfl) ?_
    refine wa_tk 1 rfl rfl rfl (st_selT [true, true, true] h) (fun w_ hS => ov_move _ rfl) ?_
    refine wa_tk 3 rfl rfl rfl (st_selT [true, true, true] h) (fun w_ hS => ov_move _ rfl) ?_
    refine wa_tk 4 rfl rfl rfl (st_selT [true, true, true] h) (fun w_ hS => ov_move _ rfl) ?_
    refine wa_tk 5 rfl rfl rfl (st_selT [true, true, true] h) (fun w_ hS => ov_string rfl ((Sx.cvr_reads hS (i := 0) rfl).2) Try.underlying40 Try.underlying5 Try.underlying9) ?_
    refine wa_one 2 rfl (by kernel_rfl) ?_
    refine wl_call _ rfl rfl rfl ent15 (PT.Points_calls (R := [Sx.cvr 5 (A) (cp5) (o), bookp gy2 ((l).f2) ((l).f3) Dy2, Sx.blk b1 [.slice (Al0) (((l).f0).length) (cl0), .slice (Al1) (((l).f1).length) (cl1), .int .i64 ((l).f2), .int .i64 ((l).f3)] 24] ++ R) gy2 ((l).f2) ((l).f3) Dy2 (treeV ((l).f0)) pthy2 (knV ((l).f1)) s (book_reads (R := [Sx.cvr 5 (A) (cp5) (o), bookp gy2 ((l).f2) ((l).f3) Dy2, Sx.blk b1 [.slice (Al0) (((l).f0).length) (cl0), .slice (Al1) (((l).f1).length) (cl1), .int .i64 ((l).f2), .int .i64 ((l).f3)] 24] ++ R) (j := 1) rfl) hDy2.1 hwfy2 htly2.1 hDy2.2 (by have q_ := hGy2.2.1; omega) (knV_len _) (by first | omega | (rw [hup_, hus_]; omega)) h) ?_
    rintro e_ w_ ⟨Ap19, cp19, rfl, h⟩
    refine ⟨_, rfl, ?_⟩
    replace h : Sx.St w0 F0 ([Sx.row (Kd.int .i64) 3 (Ap19) (cp19) ((pointsV (treeV ((l).f0)) (knV ((l).f1)) ((l).f2) ((l).f3) s)), Sx.cvr 5 (A) (cp5) (o), bookp gy2 ((l).f2) ((l).f3) Dy2, Sx.blk b1 [.slice (Al0) (((l).f0).length) (cl0), .slice (Al1) (((l).f1).length) (cl1), .int .i64 ((l).f2), .int .i64 ((l).f3)] 24] ++ R) _ := h
    have hpl20 := pts_len (treeV ((l).f0)) ((l).f1) ((l).f2) ((l).f3) s
    refine wl_nil ?_
    refine qn_wa (st_selT [false, true, true, true] h) ?_
    refine wa_one 6 rfl (by kernel_rfl) ?_
    refine wl_call _ rfl rfl rfl ent15 (PT.Points_calls (R := [Sx.row (Kd.int .i64) 3 (Ap19) (cp19) ((pointsV (treeV ((l).f0)) (knV ((l).f1)) ((l).f2) ((l).f3) s)), Sx.cvr 5 (A) (cp5) (o), bookp gy2 ((l).f2) ((l).f3) Dy2, Sx.blk b1 [.slice (Al0) (((l).f0).length) (cl0), .slice (Al1) (((l).f1).length) (cl1), .int .i64 ((l).f2), .int .i64 ((l).f3)] 24] ++ R) gy2 ((l).f2) ((l).f3) Dy2 (treeV ((l).f0)) pthy2 (knV ((l).f1)) (strOfNums (o)) (book_reads (R := [Sx.row (Kd.int .i64) 3 (Ap19) (cp19) ((pointsV (treeV ((l).f0)) (knV ((l).f1)) ((l).f2) ((l).f3) s)), Sx.cvr 5 (A) (cp5) (o), bookp gy2 ((l).f2) ((l).f3) Dy2, Sx.blk b1 [.slice (Al0) (((l).f0).length) (cl0), .slice (Al1) (((l).f1).length) (cl1), .int .i64 ((l).f2), .int .i64 ((l).f3)] 24] ++ R) (j := 2) rfl) hDy2.1 hwfy2 htly2.1 hDy2.2 (by have q_ := hGy2.2.1; omega) (knV_len _) (by first | omega | (rw [hup_, hus_]; omega)) h) ?_
    rintro e_ w_ ⟨Ap21, cp21, rfl, h⟩
    refine ⟨_, rfl, ?_⟩
    replace h : Sx.St w0 F0 ([Sx.row (Kd.int .i64) 3 (Ap21) (cp21) ((pointsV (treeV ((l).f0)) (knV ((l).f1)) ((l).f2) ((l).f3) (strOfNums (o)))), Sx.row (Kd.int .i64) 3 (Ap19) (cp19) ((pointsV (treeV ((l).f0)) (knV ((l).f1)) ((l).f2) ((l).f3) s)), Sx.cvr 5 (A) (cp5) (o), bookp gy2 ((l).f2) ((l).f3) Dy2, Sx.blk b1 [.slice (Al0) (((l).f0).length) (cl0), .slice (Al1) (((l).f1).length) (cl1), .int .i64 ((l).f2), .int .i64 ((l).f3)] 24] ++ R) _ := h
    have hpl22 := pts_len (treeV ((l).f0)) ((l).f1) ((l).f2) ((l).f3) (strOfNums (o))
    refine wl_nil ?_
    refine qn_wa (st_selT [false, false, true, true, true] h) ?_
    refine wa_one 7 rfl (by kernel_rfl) ?_
    refine wl_call _ rfl rfl rfl ent14 (SM.Same_calls (R := [Sx.row (Kd.int .i64) 3 (Ap21) (cp21) ((pointsV (treeV ((l).f0)) (knV ((l).f1)) ((l).f2) ((l).f3) (strOfNums (o)))), Sx.row (Kd.int .i64) 3 (Ap19) (cp19) ((pointsV (treeV ((l).f0)) (knV ((l).f1)) ((l).f2) ((l).f3) s)), Sx.cvr 5 (A) (cp5) (o), bookp gy2 ((l).f2) ((l).f3) Dy2, Sx.blk b1 [.slice (Al0) (((l).f0).length) (cl0), .slice (Al1) (((l).f1).length) (cl1), .int .i64 ((l).f2), .int .i64 ((l).f3)] 24] ++ R) (Ap19) (cp19) ((pointsV (treeV ((l).f0)) (knV ((l).f1)) ((l).f2) ((l).f3) s)) (Ap21) (cp21) ((pointsV (treeV ((l).f0)) (knV ((l).f1)) ((l).f2) ((l).f3) (strOfNums (o)))) (Sx.row_reads_at (R := [Sx.row (Kd.int .i64) 3 (Ap21) (cp21) ((pointsV (treeV ((l).f0)) (knV ((l).f1)) ((l).f2) ((l).f3) (strOfNums (o)))), Sx.row (Kd.int .i64) 3 (Ap19) (cp19) ((pointsV (treeV ((l).f0)) (knV ((l).f1)) ((l).f2) ((l).f3) s)), Sx.cvr 5 (A) (cp5) (o), bookp gy2 ((l).f2) ((l).f3) Dy2, Sx.blk b1 [.slice (Al0) (((l).f0).length) (cl0), .slice (Al1) (((l).f1).length) (cl1), .int .i64 ((l).f2), .int .i64 ((l).f3)] 24] ++ R) (j := 1) rfl) (Sx.row_reads_at (R := [Sx.row (Kd.int .i64) 3 (Ap21) (cp21) ((pointsV (treeV ((l).f0)) (knV ((l).f1)) ((l).f2) ((l).f3) (strOfNums (o)))), Sx.row (Kd.int .i64) 3 (Ap19) (cp19) ((pointsV (treeV ((l).f0)) (knV ((l).f1)) ((l).f2) ((l).f3) s)), Sx.cvr 5 (A) (cp5) (o), bookp gy2 ((l).f2) ((l).f3) Dy2, Sx.blk b1 [.slice (Al0) (((l).f0).length) (cl0), .slice (Al1) (((l).f1).length) (cl1), .int .i64 ((l).f2), .int .i64 ((l).f3)] 24] ++ R) (j := 0) rfl) (by omega) h) ?_
    rintro e_ w_ ⟨rfl, h⟩
    refine ⟨_, rfl, ?_⟩
    refine wl_nil ?_
    refine qn_wa (st_selT [false, false, true, true, true] h) ?_
    refine wa_tk 8 rfl rfl rfl (st_selT [false, false, true, true, true] h) (fun w_ hS => ov_assign _ rfl) ?_
    refine wa_done (by kernel_rfl) ?_
    refine qn_then ?_
    refine wc_ret ?_
    replace h := st_selT [false, false, false, false, false] h
    refine qn_ret [_] ⟨rfl, trivial⟩ ?_
    have b_ : (decide (((pointsV (treeV ((l).f0)) (knV ((l).f1)) ((l).f2) ((l).f3) s)) = ((pointsV (treeV ((l).f0)) (knV ((l).f1)) ((l).f2) ((l).f3) (strOfNums (o)))))) = true := decide_eq_true (by rw [hup_]; exact (up_points _ _ _ _ s).symm)
    exact ⟨congrArg (fun z => Ending.returned (Value.bool z)) b_, h⟩
end Go.Proofs.Ytbeihfcjfkddcaa.L
