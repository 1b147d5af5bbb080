/- Pruned by wip/prune.py. -/
import Derived.Test.YtbeihfcjfkddcaaProg
import Derived.Test.YtbeihfcjfkddcaaQSxGlue
import Derived.Test.YtbeihfcjfkddcaaQSxFlow
import Derived.Test.YtbeihfcjfkddcaaQSxIter
import Derived.Test.YtbeihfcjfkddcaaQSxBytes
import Derived.Test.YtbeihfcjfkddcaaQHyRead
import Derived.Test.YtbeihfcjfkddcaaQSxRunes
import Derived.Test.YtbeihfcjfkddcaaQSxLetter
import Derived.Test.YtbeihfcjfkddcaaQSxText
import Derived.Test.YtbeihfcjfkddcaaQSxHRead
namespace Go.Proofs.Ytbeihfcjfkddcaa.RF
open Go Go.RowKit Go.Proofs.YtbeihfcjfkddcaaW.PrintWords Go.Proofs.Ytbeihfcjfkddcaa.Hy Go.Proofs.Ytbeihfcjfkddcaa.Given Go.Proofs.Ytbeihfcjfkddcaa.Rn Go.Proofs.Ytbeihfcjfkddcaa.Sx 
set_option linter.unusedVariables false
set_option linter.unusedSimpArgs false
theorem zo63 : Sx.zeroOf Try.prog 63 = some (.agg #[.slice (none) (0) (0), .slice (none) (0) (0)]) := by kernel_rfl
theorem ent24 : Sx.Ent Try.prog 24 := ⟨Try.f24, Try.func24, by kernel_rfl, by kernel_rfl⟩
theorem infb3 : (Try.prog.info? 3).map (fun i => (i.zero, i.size)) = some (some (.int .i64 (0)), 1) := by kernel_rfl
theorem sh63 : Sx.shapeOf Try.prog 63 = some (true, 2) := by kernel_rfl
theorem es36 : Sx.elemSz Try.prog 36 = some (3, 1) := by kernel_rfl
theorem sh3 : Sx.shapeOf Try.prog 3 = some (false, 1) := by kernel_rfl
theorem fo63_1 : Sx.fieldOff Try.prog 63 1 = some 1 := by kernel_rfl
theorem sh36 : Sx.shapeOf Try.prog 36 = some (false, 1) := by kernel_rfl
theorem fo63_0 : Sx.fieldOff Try.prog 63 0 = some 0 := by kernel_rfl
theorem szf3 : (Try.prog.info? 3).map (·.size) = some 1 := by kernel_rfl
theorem inf3 : (Try.prog.info? 3).map (fun i => (i.zero, i.size, i.bytes)) = some (some (.int .i64 (0)), 1, 8) := by kernel_rfl
theorem ent25 : Sx.Ent Try.prog 25 := ⟨Try.f25, Try.func25, by kernel_rfl, by kernel_rfl⟩
theorem ent37 : Sx.Ent Try.prog 37 := ⟨Try.f37, Try.func37, by kernel_rfl, by kernel_rfl⟩
theorem zo67 : Sx.zeroOf Try.prog 67 = some (.agg #[.slice (none) (0) (0), .slice (none) (0) (0)]) := by kernel_rfl
theorem sh67 : Sx.shapeOf Try.prog 67 = some (true, 2) := by kernel_rfl
theorem fo67_1 : Sx.fieldOff Try.prog 67 1 = some 1 := by kernel_rfl
theorem fo67_0 : Sx.fieldOff Try.prog 67 0 = some 0 := by kernel_rfl
set_option maxHeartbeats 4000000 in
set_option maxRecDepth 100000 in
theorem rPat_calls {w0 w : World} {F0 : Nat → Prop} {R : List Sx.HP} (s : ByteArray) (hs : s.size ≤ 1000000000) (h : Sx.St w0 F0 ([] ++ R) w) : Calls Try.prog 29 #[.string (s)] w (fun e w1 => (∃ (L Q : List Int) (A : Option Addr) (c : Nat) (A2 : Option Addr) (c2 : Nat), patV s = some (L, Q) ∧ e = .returned (.tuple #[.agg #[.slice A L.length c, .slice A2 Q.length c2], .bool true]) ∧ Sx.St w0 F0 ([Sx.row (Kd.int .i64) 3 (A) (c) (L), Sx.row (Kd.int .i64) 3 (A2) (c2) (Q)] ++ R) w1) ∨ (patV s = none ∧ ∃ X1 y1 z1 X2 y2 z2, e = .returned (.tuple #[.agg #[.slice X1 y1 z1, .slice X2 y2 z2], .bool false]) ∧ Sx.St w0 F0 R w1)) := by
 have hbr_ := bad_refV s
 have hbo_ := bad_or s
 refine Sx.calls_fn (vs := [.string (s)]) Try.func29 rfl Try.ntmps29 rfl ?_
 refine wc_seq ?_
 refine wc_region ?_
 refine wl_alloc _ h rfl rfl zo63 (fun b1 _ h => ?_)
 replace h : Sx.St _ _ (Sx.blk b1 [.slice (none) (0) (0), .slice (none) (0) (0)] 63 :: _) _ := h
 refine wl_v rfl rfl (ov_assign _ rfl) ?_
 refine wl_nil ?_
 refine qn_then ?_
 refine wc_seq ?_
 refine wc_region ?_
 refine wl_v rfl rfl (ov_move _ rfl) ?_
 refine wl_call _ rfl rfl rfl ent24 (RN.Runes_calls (R := [Sx.blk b1 [.slice (none) (0) (0), .slice (none) (0) (0)] 63] ++ R) s (by omega) h) ?_
 rintro e_ w_ ⟨Az2, cz2, Bz2, dz2, rfl, h⟩
 refine ⟨_, rfl, ?_⟩
 replace h : Sx.St w0 F0 ([Sx.row (Kd.int .i64) 3 (Az2) (cz2) ((runesL s)), Sx.row (Kd.int .i64) 3 (Bz2) (dz2) ((placesL s)), Sx.blk b1 [.slice (none) (0) (0), .slice (none) (0) (0)] 63] ++ R) _ := h
 refine wl_v rfl rfl (ov_move _ rfl) ?_
 refine wl_v rfl rfl (ov_extract [.slice (Az2) ((runesL s).length) (cz2), .slice (Bz2) ((placesL s).length) (dz2), .int .i64 ((refV s).2)] _ rfl rfl) ?_
 refine wl_v rfl rfl (ov_extract [.slice (Az2) ((runesL s).length) (cz2), .slice (Bz2) ((placesL s).length) (dz2), .int .i64 ((refV s).2)] _ rfl rfl) ?_
 refine wl_v rfl rfl (ov_extract [.slice (Az2) ((runesL s).length) (cz2), .slice (Bz2) ((placesL s).length) (dz2), .int .i64 ((refV s).2)] _ rfl rfl) ?_
 refine wl_v rfl rfl (ov_assign _ rfl) ?_
 refine wl_v rfl rfl (ov_assign _ rfl) ?_
 refine wl_v rfl rfl (ov_assign _ rfl) ?_
 refine wl_nil ?_
 refine qn_then ?_
 refine wc_seq ?_
 refine wc_region ?_
 refine wl_lit (d := (Kd.int .i64)) [(0, .int .i64 (0))] _ [.int .i64 (0)] ([0]) h rfl rfl rfl rfl Try.underlying36 infb3 rfl (by decide) (by kernel_rfl) rfl (fun _ _ _ => ((Reps.none _ _).snoc ((Sx.mkInt .i64 (0))) rfl)) (fun A3 cp4 _ h => ?_)
 refine wl_v rfl rfl (ov_build [(1, .slice (A3) (([0] : List _).length) (cp4))] [.slice (none) (0) (0), .slice (A3) (([0] : List _).length) (cp4)] rfl rfl (by kernel_rfl)) ?_
 refine wl_alloc _ h rfl rfl zo63 (fun b5 _ h => ?_)
 replace h : Sx.St _ _ (Sx.blk b5 [.slice (none) (0) (0), .slice (none) (0) (0)] 63 :: _) _ := h
 refine wl_storebN 0 [.slice (none) (0) (0), .slice (A3) (([0] : List _).length) (cp4)] [.slice (none) (0) (0), .slice (A3) (([0] : List _).length) (cp4)] h rfl rfl rfl rfl (by simp [Value.oneCell']) sh63 rfl rfl (fun _ h => ?_)
 refine wl_nil ?_
 refine qn_then ?_
 refine wc_seq ?_
 refine wc_seq ?_
 refine wc_region ?_
 refine wl_v rfl rfl (ov_move _ rfl) ?_
 refine wl_v rfl rfl (ov_bin _ rfl rfl (binR_geq)) ?_
 refine wl_v rfl rfl (ov_move _ rfl) ?_
 refine wl_split 21 rfl (fun c6 => ?_) (fun c6 => ?_)
 ·
  refine wl_skip rfl rfl ?_
  refine wl_skip rfl rfl ?_
  refine wl_skip rfl rfl ?_
  refine wl_v rfl rfl (ov_pick_true _ rfl rfl) ?_
  refine wl_nil ?_
  refine qn_then ?_
  refine wc_cond_true rfl ?_
  refine wc_seq ?_
  refine wc_region ?_
  refine wl_v rfl rfl (ov_loadbN 0 [.slice (none) (0) (0), .slice (A3) (([0] : List _).length) (cp4)] h rfl rfl sh63 rfl) ?_
  refine wl_storebN 4 [.slice (none) (0) (0), .slice (A3) (([0] : List _).length) (cp4)] [.slice (none) (0) (0), .slice (A3) (([0] : List _).length) (cp4)] h rfl rfl rfl rfl (by simp [Value.oneCell']) sh63 rfl rfl (fun _ h => ?_)
  refine wl_v rfl rfl (ov_assign _ rfl) ?_
  refine wl_nil ?_
  refine qn_then ?_
  refine wc_ret ?_
  refine qn_then_ret ?_
  have hend_ := h
  replace h := st_selT [false, false, false, false, false] h
  refine qn_ret [_, _] ⟨⟨_, rfl, Sx.loadVarN (vs := [.slice (none) (0) (0), .slice (A3) (([0] : List _).length) (cp4)]) sh63 (Sx.blk_cells (cells := [.slice (none) (0) (0), .slice (A3) (([0] : List _).length) (cp4)]) hend_ (i := 4) rfl 0 _ rfl)⟩, rfl, trivial⟩ ?_
  refine Or.inr ⟨?_, _, _, _, _, _, _, rfl, h⟩
  unfold patV
  rw [if_pos (by omega)]
 ·
  refine wl_v rfl rfl (ov_move _ rfl) ?_
  refine wl_v rfl rfl (ov_lens _ rfl Try.underlying9) ?_
  refine wl_v rfl rfl (ov_bin _ rfl rfl (binR_gtr)) ?_
  refine wl_v rfl rfl (ov_pick_false _ rfl rfl) ?_
  refine wl_nil ?_
  refine qn_then ?_
  refine wc_cond (by rfl) (fun c7 => ?_) (fun c7 => ?_)
  ·
   refine wc_seq ?_
   refine wc_region ?_
   refine wl_v rfl rfl (ov_loadbN 0 [.slice (none) (0) (0), .slice (A3) (([0] : List _).length) (cp4)] h rfl rfl sh63 rfl) ?_
   refine wl_storebN 4 [.slice (none) (0) (0), .slice (A3) (([0] : List _).length) (cp4)] [.slice (none) (0) (0), .slice (A3) (([0] : List _).length) (cp4)] h rfl rfl rfl rfl (by simp [Value.oneCell']) sh63 rfl rfl (fun _ h => ?_)
   refine wl_v rfl rfl (ov_assign _ rfl) ?_
   refine wl_nil ?_
   refine qn_then ?_
   refine wc_ret ?_
   refine qn_then_ret ?_
   have hend_ := h
   replace h := st_selT [false, false, false, false, false] h
   refine qn_ret [_, _] ⟨⟨_, rfl, Sx.loadVarN (vs := [.slice (none) (0) (0), .slice (A3) (([0] : List _).length) (cp4)]) sh63 (Sx.blk_cells (cells := [.slice (none) (0) (0), .slice (A3) (([0] : List _).length) (cp4)]) hend_ (i := 4) rfl 0 _ rfl)⟩, rfl, trivial⟩ ?_
   refine Or.inr ⟨?_, _, _, _, _, _, _, rfl, h⟩
   unfold patV
   rw [if_pos (by omega)]
  ·
   refine wc_skip ?_
   refine qn_then ?_
   refine wc_seq ?_
   refine wc_region ?_
   refine wl_v rfl rfl (ov_assign _ rfl) ?_
   refine wl_nil ?_
   refine qn_then ?_
   refine wc_seq ?_
   refine wc_seq ?_
   refine wc_region ?_
   refine wl_v rfl rfl (ov_assign _ rfl) ?_
   refine wl_nil ?_
   refine qn_then ?_
   refine wc_block ?_
   replace h := st_nilrow (Kd.int .i64) 3 h
   replace h := st_front 3 h
   replace h := st_front 3 h
   replace h := st_front 2 h
   replace h := st_front 3 h
   replace h := st_front 5 h
   replace h := st_selT [true, true, true, true, true, false] h
   refine wc_loop (fun (x_ : Nat × Bool × Bool × (Option Addr) × Nat × (List Int) × (Option Addr) × Nat × (List Int) × Bool × (Option Addr)) => [(0, .string (s)), (2, .pointer (some ⟨b1, 0, none⟩)), (4, .slice (x_.2.2.2.2.2.2.2.2.2.2) ((runesL s).length) (cz2)), (7, .pointer (some ⟨b5, 0, none⟩)), (8, .bool (x_.2.2.2.2.2.2.2.2.2.1)), (9, .int .i64 ((x_.1 : Int)))]) (fun (x_ : Nat × Bool × Bool × (Option Addr) × Nat × (List Int) × (Option Addr) × Nat × (List Int) × Bool × (Option Addr)) (w : World) => (patGo (List.drop x_.1 (runesL s)) x_.2.1 x_.2.2.2.2.2.1 x_.2.2.2.2.2.2.2.2.1 x_.2.2.1 x_.2.2.2.2.2.2.2.2.2.1 = patV s ∧ (x_.2.1 = true ↔ x_.1 = 0) ∧ (x_.2.2.1 = true ↔ (0 < x_.1 ∧ 48 ≤ (runesL s).getD (x_.1 - 1) 0 ∧ (runesL s).getD (x_.1 - 1) 0 ≤ 57)) ∧ (x_.2.2.2.2.2.2.2.2.1).length = (x_.2.2.2.2.2.1).length + 1 ∧ ((x_.2.2.2.2.2.1).length ≤ x_.1 ∧ x_.1 ≤ (runesL s).length)) ∧ Sx.St w0 F0 ([Sx.blk b1 [.slice (none) (0) (0), .slice (none) (0) (0)] 63, Sx.blk b5 [.slice (x_.2.2.2.1) ((x_.2.2.2.2.2.1).length) (x_.2.2.2.2.1), .slice (x_.2.2.2.2.2.2.1) ((x_.2.2.2.2.2.2.2.2.1).length) (x_.2.2.2.2.2.2.2.1)] 63, Sx.row (Kd.int .i64) 3 (x_.2.2.2.1) (x_.2.2.2.2.1) (x_.2.2.2.2.2.1), Sx.row (Kd.int .i64) 3 (x_.2.2.2.2.2.2.1) (x_.2.2.2.2.2.2.2.1) (x_.2.2.2.2.2.2.2.2.1), Sx.row (Kd.int .i64) 3 (x_.2.2.2.2.2.2.2.2.2.2) (cz2) ((runesL s))] ++ R) w) (fun (x_ : Nat × Bool × Bool × (Option Addr) × Nat × (List Int) × (Option Addr) × Nat × (List Int) × Bool × (Option Addr)) => (runesL s).length - x_.1) (0, true, false, none, 0, [], A3, cp4, [0], false, Az2) ?_ ?_ ?_
   · exact ⟨rfl, rfl, rfl, rfl, (congrArg (fun z_ => some (Value.bool z_)) (show false = (false) by first | rfl | simp | omega)), (congrArg (fun z_ => some (Value.int .i64 z_)) (show (0 : Int) = (0 : Int) by omega)), trivial⟩
   · exact ⟨⟨by unfold patV; rw [if_neg (by omega)]; rfl, ⟨fun _ => rfl, fun _ => rfl⟩, ⟨fun z_ => absurd (show (false : Bool) = true from z_) Bool.false_ne_true, fun z_ => absurd (show 0 < 0 from z_.1) (by omega)⟩, rfl, Nat.le_refl _, Nat.zero_le _⟩, h⟩
   rintro ⟨i, f, dg, A, c, L, A2, c2, Lv, re, X⟩ w h
   obtain ⟨hJ, h⟩ := h
   replace hJ : patGo (List.drop i (runesL s)) f L Lv dg re = patV s ∧ (f = true ↔ i = 0) ∧ (dg = true ↔ (0 < i ∧ 48 ≤ (runesL s).getD (i - 1) 0 ∧ (runesL s).getD (i - 1) 0 ≤ 57)) ∧ (Lv).length = (L).length + 1 ∧ ((L).length ≤ i ∧ i ≤ (runesL s).length) := hJ
   replace h : Sx.St w0 F0 ([Sx.blk b1 [.slice (none) (0) (0), .slice (none) (0) (0)] 63, Sx.blk b5 [.slice (A) ((L).length) (c), .slice (A2) ((Lv).length) (c2)] 63, Sx.row (Kd.int .i64) 3 (A) (c) (L), Sx.row (Kd.int .i64) 3 (A2) (c2) (Lv), Sx.row (Kd.int .i64) 3 (X) (cz2) ((runesL s))] ++ R) w := h
   show Sx.WC _ _ _ _ [(0, .string (s)), (2, .pointer (some ⟨b1, 0, none⟩)), (4, .slice (X) ((runesL s).length) (cz2)), (7, .pointer (some ⟨b5, 0, none⟩)), (8, .bool (re)), (9, .int .i64 ((i : Int)))] _
   have hrb_ := runes_bd (s := s) (by omega) i
   have hrl_ := runes_len s
   refine wc_seq ?_
   refine wc_seq ?_
   refine wc_region ?_
   refine wl_v rfl rfl (ov_move _ rfl) ?_
   refine wl_v rfl rfl (ov_move _ rfl) ?_
   refine wl_v rfl rfl (ov_len _ _ _ _ _ rfl es36) ?_
   refine wl_v rfl rfl (ov_bin _ rfl rfl (binR_lss)) ?_
   refine wl_nil ?_
   refine qn_then ?_
   refine wc_cond (by rfl) (fun c8 => ?_) (fun c8 => ?_)
   ·
    refine wc_skip ?_
    refine qn_then ?_
    refine wc_seq ?_
    refine wc_block ?_
    refine wc_seq ?_
    refine wc_region ?_
    refine wl_v rfl rfl (ov_move _ rfl) ?_
    refine wl_v rfl rfl (ov_move _ rfl) ?_
    obtain ⟨ad9, rfl⟩ := Sx.C_some ((Sx.row_reads h (i := 4) rfl).2) (k := i) (by first | assumption | omega | (simp only [List.length_set, List.length_append, List.length_cons, List.length_nil]; omega))
    refine wl_v rfl rfl (ov_indexAddrN _ _ _ _ _ i rfl rfl es36 rfl (by first | assumption | omega | (simp only [List.length_take, List.length_drop, List.length_set, List.length_append, List.length_cons, List.length_nil]; omega))) ?_
    obtain ⟨cl12, _, hk11, hc10⟩ := Sx.C_cells ((Sx.row_reads h (i := 4) rfl).2) (z := (0 : Int)) (k := i) (by first | assumption | omega | (simp only [List.length_set, List.length_append, List.length_cons, List.length_nil]; omega))
    obtain rfl : cl12 = [.int .i64 _] := hk11
    refine wl_v rfl rfl (ov_load1 _ _ rfl sh3 ((hc10 0 _ rfl))) ?_
    refine wl_v rfl rfl (ov_assign _ rfl) ?_
    refine wl_nil ?_
    refine qn_then ?_
    refine wc_seq ?_
    refine wc_seq ?_
    refine wc_region ?_
    refine wl_v rfl rfl (ov_move _ rfl) ?_
    refine wl_v rfl rfl (ov_bin _ rfl rfl (binR_geq)) ?_
    refine wl_v rfl rfl (ov_move _ rfl) ?_
    refine wl_split 39 rfl (fun c13 => ?_) (fun c13 => ?_)
    ·
     refine wl_v rfl rfl (ov_move _ rfl) ?_
     refine wl_v rfl rfl (ov_bin _ rfl rfl (binR_leq)) ?_
     refine wl_v rfl rfl (ov_pick_true _ rfl rfl) ?_
     refine wl_nil ?_
     refine qn_then ?_
     refine wc_cond (by rfl) (fun c14 => ?_) (fun c14 => ?_)
     ·
      refine wc_seq ?_
      refine wc_seq ?_
      refine wc_region ?_
      refine wl_v rfl rfl (ov_move _ rfl) ?_
      refine wl_v rfl rfl (ov_bin _ rfl rfl (binR_gtr)) ?_
      refine wl_v rfl rfl (ov_move _ rfl) ?_
      refine wl_split 45 rfl (fun c15 => ?_) (fun c15 => ?_)
      ·
       refine wl_v rfl rfl (ov_move _ rfl) ?_
       refine wl_v rfl rfl (ov_move _ rfl) ?_
       refine wl_v rfl rfl (ov_bin _ rfl rfl (binR_sub (r := ((i : Int)) - 1) (Sx.w64 (by omega)))) ?_
       refine wl_v rfl rfl (ov_indexAddrN _ _ _ _ _ (i - 1) rfl rfl es36 (by omega) (by first | assumption | omega | (simp only [List.length_take, List.length_drop, List.length_set, List.length_append, List.length_cons, List.length_nil]; omega))) ?_
       obtain ⟨cl18, _, hk17, hc16⟩ := Sx.C_cells ((Sx.row_reads h (i := 4) rfl).2) (z := (0 : Int)) (k := (i - 1)) (by first | assumption | omega | (simp only [List.length_set, List.length_append, List.length_cons, List.length_nil]; omega))
       obtain rfl : cl18 = [.int .i64 _] := hk17
       refine wl_v rfl rfl (ov_load1 _ _ rfl sh3 ((hc16 0 _ rfl))) ?_
       refine wl_v rfl rfl (ov_bin _ rfl rfl (binR_geq)) ?_
       refine wl_v rfl rfl (ov_pick_true _ rfl rfl) ?_
       refine wl_v rfl rfl (ov_move _ rfl) ?_
       refine wl_split 53 rfl (fun c19 => ?_) (fun c19 => ?_)
       ·
        refine wl_v rfl rfl (ov_move _ rfl) ?_
        refine wl_v rfl rfl (ov_move _ rfl) ?_
        refine wl_v rfl rfl (ov_bin _ rfl rfl (binR_sub (r := ((i : Int)) - 1) (Sx.w64 (by omega)))) ?_
        refine wl_v rfl rfl (ov_indexAddrN _ _ _ _ _ (i - 1) rfl rfl es36 (by omega) (by first | assumption | omega | (simp only [List.length_take, List.length_drop, List.length_set, List.length_append, List.length_cons, List.length_nil]; omega))) ?_
        obtain ⟨cl22, _, hk21, hc20⟩ := Sx.C_cells ((Sx.row_reads h (i := 4) rfl).2) (z := (0 : Int)) (k := (i - 1)) (by first | assumption | omega | (simp only [List.length_set, List.length_append, List.length_cons, List.length_nil]; omega))
        obtain rfl : cl22 = [.int .i64 _] := hk21
        refine wl_v rfl rfl (ov_load1 _ _ rfl sh3 ((hc20 0 _ rfl))) ?_
        refine wl_v rfl rfl (ov_bin _ rfl rfl (binR_leq)) ?_
        refine wl_v rfl rfl (ov_pick_true _ rfl rfl) ?_
        refine wl_nil ?_
        refine qn_then ?_
        refine wc_cond (by rfl) (fun c23 => ?_) (fun c23 => ?_)
        ·
         refine wc_seq ?_
         refine wc_region ?_
         refine wl_v rfl rfl (ov_loadbN 1 [.slice (A) ((L).length) (c), .slice (A2) ((Lv).length) (c2)] h rfl rfl sh63 rfl) ?_
         refine wl_storebN 0 [.slice (A) ((L).length) (c), .slice (A2) ((Lv).length) (c2)] [.slice (A) ((L).length) (c), .slice (A2) ((Lv).length) (c2)] h rfl rfl rfl rfl (by simp [Value.oneCell']) sh63 rfl rfl (fun _ h => ?_)
         refine wl_v rfl rfl (ov_assign _ rfl) ?_
         refine wl_nil ?_
         refine qn_then ?_
         refine wc_ret ?_
         refine qn_then_ret ?_
         refine qn_then_ret ?_
         refine qn_block_ret ?_
         refine qn_then_ret ?_
         refine qn_then_ret ?_
         refine qn_block_ret ?_
         refine qn_then_ret ?_
         have hend_ := h
         replace h := st_selT [false, false, false, false, false] h
         refine qn_ret [_, _] ⟨⟨_, rfl, Sx.loadVarN (vs := [.slice (A) ((L).length) (c), .slice (A2) ((Lv).length) (c2)]) sh63 (Sx.blk_cells (cells := [.slice (A) ((L).length) (c), .slice (A2) ((Lv).length) (c2)]) hend_ (i := 0) rfl 0 _ rfl)⟩, rfl, trivial⟩ ?_
         refine Or.inr ⟨?_, _, _, _, _, _, _, rfl, h⟩
         rw [← hJ.1, drop_get (runesL s) 0 (by omega)]
         first
         | exact patGo_dg2 ⟨by omega, by omega⟩ (hJ.2.2.1.2 ⟨by omega, by omega, by omega⟩)
         | exact patGo_pt2 (by omega) (by cases hf_ : f with | false => rfl | true => exact absurd (hJ.2.1.1 hf_) (by omega)) (fun z_ => by have q_ := List.drop_eq_nil_iff.1 z_; omega)
         | exact patGo_no (by omega) (by omega) (fun z_ => by first | exact absurd z_.1 (by assumption) | exact absurd z_.2 (by omega))
        ·
         refine wc_skip ?_
         refine qn_then ?_
         refine wc_seq ?_
         refine wc_region ?_
         refine wl_v rfl rfl (ov_fieldAddr _ ⟨b5, 1, none⟩ _ rfl fo63_1 rfl) ?_
         refine wl_v rfl rfl (ov_loadb 1 _ h rfl rfl sh36 rfl) ?_
         refine wl_v rfl rfl (ov_fieldAddr _ ⟨b5, 0, none⟩ _ rfl fo63_0 rfl) ?_
         refine wl_v rfl rfl (ov_loadb 1 _ h rfl rfl sh36 rfl) ?_
         refine wl_v rfl rfl (ov_len _ _ _ _ _ rfl es36) ?_
         refine wl_v rfl rfl (ov_move _ rfl) ?_
         refine wl_v rfl rfl (ov_bin _ rfl rfl (binR_sub (r := (((runesL s)).getD i (0 : Int)) - 48) (Sx.w64 (by omega)))) ?_
         obtain ⟨ad24, rfl⟩ := Sx.C_some ((Sx.row_reads h (i := 3) rfl).2) (k := (L).length) (by first | assumption | omega | (simp only [List.length_set, List.length_append, List.length_cons, List.length_nil]; omega))
         refine wl_v rfl rfl (ov_indexAddrN _ _ _ _ _ (L).length rfl rfl es36 rfl (by first | assumption | omega | (simp only [List.length_take, List.length_drop, List.length_set, List.length_append, List.length_cons, List.length_nil]; omega))) ?_
         refine wl_storeeN 3 (L).length 0 (.int .i64 ((((runesL s)).getD i (0 : Int)) - 48)) [.int .i64 ((((runesL s)).getD i (0 : Int)) - 48)] (0 : Int) ((((runesL s)).getD i (0 : Int)) - 48) h rfl rfl rfl (by first | rfl | simp) rfl rfl (by simp [Value.oneCell']) szf3 (by first | assumption | omega | (simp only [List.length_set, List.length_append, List.length_cons, List.length_nil]; omega)) (Nat.le_of_ble_eq_true rfl) (by intro cl hcl hM; obtain ⟨_, _, _, hM⟩ := hM; obtain rfl : cl = [.int .i64 _] := hM; intro _ _ _; exact (Sx.mkInt .i64 ((((runesL s)).getD i (0 : Int)) - 48))) (fun _ h => ?_)
         refine wl_nil ?_
         refine qn_then ?_
         refine wc_exit ?_
         refine qn_then_exit ?_
         refine qn_block_exit ?_
         refine qn_then ?_
         refine wc_region ?_
         refine wl_v rfl rfl (ov_move _ rfl) ?_
         refine wl_v rfl rfl (ov_bin _ rfl rfl (binR_add (r := ((i : Int)) + 1) (Sx.w64 (by omega)))) ?_
         refine wl_v rfl rfl (ov_assign _ rfl) ?_
         refine wl_nil ?_
         replace h := st_front 4 h
         replace h := st_front 4 h
         replace h := st_front 4 h
         replace h := st_front 4 h
         replace h := st_front 4 h
         refine qn_next ((i + 1), false, true, A, c, (L), some ad24, c2, ((Lv).set (L).length ((((runesL s)).getD i (0 : Int)) - 48)), (re), some ad9) (by show (runesL s).length - (i + 1) < (runesL s).length - i; omega) ⟨rfl, rfl, rfl, rfl, (congrArg (fun z_ => some (Value.bool z_)) (show (re) = ((re)) by first | rfl | simp | omega)), (congrArg (fun z_ => some (Value.int .i64 z_)) (show (((i : Int)) + 1 : Int) = ((i + 1) : Int) by omega)), trivial⟩ ?_
         show (patGo (List.drop (i + 1) (runesL s)) false (L) ((Lv).set (L).length ((((runesL s)).getD i (0 : Int)) - 48)) true (re) = patV s ∧ (false = true ↔ (i + 1) = 0) ∧ (true = true ↔ (0 < (i + 1) ∧ 48 ≤ (runesL s).getD ((i + 1) - 1) 0 ∧ (runesL s).getD ((i + 1) - 1) 0 ≤ 57)) ∧ (((Lv).set (L).length ((((runesL s)).getD i (0 : Int)) - 48))).length = ((L)).length + 1 ∧ (((L)).length ≤ (i + 1) ∧ (i + 1) ≤ (runesL s).length)) ∧ _
         have hls_ : (Lv).length = ((Lv).set (L).length ((((runesL s)).getD i (0 : Int)) - 48)).length := (List.length_set ..).symm
         rw [hls_] at h
         have e_ := hJ.1
         rw [drop_get (runesL s) 0 (by omega)] at e_
         rw [patGo_dg ⟨by omega, by omega⟩ (by cases hdg_ : dg with | false => rfl | true => exact absurd (hJ.2.2.1.1 hdg_) (by omega))] at e_
         refine ⟨⟨e_, ⟨fun z_ => absurd z_ (by decide), fun z_ => by omega⟩, ?_, ?_, ?_⟩, h⟩
         · show (true = true ↔ (0 < i + 1 ∧ 48 ≤ (runesL s).getD i 0 ∧ (runesL s).getD i 0 ≤ 57))
           exact ⟨fun _ => ⟨by omega, by omega, by omega⟩, fun _ => rfl⟩
         · first | omega | (simp only [List.length_append, List.length_set, List.length_cons, List.length_nil]; omega)
         · first | omega | (simp only [List.length_append, List.length_cons, List.length_nil]; omega)
       ·
        refine wl_skip rfl rfl ?_
        refine wl_skip rfl rfl ?_
        refine wl_skip rfl rfl ?_
        refine wl_skip rfl rfl ?_
        refine wl_skip rfl rfl ?_
        refine wl_skip rfl rfl ?_
        refine wl_v rfl rfl (ov_pick_false _ rfl rfl) ?_
        refine wl_nil ?_
        refine qn_then ?_
        refine wc_cond_false rfl ?_
        refine wc_skip ?_
        refine qn_then ?_
        refine wc_seq ?_
        refine wc_region ?_
        refine wl_v rfl rfl (ov_fieldAddr _ ⟨b5, 1, none⟩ _ rfl fo63_1 rfl) ?_
        refine wl_v rfl rfl (ov_loadb 1 _ h rfl rfl sh36 rfl) ?_
        refine wl_v rfl rfl (ov_fieldAddr _ ⟨b5, 0, none⟩ _ rfl fo63_0 rfl) ?_
        refine wl_v rfl rfl (ov_loadb 1 _ h rfl rfl sh36 rfl) ?_
        refine wl_v rfl rfl (ov_len _ _ _ _ _ rfl es36) ?_
        refine wl_v rfl rfl (ov_move _ rfl) ?_
        refine wl_v rfl rfl (ov_bin _ rfl rfl (binR_sub (r := (((runesL s)).getD i (0 : Int)) - 48) (Sx.w64 (by omega)))) ?_
        obtain ⟨ad25, rfl⟩ := Sx.C_some ((Sx.row_reads h (i := 3) rfl).2) (k := (L).length) (by first | assumption | omega | (simp only [List.length_set, List.length_append, List.length_cons, List.length_nil]; omega))
        refine wl_v rfl rfl (ov_indexAddrN _ _ _ _ _ (L).length rfl rfl es36 rfl (by first | assumption | omega | (simp only [List.length_take, List.length_drop, List.length_set, List.length_append, List.length_cons, List.length_nil]; omega))) ?_
        refine wl_storeeN 3 (L).length 0 (.int .i64 ((((runesL s)).getD i (0 : Int)) - 48)) [.int .i64 ((((runesL s)).getD i (0 : Int)) - 48)] (0 : Int) ((((runesL s)).getD i (0 : Int)) - 48) h rfl rfl rfl (by first | rfl | simp) rfl rfl (by simp [Value.oneCell']) szf3 (by first | assumption | omega | (simp only [List.length_set, List.length_append, List.length_cons, List.length_nil]; omega)) (Nat.le_of_ble_eq_true rfl) (by intro cl hcl hM; obtain ⟨_, _, _, hM⟩ := hM; obtain rfl : cl = [.int .i64 _] := hM; intro _ _ _; exact (Sx.mkInt .i64 ((((runesL s)).getD i (0 : Int)) - 48))) (fun _ h => ?_)
        refine wl_nil ?_
        refine qn_then ?_
        refine wc_exit ?_
        refine qn_then_exit ?_
        refine qn_block_exit ?_
        refine qn_then ?_
        refine wc_region ?_
        refine wl_v rfl rfl (ov_move _ rfl) ?_
        refine wl_v rfl rfl (ov_bin _ rfl rfl (binR_add (r := ((i : Int)) + 1) (Sx.w64 (by omega)))) ?_
        refine wl_v rfl rfl (ov_assign _ rfl) ?_
        refine wl_nil ?_
        replace h := st_front 4 h
        replace h := st_front 4 h
        replace h := st_front 4 h
        replace h := st_front 4 h
        replace h := st_front 4 h
        refine qn_next ((i + 1), false, true, A, c, (L), some ad25, c2, ((Lv).set (L).length ((((runesL s)).getD i (0 : Int)) - 48)), (re), some ad9) (by show (runesL s).length - (i + 1) < (runesL s).length - i; omega) ⟨rfl, rfl, rfl, rfl, (congrArg (fun z_ => some (Value.bool z_)) (show (re) = ((re)) by first | rfl | simp | omega)), (congrArg (fun z_ => some (Value.int .i64 z_)) (show (((i : Int)) + 1 : Int) = ((i + 1) : Int) by omega)), trivial⟩ ?_
        show (patGo (List.drop (i + 1) (runesL s)) false (L) ((Lv).set (L).length ((((runesL s)).getD i (0 : Int)) - 48)) true (re) = patV s ∧ (false = true ↔ (i + 1) = 0) ∧ (true = true ↔ (0 < (i + 1) ∧ 48 ≤ (runesL s).getD ((i + 1) - 1) 0 ∧ (runesL s).getD ((i + 1) - 1) 0 ≤ 57)) ∧ (((Lv).set (L).length ((((runesL s)).getD i (0 : Int)) - 48))).length = ((L)).length + 1 ∧ (((L)).length ≤ (i + 1) ∧ (i + 1) ≤ (runesL s).length)) ∧ _
        have hls_ : (Lv).length = ((Lv).set (L).length ((((runesL s)).getD i (0 : Int)) - 48)).length := (List.length_set ..).symm
        rw [hls_] at h
        have e_ := hJ.1
        rw [drop_get (runesL s) 0 (by omega)] at e_
        rw [patGo_dg ⟨by omega, by omega⟩ (by cases hdg_ : dg with | false => rfl | true => exact absurd (hJ.2.2.1.1 hdg_) (by omega))] at e_
        refine ⟨⟨e_, ⟨fun z_ => absurd z_ (by decide), fun z_ => by omega⟩, ?_, ?_, ?_⟩, h⟩
        · show (true = true ↔ (0 < i + 1 ∧ 48 ≤ (runesL s).getD i 0 ∧ (runesL s).getD i 0 ≤ 57))
          exact ⟨fun _ => ⟨by omega, by omega, by omega⟩, fun _ => rfl⟩
        · first | omega | (simp only [List.length_append, List.length_set, List.length_cons, List.length_nil]; omega)
        · first | omega | (simp only [List.length_append, List.length_cons, List.length_nil]; omega)
      ·
       refine wl_skip rfl rfl ?_
       refine wl_skip rfl rfl ?_
       refine wl_skip rfl rfl ?_
       refine wl_skip rfl rfl ?_
       refine wl_skip rfl rfl ?_
       refine wl_skip rfl rfl ?_
       refine wl_v rfl rfl (ov_pick_false _ rfl rfl) ?_
       refine wl_v rfl rfl (ov_move _ rfl) ?_
       refine wl_skip rfl rfl ?_
       refine wl_skip rfl rfl ?_
       refine wl_skip rfl rfl ?_
       refine wl_skip rfl rfl ?_
       refine wl_skip rfl rfl ?_
       refine wl_skip rfl rfl ?_
       refine wl_v rfl rfl (ov_pick_false _ rfl rfl) ?_
       refine wl_nil ?_
       refine qn_then ?_
       refine wc_cond_false rfl ?_
       refine wc_skip ?_
       refine qn_then ?_
       refine wc_seq ?_
       refine wc_region ?_
       refine wl_v rfl rfl (ov_fieldAddr _ ⟨b5, 1, none⟩ _ rfl fo63_1 rfl) ?_
       refine wl_v rfl rfl (ov_loadb 1 _ h rfl rfl sh36 rfl) ?_
       refine wl_v rfl rfl (ov_fieldAddr _ ⟨b5, 0, none⟩ _ rfl fo63_0 rfl) ?_
       refine wl_v rfl rfl (ov_loadb 1 _ h rfl rfl sh36 rfl) ?_
       refine wl_v rfl rfl (ov_len _ _ _ _ _ rfl es36) ?_
       refine wl_v rfl rfl (ov_move _ rfl) ?_
       refine wl_v rfl rfl (ov_bin _ rfl rfl (binR_sub (r := (((runesL s)).getD i (0 : Int)) - 48) (Sx.w64 (by omega)))) ?_
       obtain ⟨ad26, rfl⟩ := Sx.C_some ((Sx.row_reads h (i := 3) rfl).2) (k := (L).length) (by first | assumption | omega | (simp only [List.length_set, List.length_append, List.length_cons, List.length_nil]; omega))
       refine wl_v rfl rfl (ov_indexAddrN _ _ _ _ _ (L).length rfl rfl es36 rfl (by first | assumption | omega | (simp only [List.length_take, List.length_drop, List.length_set, List.length_append, List.length_cons, List.length_nil]; omega))) ?_
       refine wl_storeeN 3 (L).length 0 (.int .i64 ((((runesL s)).getD i (0 : Int)) - 48)) [.int .i64 ((((runesL s)).getD i (0 : Int)) - 48)] (0 : Int) ((((runesL s)).getD i (0 : Int)) - 48) h rfl rfl rfl (by first | rfl | simp) rfl rfl (by simp [Value.oneCell']) szf3 (by first | assumption | omega | (simp only [List.length_set, List.length_append, List.length_cons, List.length_nil]; omega)) (Nat.le_of_ble_eq_true rfl) (by intro cl hcl hM; obtain ⟨_, _, _, hM⟩ := hM; obtain rfl : cl = [.int .i64 _] := hM; intro _ _ _; exact (Sx.mkInt .i64 ((((runesL s)).getD i (0 : Int)) - 48))) (fun _ h => ?_)
       refine wl_nil ?_
       refine qn_then ?_
       refine wc_exit ?_
       refine qn_then_exit ?_
       refine qn_block_exit ?_
       refine qn_then ?_
       refine wc_region ?_
       refine wl_v rfl rfl (ov_move _ rfl) ?_
       refine wl_v rfl rfl (ov_bin _ rfl rfl (binR_add (r := ((i : Int)) + 1) (Sx.w64 (by omega)))) ?_
       refine wl_v rfl rfl (ov_assign _ rfl) ?_
       refine wl_nil ?_
       replace h := st_front 4 h
       replace h := st_front 4 h
       replace h := st_front 4 h
       replace h := st_front 4 h
       replace h := st_front 4 h
       refine qn_next ((i + 1), false, true, A, c, (L), some ad26, c2, ((Lv).set (L).length ((((runesL s)).getD i (0 : Int)) - 48)), (re), some ad9) (by show (runesL s).length - (i + 1) < (runesL s).length - i; omega) ⟨rfl, rfl, rfl, rfl, (congrArg (fun z_ => some (Value.bool z_)) (show (re) = ((re)) by first | rfl | simp | omega)), (congrArg (fun z_ => some (Value.int .i64 z_)) (show (((i : Int)) + 1 : Int) = ((i + 1) : Int) by omega)), trivial⟩ ?_
       show (patGo (List.drop (i + 1) (runesL s)) false (L) ((Lv).set (L).length ((((runesL s)).getD i (0 : Int)) - 48)) true (re) = patV s ∧ (false = true ↔ (i + 1) = 0) ∧ (true = true ↔ (0 < (i + 1) ∧ 48 ≤ (runesL s).getD ((i + 1) - 1) 0 ∧ (runesL s).getD ((i + 1) - 1) 0 ≤ 57)) ∧ (((Lv).set (L).length ((((runesL s)).getD i (0 : Int)) - 48))).length = ((L)).length + 1 ∧ (((L)).length ≤ (i + 1) ∧ (i + 1) ≤ (runesL s).length)) ∧ _
       have hls_ : (Lv).length = ((Lv).set (L).length ((((runesL s)).getD i (0 : Int)) - 48)).length := (List.length_set ..).symm
       rw [hls_] at h
       have e_ := hJ.1
       rw [drop_get (runesL s) 0 (by omega)] at e_
       rw [patGo_dg ⟨by omega, by omega⟩ (by cases hdg_ : dg with | false => rfl | true => exact absurd (hJ.2.2.1.1 hdg_) (by omega))] at e_
       refine ⟨⟨e_, ⟨fun z_ => absurd z_ (by decide), fun z_ => by omega⟩, ?_, ?_, ?_⟩, h⟩
       · show (true = true ↔ (0 < i + 1 ∧ 48 ≤ (runesL s).getD i 0 ∧ (runesL s).getD i 0 ≤ 57))
         exact ⟨fun _ => ⟨by omega, by omega, by omega⟩, fun _ => rfl⟩
       · first | omega | (simp only [List.length_append, List.length_set, List.length_cons, List.length_nil]; omega)
       · first | omega | (simp only [List.length_append, List.length_cons, List.length_nil]; omega)
     ·
      refine wc_skip ?_
      refine qn_then ?_
      refine wc_seq ?_
      refine wc_seq ?_
      refine wc_region ?_
      refine wl_v rfl rfl (ov_move _ rfl) ?_
      refine wl_v rfl rfl (ov_bin _ rfl rfl (binR_eql)) ?_
      refine wl_nil ?_
      refine qn_then ?_
      refine wc_cond (by rfl) (fun c27 => ?_) (fun c27 => ?_)
      ·
       refine wc_seq ?_
       refine wc_region ?_
       refine wl_v rfl rfl (ov_move _ rfl) ?_
       refine wl_v rfl rfl (ov_bin _ rfl rfl (binR_neq)) ?_
       refine wl_v rfl rfl (ov_move _ rfl) ?_
       refine wl_split 74 rfl (fun c28 => ?_) (fun c28 => ?_)
       ·
        refine wl_v rfl rfl (ov_move _ rfl) ?_
        refine wl_v rfl rfl (ov_move _ rfl) ?_
        refine wl_v rfl rfl (ov_len _ _ _ _ _ rfl es36) ?_
        refine wl_v rfl rfl (ov_bin _ rfl rfl (binR_sub (r := ((((runesL s).length : Nat) : Int)) - 1) (Sx.w64 (by omega)))) ?_
        refine wl_v rfl rfl (ov_bin _ rfl rfl (binR_neq)) ?_
        refine wl_v rfl rfl (ov_pick_true _ rfl rfl) ?_
        refine wl_nil ?_
        refine qn_then ?_
        refine wc_cond (by rfl) (fun c29 => ?_) (fun c29 => ?_)
        ·
         refine wc_seq ?_
         refine wc_region ?_
         refine wl_v rfl rfl (ov_loadbN 1 [.slice (A) ((L).length) (c), .slice (A2) ((Lv).length) (c2)] h rfl rfl sh63 rfl) ?_
         refine wl_storebN 0 [.slice (A) ((L).length) (c), .slice (A2) ((Lv).length) (c2)] [.slice (A) ((L).length) (c), .slice (A2) ((Lv).length) (c2)] h rfl rfl rfl rfl (by simp [Value.oneCell']) sh63 rfl rfl (fun _ h => ?_)
         refine wl_v rfl rfl (ov_assign _ rfl) ?_
         refine wl_nil ?_
         refine qn_then ?_
         refine wc_ret ?_
         refine qn_then_ret ?_
         refine qn_block_ret ?_
         refine qn_then_ret ?_
         refine qn_then_ret ?_
         refine qn_block_ret ?_
         refine qn_then_ret ?_
         have hend_ := h
         replace h := st_selT [false, false, false, false, false] h
         refine qn_ret [_, _] ⟨⟨_, rfl, Sx.loadVarN (vs := [.slice (A) ((L).length) (c), .slice (A2) ((Lv).length) (c2)]) sh63 (Sx.blk_cells (cells := [.slice (A) ((L).length) (c), .slice (A2) ((Lv).length) (c2)]) hend_ (i := 0) rfl 0 _ rfl)⟩, rfl, trivial⟩ ?_
         refine Or.inr ⟨?_, _, _, _, _, _, _, rfl, h⟩
         rw [← hJ.1, drop_get (runesL s) 0 (by omega)]
         first
         | exact patGo_dg2 ⟨by omega, by omega⟩ (hJ.2.2.1.2 ⟨by omega, by omega, by omega⟩)
         | exact patGo_pt2 (by omega) (by cases hf_ : f with | false => rfl | true => exact absurd (hJ.2.1.1 hf_) (by omega)) (fun z_ => by have q_ := List.drop_eq_nil_iff.1 z_; omega)
         | exact patGo_no (by omega) (by omega) (fun z_ => by first | exact absurd z_.1 (by assumption) | exact absurd z_.2 (by omega))
        ·
         refine wc_skip ?_
         refine qn_then ?_
         refine wc_seq ?_
         refine wc_region ?_
         refine wl_v rfl rfl (ov_fieldAddr _ ⟨b5, 0, none⟩ _ rfl fo63_0 rfl) ?_
         refine wl_v rfl rfl (ov_loadb 1 _ h rfl rfl sh36 rfl) ?_
         refine wl_v rfl rfl (ov_move _ rfl) ?_
         refine wl_lit (d := (Kd.int .i64)) [(0, .int .i64 (((runesL s)).getD i (0 : Int)))] _ [.int .i64 (((runesL s)).getD i (0 : Int))] ([((runesL s)).getD i (0 : Int)]) h rfl rfl rfl rfl Try.underlying36 infb3 rfl (by decide) (by kernel_rfl) rfl (fun _ _ _ => ((Reps.none _ _).snoc ((Sx.mkInt .i64 (((runesL s)).getD i (0 : Int)))) rfl)) (fun A30 cp31 _ h => ?_)
         refine wl_append (d := (Kd.int .i64)) (L := L) 3 _ 8 _ _ _ ([((runesL s)).getD i (0 : Int)]) (Sx.flat_int _) h rfl rfl rfl rfl rfl ((Sx.row_reads h (i := 0) rfl).2) Try.underlying36 inf3 rfl (by decide) (by decide) (by first | omega | (simp only [List.length_cons, List.length_nil, List.length_append, List.length_set]; omega)) (by first | rfl | simp) (fun A32 cp33 _ h => ?_)
         replace h := st_selT [false, true, true, true, true, true] h
         refine wl_v rfl rfl (ov_fieldAddr _ ⟨b5, 0, none⟩ _ rfl fo63_0 rfl) ?_
         refine wl_storeb 1 _ [.slice (A32) ((L ++ ([((runesL s)).getD i (0 : Int)])).length) (cp33), .slice (A2) ((Lv).length) (c2)] h rfl rfl rfl rfl rfl rfl sh36 rfl rfl (fun _ h => ?_)
         refine wl_nil ?_
         refine qn_then ?_
         refine wc_region ?_
         refine wl_v rfl rfl (ov_fieldAddr _ ⟨b5, 1, none⟩ _ rfl fo63_1 rfl) ?_
         refine wl_v rfl rfl (ov_loadb 1 _ h rfl rfl sh36 rfl) ?_
         refine wl_lit (d := (Kd.int .i64)) [(0, .int .i64 (0))] _ [.int .i64 (0)] ([0]) h rfl rfl rfl rfl Try.underlying36 infb3 rfl (by decide) (by kernel_rfl) rfl (fun _ _ _ => ((Reps.none _ _).snoc ((Sx.mkInt .i64 (0))) rfl)) (fun A34 cp35 _ h => ?_)
         refine wl_append (d := (Kd.int .i64)) (L := Lv) 4 _ 8 _ _ _ ([0]) (Sx.flat_int _) h rfl rfl rfl rfl rfl ((Sx.row_reads h (i := 0) rfl).2) Try.underlying36 inf3 rfl (by decide) (by decide) (by first | omega | (simp only [List.length_cons, List.length_nil, List.length_append, List.length_set]; omega)) (by first | rfl | simp) (fun A36 cp37 _ h => ?_)
         replace h := st_selT [false, true, true, true, true, true] h
         refine wl_v rfl rfl (ov_fieldAddr _ ⟨b5, 1, none⟩ _ rfl fo63_1 rfl) ?_
         refine wl_storeb 1 _ [.slice (A32) ((L ++ ([((runesL s)).getD i (0 : Int)])).length) (cp33), .slice (A36) ((Lv ++ ([0])).length) (cp37)] h rfl rfl rfl rfl rfl rfl sh36 rfl rfl (fun _ h => ?_)
         refine wl_nil ?_
         refine qn_block_normal ?_
         refine qn_then ?_
         refine wc_region ?_
         refine wl_v rfl rfl (ov_move _ rfl) ?_
         refine wl_v rfl rfl (ov_bin _ rfl rfl (binR_add (r := ((i : Int)) + 1) (Sx.w64 (by omega)))) ?_
         refine wl_v rfl rfl (ov_assign _ rfl) ?_
         refine wl_nil ?_
         replace h := st_front 4 h
         replace h := st_front 4 h
         replace h := st_front 4 h
         replace h := st_front 4 h
         replace h := st_front 4 h
         refine qn_next ((i + 1), false, false, A32, cp33, (L ++ ([((runesL s)).getD i (0 : Int)])), A36, cp37, (Lv ++ ([0])), (re), some ad9) (by show (runesL s).length - (i + 1) < (runesL s).length - i; omega) ⟨rfl, rfl, rfl, rfl, (congrArg (fun z_ => some (Value.bool z_)) (show (re) = ((re)) by first | rfl | simp | omega)), (congrArg (fun z_ => some (Value.int .i64 z_)) (show (((i : Int)) + 1 : Int) = ((i + 1) : Int) by omega)), trivial⟩ ?_
         show (patGo (List.drop (i + 1) (runesL s)) false (L ++ ([((runesL s)).getD i (0 : Int)])) (Lv ++ ([0])) false (re) = patV s ∧ (false = true ↔ (i + 1) = 0) ∧ (false = true ↔ (0 < (i + 1) ∧ 48 ≤ (runesL s).getD ((i + 1) - 1) 0 ∧ (runesL s).getD ((i + 1) - 1) 0 ≤ 57)) ∧ ((Lv ++ ([0]))).length = ((L ++ ([((runesL s)).getD i (0 : Int)]))).length + 1 ∧ (((L ++ ([((runesL s)).getD i (0 : Int)]))).length ≤ (i + 1) ∧ (i + 1) ≤ (runesL s).length)) ∧ _
         have e_ := hJ.1
         rw [drop_get (runesL s) 0 (by omega)] at e_
         rw [patGo_pt (by omega) (by first | (left; exact hJ.2.1.2 (by omega)) | (right; exact List.drop_eq_nil_of_le (by omega)))] at e_
         refine ⟨⟨e_, ⟨fun z_ => absurd z_ (by decide), fun z_ => by omega⟩, ?_, ?_, ?_⟩, h⟩
         · show (false = true ↔ (0 < i + 1 ∧ 48 ≤ (runesL s).getD i 0 ∧ (runesL s).getD i 0 ≤ 57))
           exact ⟨fun z_ => absurd z_ (by decide), fun z_ => by (have q_ := z_.2; omega)⟩
         · first | omega | (simp only [List.length_append, List.length_set, List.length_cons, List.length_nil]; omega)
         · first | omega | (simp only [List.length_append, List.length_cons, List.length_nil]; omega)
       ·
        refine wl_skip rfl rfl ?_
        refine wl_skip rfl rfl ?_
        refine wl_skip rfl rfl ?_
        refine wl_skip rfl rfl ?_
        refine wl_skip rfl rfl ?_
        refine wl_v rfl rfl (ov_pick_false _ rfl rfl) ?_
        refine wl_nil ?_
        refine qn_then ?_
        refine wc_cond_false rfl ?_
        refine wc_skip ?_
        refine qn_then ?_
        refine wc_seq ?_
        refine wc_region ?_
        refine wl_v rfl rfl (ov_fieldAddr _ ⟨b5, 0, none⟩ _ rfl fo63_0 rfl) ?_
        refine wl_v rfl rfl (ov_loadb 1 _ h rfl rfl sh36 rfl) ?_
        refine wl_v rfl rfl (ov_move _ rfl) ?_
        refine wl_lit (d := (Kd.int .i64)) [(0, .int .i64 (((runesL s)).getD i (0 : Int)))] _ [.int .i64 (((runesL s)).getD i (0 : Int))] ([((runesL s)).getD i (0 : Int)]) h rfl rfl rfl rfl Try.underlying36 infb3 rfl (by decide) (by kernel_rfl) rfl (fun _ _ _ => ((Reps.none _ _).snoc ((Sx.mkInt .i64 (((runesL s)).getD i (0 : Int)))) rfl)) (fun A38 cp39 _ h => ?_)
        refine wl_append (d := (Kd.int .i64)) (L := L) 3 _ 8 _ _ _ ([((runesL s)).getD i (0 : Int)]) (Sx.flat_int _) h rfl rfl rfl rfl rfl ((Sx.row_reads h (i := 0) rfl).2) Try.underlying36 inf3 rfl (by decide) (by decide) (by first | omega | (simp only [List.length_cons, List.length_nil, List.length_append, List.length_set]; omega)) (by first | rfl | simp) (fun A40 cp41 _ h => ?_)
        replace h := st_selT [false, true, true, true, true, true] h
        refine wl_v rfl rfl (ov_fieldAddr _ ⟨b5, 0, none⟩ _ rfl fo63_0 rfl) ?_
        refine wl_storeb 1 _ [.slice (A40) ((L ++ ([((runesL s)).getD i (0 : Int)])).length) (cp41), .slice (A2) ((Lv).length) (c2)] h rfl rfl rfl rfl rfl rfl sh36 rfl rfl (fun _ h => ?_)
        refine wl_nil ?_
        refine qn_then ?_
        refine wc_region ?_
        refine wl_v rfl rfl (ov_fieldAddr _ ⟨b5, 1, none⟩ _ rfl fo63_1 rfl) ?_
        refine wl_v rfl rfl (ov_loadb 1 _ h rfl rfl sh36 rfl) ?_
        refine wl_lit (d := (Kd.int .i64)) [(0, .int .i64 (0))] _ [.int .i64 (0)] ([0]) h rfl rfl rfl rfl Try.underlying36 infb3 rfl (by decide) (by kernel_rfl) rfl (fun _ _ _ => ((Reps.none _ _).snoc ((Sx.mkInt .i64 (0))) rfl)) (fun A42 cp43 _ h => ?_)
        refine wl_append (d := (Kd.int .i64)) (L := Lv) 4 _ 8 _ _ _ ([0]) (Sx.flat_int _) h rfl rfl rfl rfl rfl ((Sx.row_reads h (i := 0) rfl).2) Try.underlying36 inf3 rfl (by decide) (by decide) (by first | omega | (simp only [List.length_cons, List.length_nil, List.length_append, List.length_set]; omega)) (by first | rfl | simp) (fun A44 cp45 _ h => ?_)
        replace h := st_selT [false, true, true, true, true, true] h
        refine wl_v rfl rfl (ov_fieldAddr _ ⟨b5, 1, none⟩ _ rfl fo63_1 rfl) ?_
        refine wl_storeb 1 _ [.slice (A40) ((L ++ ([((runesL s)).getD i (0 : Int)])).length) (cp41), .slice (A44) ((Lv ++ ([0])).length) (cp45)] h rfl rfl rfl rfl rfl rfl sh36 rfl rfl (fun _ h => ?_)
        refine wl_nil ?_
        refine qn_block_normal ?_
        refine qn_then ?_
        refine wc_region ?_
        refine wl_v rfl rfl (ov_move _ rfl) ?_
        refine wl_v rfl rfl (ov_bin _ rfl rfl (binR_add (r := ((i : Int)) + 1) (Sx.w64 (by omega)))) ?_
        refine wl_v rfl rfl (ov_assign _ rfl) ?_
        refine wl_nil ?_
        replace h := st_front 4 h
        replace h := st_front 4 h
        replace h := st_front 4 h
        replace h := st_front 4 h
        replace h := st_front 4 h
        refine qn_next ((i + 1), false, false, A40, cp41, (L ++ ([((runesL s)).getD i (0 : Int)])), A44, cp45, (Lv ++ ([0])), (re), some ad9) (by show (runesL s).length - (i + 1) < (runesL s).length - i; omega) ⟨rfl, rfl, rfl, rfl, (congrArg (fun z_ => some (Value.bool z_)) (show (re) = ((re)) by first | rfl | simp | omega)), (congrArg (fun z_ => some (Value.int .i64 z_)) (show (((i : Int)) + 1 : Int) = ((i + 1) : Int) by omega)), trivial⟩ ?_
        show (patGo (List.drop (i + 1) (runesL s)) false (L ++ ([((runesL s)).getD i (0 : Int)])) (Lv ++ ([0])) false (re) = patV s ∧ (false = true ↔ (i + 1) = 0) ∧ (false = true ↔ (0 < (i + 1) ∧ 48 ≤ (runesL s).getD ((i + 1) - 1) 0 ∧ (runesL s).getD ((i + 1) - 1) 0 ≤ 57)) ∧ ((Lv ++ ([0]))).length = ((L ++ ([((runesL s)).getD i (0 : Int)]))).length + 1 ∧ (((L ++ ([((runesL s)).getD i (0 : Int)]))).length ≤ (i + 1) ∧ (i + 1) ≤ (runesL s).length)) ∧ _
        have e_ := hJ.1
        rw [drop_get (runesL s) 0 (by omega)] at e_
        rw [patGo_pt (by omega) (by first | (left; exact hJ.2.1.2 (by omega)) | (right; exact List.drop_eq_nil_of_le (by omega)))] at e_
        refine ⟨⟨e_, ⟨fun z_ => absurd z_ (by decide), fun z_ => by omega⟩, ?_, ?_, ?_⟩, h⟩
        · show (false = true ↔ (0 < i + 1 ∧ 48 ≤ (runesL s).getD i 0 ∧ (runesL s).getD i 0 ≤ 57))
          exact ⟨fun z_ => absurd z_ (by decide), fun z_ => by (have q_ := z_.2; omega)⟩
        · first | omega | (simp only [List.length_append, List.length_set, List.length_cons, List.length_nil]; omega)
        · first | omega | (simp only [List.length_append, List.length_cons, List.length_nil]; omega)
      ·
       refine wc_seq ?_
       refine wc_seq ?_
       refine wc_region ?_
       refine wl_v rfl rfl (ov_move _ rfl) ?_
       refine wl_call _ rfl rfl rfl ent25 (LT.rLetter_calls (R := [Sx.blk b1 [.slice (none) (0) (0), .slice (none) (0) (0)] 63, Sx.blk b5 [.slice (A) ((L).length) (c), .slice (A2) ((Lv).length) (c2)] 63, Sx.row (Kd.int .i64) 3 (A) (c) (L), Sx.row (Kd.int .i64) 3 (A2) (c2) (Lv), Sx.row (Kd.int .i64) 3 (some ad9) (cz2) ((runesL s))] ++ R) (((runesL s)).getD i (0 : Int)) (by omega) (by omega) h) ?_
       rintro e_ w_ ⟨rfl, h⟩
       refine ⟨_, rfl, ?_⟩
       refine wl_v rfl rfl (ov_not _ (¬ (LetP (((runesL s)).getD i (0 : Int)))) rfl (by first | exact decide_not.symm | simp)) ?_
       refine wl_v rfl rfl (ov_move _ rfl) ?_
       refine wl_split 85 rfl (fun c46 => ?_) (fun c46 => ?_)
       ·
        refine wl_skip rfl rfl ?_
        refine wl_skip rfl rfl ?_
        refine wl_skip rfl rfl ?_
        refine wl_skip rfl rfl ?_
        refine wl_v rfl rfl (ov_pick_true _ rfl rfl) ?_
        refine wl_nil ?_
        refine qn_then ?_
        refine wc_cond_true rfl ?_
        refine wc_seq ?_
        refine wc_region ?_
        refine wl_v rfl rfl (ov_loadbN 1 [.slice (A) ((L).length) (c), .slice (A2) ((Lv).length) (c2)] h rfl rfl sh63 rfl) ?_
        refine wl_storebN 0 [.slice (A) ((L).length) (c), .slice (A2) ((Lv).length) (c2)] [.slice (A) ((L).length) (c), .slice (A2) ((Lv).length) (c2)] h rfl rfl rfl rfl (by simp [Value.oneCell']) sh63 rfl rfl (fun _ h => ?_)
        refine wl_v rfl rfl (ov_assign _ rfl) ?_
        refine wl_nil ?_
        refine qn_then ?_
        refine wc_ret ?_
        refine qn_then_ret ?_
        refine qn_then_ret ?_
        refine qn_block_ret ?_
        refine qn_then_ret ?_
        refine qn_then_ret ?_
        refine qn_block_ret ?_
        refine qn_then_ret ?_
        have hend_ := h
        replace h := st_selT [false, false, false, false, false] h
        refine qn_ret [_, _] ⟨⟨_, rfl, Sx.loadVarN (vs := [.slice (A) ((L).length) (c), .slice (A2) ((Lv).length) (c2)]) sh63 (Sx.blk_cells (cells := [.slice (A) ((L).length) (c), .slice (A2) ((Lv).length) (c2)]) hend_ (i := 0) rfl 0 _ rfl)⟩, rfl, trivial⟩ ?_
        refine Or.inr ⟨?_, _, _, _, _, _, _, rfl, h⟩
        rw [← hJ.1, drop_get (runesL s) 0 (by omega)]
        first
        | exact patGo_dg2 ⟨by omega, by omega⟩ (hJ.2.2.1.2 ⟨by omega, by omega, by omega⟩)
        | exact patGo_pt2 (by omega) (by cases hf_ : f with | false => rfl | true => exact absurd (hJ.2.1.1 hf_) (by omega)) (fun z_ => by have q_ := List.drop_eq_nil_iff.1 z_; omega)
        | exact patGo_no (by omega) (by omega) (fun z_ => by first | exact absurd z_.1 (by assumption) | exact absurd z_.2 (by omega))
       ·
        refine wl_v rfl rfl (ov_move _ rfl) ?_
        refine wl_call _ rfl rfl rfl ent37 (LT.rLower_calls (R := [Sx.blk b1 [.slice (none) (0) (0), .slice (none) (0) (0)] 63, Sx.blk b5 [.slice (A) ((L).length) (c), .slice (A2) ((Lv).length) (c2)] 63, Sx.row (Kd.int .i64) 3 (A) (c) (L), Sx.row (Kd.int .i64) 3 (A2) (c2) (Lv), Sx.row (Kd.int .i64) 3 (some ad9) (cz2) ((runesL s))] ++ R) (((runesL s)).getD i (0 : Int)) (by omega) (by omega) h) ?_
        rintro e_ w_ ⟨rfl, h⟩
        refine ⟨_, rfl, ?_⟩
        have hlb47 := lowV_bd (((runesL s)).getD i (0 : Int))
        refine wl_v rfl rfl (ov_move _ rfl) ?_
        refine wl_v rfl rfl (ov_bin _ rfl rfl (binR_neq)) ?_
        refine wl_v rfl rfl (ov_pick_false _ rfl rfl) ?_
        refine wl_nil ?_
        refine qn_then ?_
        refine wc_cond (by rfl) (fun c48 => ?_) (fun c48 => ?_)
        ·
         refine wc_seq ?_
         refine wc_region ?_
         refine wl_v rfl rfl (ov_loadbN 1 [.slice (A) ((L).length) (c), .slice (A2) ((Lv).length) (c2)] h rfl rfl sh63 rfl) ?_
         refine wl_storebN 0 [.slice (A) ((L).length) (c), .slice (A2) ((Lv).length) (c2)] [.slice (A) ((L).length) (c), .slice (A2) ((Lv).length) (c2)] h rfl rfl rfl rfl (by simp [Value.oneCell']) sh63 rfl rfl (fun _ h => ?_)
         refine wl_v rfl rfl (ov_assign _ rfl) ?_
         refine wl_nil ?_
         refine qn_then ?_
         refine wc_ret ?_
         refine qn_then_ret ?_
         refine qn_then_ret ?_
         refine qn_block_ret ?_
         refine qn_then_ret ?_
         refine qn_then_ret ?_
         refine qn_block_ret ?_
         refine qn_then_ret ?_
         have hend_ := h
         replace h := st_selT [false, false, false, false, false] h
         refine qn_ret [_, _] ⟨⟨_, rfl, Sx.loadVarN (vs := [.slice (A) ((L).length) (c), .slice (A2) ((Lv).length) (c2)]) sh63 (Sx.blk_cells (cells := [.slice (A) ((L).length) (c), .slice (A2) ((Lv).length) (c2)]) hend_ (i := 0) rfl 0 _ rfl)⟩, rfl, trivial⟩ ?_
         refine Or.inr ⟨?_, _, _, _, _, _, _, rfl, h⟩
         rw [← hJ.1, drop_get (runesL s) 0 (by omega)]
         first
         | exact patGo_dg2 ⟨by omega, by omega⟩ (hJ.2.2.1.2 ⟨by omega, by omega, by omega⟩)
         | exact patGo_pt2 (by omega) (by cases hf_ : f with | false => rfl | true => exact absurd (hJ.2.1.1 hf_) (by omega)) (fun z_ => by have q_ := List.drop_eq_nil_iff.1 z_; omega)
         | exact patGo_no (by omega) (by omega) (fun z_ => by first | exact absurd z_.1 (by assumption) | exact absurd z_.2 (by omega))
        ·
         refine wc_skip ?_
         refine qn_then ?_
         refine wc_region ?_
         refine wl_v rfl rfl (ov_assign _ rfl) ?_
         refine wl_nil ?_
         refine qn_then ?_
         refine wc_seq ?_
         refine wc_region ?_
         refine wl_v rfl rfl (ov_fieldAddr _ ⟨b5, 0, none⟩ _ rfl fo63_0 rfl) ?_
         refine wl_v rfl rfl (ov_loadb 1 _ h rfl rfl sh36 rfl) ?_
         refine wl_v rfl rfl (ov_move _ rfl) ?_
         refine wl_lit (d := (Kd.int .i64)) [(0, .int .i64 (((runesL s)).getD i (0 : Int)))] _ [.int .i64 (((runesL s)).getD i (0 : Int))] ([((runesL s)).getD i (0 : Int)]) h rfl rfl rfl rfl Try.underlying36 infb3 rfl (by decide) (by kernel_rfl) rfl (fun _ _ _ => ((Reps.none _ _).snoc ((Sx.mkInt .i64 (((runesL s)).getD i (0 : Int)))) rfl)) (fun A49 cp50 _ h => ?_)
         refine wl_append (d := (Kd.int .i64)) (L := L) 3 _ 8 _ _ _ ([((runesL s)).getD i (0 : Int)]) (Sx.flat_int _) h rfl rfl rfl rfl rfl ((Sx.row_reads h (i := 0) rfl).2) Try.underlying36 inf3 rfl (by decide) (by decide) (by first | omega | (simp only [List.length_cons, List.length_nil, List.length_append, List.length_set]; omega)) (by first | rfl | simp) (fun A51 cp52 _ h => ?_)
         replace h := st_selT [false, true, true, true, true, true] h
         refine wl_v rfl rfl (ov_fieldAddr _ ⟨b5, 0, none⟩ _ rfl fo63_0 rfl) ?_
         refine wl_storeb 1 _ [.slice (A51) ((L ++ ([((runesL s)).getD i (0 : Int)])).length) (cp52), .slice (A2) ((Lv).length) (c2)] h rfl rfl rfl rfl rfl rfl sh36 rfl rfl (fun _ h => ?_)
         refine wl_nil ?_
         refine qn_then ?_
         refine wc_region ?_
         refine wl_v rfl rfl (ov_fieldAddr _ ⟨b5, 1, none⟩ _ rfl fo63_1 rfl) ?_
         refine wl_v rfl rfl (ov_loadb 1 _ h rfl rfl sh36 rfl) ?_
         refine wl_lit (d := (Kd.int .i64)) [(0, .int .i64 (0))] _ [.int .i64 (0)] ([0]) h rfl rfl rfl rfl Try.underlying36 infb3 rfl (by decide) (by kernel_rfl) rfl (fun _ _ _ => ((Reps.none _ _).snoc ((Sx.mkInt .i64 (0))) rfl)) (fun A53 cp54 _ h => ?_)
         refine wl_append (d := (Kd.int .i64)) (L := Lv) 4 _ 8 _ _ _ ([0]) (Sx.flat_int _) h rfl rfl rfl rfl rfl ((Sx.row_reads h (i := 0) rfl).2) Try.underlying36 inf3 rfl (by decide) (by decide) (by first | omega | (simp only [List.length_cons, List.length_nil, List.length_append, List.length_set]; omega)) (by first | rfl | simp) (fun A55 cp56 _ h => ?_)
         replace h := st_selT [false, true, true, true, true, true] h
         refine wl_v rfl rfl (ov_fieldAddr _ ⟨b5, 1, none⟩ _ rfl fo63_1 rfl) ?_
         refine wl_storeb 1 _ [.slice (A51) ((L ++ ([((runesL s)).getD i (0 : Int)])).length) (cp52), .slice (A55) ((Lv ++ ([0])).length) (cp56)] h rfl rfl rfl rfl rfl rfl sh36 rfl rfl (fun _ h => ?_)
         refine wl_nil ?_
         refine qn_block_normal ?_
         refine qn_then ?_
         refine wc_region ?_
         refine wl_v rfl rfl (ov_move _ rfl) ?_
         refine wl_v rfl rfl (ov_bin _ rfl rfl (binR_add (r := ((i : Int)) + 1) (Sx.w64 (by omega)))) ?_
         refine wl_v rfl rfl (ov_assign _ rfl) ?_
         refine wl_nil ?_
         replace h := st_front 4 h
         replace h := st_front 4 h
         replace h := st_front 4 h
         replace h := st_front 4 h
         replace h := st_front 4 h
         refine qn_next ((i + 1), false, false, A51, cp52, (L ++ ([((runesL s)).getD i (0 : Int)])), A55, cp56, (Lv ++ ([0])), true, some ad9) (by show (runesL s).length - (i + 1) < (runesL s).length - i; omega) ⟨rfl, rfl, rfl, rfl, (congrArg (fun z_ => some (Value.bool z_)) (show true = (true) by first | rfl | simp | omega)), (congrArg (fun z_ => some (Value.int .i64 z_)) (show (((i : Int)) + 1 : Int) = ((i + 1) : Int) by omega)), trivial⟩ ?_
         show (patGo (List.drop (i + 1) (runesL s)) false (L ++ ([((runesL s)).getD i (0 : Int)])) (Lv ++ ([0])) false true = patV s ∧ (false = true ↔ (i + 1) = 0) ∧ (false = true ↔ (0 < (i + 1) ∧ 48 ≤ (runesL s).getD ((i + 1) - 1) 0 ∧ (runesL s).getD ((i + 1) - 1) 0 ≤ 57)) ∧ ((Lv ++ ([0]))).length = ((L ++ ([((runesL s)).getD i (0 : Int)]))).length + 1 ∧ (((L ++ ([((runesL s)).getD i (0 : Int)]))).length ≤ (i + 1) ∧ (i + 1) ≤ (runesL s).length)) ∧ _
         have e_ := hJ.1
         rw [drop_get (runesL s) 0 (by omega)] at e_
         rw [patGo_let (by first | assumption | exact Classical.not_not.1 (by assumption)) (by omega)] at e_
         refine ⟨⟨e_, ⟨fun z_ => absurd z_ (by decide), fun z_ => by omega⟩, ?_, ?_, ?_⟩, h⟩
         · show (false = true ↔ (0 < i + 1 ∧ 48 ≤ (runesL s).getD i 0 ∧ (runesL s).getD i 0 ≤ 57))
           exact ⟨fun z_ => absurd z_ (by decide), fun z_ => by (have q_ := z_.2; omega)⟩
         · first | omega | (simp only [List.length_append, List.length_set, List.length_cons, List.length_nil]; omega)
         · first | omega | (simp only [List.length_append, List.length_cons, List.length_nil]; omega)
    ·
     refine wl_skip rfl rfl ?_
     refine wl_skip rfl rfl ?_
     refine wl_v rfl rfl (ov_pick_false _ rfl rfl) ?_
     refine wl_nil ?_
     refine qn_then ?_
     refine wc_cond_false rfl ?_
     refine wc_skip ?_
     refine qn_then ?_
     refine wc_seq ?_
     refine wc_seq ?_
     refine wc_region ?_
     refine wl_v rfl rfl (ov_move _ rfl) ?_
     refine wl_v rfl rfl (ov_bin _ rfl rfl (binR_eql)) ?_
     refine wl_nil ?_
     refine qn_then ?_
     refine wc_cond (by rfl) (fun c57 => ?_) (fun c57 => ?_)
     ·
      refine wc_seq ?_
      refine wc_region ?_
      refine wl_v rfl rfl (ov_move _ rfl) ?_
      refine wl_v rfl rfl (ov_bin _ rfl rfl (binR_neq)) ?_
      refine wl_v rfl rfl (ov_move _ rfl) ?_
      refine wl_split 74 rfl (fun c58 => ?_) (fun c58 => ?_)
      ·
       refine wl_v rfl rfl (ov_move _ rfl) ?_
       refine wl_v rfl rfl (ov_move _ rfl) ?_
       refine wl_v rfl rfl (ov_len _ _ _ _ _ rfl es36) ?_
       refine wl_v rfl rfl (ov_bin _ rfl rfl (binR_sub (r := ((((runesL s).length : Nat) : Int)) - 1) (Sx.w64 (by omega)))) ?_
       refine wl_v rfl rfl (ov_bin _ rfl rfl (binR_neq)) ?_
       refine wl_v rfl rfl (ov_pick_true _ rfl rfl) ?_
       refine wl_nil ?_
       refine qn_then ?_
       refine wc_cond (by rfl) (fun c59 => ?_) (fun c59 => ?_)
       ·
        refine wc_seq ?_
        refine wc_region ?_
        refine wl_v rfl rfl (ov_loadbN 1 [.slice (A) ((L).length) (c), .slice (A2) ((Lv).length) (c2)] h rfl rfl sh63 rfl) ?_
        refine wl_storebN 0 [.slice (A) ((L).length) (c), .slice (A2) ((Lv).length) (c2)] [.slice (A) ((L).length) (c), .slice (A2) ((Lv).length) (c2)] h rfl rfl rfl rfl (by simp [Value.oneCell']) sh63 rfl rfl (fun _ h => ?_)
        refine wl_v rfl rfl (ov_assign _ rfl) ?_
        refine wl_nil ?_
        refine qn_then ?_
        refine wc_ret ?_
        refine qn_then_ret ?_
        refine qn_block_ret ?_
        refine qn_then_ret ?_
        refine qn_then_ret ?_
        refine qn_block_ret ?_
        refine qn_then_ret ?_
        have hend_ := h
        replace h := st_selT [false, false, false, false, false] h
        refine qn_ret [_, _] ⟨⟨_, rfl, Sx.loadVarN (vs := [.slice (A) ((L).length) (c), .slice (A2) ((Lv).length) (c2)]) sh63 (Sx.blk_cells (cells := [.slice (A) ((L).length) (c), .slice (A2) ((Lv).length) (c2)]) hend_ (i := 0) rfl 0 _ rfl)⟩, rfl, trivial⟩ ?_
        refine Or.inr ⟨?_, _, _, _, _, _, _, rfl, h⟩
        rw [← hJ.1, drop_get (runesL s) 0 (by omega)]
        first
        | exact patGo_dg2 ⟨by omega, by omega⟩ (hJ.2.2.1.2 ⟨by omega, by omega, by omega⟩)
        | exact patGo_pt2 (by omega) (by cases hf_ : f with | false => rfl | true => exact absurd (hJ.2.1.1 hf_) (by omega)) (fun z_ => by have q_ := List.drop_eq_nil_iff.1 z_; omega)
        | exact patGo_no (by omega) (by omega) (fun z_ => by first | exact absurd z_.1 (by assumption) | exact absurd z_.2 (by omega))
       ·
        refine wc_skip ?_
        refine qn_then ?_
        refine wc_seq ?_
        refine wc_region ?_
        refine wl_v rfl rfl (ov_fieldAddr _ ⟨b5, 0, none⟩ _ rfl fo63_0 rfl) ?_
        refine wl_v rfl rfl (ov_loadb 1 _ h rfl rfl sh36 rfl) ?_
        refine wl_v rfl rfl (ov_move _ rfl) ?_
        refine wl_lit (d := (Kd.int .i64)) [(0, .int .i64 (((runesL s)).getD i (0 : Int)))] _ [.int .i64 (((runesL s)).getD i (0 : Int))] ([((runesL s)).getD i (0 : Int)]) h rfl rfl rfl rfl Try.underlying36 infb3 rfl (by decide) (by kernel_rfl) rfl (fun _ _ _ => ((Reps.none _ _).snoc ((Sx.mkInt .i64 (((runesL s)).getD i (0 : Int)))) rfl)) (fun A60 cp61 _ h => ?_)
        refine wl_append (d := (Kd.int .i64)) (L := L) 3 _ 8 _ _ _ ([((runesL s)).getD i (0 : Int)]) (Sx.flat_int _) h rfl rfl rfl rfl rfl ((Sx.row_reads h (i := 0) rfl).2) Try.underlying36 inf3 rfl (by decide) (by decide) (by first | omega | (simp only [List.length_cons, List.length_nil, List.length_append, List.length_set]; omega)) (by first | rfl | simp) (fun A62 cp63 _ h => ?_)
        replace h := st_selT [false, true, true, true, true, true] h
        refine wl_v rfl rfl (ov_fieldAddr _ ⟨b5, 0, none⟩ _ rfl fo63_0 rfl) ?_
        refine wl_storeb 1 _ [.slice (A62) ((L ++ ([((runesL s)).getD i (0 : Int)])).length) (cp63), .slice (A2) ((Lv).length) (c2)] h rfl rfl rfl rfl rfl rfl sh36 rfl rfl (fun _ h => ?_)
        refine wl_nil ?_
        refine qn_then ?_
        refine wc_region ?_
        refine wl_v rfl rfl (ov_fieldAddr _ ⟨b5, 1, none⟩ _ rfl fo63_1 rfl) ?_
        refine wl_v rfl rfl (ov_loadb 1 _ h rfl rfl sh36 rfl) ?_
        refine wl_lit (d := (Kd.int .i64)) [(0, .int .i64 (0))] _ [.int .i64 (0)] ([0]) h rfl rfl rfl rfl Try.underlying36 infb3 rfl (by decide) (by kernel_rfl) rfl (fun _ _ _ => ((Reps.none _ _).snoc ((Sx.mkInt .i64 (0))) rfl)) (fun A64 cp65 _ h => ?_)
        refine wl_append (d := (Kd.int .i64)) (L := Lv) 4 _ 8 _ _ _ ([0]) (Sx.flat_int _) h rfl rfl rfl rfl rfl ((Sx.row_reads h (i := 0) rfl).2) Try.underlying36 inf3 rfl (by decide) (by decide) (by first | omega | (simp only [List.length_cons, List.length_nil, List.length_append, List.length_set]; omega)) (by first | rfl | simp) (fun A66 cp67 _ h => ?_)
        replace h := st_selT [false, true, true, true, true, true] h
        refine wl_v rfl rfl (ov_fieldAddr _ ⟨b5, 1, none⟩ _ rfl fo63_1 rfl) ?_
        refine wl_storeb 1 _ [.slice (A62) ((L ++ ([((runesL s)).getD i (0 : Int)])).length) (cp63), .slice (A66) ((Lv ++ ([0])).length) (cp67)] h rfl rfl rfl rfl rfl rfl sh36 rfl rfl (fun _ h => ?_)
        refine wl_nil ?_
        refine qn_block_normal ?_
        refine qn_then ?_
        refine wc_region ?_
        refine wl_v rfl rfl (ov_move _ rfl) ?_
        refine wl_v rfl rfl (ov_bin _ rfl rfl (binR_add (r := ((i : Int)) + 1) (Sx.w64 (by omega)))) ?_
        refine wl_v rfl rfl (ov_assign _ rfl) ?_
        refine wl_nil ?_
        replace h := st_front 4 h
        replace h := st_front 4 h
        replace h := st_front 4 h
        replace h := st_front 4 h
        replace h := st_front 4 h
        refine qn_next ((i + 1), false, false, A62, cp63, (L ++ ([((runesL s)).getD i (0 : Int)])), A66, cp67, (Lv ++ ([0])), (re), some ad9) (by show (runesL s).length - (i + 1) < (runesL s).length - i; omega) ⟨rfl, rfl, rfl, rfl, (congrArg (fun z_ => some (Value.bool z_)) (show (re) = ((re)) by first | rfl | simp | omega)), (congrArg (fun z_ => some (Value.int .i64 z_)) (show (((i : Int)) + 1 : Int) = ((i + 1) : Int) by omega)), trivial⟩ ?_
        show (patGo (List.drop (i + 1) (runesL s)) false (L ++ ([((runesL s)).getD i (0 : Int)])) (Lv ++ ([0])) false (re) = patV s ∧ (false = true ↔ (i + 1) = 0) ∧ (false = true ↔ (0 < (i + 1) ∧ 48 ≤ (runesL s).getD ((i + 1) - 1) 0 ∧ (runesL s).getD ((i + 1) - 1) 0 ≤ 57)) ∧ ((Lv ++ ([0]))).length = ((L ++ ([((runesL s)).getD i (0 : Int)]))).length + 1 ∧ (((L ++ ([((runesL s)).getD i (0 : Int)]))).length ≤ (i + 1) ∧ (i + 1) ≤ (runesL s).length)) ∧ _
        have e_ := hJ.1
        rw [drop_get (runesL s) 0 (by omega)] at e_
        rw [patGo_pt (by omega) (by first | (left; exact hJ.2.1.2 (by omega)) | (right; exact List.drop_eq_nil_of_le (by omega)))] at e_
        refine ⟨⟨e_, ⟨fun z_ => absurd z_ (by decide), fun z_ => by omega⟩, ?_, ?_, ?_⟩, h⟩
        · show (false = true ↔ (0 < i + 1 ∧ 48 ≤ (runesL s).getD i 0 ∧ (runesL s).getD i 0 ≤ 57))
          exact ⟨fun z_ => absurd z_ (by decide), fun z_ => by (have q_ := z_.2; omega)⟩
        · first | omega | (simp only [List.length_append, List.length_set, List.length_cons, List.length_nil]; omega)
        · first | omega | (simp only [List.length_append, List.length_cons, List.length_nil]; omega)
      ·
       refine wl_skip rfl rfl ?_
       refine wl_skip rfl rfl ?_
       refine wl_skip rfl rfl ?_
       refine wl_skip rfl rfl ?_
       refine wl_skip rfl rfl ?_
       refine wl_v rfl rfl (ov_pick_false _ rfl rfl) ?_
       refine wl_nil ?_
       refine qn_then ?_
       refine wc_cond_false rfl ?_
       refine wc_skip ?_
       refine qn_then ?_
       refine wc_seq ?_
       refine wc_region ?_
       refine wl_v rfl rfl (ov_fieldAddr _ ⟨b5, 0, none⟩ _ rfl fo63_0 rfl) ?_
       refine wl_v rfl rfl (ov_loadb 1 _ h rfl rfl sh36 rfl) ?_
       refine wl_v rfl rfl (ov_move _ rfl) ?_
       refine wl_lit (d := (Kd.int .i64)) [(0, .int .i64 (((runesL s)).getD i (0 : Int)))] _ [.int .i64 (((runesL s)).getD i (0 : Int))] ([((runesL s)).getD i (0 : Int)]) h rfl rfl rfl rfl Try.underlying36 infb3 rfl (by decide) (by kernel_rfl) rfl (fun _ _ _ => ((Reps.none _ _).snoc ((Sx.mkInt .i64 (((runesL s)).getD i (0 : Int)))) rfl)) (fun A68 cp69 _ h => ?_)
       refine wl_append (d := (Kd.int .i64)) (L := L) 3 _ 8 _ _ _ ([((runesL s)).getD i (0 : Int)]) (Sx.flat_int _) h rfl rfl rfl rfl rfl ((Sx.row_reads h (i := 0) rfl).2) Try.underlying36 inf3 rfl (by decide) (by decide) (by first | omega | (simp only [List.length_cons, List.length_nil, List.length_append, List.length_set]; omega)) (by first | rfl | simp) (fun A70 cp71 _ h => ?_)
       replace h := st_selT [false, true, true, true, true, true] h
       refine wl_v rfl rfl (ov_fieldAddr _ ⟨b5, 0, none⟩ _ rfl fo63_0 rfl) ?_
       refine wl_storeb 1 _ [.slice (A70) ((L ++ ([((runesL s)).getD i (0 : Int)])).length) (cp71), .slice (A2) ((Lv).length) (c2)] h rfl rfl rfl rfl rfl rfl sh36 rfl rfl (fun _ h => ?_)
       refine wl_nil ?_
       refine qn_then ?_
       refine wc_region ?_
       refine wl_v rfl rfl (ov_fieldAddr _ ⟨b5, 1, none⟩ _ rfl fo63_1 rfl) ?_
       refine wl_v rfl rfl (ov_loadb 1 _ h rfl rfl sh36 rfl) ?_
       refine wl_lit (d := (Kd.int .i64)) [(0, .int .i64 (0))] _ [.int .i64 (0)] ([0]) h rfl rfl rfl rfl Try.underlying36 infb3 rfl (by decide) (by kernel_rfl) rfl (fun _ _ _ => ((Reps.none _ _).snoc ((Sx.mkInt .i64 (0))) rfl)) (fun A72 cp73 _ h => ?_)
       refine wl_append (d := (Kd.int .i64)) (L := Lv) 4 _ 8 _ _ _ ([0]) (Sx.flat_int _) h rfl rfl rfl rfl rfl ((Sx.row_reads h (i := 0) rfl).2) Try.underlying36 inf3 rfl (by decide) (by decide) (by first | omega | (simp only [List.length_cons, List.length_nil, List.length_append, List.length_set]; omega)) (by first | rfl | simp) (fun A74 cp75 _ h => ?_)
       replace h := st_selT [false, true, true, true, true, true] h
       refine wl_v rfl rfl (ov_fieldAddr _ ⟨b5, 1, none⟩ _ rfl fo63_1 rfl) ?_
       refine wl_storeb 1 _ [.slice (A70) ((L ++ ([((runesL s)).getD i (0 : Int)])).length) (cp71), .slice (A74) ((Lv ++ ([0])).length) (cp75)] h rfl rfl rfl rfl rfl rfl sh36 rfl rfl (fun _ h => ?_)
       refine wl_nil ?_
       refine qn_block_normal ?_
       refine qn_then ?_
       refine wc_region ?_
       refine wl_v rfl rfl (ov_move _ rfl) ?_
       refine wl_v rfl rfl (ov_bin _ rfl rfl (binR_add (r := ((i : Int)) + 1) (Sx.w64 (by omega)))) ?_
       refine wl_v rfl rfl (ov_assign _ rfl) ?_
       refine wl_nil ?_
       replace h := st_front 4 h
       replace h := st_front 4 h
       replace h := st_front 4 h
       replace h := st_front 4 h
       replace h := st_front 4 h
       refine qn_next ((i + 1), false, false, A70, cp71, (L ++ ([((runesL s)).getD i (0 : Int)])), A74, cp75, (Lv ++ ([0])), (re), some ad9) (by show (runesL s).length - (i + 1) < (runesL s).length - i; omega) ⟨rfl, rfl, rfl, rfl, (congrArg (fun z_ => some (Value.bool z_)) (show (re) = ((re)) by first | rfl | simp | omega)), (congrArg (fun z_ => some (Value.int .i64 z_)) (show (((i : Int)) + 1 : Int) = ((i + 1) : Int) by omega)), trivial⟩ ?_
       show (patGo (List.drop (i + 1) (runesL s)) false (L ++ ([((runesL s)).getD i (0 : Int)])) (Lv ++ ([0])) false (re) = patV s ∧ (false = true ↔ (i + 1) = 0) ∧ (false = true ↔ (0 < (i + 1) ∧ 48 ≤ (runesL s).getD ((i + 1) - 1) 0 ∧ (runesL s).getD ((i + 1) - 1) 0 ≤ 57)) ∧ ((Lv ++ ([0]))).length = ((L ++ ([((runesL s)).getD i (0 : Int)]))).length + 1 ∧ (((L ++ ([((runesL s)).getD i (0 : Int)]))).length ≤ (i + 1) ∧ (i + 1) ≤ (runesL s).length)) ∧ _
       have e_ := hJ.1
       rw [drop_get (runesL s) 0 (by omega)] at e_
       rw [patGo_pt (by omega) (by first | (left; exact hJ.2.1.2 (by omega)) | (right; exact List.drop_eq_nil_of_le (by omega)))] at e_
       refine ⟨⟨e_, ⟨fun z_ => absurd z_ (by decide), fun z_ => by omega⟩, ?_, ?_, ?_⟩, h⟩
       · show (false = true ↔ (0 < i + 1 ∧ 48 ≤ (runesL s).getD i 0 ∧ (runesL s).getD i 0 ≤ 57))
         exact ⟨fun z_ => absurd z_ (by decide), fun z_ => by (have q_ := z_.2; omega)⟩
       · first | omega | (simp only [List.length_append, List.length_set, List.length_cons, List.length_nil]; omega)
       · first | omega | (simp only [List.length_append, List.length_cons, List.length_nil]; omega)
     ·
      refine wc_seq ?_
      refine wc_seq ?_
      refine wc_region ?_
      refine wl_v rfl rfl (ov_move _ rfl) ?_
      refine wl_call _ rfl rfl rfl ent25 (LT.rLetter_calls (R := [Sx.blk b1 [.slice (none) (0) (0), .slice (none) (0) (0)] 63, Sx.blk b5 [.slice (A) ((L).length) (c), .slice (A2) ((Lv).length) (c2)] 63, Sx.row (Kd.int .i64) 3 (A) (c) (L), Sx.row (Kd.int .i64) 3 (A2) (c2) (Lv), Sx.row (Kd.int .i64) 3 (some ad9) (cz2) ((runesL s))] ++ R) (((runesL s)).getD i (0 : Int)) (by omega) (by omega) h) ?_
      rintro e_ w_ ⟨rfl, h⟩
      refine ⟨_, rfl, ?_⟩
      refine wl_v rfl rfl (ov_not _ (¬ (LetP (((runesL s)).getD i (0 : Int)))) rfl (by first | exact decide_not.symm | simp)) ?_
      refine wl_v rfl rfl (ov_move _ rfl) ?_
      refine wl_split 85 rfl (fun c76 => ?_) (fun c76 => ?_)
      ·
       refine wl_skip rfl rfl ?_
       refine wl_skip rfl rfl ?_
       refine wl_skip rfl rfl ?_
       refine wl_skip rfl rfl ?_
       refine wl_v rfl rfl (ov_pick_true _ rfl rfl) ?_
       refine wl_nil ?_
       refine qn_then ?_
       refine wc_cond_true rfl ?_
       refine wc_seq ?_
       refine wc_region ?_
       refine wl_v rfl rfl (ov_loadbN 1 [.slice (A) ((L).length) (c), .slice (A2) ((Lv).length) (c2)] h rfl rfl sh63 rfl) ?_
       refine wl_storebN 0 [.slice (A) ((L).length) (c), .slice (A2) ((Lv).length) (c2)] [.slice (A) ((L).length) (c), .slice (A2) ((Lv).length) (c2)] h rfl rfl rfl rfl (by simp [Value.oneCell']) sh63 rfl rfl (fun _ h => ?_)
       refine wl_v rfl rfl (ov_assign _ rfl) ?_
       refine wl_nil ?_
       refine qn_then ?_
       refine wc_ret ?_
       refine qn_then_ret ?_
       refine qn_then_ret ?_
       refine qn_block_ret ?_
       refine qn_then_ret ?_
       refine qn_then_ret ?_
       refine qn_block_ret ?_
       refine qn_then_ret ?_
       have hend_ := h
       replace h := st_selT [false, false, false, false, false] h
       refine qn_ret [_, _] ⟨⟨_, rfl, Sx.loadVarN (vs := [.slice (A) ((L).length) (c), .slice (A2) ((Lv).length) (c2)]) sh63 (Sx.blk_cells (cells := [.slice (A) ((L).length) (c), .slice (A2) ((Lv).length) (c2)]) hend_ (i := 0) rfl 0 _ rfl)⟩, rfl, trivial⟩ ?_
       refine Or.inr ⟨?_, _, _, _, _, _, _, rfl, h⟩
       rw [← hJ.1, drop_get (runesL s) 0 (by omega)]
       first
       | exact patGo_dg2 ⟨by omega, by omega⟩ (hJ.2.2.1.2 ⟨by omega, by omega, by omega⟩)
       | exact patGo_pt2 (by omega) (by cases hf_ : f with | false => rfl | true => exact absurd (hJ.2.1.1 hf_) (by omega)) (fun z_ => by have q_ := List.drop_eq_nil_iff.1 z_; omega)
       | exact patGo_no (by omega) (by omega) (fun z_ => by first | exact absurd z_.1 (by assumption) | exact absurd z_.2 (by omega))
      ·
       refine wl_v rfl rfl (ov_move _ rfl) ?_
       refine wl_call _ rfl rfl rfl ent37 (LT.rLower_calls (R := [Sx.blk b1 [.slice (none) (0) (0), .slice (none) (0) (0)] 63, Sx.blk b5 [.slice (A) ((L).length) (c), .slice (A2) ((Lv).length) (c2)] 63, Sx.row (Kd.int .i64) 3 (A) (c) (L), Sx.row (Kd.int .i64) 3 (A2) (c2) (Lv), Sx.row (Kd.int .i64) 3 (some ad9) (cz2) ((runesL s))] ++ R) (((runesL s)).getD i (0 : Int)) (by omega) (by omega) h) ?_
       rintro e_ w_ ⟨rfl, h⟩
       refine ⟨_, rfl, ?_⟩
       have hlb77 := lowV_bd (((runesL s)).getD i (0 : Int))
       refine wl_v rfl rfl (ov_move _ rfl) ?_
       refine wl_v rfl rfl (ov_bin _ rfl rfl (binR_neq)) ?_
       refine wl_v rfl rfl (ov_pick_false _ rfl rfl) ?_
       refine wl_nil ?_
       refine qn_then ?_
       refine wc_cond (by rfl) (fun c78 => ?_) (fun c78 => ?_)
       ·
        refine wc_seq ?_
        refine wc_region ?_
        refine wl_v rfl rfl (ov_loadbN 1 [.slice (A) ((L).length) (c), .slice (A2) ((Lv).length) (c2)] h rfl rfl sh63 rfl) ?_
        refine wl_storebN 0 [.slice (A) ((L).length) (c), .slice (A2) ((Lv).length) (c2)] [.slice (A) ((L).length) (c), .slice (A2) ((Lv).length) (c2)] h rfl rfl rfl rfl (by simp [Value.oneCell']) sh63 rfl rfl (fun _ h => ?_)
        refine wl_v rfl rfl (ov_assign _ rfl) ?_
        refine wl_nil ?_
        refine qn_then ?_
        refine wc_ret ?_
        refine qn_then_ret ?_
        refine qn_then_ret ?_
        refine qn_block_ret ?_
        refine qn_then_ret ?_
        refine qn_then_ret ?_
        refine qn_block_ret ?_
        refine qn_then_ret ?_
        have hend_ := h
        replace h := st_selT [false, false, false, false, false] h
        refine qn_ret [_, _] ⟨⟨_, rfl, Sx.loadVarN (vs := [.slice (A) ((L).length) (c), .slice (A2) ((Lv).length) (c2)]) sh63 (Sx.blk_cells (cells := [.slice (A) ((L).length) (c), .slice (A2) ((Lv).length) (c2)]) hend_ (i := 0) rfl 0 _ rfl)⟩, rfl, trivial⟩ ?_
        refine Or.inr ⟨?_, _, _, _, _, _, _, rfl, h⟩
        rw [← hJ.1, drop_get (runesL s) 0 (by omega)]
        first
        | exact patGo_dg2 ⟨by omega, by omega⟩ (hJ.2.2.1.2 ⟨by omega, by omega, by omega⟩)
        | exact patGo_pt2 (by omega) (by cases hf_ : f with | false => rfl | true => exact absurd (hJ.2.1.1 hf_) (by omega)) (fun z_ => by have q_ := List.drop_eq_nil_iff.1 z_; omega)
        | exact patGo_no (by omega) (by omega) (fun z_ => by first | exact absurd z_.1 (by assumption) | exact absurd z_.2 (by omega))
       ·
        refine wc_skip ?_
        refine qn_then ?_
        refine wc_region ?_
        refine wl_v rfl rfl (ov_assign _ rfl) ?_
        refine wl_nil ?_
        refine qn_then ?_
        refine wc_seq ?_
        refine wc_region ?_
        refine wl_v rfl rfl (ov_fieldAddr _ ⟨b5, 0, none⟩ _ rfl fo63_0 rfl) ?_
        refine wl_v rfl rfl (ov_loadb 1 _ h rfl rfl sh36 rfl) ?_
        refine wl_v rfl rfl (ov_move _ rfl) ?_
        refine wl_lit (d := (Kd.int .i64)) [(0, .int .i64 (((runesL s)).getD i (0 : Int)))] _ [.int .i64 (((runesL s)).getD i (0 : Int))] ([((runesL s)).getD i (0 : Int)]) h rfl rfl rfl rfl Try.underlying36 infb3 rfl (by decide) (by kernel_rfl) rfl (fun _ _ _ => ((Reps.none _ _).snoc ((Sx.mkInt .i64 (((runesL s)).getD i (0 : Int)))) rfl)) (fun A79 cp80 _ h => ?_)
        refine wl_append (d := (Kd.int .i64)) (L := L) 3 _ 8 _ _ _ ([((runesL s)).getD i (0 : Int)]) (Sx.flat_int _) h rfl rfl rfl rfl rfl ((Sx.row_reads h (i := 0) rfl).2) Try.underlying36 inf3 rfl (by decide) (by decide) (by first | omega | (simp only [List.length_cons, List.length_nil, List.length_append, List.length_set]; omega)) (by first | rfl | simp) (fun A81 cp82 _ h => ?_)
        replace h := st_selT [false, true, true, true, true, true] h
        refine wl_v rfl rfl (ov_fieldAddr _ ⟨b5, 0, none⟩ _ rfl fo63_0 rfl) ?_
        refine wl_storeb 1 _ [.slice (A81) ((L ++ ([((runesL s)).getD i (0 : Int)])).length) (cp82), .slice (A2) ((Lv).length) (c2)] h rfl rfl rfl rfl rfl rfl sh36 rfl rfl (fun _ h => ?_)
        refine wl_nil ?_
        refine qn_then ?_
        refine wc_region ?_
        refine wl_v rfl rfl (ov_fieldAddr _ ⟨b5, 1, none⟩ _ rfl fo63_1 rfl) ?_
        refine wl_v rfl rfl (ov_loadb 1 _ h rfl rfl sh36 rfl) ?_
        refine wl_lit (d := (Kd.int .i64)) [(0, .int .i64 (0))] _ [.int .i64 (0)] ([0]) h rfl rfl rfl rfl Try.underlying36 infb3 rfl (by decide) (by kernel_rfl) rfl (fun _ _ _ => ((Reps.none _ _).snoc ((Sx.mkInt .i64 (0))) rfl)) (fun A83 cp84 _ h => ?_)
        refine wl_append (d := (Kd.int .i64)) (L := Lv) 4 _ 8 _ _ _ ([0]) (Sx.flat_int _) h rfl rfl rfl rfl rfl ((Sx.row_reads h (i := 0) rfl).2) Try.underlying36 inf3 rfl (by decide) (by decide) (by first | omega | (simp only [List.length_cons, List.length_nil, List.length_append, List.length_set]; omega)) (by first | rfl | simp) (fun A85 cp86 _ h => ?_)
        replace h := st_selT [false, true, true, true, true, true] h
        refine wl_v rfl rfl (ov_fieldAddr _ ⟨b5, 1, none⟩ _ rfl fo63_1 rfl) ?_
        refine wl_storeb 1 _ [.slice (A81) ((L ++ ([((runesL s)).getD i (0 : Int)])).length) (cp82), .slice (A85) ((Lv ++ ([0])).length) (cp86)] h rfl rfl rfl rfl rfl rfl sh36 rfl rfl (fun _ h => ?_)
        refine wl_nil ?_
        refine qn_block_normal ?_
        refine qn_then ?_
        refine wc_region ?_
        refine wl_v rfl rfl (ov_move _ rfl) ?_
        refine wl_v rfl rfl (ov_bin _ rfl rfl (binR_add (r := ((i : Int)) + 1) (Sx.w64 (by omega)))) ?_
        refine wl_v rfl rfl (ov_assign _ rfl) ?_
        refine wl_nil ?_
        replace h := st_front 4 h
        replace h := st_front 4 h
        replace h := st_front 4 h
        replace h := st_front 4 h
        replace h := st_front 4 h
        refine qn_next ((i + 1), false, false, A81, cp82, (L ++ ([((runesL s)).getD i (0 : Int)])), A85, cp86, (Lv ++ ([0])), true, some ad9) (by show (runesL s).length - (i + 1) < (runesL s).length - i; omega) ⟨rfl, rfl, rfl, rfl, (congrArg (fun z_ => some (Value.bool z_)) (show true = (true) by first | rfl | simp | omega)), (congrArg (fun z_ => some (Value.int .i64 z_)) (show (((i : Int)) + 1 : Int) = ((i + 1) : Int) by omega)), trivial⟩ ?_
        show (patGo (List.drop (i + 1) (runesL s)) false (L ++ ([((runesL s)).getD i (0 : Int)])) (Lv ++ ([0])) false true = patV s ∧ (false = true ↔ (i + 1) = 0) ∧ (false = true ↔ (0 < (i + 1) ∧ 48 ≤ (runesL s).getD ((i + 1) - 1) 0 ∧ (runesL s).getD ((i + 1) - 1) 0 ≤ 57)) ∧ ((Lv ++ ([0]))).length = ((L ++ ([((runesL s)).getD i (0 : Int)]))).length + 1 ∧ (((L ++ ([((runesL s)).getD i (0 : Int)]))).length ≤ (i + 1) ∧ (i + 1) ≤ (runesL s).length)) ∧ _
        have e_ := hJ.1
        rw [drop_get (runesL s) 0 (by omega)] at e_
        rw [patGo_let (by first | assumption | exact Classical.not_not.1 (by assumption)) (by omega)] at e_
        refine ⟨⟨e_, ⟨fun z_ => absurd z_ (by decide), fun z_ => by omega⟩, ?_, ?_, ?_⟩, h⟩
        · show (false = true ↔ (0 < i + 1 ∧ 48 ≤ (runesL s).getD i 0 ∧ (runesL s).getD i 0 ≤ 57))
          exact ⟨fun z_ => absurd z_ (by decide), fun z_ => by (have q_ := z_.2; omega)⟩
        · first | omega | (simp only [List.length_append, List.length_set, List.length_cons, List.length_nil]; omega)
        · first | omega | (simp only [List.length_append, List.length_cons, List.length_nil]; omega)
   ·
    refine wc_exit ?_
    refine qn_then_exit ?_
    refine qn_then_exit ?_
    refine qn_block_exit ?_
    refine qn_then ?_
    refine wc_seq ?_
    refine wc_region ?_
    refine wl_v rfl rfl (ov_loadbN 1 [.slice (A) ((L).length) (c), .slice (A2) ((Lv).length) (c2)] h rfl rfl sh63 rfl) ?_
    refine wl_v rfl rfl (ov_move _ rfl) ?_
    refine wl_storebN 0 [.slice (A) ((L).length) (c), .slice (A2) ((Lv).length) (c2)] [.slice (A) ((L).length) (c), .slice (A2) ((Lv).length) (c2)] h rfl rfl rfl rfl (by simp [Value.oneCell']) sh63 rfl rfl (fun _ h => ?_)
    refine wl_v rfl rfl (ov_assign _ rfl) ?_
    refine wl_nil ?_
    refine qn_then ?_
    refine wc_ret ?_
    have hend_ := h
    replace h := st_front 3 h
    replace h := st_front 3 h
    replace h := st_selT [true, true, false, false, false] h
    refine qn_ret [_, _] ⟨⟨_, rfl, Sx.loadVarN (vs := [.slice (A) ((L).length) (c), .slice (A2) ((Lv).length) (c2)]) sh63 (Sx.blk_cells (cells := [.slice (A) ((L).length) (c), .slice (A2) ((Lv).length) (c2)]) hend_ (i := 0) rfl 0 _ rfl)⟩, rfl, trivial⟩ ?_
    have e_ := hJ.1
    rw [List.drop_eq_nil_of_le (by omega), patGo] at e_
    cases re with
    | true =>
      rw [if_pos rfl] at e_
      exact Or.inl ⟨L, Lv, A, c, A2, c2, e_.symm, rfl, h⟩
    | false =>
      rw [if_neg (by decide)] at e_
      exact Or.inr ⟨e_.symm, A, (L).length, c, A2, (Lv).length, c2, rfl, st_selT [false, false] h⟩
set_option maxHeartbeats 4000000 in
set_option maxRecDepth 100000 in
theorem rWord_calls {w0 w : World} {F0 : Nat → Prop} {R : List Sx.HP} (s : ByteArray) (hs : s.size ≤ 1000000000) (h : Sx.St w0 F0 ([] ++ R) w) : Calls Try.prog 30 #[.string (s)] w (fun e w1 => (∃ (L Q : List Int) (A : Option Addr) (c : Nat) (A2 : Option Addr) (c2 : Nat), wordV s = some (L, Q) ∧ e = .returned (.tuple #[.agg #[.slice A L.length c, .slice A2 Q.length c2], .bool true]) ∧ Sx.St w0 F0 ([Sx.row (Kd.int .i64) 3 (A) (c) (L), Sx.row (Kd.int .i64) 3 (A2) (c2) (Q)] ++ R) w1) ∨ (wordV s = none ∧ ∃ X1 y1 z1 X2 y2 z2, e = .returned (.tuple #[.agg #[.slice X1 y1 z1, .slice X2 y2 z2], .bool false]) ∧ Sx.St w0 F0 R w1)) := by
 have hbr_ := bad_refV s
 have hbo_ := bad_or s
 refine Sx.calls_fn (vs := [.string (s)]) Try.func30 rfl Try.ntmps30 rfl ?_
 refine wc_seq ?_
 refine wc_region ?_
 refine wl_alloc _ h rfl rfl zo67 (fun b1 _ h => ?_)
 replace h : Sx.St _ _ (Sx.blk b1 [.slice (none) (0) (0), .slice (none) (0) (0)] 67 :: _) _ := h
 refine wl_v rfl rfl (ov_assign _ rfl) ?_
 refine wl_nil ?_
 refine qn_then ?_
 refine wc_seq ?_
 refine wc_region ?_
 refine wl_alloc _ h rfl rfl zo67 (fun b2 _ h => ?_)
 replace h : Sx.St _ _ (Sx.blk b2 [.slice (none) (0) (0), .slice (none) (0) (0)] 67 :: _) _ := h
 refine wl_nil ?_
 refine qn_then ?_
 refine wc_seq ?_
 refine wc_region ?_
 refine wl_v rfl rfl (ov_move _ rfl) ?_
 refine wl_call _ rfl rfl rfl ent24 (RN.Runes_calls (R := [Sx.blk b2 [.slice (none) (0) (0), .slice (none) (0) (0)] 67, Sx.blk b1 [.slice (none) (0) (0), .slice (none) (0) (0)] 67] ++ R) s (by omega) h) ?_
 rintro e_ w_ ⟨Az3, cz3, Bz3, dz3, rfl, h⟩
 refine ⟨_, rfl, ?_⟩
 replace h : Sx.St w0 F0 ([Sx.row (Kd.int .i64) 3 (Az3) (cz3) ((runesL s)), Sx.row (Kd.int .i64) 3 (Bz3) (dz3) ((placesL s)), Sx.blk b2 [.slice (none) (0) (0), .slice (none) (0) (0)] 67, Sx.blk b1 [.slice (none) (0) (0), .slice (none) (0) (0)] 67] ++ R) _ := h
 refine wl_v rfl rfl (ov_move _ rfl) ?_
 refine wl_v rfl rfl (ov_extract [.slice (Az3) ((runesL s).length) (cz3), .slice (Bz3) ((placesL s).length) (dz3), .int .i64 ((refV s).2)] _ rfl rfl) ?_
 refine wl_v rfl rfl (ov_extract [.slice (Az3) ((runesL s).length) (cz3), .slice (Bz3) ((placesL s).length) (dz3), .int .i64 ((refV s).2)] _ rfl rfl) ?_
 refine wl_v rfl rfl (ov_extract [.slice (Az3) ((runesL s).length) (cz3), .slice (Bz3) ((placesL s).length) (dz3), .int .i64 ((refV s).2)] _ rfl rfl) ?_
 refine wl_v rfl rfl (ov_assign _ rfl) ?_
 refine wl_v rfl rfl (ov_assign _ rfl) ?_
 refine wl_v rfl rfl (ov_assign _ rfl) ?_
 refine wl_nil ?_
 refine qn_then ?_
 refine wc_seq ?_
 refine wc_seq ?_
 refine wc_region ?_
 refine wl_v rfl rfl (ov_move _ rfl) ?_
 refine wl_v rfl rfl (ov_bin _ rfl rfl (binR_geq)) ?_
 refine wl_v rfl rfl (ov_move _ rfl) ?_
 refine wl_split 17 rfl (fun c4 => ?_) (fun c4 => ?_)
 ·
  refine wl_skip rfl rfl ?_
  refine wl_skip rfl rfl ?_
  refine wl_skip rfl rfl ?_
  refine wl_v rfl rfl (ov_pick_true _ rfl rfl) ?_
  refine wl_nil ?_
  refine qn_then ?_
  refine wc_cond_true rfl ?_
  refine wc_seq ?_
  refine wc_region ?_
  refine wl_v rfl rfl (ov_loadbN 2 [.slice (none) (0) (0), .slice (none) (0) (0)] h rfl rfl sh67 rfl) ?_
  refine wl_storebN 3 [.slice (none) (0) (0), .slice (none) (0) (0)] [.slice (none) (0) (0), .slice (none) (0) (0)] h rfl rfl rfl rfl (by simp [Value.oneCell']) sh67 rfl rfl (fun _ h => ?_)
  refine wl_v rfl rfl (ov_assign _ rfl) ?_
  refine wl_nil ?_
  refine qn_then ?_
  refine wc_ret ?_
  refine qn_then_ret ?_
  have hend_ := h
  replace h := st_selT [false, false, false, false] h
  refine qn_ret [_, _] ⟨⟨_, rfl, Sx.loadVarN (vs := [.slice (none) (0) (0), .slice (none) (0) (0)]) sh67 (Sx.blk_cells (cells := [.slice (none) (0) (0), .slice (none) (0) (0)]) hend_ (i := 3) rfl 0 _ rfl)⟩, rfl, trivial⟩ ?_
  refine Or.inr ⟨?_, _, _, _, _, _, _, rfl, h⟩
  unfold wordV
  rw [if_pos (by omega)]
 ·
  refine wl_v rfl rfl (ov_move _ rfl) ?_
  refine wl_v rfl rfl (ov_lens _ rfl Try.underlying9) ?_
  refine wl_v rfl rfl (ov_bin _ rfl rfl (binR_gtr)) ?_
  refine wl_v rfl rfl (ov_pick_false _ rfl rfl) ?_
  refine wl_nil ?_
  refine qn_then ?_
  refine wc_cond (by rfl) (fun c5 => ?_) (fun c5 => ?_)
  ·
   refine wc_seq ?_
   refine wc_region ?_
   refine wl_v rfl rfl (ov_loadbN 2 [.slice (none) (0) (0), .slice (none) (0) (0)] h rfl rfl sh67 rfl) ?_
   refine wl_storebN 3 [.slice (none) (0) (0), .slice (none) (0) (0)] [.slice (none) (0) (0), .slice (none) (0) (0)] h rfl rfl rfl rfl (by simp [Value.oneCell']) sh67 rfl rfl (fun _ h => ?_)
   refine wl_v rfl rfl (ov_assign _ rfl) ?_
   refine wl_nil ?_
   refine qn_then ?_
   refine wc_ret ?_
   refine qn_then_ret ?_
   have hend_ := h
   replace h := st_selT [false, false, false, false] h
   refine qn_ret [_, _] ⟨⟨_, rfl, Sx.loadVarN (vs := [.slice (none) (0) (0), .slice (none) (0) (0)]) sh67 (Sx.blk_cells (cells := [.slice (none) (0) (0), .slice (none) (0) (0)]) hend_ (i := 3) rfl 0 _ rfl)⟩, rfl, trivial⟩ ?_
   refine Or.inr ⟨?_, _, _, _, _, _, _, rfl, h⟩
   unfold wordV
   rw [if_pos (by omega)]
  ·
   refine wc_skip ?_
   refine qn_then ?_
   refine wc_seq ?_
   refine wc_seq ?_
   refine wc_region ?_
   refine wl_v rfl rfl (ov_assign _ rfl) ?_
   refine wl_nil ?_
   refine qn_then ?_
   refine wc_block ?_
   replace h := st_nilrow (Kd.int .i64) 3 (st_nilrow (Kd.int .i64) 3 h)
   replace h := st_front 2 h
   replace h := st_front 4 h
   replace h := st_front 5 h
   replace h := st_selT [true, true, true, true, true, false] h
   replace h := st_front 4 h
   replace h := st_front 4 h
   replace h := st_front 3 h
   replace h := st_front 3 h
   refine wc_loop (fun (x_ : Nat × (Option Addr) × Nat × (List Int) × (Option Addr) × Nat × (List Int) × (Option Addr)) => [(0, .string (s)), (2, .pointer (some ⟨b1, 0, none⟩)), (4, .pointer (some ⟨b2, 0, none⟩)), (5, .slice (x_.2.2.2.2.2.2.2) ((runesL s).length) (cz3)), (8, .int .i64 ((x_.1 : Int)))]) (fun (x_ : Nat × (Option Addr) × Nat × (List Int) × (Option Addr) × Nat × (List Int) × (Option Addr)) (w : World) => (wordGo (List.drop x_.1 (runesL s)) x_.2.2.2.1 x_.2.2.2.2.2.2.1 = wordV s ∧ ((x_.1 = 0 ∧ x_.2.2.2.1 = [] ∧ x_.2.2.2.2.2.2.1 = []) ∨ (0 < x_.1 ∧ x_.2.2.2.1 ≠ [] ∧ (BadW x_.2.2.2.1 x_.2.2.2.2.2.2.1 ↔ (runesL s).getD (x_.1 - 1) 0 = 45) ∧ ((runesL s).getD (x_.1 - 1) 0 = 45 → x_.1 < (runesL s).length))) ∧ ((x_.2.2.2.1).length ≤ x_.1 ∧ (x_.2.2.2.2.2.2.1).length ≤ x_.1 ∧ x_.1 ≤ (runesL s).length) ∧ (∀ a ∈ x_.2.2.2.2.2.2.1, a ≤ ((x_.2.2.2.1).length : Int))) ∧ Sx.St w0 F0 ([Sx.blk b1 [.slice (none) (0) (0), .slice (none) (0) (0)] 67, Sx.blk b2 [.slice (x_.2.1) ((x_.2.2.2.1).length) (x_.2.2.1), .slice (x_.2.2.2.2.1) ((x_.2.2.2.2.2.2.1).length) (x_.2.2.2.2.2.1)] 67, Sx.row (Kd.int .i64) 3 (x_.2.1) (x_.2.2.1) (x_.2.2.2.1), Sx.row (Kd.int .i64) 3 (x_.2.2.2.2.1) (x_.2.2.2.2.2.1) (x_.2.2.2.2.2.2.1), Sx.row (Kd.int .i64) 3 (x_.2.2.2.2.2.2.2) (cz3) ((runesL s))] ++ R) w) (fun (x_ : Nat × (Option Addr) × Nat × (List Int) × (Option Addr) × Nat × (List Int) × (Option Addr)) => (runesL s).length - x_.1) (0, none, 0, [], none, 0, [], Az3) ?_ ?_ ?_
   · exact ⟨rfl, rfl, rfl, rfl, (congrArg (fun z_ => some (Value.int .i64 z_)) (show (0 : Int) = (0 : Int) by omega)), trivial⟩
   · exact ⟨⟨by unfold wordV; rw [if_neg (by omega)]; rfl, .inl ⟨rfl, rfl, rfl⟩, ⟨Nat.le_refl _, Nat.le_refl _, Nat.zero_le _⟩, fun a_ ha_ => by cases ha_⟩, h⟩
   rintro ⟨i, A, c, L, A2, c2, Q, X⟩ w h
   obtain ⟨hJ, h⟩ := h
   replace hJ : wordGo (List.drop i (runesL s)) L Q = wordV s ∧ ((i = 0 ∧ L = [] ∧ Q = []) ∨ (0 < i ∧ L ≠ [] ∧ (BadW L Q ↔ (runesL s).getD (i - 1) 0 = 45) ∧ ((runesL s).getD (i - 1) 0 = 45 → i < (runesL s).length))) ∧ ((L).length ≤ i ∧ (Q).length ≤ i ∧ i ≤ (runesL s).length) ∧ (∀ a ∈ Q, a ≤ ((L).length : Int)) := hJ
   replace h : Sx.St w0 F0 ([Sx.blk b1 [.slice (none) (0) (0), .slice (none) (0) (0)] 67, Sx.blk b2 [.slice (A) ((L).length) (c), .slice (A2) ((Q).length) (c2)] 67, Sx.row (Kd.int .i64) 3 (A) (c) (L), Sx.row (Kd.int .i64) 3 (A2) (c2) (Q), Sx.row (Kd.int .i64) 3 (X) (cz3) ((runesL s))] ++ R) w := h
   show Sx.WC _ _ _ _ [(0, .string (s)), (2, .pointer (some ⟨b1, 0, none⟩)), (4, .pointer (some ⟨b2, 0, none⟩)), (5, .slice (X) ((runesL s).length) (cz3)), (8, .int .i64 ((i : Int)))] _
   have hrb_ := runes_bd (s := s) (by omega) i
   have hrl_ := runes_len s
   refine wc_seq ?_
   refine wc_seq ?_
   refine wc_region ?_
   refine wl_v rfl rfl (ov_move _ rfl) ?_
   refine wl_v rfl rfl (ov_move _ rfl) ?_
   refine wl_v rfl rfl (ov_len _ _ _ _ _ rfl es36) ?_
   refine wl_v rfl rfl (ov_bin _ rfl rfl (binR_lss)) ?_
   refine wl_nil ?_
   refine qn_then ?_
   refine wc_cond (by rfl) (fun c6 => ?_) (fun c6 => ?_)
   ·
    refine wc_skip ?_
    refine qn_then ?_
    refine wc_seq ?_
    refine wc_block ?_
    refine wc_seq ?_
    refine wc_seq ?_
    refine wc_region ?_
    refine wl_v rfl rfl (ov_move _ rfl) ?_
    refine wl_v rfl rfl (ov_move _ rfl) ?_
    obtain ⟨ad7, rfl⟩ := Sx.C_some ((Sx.row_reads h (i := 4) rfl).2) (k := i) (by first | assumption | omega | (simp only [List.length_set, List.length_append, List.length_cons, List.length_nil]; omega))
    refine wl_v rfl rfl (ov_indexAddrN _ _ _ _ _ i rfl rfl es36 rfl (by first | assumption | omega | (simp only [List.length_take, List.length_drop, List.length_set, List.length_append, List.length_cons, List.length_nil]; omega))) ?_
    obtain ⟨cl10, _, hk9, hc8⟩ := Sx.C_cells ((Sx.row_reads h (i := 4) rfl).2) (z := (0 : Int)) (k := i) (by first | assumption | omega | (simp only [List.length_set, List.length_append, List.length_cons, List.length_nil]; omega))
    obtain rfl : cl10 = [.int .i64 _] := hk9
    refine wl_v rfl rfl (ov_load1 _ _ rfl sh3 ((hc8 0 _ rfl))) ?_
    refine wl_v rfl rfl (ov_bin _ rfl rfl (binR_eql)) ?_
    refine wl_nil ?_
    refine qn_then ?_
    refine wc_cond (by rfl) (fun c11 => ?_) (fun c11 => ?_)
    ·
     refine wc_seq ?_
     refine wc_seq ?_
     refine wc_region ?_
     refine wl_v rfl rfl (ov_move _ rfl) ?_
     refine wl_v rfl rfl (ov_bin _ rfl rfl (binR_eql)) ?_
     refine wl_v rfl rfl (ov_move _ rfl) ?_
     refine wl_split 36 rfl (fun c12 => ?_) (fun c12 => ?_)
     ·
      refine wl_skip rfl rfl ?_
      refine wl_skip rfl rfl ?_
      refine wl_skip rfl rfl ?_
      refine wl_skip rfl rfl ?_
      refine wl_skip rfl rfl ?_
      refine wl_v rfl rfl (ov_pick_true _ rfl rfl) ?_
      refine wl_v rfl rfl (ov_move _ rfl) ?_
      refine wl_skip rfl rfl ?_
      refine wl_skip rfl rfl ?_
      refine wl_skip rfl rfl ?_
      refine wl_skip rfl rfl ?_
      refine wl_skip rfl rfl ?_
      refine wl_skip rfl rfl ?_
      refine wl_v rfl rfl (ov_pick_true _ rfl rfl) ?_
      refine wl_nil ?_
      refine qn_then ?_
      refine wc_cond_true rfl ?_
      refine wc_seq ?_
      refine wc_region ?_
      refine wl_v rfl rfl (ov_loadbN 1 [.slice (A) ((L).length) (c), .slice (A2) ((Q).length) (c2)] h rfl rfl sh67 rfl) ?_
      refine wl_storebN 0 [.slice (A) ((L).length) (c), .slice (A2) ((Q).length) (c2)] [.slice (A) ((L).length) (c), .slice (A2) ((Q).length) (c2)] h rfl rfl rfl rfl (by simp [Value.oneCell']) sh67 rfl rfl (fun _ h => ?_)
      refine wl_v rfl rfl (ov_assign _ rfl) ?_
      refine wl_nil ?_
      refine qn_then ?_
      refine wc_ret ?_
      refine qn_then_ret ?_
      refine qn_then_ret ?_
      refine qn_block_ret ?_
      refine qn_then_ret ?_
      refine qn_then_ret ?_
      refine qn_block_ret ?_
      refine qn_then_ret ?_
      have hend_ := h
      replace h := st_selT [false, false, false, false, false] h
      refine qn_ret [_, _] ⟨⟨_, rfl, Sx.loadVarN (vs := [.slice (A) ((L).length) (c), .slice (A2) ((Q).length) (c2)]) sh67 (Sx.blk_cells (cells := [.slice (A) ((L).length) (c), .slice (A2) ((Q).length) (c2)]) hend_ (i := 0) rfl 0 _ rfl)⟩, rfl, trivial⟩ ?_
      refine Or.inr ⟨?_, _, _, _, _, _, _, rfl, h⟩
      rw [← hJ.1, drop_get (runesL s) 0 (by omega)]
      first
      | (rw [wordGo_no (by omega) (by assumption)]; done)
      | (by_cases hbw_ : BadW L Q
         · exact wordGo_mk2 (by omega) hbw_
         · rw [wordGo_mk (by omega) hbw_]
           rcases hJ.2.1 with q_ | q_
           · exact absurd (show BadW L Q from .inl q_.2.1) hbw_
           · first
             | exact absurd (q_.2.2.1.2 (by omega)) hbw_
             | (rw [List.drop_eq_nil_of_le (by omega), wordGo, if_pos (badW_last q_.2.1)]))
     ·
      refine wl_v rfl rfl (ov_move _ rfl) ?_
      refine wl_v rfl rfl (ov_move _ rfl) ?_
      refine wl_v rfl rfl (ov_len _ _ _ _ _ rfl es36) ?_
      refine wl_v rfl rfl (ov_bin _ rfl rfl (binR_sub (r := ((((runesL s).length : Nat) : Int)) - 1) (Sx.w64 (by omega)))) ?_
      refine wl_v rfl rfl (ov_bin _ rfl rfl (binR_eql)) ?_
      refine wl_v rfl rfl (ov_pick_false _ rfl rfl) ?_
      refine wl_v rfl rfl (ov_move _ rfl) ?_
      refine wl_split 43 rfl (fun c13 => ?_) (fun c13 => ?_)
      ·
       refine wl_skip rfl rfl ?_
       refine wl_skip rfl rfl ?_
       refine wl_skip rfl rfl ?_
       refine wl_skip rfl rfl ?_
       refine wl_skip rfl rfl ?_
       refine wl_skip rfl rfl ?_
       refine wl_v rfl rfl (ov_pick_true _ rfl rfl) ?_
       refine wl_nil ?_
       refine qn_then ?_
       refine wc_cond_true rfl ?_
       refine wc_seq ?_
       refine wc_region ?_
       refine wl_v rfl rfl (ov_loadbN 1 [.slice (A) ((L).length) (c), .slice (A2) ((Q).length) (c2)] h rfl rfl sh67 rfl) ?_
       refine wl_storebN 0 [.slice (A) ((L).length) (c), .slice (A2) ((Q).length) (c2)] [.slice (A) ((L).length) (c), .slice (A2) ((Q).length) (c2)] h rfl rfl rfl rfl (by simp [Value.oneCell']) sh67 rfl rfl (fun _ h => ?_)
       refine wl_v rfl rfl (ov_assign _ rfl) ?_
       refine wl_nil ?_
       refine qn_then ?_
       refine wc_ret ?_
       refine qn_then_ret ?_
       refine qn_then_ret ?_
       refine qn_block_ret ?_
       refine qn_then_ret ?_
       refine qn_then_ret ?_
       refine qn_block_ret ?_
       refine qn_then_ret ?_
       have hend_ := h
       replace h := st_selT [false, false, false, false, false] h
       refine qn_ret [_, _] ⟨⟨_, rfl, Sx.loadVarN (vs := [.slice (A) ((L).length) (c), .slice (A2) ((Q).length) (c2)]) sh67 (Sx.blk_cells (cells := [.slice (A) ((L).length) (c), .slice (A2) ((Q).length) (c2)]) hend_ (i := 0) rfl 0 _ rfl)⟩, rfl, trivial⟩ ?_
       refine Or.inr ⟨?_, _, _, _, _, _, _, rfl, h⟩
       rw [← hJ.1, drop_get (runesL s) 0 (by omega)]
       first
       | (rw [wordGo_no (by omega) (by assumption)]; done)
       | (by_cases hbw_ : BadW L Q
          · exact wordGo_mk2 (by omega) hbw_
          · rw [wordGo_mk (by omega) hbw_]
            rcases hJ.2.1 with q_ | q_
            · exact absurd (show BadW L Q from .inl q_.2.1) hbw_
            · first
              | exact absurd (q_.2.2.1.2 (by omega)) hbw_
              | (rw [List.drop_eq_nil_of_le (by omega), wordGo, if_pos (badW_last q_.2.1)]))
      ·
       refine wl_v rfl rfl (ov_move _ rfl) ?_
       refine wl_v rfl rfl (ov_move _ rfl) ?_
       refine wl_v rfl rfl (ov_bin _ rfl rfl (binR_sub (r := ((i : Int)) - 1) (Sx.w64 (by omega)))) ?_
       refine wl_v rfl rfl (ov_indexAddrN _ _ _ _ _ (i - 1) rfl rfl es36 (by omega) (by first | assumption | omega | (simp only [List.length_take, List.length_drop, List.length_set, List.length_append, List.length_cons, List.length_nil]; omega))) ?_
       obtain ⟨cl16, _, hk15, hc14⟩ := Sx.C_cells ((Sx.row_reads h (i := 4) rfl).2) (z := (0 : Int)) (k := (i - 1)) (by first | assumption | omega | (simp only [List.length_set, List.length_append, List.length_cons, List.length_nil]; omega))
       obtain rfl : cl16 = [.int .i64 _] := hk15
       refine wl_v rfl rfl (ov_load1 _ _ rfl sh3 ((hc14 0 _ rfl))) ?_
       refine wl_v rfl rfl (ov_bin _ rfl rfl (binR_eql)) ?_
       refine wl_v rfl rfl (ov_pick_false _ rfl rfl) ?_
       refine wl_nil ?_
       refine qn_then ?_
       refine wc_cond (by rfl) (fun c17 => ?_) (fun c17 => ?_)
       ·
        refine wc_seq ?_
        refine wc_region ?_
        refine wl_v rfl rfl (ov_loadbN 1 [.slice (A) ((L).length) (c), .slice (A2) ((Q).length) (c2)] h rfl rfl sh67 rfl) ?_
        refine wl_storebN 0 [.slice (A) ((L).length) (c), .slice (A2) ((Q).length) (c2)] [.slice (A) ((L).length) (c), .slice (A2) ((Q).length) (c2)] h rfl rfl rfl rfl (by simp [Value.oneCell']) sh67 rfl rfl (fun _ h => ?_)
        refine wl_v rfl rfl (ov_assign _ rfl) ?_
        refine wl_nil ?_
        refine qn_then ?_
        refine wc_ret ?_
        refine qn_then_ret ?_
        refine qn_then_ret ?_
        refine qn_block_ret ?_
        refine qn_then_ret ?_
        refine qn_then_ret ?_
        refine qn_block_ret ?_
        refine qn_then_ret ?_
        have hend_ := h
        replace h := st_selT [false, false, false, false, false] h
        refine qn_ret [_, _] ⟨⟨_, rfl, Sx.loadVarN (vs := [.slice (A) ((L).length) (c), .slice (A2) ((Q).length) (c2)]) sh67 (Sx.blk_cells (cells := [.slice (A) ((L).length) (c), .slice (A2) ((Q).length) (c2)]) hend_ (i := 0) rfl 0 _ rfl)⟩, rfl, trivial⟩ ?_
        refine Or.inr ⟨?_, _, _, _, _, _, _, rfl, h⟩
        rw [← hJ.1, drop_get (runesL s) 0 (by omega)]
        first
        | (rw [wordGo_no (by omega) (by assumption)]; done)
        | (by_cases hbw_ : BadW L Q
           · exact wordGo_mk2 (by omega) hbw_
           · rw [wordGo_mk (by omega) hbw_]
             rcases hJ.2.1 with q_ | q_
             · exact absurd (show BadW L Q from .inl q_.2.1) hbw_
             · first
               | exact absurd (q_.2.2.1.2 (by omega)) hbw_
               | (rw [List.drop_eq_nil_of_le (by omega), wordGo, if_pos (badW_last q_.2.1)]))
       ·
        refine wc_skip ?_
        refine qn_then ?_
        refine wc_seq ?_
        refine wc_region ?_
        refine wl_v rfl rfl (ov_fieldAddr _ ⟨b2, 1, none⟩ _ rfl fo67_1 rfl) ?_
        refine wl_v rfl rfl (ov_loadb 1 _ h rfl rfl sh36 rfl) ?_
        refine wl_v rfl rfl (ov_fieldAddr _ ⟨b2, 0, none⟩ _ rfl fo67_0 rfl) ?_
        refine wl_v rfl rfl (ov_loadb 1 _ h rfl rfl sh36 rfl) ?_
        refine wl_v rfl rfl (ov_len _ _ _ _ _ rfl es36) ?_
        refine wl_lit (d := (Kd.int .i64)) [(0, .int .i64 ((((L).length : Nat) : Int)))] _ [.int .i64 ((((L).length : Nat) : Int))] ([(((L).length : Nat) : Int)]) h rfl rfl rfl rfl Try.underlying36 infb3 rfl (by decide) (by kernel_rfl) rfl (fun _ _ _ => ((Reps.none _ _).snoc ((Sx.mkInt .i64 ((((L).length : Nat) : Int)))) rfl)) (fun A18 cp19 _ h => ?_)
        refine wl_append (d := (Kd.int .i64)) (L := Q) 4 _ 8 _ _ _ ([(((L).length : Nat) : Int)]) (Sx.flat_int _) h rfl rfl rfl rfl rfl ((Sx.row_reads h (i := 0) rfl).2) Try.underlying36 inf3 rfl (by decide) (by decide) (by first | omega | (simp only [List.length_cons, List.length_nil, List.length_append, List.length_set]; omega)) (by first | rfl | simp) (fun A20 cp21 _ h => ?_)
        replace h := st_selT [false, true, true, true, true, true] h
        refine wl_v rfl rfl (ov_fieldAddr _ ⟨b2, 1, none⟩ _ rfl fo67_1 rfl) ?_
        refine wl_storeb 1 _ [.slice (A) ((L).length) (c), .slice (A20) ((Q ++ ([(((L).length : Nat) : Int)])).length) (cp21)] h rfl rfl rfl rfl rfl rfl sh36 rfl rfl (fun _ h => ?_)
        refine wl_nil ?_
        refine qn_then ?_
        refine wc_exit ?_
        refine qn_then_exit ?_
        refine qn_block_exit ?_
        refine qn_then ?_
        refine wc_region ?_
        refine wl_v rfl rfl (ov_move _ rfl) ?_
        refine wl_v rfl rfl (ov_bin _ rfl rfl (binR_add (r := ((i : Int)) + 1) (Sx.w64 (by omega)))) ?_
        refine wl_v rfl rfl (ov_assign _ rfl) ?_
        refine wl_nil ?_
        replace h := st_front 4 h
        replace h := st_front 4 h
        replace h := st_front 4 h
        replace h := st_front 4 h
        replace h := st_front 4 h
        refine qn_next ((i + 1), A, c, (L), A20, cp21, (Q ++ ([(((L).length : Nat) : Int)])), some ad7) (by show (runesL s).length - (i + 1) < (runesL s).length - i; omega) ⟨rfl, rfl, rfl, rfl, (congrArg (fun z_ => some (Value.int .i64 z_)) (show (((i : Int)) + 1 : Int) = ((i + 1) : Int) by omega)), trivial⟩ ?_
        show (wordGo (List.drop (i + 1) (runesL s)) (L) (Q ++ ([(((L).length : Nat) : Int)])) = wordV s ∧ (((i + 1) = 0 ∧ (L) = [] ∧ (Q ++ ([(((L).length : Nat) : Int)])) = []) ∨ (0 < (i + 1) ∧ (L) ≠ [] ∧ (BadW (L) (Q ++ ([(((L).length : Nat) : Int)])) ↔ (runesL s).getD ((i + 1) - 1) 0 = 45) ∧ ((runesL s).getD ((i + 1) - 1) 0 = 45 → (i + 1) < (runesL s).length))) ∧ (((L)).length ≤ (i + 1) ∧ ((Q ++ ([(((L).length : Nat) : Int)]))).length ≤ (i + 1) ∧ (i + 1) ≤ (runesL s).length) ∧ (∀ a ∈ (Q ++ ([(((L).length : Nat) : Int)])), a ≤ (((L)).length : Int))) ∧ _
        have e_ := hJ.1
        rw [drop_get (runesL s) 0 (by omega)] at e_
        have hbw_ : ¬ BadW L Q := fun z_ => by rcases hJ.2.1 with q_ | q_ <;> first | omega | exact absurd (q_.2.2.1.1 z_) (by omega)
        rw [wordGo_mk (by omega) hbw_] at e_
        refine ⟨⟨e_, .inr ?_, ?_⟩, h⟩
        · simp only [Nat.add_sub_cancel]
          refine ⟨by omega, ?_, ⟨fun _ => by omega, fun _ => ?_⟩, fun _ => by omega⟩
          · intro z_
            rcases hJ.2.1 with q_ | q_
            · omega
            · exact q_.2.1 z_
          · refine badW_last (fun z_ => ?_)
            rcases hJ.2.1 with q_ | q_
            · omega
            · exact q_.2.1 z_
        · refine ⟨?_, ?_⟩
          · first | omega | (simp only [List.length_append, List.length_cons, List.length_nil]; omega)
          · intro a_ ha_
            rcases List.mem_append.1 ha_ with ha_ | ha_
            · exact hJ.2.2.2 a_ ha_
            · rw [List.mem_singleton.1 ha_]; exact Int.le_refl _
    ·
     refine wc_skip ?_
     refine qn_then ?_
     refine wc_seq ?_
     refine wc_seq ?_
     refine wc_region ?_
     refine wl_v rfl rfl (ov_move _ rfl) ?_
     refine wl_v rfl rfl (ov_move _ rfl) ?_
     refine wl_v rfl rfl (ov_indexAddrN _ _ _ _ _ i rfl rfl es36 rfl (by first | assumption | omega | (simp only [List.length_take, List.length_drop, List.length_set, List.length_append, List.length_cons, List.length_nil]; omega))) ?_
     obtain ⟨cl24, _, hk23, hc22⟩ := Sx.C_cells ((Sx.row_reads h (i := 4) rfl).2) (z := (0 : Int)) (k := i) (by first | assumption | omega | (simp only [List.length_set, List.length_append, List.length_cons, List.length_nil]; omega))
     obtain rfl : cl24 = [.int .i64 _] := hk23
     refine wl_v rfl rfl (ov_load1 _ _ rfl sh3 ((hc22 0 _ rfl))) ?_
     refine wl_call _ rfl rfl rfl ent25 (LT.rLetter_calls (R := [Sx.blk b1 [.slice (none) (0) (0), .slice (none) (0) (0)] 67, Sx.blk b2 [.slice (A) ((L).length) (c), .slice (A2) ((Q).length) (c2)] 67, Sx.row (Kd.int .i64) 3 (A) (c) (L), Sx.row (Kd.int .i64) 3 (A2) (c2) (Q), Sx.row (Kd.int .i64) 3 (some ad7) (cz3) ((runesL s))] ++ R) (((runesL s)).getD i (0 : Int)) (by omega) (by omega) h) ?_
     rintro e_ w_ ⟨rfl, h⟩
     refine ⟨_, rfl, ?_⟩
     refine wl_v rfl rfl (ov_not _ (¬ (LetP (((runesL s)).getD i (0 : Int)))) rfl (by first | exact decide_not.symm | simp)) ?_
     refine wl_nil ?_
     refine qn_then ?_
     refine wc_cond (by rfl) (fun c25 => ?_) (fun c25 => ?_)
     ·
      refine wc_seq ?_
      refine wc_region ?_
      refine wl_v rfl rfl (ov_loadbN 1 [.slice (A) ((L).length) (c), .slice (A2) ((Q).length) (c2)] h rfl rfl sh67 rfl) ?_
      refine wl_storebN 0 [.slice (A) ((L).length) (c), .slice (A2) ((Q).length) (c2)] [.slice (A) ((L).length) (c), .slice (A2) ((Q).length) (c2)] h rfl rfl rfl rfl (by simp [Value.oneCell']) sh67 rfl rfl (fun _ h => ?_)
      refine wl_v rfl rfl (ov_assign _ rfl) ?_
      refine wl_nil ?_
      refine qn_then ?_
      refine wc_ret ?_
      refine qn_then_ret ?_
      refine qn_block_ret ?_
      refine qn_then_ret ?_
      refine qn_then_ret ?_
      refine qn_block_ret ?_
      refine qn_then_ret ?_
      have hend_ := h
      replace h := st_selT [false, false, false, false, false] h
      refine qn_ret [_, _] ⟨⟨_, rfl, Sx.loadVarN (vs := [.slice (A) ((L).length) (c), .slice (A2) ((Q).length) (c2)]) sh67 (Sx.blk_cells (cells := [.slice (A) ((L).length) (c), .slice (A2) ((Q).length) (c2)]) hend_ (i := 0) rfl 0 _ rfl)⟩, rfl, trivial⟩ ?_
      refine Or.inr ⟨?_, _, _, _, _, _, _, rfl, h⟩
      rw [← hJ.1, drop_get (runesL s) 0 (by omega)]
      first
      | (rw [wordGo_no (by omega) (by assumption)]; done)
      | (by_cases hbw_ : BadW L Q
         · exact wordGo_mk2 (by omega) hbw_
         · rw [wordGo_mk (by omega) hbw_]
           rcases hJ.2.1 with q_ | q_
           · exact absurd (show BadW L Q from .inl q_.2.1) hbw_
           · first
             | exact absurd (q_.2.2.1.2 (by omega)) hbw_
             | (rw [List.drop_eq_nil_of_le (by omega), wordGo, if_pos (badW_last q_.2.1)]))
     ·
      refine wc_skip ?_
      refine qn_then ?_
      refine wc_draw (fun w => Sx.St w0 F0 ([Sx.blk b1 [.slice (none) (0) (0), .slice (none) (0) (0)] 67, Sx.row (Kd.int .i64) 3 (A2) (c2) (Q), Sx.row (Kd.int .i64) 3 (some ad7) (cz3) ((runesL s))] ++ R) w) (by kernel_rfl) ?_
      replace h := st_drew h
      refine wa_tk 0 rfl rfl rfl (st_selT [true, false, false, true, true] h) (fun w_ hS => ov_fieldAddr _ ⟨b2, 0, none⟩ _ rfl fo67_0 rfl) ?_
      refine wa_tk 2 rfl rfl rfl (st_selT [true, false, false, true, true] h) (fun w_ hS => ov_move _ rfl) ?_
      refine wa_tk 3 rfl rfl rfl (st_selT [true, false, false, true, true] h) (fun w_ hS => ov_move _ rfl) ?_
      refine wa_tk 4 rfl rfl rfl (st_selT [true, false, false, true, true] h) (fun w_ hS => ov_indexAddrN _ _ _ _ _ i rfl rfl es36 rfl (by first | assumption | omega | (simp only [List.length_take, List.length_drop, List.length_set, List.length_append, List.length_cons, List.length_nil]; omega))) ?_
      refine wa_tk 5 rfl rfl rfl (st_selT [true, false, false, true, true] h) (fun w_ hS => by
          obtain ⟨cl28, _, hk27, hc26⟩ := Sx.C_cells ((Sx.row_reads hS (i := 2) rfl).2) (z := (0 : Int)) (k := i) (by first | assumption | omega | (simp only [List.length_set, List.length_append, List.length_cons, List.length_nil]; omega))
          obtain rfl : cl28 = [.int .i64 _] := hk27
          exact ov_load1 _ _ rfl sh3 ((hc26 0 _ rfl))) ?_
      refine wa_two 1 6 rfl rfl (by kernel_rfl) ?_ ?_
      ·
       refine wl_v rfl rfl (ov_loadb 1 _ h rfl rfl sh36 rfl) ?_
       refine wl_nil ?_
       refine qn_wa (st_selT [true, false, false, true, true] h) ?_
       refine wa_one 6 rfl (by kernel_rfl) ?_
       refine wl_call _ rfl rfl rfl ent37 (LT.rLower_calls (R := [Sx.blk b1 [.slice (none) (0) (0), .slice (none) (0) (0)] 67, Sx.blk b2 [.slice (A) ((L).length) (c), .slice (A2) ((Q).length) (c2)] 67, Sx.row (Kd.int .i64) 3 (A) (c) (L), Sx.row (Kd.int .i64) 3 (A2) (c2) (Q), Sx.row (Kd.int .i64) 3 (some ad7) (cz3) ((runesL s))] ++ R) (((runesL s)).getD i (0 : Int)) (by omega) (by omega) h) ?_
       rintro e_ w_ ⟨rfl, h⟩
       refine ⟨_, rfl, ?_⟩
       have hlb29 := lowV_bd (((runesL s)).getD i (0 : Int))
       refine wl_nil ?_
       refine qn_wa (st_selT [true, false, false, true, true] h) ?_
       refine wa_one 7 rfl (by kernel_rfl) ?_
       refine wl_lit (d := (Kd.int .i64)) [(0, .int .i64 (lowV (((runesL s)).getD i (0 : Int))))] _ [.int .i64 (lowV (((runesL s)).getD i (0 : Int)))] ([lowV (((runesL s)).getD i (0 : Int))]) h rfl rfl rfl rfl Try.underlying36 infb3 rfl (by decide) (by kernel_rfl) rfl (fun _ _ _ => ((Reps.none _ _).snoc ((Sx.mkInt .i64 (lowV (((runesL s)).getD i (0 : Int))))) rfl)) (fun A30 cp31 _ h => ?_)
       refine wl_nil ?_
       refine qn_wa (st_selT [false, true, false, false, true, true] h) ?_
       refine wa_one 8 rfl (by kernel_rfl) ?_
       refine wl_append (d := (Kd.int .i64)) (L := L) 3 _ 8 _ _ _ ([lowV (((runesL s)).getD i (0 : Int))]) (Sx.flat_int _) h rfl rfl rfl rfl rfl ((Sx.row_reads h (i := 0) rfl).2) Try.underlying36 inf3 rfl (by decide) (by decide) (by first | omega | (simp only [List.length_cons, List.length_nil, List.length_append, List.length_set]; omega)) (by first | rfl | simp) (fun A32 cp33 _ h => ?_)
       replace h := st_selT [false, true, true, true, true, true] h
       refine wl_nil ?_
       refine qn_wa (st_selT [true, false, false, true, true] h) ?_
       refine wa_tk 9 rfl rfl rfl (st_selT [true, false, false, true, true] h) (fun w_ hS => ov_fieldAddr _ ⟨b2, 0, none⟩ _ rfl fo67_0 rfl) ?_
       refine wa_one 10 rfl (by kernel_rfl) ?_
       refine wl_storeb 1 _ [.slice (A32) ((L ++ ([lowV (((runesL s)).getD i (0 : Int))])).length) (cp33), .slice (A2) ((Q).length) (c2)] h rfl rfl rfl rfl rfl rfl sh36 rfl rfl (fun _ h => ?_)
       refine wl_nil ?_
       refine qn_wa (st_selT [true, false, false, true, true] h) ?_
       refine wa_done (by kernel_rfl) ?_
       refine qn_block_normal ?_
       refine qn_then ?_
       refine wc_region ?_
       refine wl_v rfl rfl (ov_move _ rfl) ?_
       refine wl_v rfl rfl (ov_bin _ rfl rfl (binR_add (r := ((i : Int)) + 1) (Sx.w64 (by omega)))) ?_
       refine wl_v rfl rfl (ov_assign _ rfl) ?_
       refine wl_nil ?_
       replace h := st_front 4 h
       replace h := st_front 4 h
       replace h := st_front 4 h
       replace h := st_front 4 h
       replace h := st_front 4 h
       refine qn_next ((i + 1), A32, cp33, (L ++ ([lowV (((runesL s)).getD i (0 : Int))])), A2, c2, (Q), some ad7) (by show (runesL s).length - (i + 1) < (runesL s).length - i; omega) ⟨rfl, rfl, rfl, rfl, (congrArg (fun z_ => some (Value.int .i64 z_)) (show (((i : Int)) + 1 : Int) = ((i + 1) : Int) by omega)), trivial⟩ ?_
       show (wordGo (List.drop (i + 1) (runesL s)) (L ++ ([lowV (((runesL s)).getD i (0 : Int))])) (Q) = wordV s ∧ (((i + 1) = 0 ∧ (L ++ ([lowV (((runesL s)).getD i (0 : Int))])) = [] ∧ (Q) = []) ∨ (0 < (i + 1) ∧ (L ++ ([lowV (((runesL s)).getD i (0 : Int))])) ≠ [] ∧ (BadW (L ++ ([lowV (((runesL s)).getD i (0 : Int))])) (Q) ↔ (runesL s).getD ((i + 1) - 1) 0 = 45) ∧ ((runesL s).getD ((i + 1) - 1) 0 = 45 → (i + 1) < (runesL s).length))) ∧ (((L ++ ([lowV (((runesL s)).getD i (0 : Int))]))).length ≤ (i + 1) ∧ ((Q)).length ≤ (i + 1) ∧ (i + 1) ≤ (runesL s).length) ∧ (∀ a ∈ (Q), a ≤ (((L ++ ([lowV (((runesL s)).getD i (0 : Int))]))).length : Int))) ∧ _
       have e_ := hJ.1
       rw [drop_get (runesL s) 0 (by omega)] at e_
       rw [wordGo_let (by first | assumption | exact Classical.not_not.1 (by assumption))] at e_
       refine ⟨⟨e_, .inr ?_, ?_⟩, h⟩
       · simp only [Nat.add_sub_cancel]
         have q_ := let_no (show LetP ((runesL s).getD i 0) by first | assumption | exact Classical.not_not.1 (by assumption))
         exact ⟨by omega, by simp, ⟨fun z_ => absurd z_ (badW_let hJ.2.2.2), fun z_ => by omega⟩, fun z_ => by omega⟩
       · refine ⟨?_, ?_⟩
         · first | omega | (simp only [List.length_append, List.length_cons, List.length_nil]; omega)
         · intro a_ ha_
           have q_ := hJ.2.2.2 a_ ha_
           simp only [List.length_append, List.length_cons, List.length_nil]
           omega
      ·
       refine wl_call _ rfl rfl rfl ent37 (LT.rLower_calls (R := [Sx.blk b1 [.slice (none) (0) (0), .slice (none) (0) (0)] 67, Sx.blk b2 [.slice (A) ((L).length) (c), .slice (A2) ((Q).length) (c2)] 67, Sx.row (Kd.int .i64) 3 (A) (c) (L), Sx.row (Kd.int .i64) 3 (A2) (c2) (Q), Sx.row (Kd.int .i64) 3 (some ad7) (cz3) ((runesL s))] ++ R) (((runesL s)).getD i (0 : Int)) (by omega) (by omega) h) ?_
       rintro e_ w_ ⟨rfl, h⟩
       refine ⟨_, rfl, ?_⟩
       have hlb34 := lowV_bd (((runesL s)).getD i (0 : Int))
       refine wl_nil ?_
       refine qn_wa (st_selT [true, false, false, true, true] h) ?_
       refine wa_two 1 7 rfl rfl (by kernel_rfl) ?_ ?_
       ·
        refine wl_v rfl rfl (ov_loadb 1 _ h rfl rfl sh36 rfl) ?_
        refine wl_nil ?_
        refine qn_wa (st_selT [true, false, false, true, true] h) ?_
        refine wa_one 7 rfl (by kernel_rfl) ?_
        refine wl_lit (d := (Kd.int .i64)) [(0, .int .i64 (lowV (((runesL s)).getD i (0 : Int))))] _ [.int .i64 (lowV (((runesL s)).getD i (0 : Int)))] ([lowV (((runesL s)).getD i (0 : Int))]) h rfl rfl rfl rfl Try.underlying36 infb3 rfl (by decide) (by kernel_rfl) rfl (fun _ _ _ => ((Reps.none _ _).snoc ((Sx.mkInt .i64 (lowV (((runesL s)).getD i (0 : Int))))) rfl)) (fun A35 cp36 _ h => ?_)
        refine wl_nil ?_
        refine qn_wa (st_selT [false, true, false, false, true, true] h) ?_
        refine wa_one 8 rfl (by kernel_rfl) ?_
        refine wl_append (d := (Kd.int .i64)) (L := L) 3 _ 8 _ _ _ ([lowV (((runesL s)).getD i (0 : Int))]) (Sx.flat_int _) h rfl rfl rfl rfl rfl ((Sx.row_reads h (i := 0) rfl).2) Try.underlying36 inf3 rfl (by decide) (by decide) (by first | omega | (simp only [List.length_cons, List.length_nil, List.length_append, List.length_set]; omega)) (by first | rfl | simp) (fun A37 cp38 _ h => ?_)
        replace h := st_selT [false, true, true, true, true, true] h
        refine wl_nil ?_
        refine qn_wa (st_selT [true, false, false, true, true] h) ?_
        refine wa_tk 9 rfl rfl rfl (st_selT [true, false, false, true, true] h) (fun w_ hS => ov_fieldAddr _ ⟨b2, 0, none⟩ _ rfl fo67_0 rfl) ?_
        refine wa_one 10 rfl (by kernel_rfl) ?_
        refine wl_storeb 1 _ [.slice (A37) ((L ++ ([lowV (((runesL s)).getD i (0 : Int))])).length) (cp38), .slice (A2) ((Q).length) (c2)] h rfl rfl rfl rfl rfl rfl sh36 rfl rfl (fun _ h => ?_)
        refine wl_nil ?_
        refine qn_wa (st_selT [true, false, false, true, true] h) ?_
        refine wa_done (by kernel_rfl) ?_
        refine qn_block_normal ?_
        refine qn_then ?_
        refine wc_region ?_
        refine wl_v rfl rfl (ov_move _ rfl) ?_
        refine wl_v rfl rfl (ov_bin _ rfl rfl (binR_add (r := ((i : Int)) + 1) (Sx.w64 (by omega)))) ?_
        refine wl_v rfl rfl (ov_assign _ rfl) ?_
        refine wl_nil ?_
        replace h := st_front 4 h
        replace h := st_front 4 h
        replace h := st_front 4 h
        replace h := st_front 4 h
        replace h := st_front 4 h
        refine qn_next ((i + 1), A37, cp38, (L ++ ([lowV (((runesL s)).getD i (0 : Int))])), A2, c2, (Q), some ad7) (by show (runesL s).length - (i + 1) < (runesL s).length - i; omega) ⟨rfl, rfl, rfl, rfl, (congrArg (fun z_ => some (Value.int .i64 z_)) (show (((i : Int)) + 1 : Int) = ((i + 1) : Int) by omega)), trivial⟩ ?_
        show (wordGo (List.drop (i + 1) (runesL s)) (L ++ ([lowV (((runesL s)).getD i (0 : Int))])) (Q) = wordV s ∧ (((i + 1) = 0 ∧ (L ++ ([lowV (((runesL s)).getD i (0 : Int))])) = [] ∧ (Q) = []) ∨ (0 < (i + 1) ∧ (L ++ ([lowV (((runesL s)).getD i (0 : Int))])) ≠ [] ∧ (BadW (L ++ ([lowV (((runesL s)).getD i (0 : Int))])) (Q) ↔ (runesL s).getD ((i + 1) - 1) 0 = 45) ∧ ((runesL s).getD ((i + 1) - 1) 0 = 45 → (i + 1) < (runesL s).length))) ∧ (((L ++ ([lowV (((runesL s)).getD i (0 : Int))]))).length ≤ (i + 1) ∧ ((Q)).length ≤ (i + 1) ∧ (i + 1) ≤ (runesL s).length) ∧ (∀ a ∈ (Q), a ≤ (((L ++ ([lowV (((runesL s)).getD i (0 : Int))]))).length : Int))) ∧ _
        have e_ := hJ.1
        rw [drop_get (runesL s) 0 (by omega)] at e_
        rw [wordGo_let (by first | assumption | exact Classical.not_not.1 (by assumption))] at e_
        refine ⟨⟨e_, .inr ?_, ?_⟩, h⟩
        · simp only [Nat.add_sub_cancel]
          have q_ := let_no (show LetP ((runesL s).getD i 0) by first | assumption | exact Classical.not_not.1 (by assumption))
          exact ⟨by omega, by simp, ⟨fun z_ => absurd z_ (badW_let hJ.2.2.2), fun z_ => by omega⟩, fun z_ => by omega⟩
        · refine ⟨?_, ?_⟩
          · first | omega | (simp only [List.length_append, List.length_cons, List.length_nil]; omega)
          · intro a_ ha_
            have q_ := hJ.2.2.2 a_ ha_
            simp only [List.length_append, List.length_cons, List.length_nil]
            omega
       ·
        refine wl_lit (d := (Kd.int .i64)) [(0, .int .i64 (lowV (((runesL s)).getD i (0 : Int))))] _ [.int .i64 (lowV (((runesL s)).getD i (0 : Int)))] ([lowV (((runesL s)).getD i (0 : Int))]) h rfl rfl rfl rfl Try.underlying36 infb3 rfl (by decide) (by kernel_rfl) rfl (fun _ _ _ => ((Reps.none _ _).snoc ((Sx.mkInt .i64 (lowV (((runesL s)).getD i (0 : Int))))) rfl)) (fun A39 cp40 _ h => ?_)
        refine wl_nil ?_
        refine qn_wa (st_selT [false, true, false, false, true, true] h) ?_
        refine wa_one 1 rfl (by kernel_rfl) ?_
        refine wl_v rfl rfl (ov_loadb 2 _ h rfl rfl sh36 rfl) ?_
        refine wl_nil ?_
        refine qn_wa (st_selT [false, true, false, false, true, true] h) ?_
        refine wa_one 8 rfl (by kernel_rfl) ?_
        refine wl_append (d := (Kd.int .i64)) (L := L) 3 _ 8 _ _ _ ([lowV (((runesL s)).getD i (0 : Int))]) (Sx.flat_int _) h rfl rfl rfl rfl rfl ((Sx.row_reads h (i := 0) rfl).2) Try.underlying36 inf3 rfl (by decide) (by decide) (by first | omega | (simp only [List.length_cons, List.length_nil, List.length_append, List.length_set]; omega)) (by first | rfl | simp) (fun A41 cp42 _ h => ?_)
        replace h := st_selT [false, true, true, true, true, true] h
        refine wl_nil ?_
        refine qn_wa (st_selT [true, false, false, true, true] h) ?_
        refine wa_tk 9 rfl rfl rfl (st_selT [true, false, false, true, true] h) (fun w_ hS => ov_fieldAddr _ ⟨b2, 0, none⟩ _ rfl fo67_0 rfl) ?_
        refine wa_one 10 rfl (by kernel_rfl) ?_
        refine wl_storeb 1 _ [.slice (A41) ((L ++ ([lowV (((runesL s)).getD i (0 : Int))])).length) (cp42), .slice (A2) ((Q).length) (c2)] h rfl rfl rfl rfl rfl rfl sh36 rfl rfl (fun _ h => ?_)
        refine wl_nil ?_
        refine qn_wa (st_selT [true, false, false, true, true] h) ?_
        refine wa_done (by kernel_rfl) ?_
        refine qn_block_normal ?_
        refine qn_then ?_
        refine wc_region ?_
        refine wl_v rfl rfl (ov_move _ rfl) ?_
        refine wl_v rfl rfl (ov_bin _ rfl rfl (binR_add (r := ((i : Int)) + 1) (Sx.w64 (by omega)))) ?_
        refine wl_v rfl rfl (ov_assign _ rfl) ?_
        refine wl_nil ?_
        replace h := st_front 4 h
        replace h := st_front 4 h
        replace h := st_front 4 h
        replace h := st_front 4 h
        replace h := st_front 4 h
        refine qn_next ((i + 1), A41, cp42, (L ++ ([lowV (((runesL s)).getD i (0 : Int))])), A2, c2, (Q), some ad7) (by show (runesL s).length - (i + 1) < (runesL s).length - i; omega) ⟨rfl, rfl, rfl, rfl, (congrArg (fun z_ => some (Value.int .i64 z_)) (show (((i : Int)) + 1 : Int) = ((i + 1) : Int) by omega)), trivial⟩ ?_
        show (wordGo (List.drop (i + 1) (runesL s)) (L ++ ([lowV (((runesL s)).getD i (0 : Int))])) (Q) = wordV s ∧ (((i + 1) = 0 ∧ (L ++ ([lowV (((runesL s)).getD i (0 : Int))])) = [] ∧ (Q) = []) ∨ (0 < (i + 1) ∧ (L ++ ([lowV (((runesL s)).getD i (0 : Int))])) ≠ [] ∧ (BadW (L ++ ([lowV (((runesL s)).getD i (0 : Int))])) (Q) ↔ (runesL s).getD ((i + 1) - 1) 0 = 45) ∧ ((runesL s).getD ((i + 1) - 1) 0 = 45 → (i + 1) < (runesL s).length))) ∧ (((L ++ ([lowV (((runesL s)).getD i (0 : Int))]))).length ≤ (i + 1) ∧ ((Q)).length ≤ (i + 1) ∧ (i + 1) ≤ (runesL s).length) ∧ (∀ a ∈ (Q), a ≤ (((L ++ ([lowV (((runesL s)).getD i (0 : Int))]))).length : Int))) ∧ _
        have e_ := hJ.1
        rw [drop_get (runesL s) 0 (by omega)] at e_
        rw [wordGo_let (by first | assumption | exact Classical.not_not.1 (by assumption))] at e_
        refine ⟨⟨e_, .inr ?_, ?_⟩, h⟩
        · simp only [Nat.add_sub_cancel]
          have q_ := let_no (show LetP ((runesL s).getD i 0) by first | assumption | exact Classical.not_not.1 (by assumption))
          exact ⟨by omega, by simp, ⟨fun z_ => absurd z_ (badW_let hJ.2.2.2), fun z_ => by omega⟩, fun z_ => by omega⟩
        · refine ⟨?_, ?_⟩
          · first | omega | (simp only [List.length_append, List.length_cons, List.length_nil]; omega)
          · intro a_ ha_
            have q_ := hJ.2.2.2 a_ ha_
            simp only [List.length_append, List.length_cons, List.length_nil]
            omega
   ·
    refine wc_exit ?_
    refine qn_then_exit ?_
    refine qn_then_exit ?_
    refine qn_block_exit ?_
    refine qn_then ?_
    refine wc_seq ?_
    refine wc_draw (fun w => Sx.St w0 F0 ([Sx.blk b2 [.slice (A) ((L).length) (c), .slice (A2) ((Q).length) (c2)] 67, Sx.row (Kd.int .i64) 3 (A) (c) (L), Sx.row (Kd.int .i64) 3 (A2) (c2) (Q), Sx.row (Kd.int .i64) 3 (X) (cz3) ((runesL s))] ++ R) w) (by kernel_rfl) ?_
    replace h := st_drew h
    refine wa_tk 0 rfl rfl rfl (st_selT [false, true, true, true, true] h) (fun w_ hS => ov_loadbN 0 [.slice (A) ((L).length) (c), .slice (A2) ((Q).length) (c2)] hS rfl rfl sh67 rfl) ?_
    refine wa_tk 1 rfl rfl rfl (st_selT [false, true, true, true, true] h) (fun w_ hS => ov_fieldAddr _ ⟨b2, 0, none⟩ _ rfl fo67_0 rfl) ?_
    refine wa_tk 2 rfl rfl rfl (st_selT [false, true, true, true, true] h) (fun w_ hS => ov_loadb 0 _ hS rfl rfl sh36 rfl) ?_
    refine wa_tk 3 rfl rfl rfl (st_selT [false, true, true, true, true] h) (fun w_ hS => ov_len _ _ _ _ _ rfl es36) ?_
    refine wa_tk 4 rfl rfl rfl (st_selT [false, true, true, true, true] h) (fun w_ hS => ov_bin _ rfl rfl (binR_gtr)) ?_
    refine wa_one 5 rfl (by kernel_rfl) ?_
    refine wl_storebN 0 [.slice (A) ((L).length) (c), .slice (A2) ((Q).length) (c2)] [.slice (A) ((L).length) (c), .slice (A2) ((Q).length) (c2)] h rfl rfl rfl rfl (by simp [Value.oneCell']) sh67 rfl rfl (fun _ h => ?_)
    refine wl_nil ?_
    refine qn_wa (st_selT [false, true, true, true, true] h) ?_
    refine wa_tk 6 rfl rfl rfl (st_selT [false, true, true, true, true] h) (fun w_ hS => ov_assign _ rfl) ?_
    refine wa_done (by kernel_rfl) ?_
    refine qn_then ?_
    refine wc_ret ?_
    have hend_ := h
    replace h := st_front 3 h
    replace h := st_front 3 h
    replace h := st_selT [true, true, false, false, false] h
    refine qn_ret [_, _] ⟨⟨_, rfl, Sx.loadVarN (vs := [.slice (A) ((L).length) (c), .slice (A2) ((Q).length) (c2)]) sh67 (Sx.blk_cells (cells := [.slice (A) ((L).length) (c), .slice (A2) ((Q).length) (c2)]) hend_ (i := 0) rfl 0 _ rfl)⟩, rfl, trivial⟩ ?_
    have e_ := hJ.1
    rw [List.drop_eq_nil_of_le (by omega), wordGo] at e_
    by_cases hbw_ : BadW L Q
    · rw [if_pos hbw_] at e_
      refine Or.inr ⟨e_.symm, A, (L).length, c, A2, (Q).length, c2, congrArg (fun z => Ending.returned (Value.tuple #[.agg #[.slice (A) ((L).length) (c), .slice (A2) ((Q).length) (c2)], .bool z])) (decide_eq_false (fun z_ => ?_)), st_selT [false, false] h⟩
      rcases hJ.2.1 with q_ | q_
      · rw [q_.2.1] at z_; exact absurd z_ (by decide)
      · have q2_ := q_.2.2.2 (q_.2.2.1.1 hbw_)
        omega
    · rw [if_neg hbw_] at e_
      refine Or.inl ⟨L, Q, A, c, A2, c2, e_.symm, congrArg (fun z => Ending.returned (Value.tuple #[.agg #[.slice (A) ((L).length) (c), .slice (A2) ((Q).length) (c2)], .bool z])) (decide_eq_true ?_), h⟩
      have q2_ := List.length_pos_iff.2 (fun z_ => hbw_ (.inl z_))
      omega
set_option maxHeartbeats 4000000 in
set_option maxRecDepth 100000 in
theorem same_calls {w0 w : World} {F0 : Nat → Prop} {R : List Sx.HP} (A : Option Addr) (c : Nat) (a : List Int) (B : Option Addr) (d : Nat) (b : List Int) (hA : ∀ cs w, Sx.St w0 F0 (cs ++ R) w → (Kd.int .i64).C w A a.length a) (hB : ∀ cs w, Sx.St w0 F0 (cs ++ R) w → (Kd.int .i64).C w B b.length b) (hla : a.length ≤ 1000000000000) (h : Sx.St w0 F0 ([] ++ R) w) : Calls Try.prog 31 #[.slice (A) (a.length) (c), .slice (B) (b.length) (d)] w (fun e w1 => e = .returned (.bool (decide (a = b))) ∧ Sx.St w0 F0 R w1) := by
 refine Sx.calls_fn (vs := [.slice (A) (a.length) (c), .slice (B) (b.length) (d)]) Try.func31 rfl Try.ntmps31 rfl ?_
 refine wc_seq ?_
 refine wc_region ?_
 refine wl_v rfl rfl (ov_assign _ rfl) ?_
 refine wl_nil ?_
 refine qn_then ?_
 refine wc_seq ?_
 refine wc_seq ?_
 refine wc_region ?_
 refine wl_v rfl rfl (ov_move _ rfl) ?_
 refine wl_v rfl rfl (ov_len _ _ _ _ _ rfl es36) ?_
 refine wl_v rfl rfl (ov_move _ rfl) ?_
 refine wl_v rfl rfl (ov_len _ _ _ _ _ rfl es36) ?_
 refine wl_v rfl rfl (ov_bin _ rfl rfl (binR_neq)) ?_
 refine wl_nil ?_
 refine qn_then ?_
 refine wc_cond (by rfl) (fun c1 => ?_) (fun c1 => ?_)
 ·
  refine wc_seq ?_
  refine wc_region ?_
  refine wl_v rfl rfl (ov_assign _ rfl) ?_
  refine wl_nil ?_
  refine qn_then ?_
  refine wc_ret ?_
  refine qn_then_ret ?_
  refine qn_ret [_] ⟨rfl, trivial⟩ ?_
  rw [show decide (a = b) = false from decide_eq_false (fun z_ => by subst z_; omega)]
  exact ⟨rfl, h⟩
 ·
  refine wc_skip ?_
  refine qn_then ?_
  refine wc_seq ?_
  refine wc_seq ?_
  refine wc_region ?_
  refine wl_v rfl rfl (ov_assign _ rfl) ?_
  refine wl_nil ?_
  refine qn_then ?_
  refine wc_block ?_
  refine wc_loop (fun (x_ : Nat) => [(0, .slice (A) (a.length) (c)), (1, .slice (B) (b.length) (d)), (5, .int .i64 ((x_ : Int)))]) (fun (x_ : Nat) (w : World) => ((a.length = b.length ∧ x_ ≤ a.length) ∧ ∀ j, j < x_ → a.getD j 0 = b.getD j 0) ∧ Sx.St w0 F0 ([] ++ R) w) (fun (x_ : Nat) => a.length - x_) (0) ?_ ?_ ?_
  · exact ⟨rfl, rfl, (congrArg (fun z_ => some (Value.int .i64 z_)) (show (0 : Int) = (0 : Int) by omega)), trivial⟩
  · exact ⟨⟨⟨by omega, Nat.zero_le _⟩, fun j_ hj_ => absurd hj_ (Nat.not_lt_zero _)⟩, h⟩
  intro i w h
  obtain ⟨hJ, h⟩ := h
  replace hJ : (a.length = b.length ∧ i ≤ a.length) ∧ ∀ j, j < i → a.getD j 0 = b.getD j 0 := hJ
  replace h : Sx.St w0 F0 ([] ++ R) w := h
  show Sx.WC _ _ _ _ [(0, .slice (A) (a.length) (c)), (1, .slice (B) (b.length) (d)), (5, .int .i64 ((i : Int)))] _
  refine wc_seq ?_
  refine wc_seq ?_
  refine wc_region ?_
  refine wl_v rfl rfl (ov_move _ rfl) ?_
  refine wl_v rfl rfl (ov_move _ rfl) ?_
  refine wl_v rfl rfl (ov_len _ _ _ _ _ rfl es36) ?_
  refine wl_v rfl rfl (ov_bin _ rfl rfl (binR_lss)) ?_
  refine wl_nil ?_
  refine qn_then ?_
  refine wc_cond (by rfl) (fun c2 => ?_) (fun c2 => ?_)
  ·
   refine wc_skip ?_
   refine qn_then ?_
   refine wc_seq ?_
   refine wc_block ?_
   refine wc_seq ?_
   refine wc_draw (fun w => Sx.St w0 F0 ([] ++ R) w) (by kernel_rfl) ?_
   replace h := st_drew h
   refine wa_tk 0 rfl rfl rfl (st_selT [] h) (fun w_ hS => ov_move _ rfl) ?_
   refine wa_tk 1 rfl rfl rfl (st_selT [] h) (fun w_ hS => ov_move _ rfl) ?_
   obtain ⟨ad3, rfl⟩ := Sx.C_some ((hA [] _ h)) (k := i) (by first | assumption | omega | (simp only [List.length_set, List.length_append, List.length_cons, List.length_nil]; omega))
   refine wa_tk 2 rfl rfl rfl (st_selT [] h) (fun w_ hS => ov_indexAddrN _ _ _ _ _ i rfl rfl es36 rfl (by first | assumption | omega | (simp only [List.length_take, List.length_drop, List.length_set, List.length_append, List.length_cons, List.length_nil]; omega))) ?_
   refine wa_tk 3 rfl rfl rfl (st_selT [] h) (fun w_ hS => by
       obtain ⟨cl6, _, hk5, hc4⟩ := Sx.C_cells ((hA [] _ hS)) (z := (0 : Int)) (k := i) (by first | assumption | omega | (simp only [List.length_set, List.length_append, List.length_cons, List.length_nil]; omega))
       obtain rfl : cl6 = [.int .i64 _] := hk5
       exact ov_load1 _ _ rfl sh3 ((hc4 0 _ rfl))) ?_
   refine wa_tk 4 rfl rfl rfl (st_selT [] h) (fun w_ hS => ov_move _ rfl) ?_
   refine wa_tk 5 rfl rfl rfl (st_selT [] h) (fun w_ hS => ov_move _ rfl) ?_
   obtain ⟨ad7, rfl⟩ := Sx.C_some ((hB [] _ h)) (k := i) (by first | assumption | omega | (simp only [List.length_set, List.length_append, List.length_cons, List.length_nil]; omega))
   refine wa_tk 6 rfl rfl rfl (st_selT [] h) (fun w_ hS => ov_indexAddrN _ _ _ _ _ i rfl rfl es36 rfl (by first | assumption | omega | (simp only [List.length_take, List.length_drop, List.length_set, List.length_append, List.length_cons, List.length_nil]; omega))) ?_
   refine wa_tk 7 rfl rfl rfl (st_selT [] h) (fun w_ hS => by
       obtain ⟨cl10, _, hk9, hc8⟩ := Sx.C_cells ((hB [] _ hS)) (z := (0 : Int)) (k := i) (by first | assumption | omega | (simp only [List.length_set, List.length_append, List.length_cons, List.length_nil]; omega))
       obtain rfl : cl10 = [.int .i64 _] := hk9
       exact ov_load1 _ _ rfl sh3 ((hc8 0 _ rfl))) ?_
   refine wa_tk 8 rfl rfl rfl (st_selT [] h) (fun w_ hS => ov_bin _ rfl rfl (binR_neq)) ?_
   refine wa_done (by kernel_rfl) ?_
   refine qn_then ?_
   refine wc_cond (by rfl) (fun c11 => ?_) (fun c11 => ?_)
   ·
    refine wc_seq ?_
    refine wc_region ?_
    refine wl_v rfl rfl (ov_assign _ rfl) ?_
    refine wl_nil ?_
    refine qn_then ?_
    refine wc_ret ?_
    refine qn_block_ret ?_
    refine qn_then_ret ?_
    refine qn_then_ret ?_
    refine qn_block_ret ?_
    refine qn_then_ret ?_
    refine qn_ret [_] ⟨rfl, trivial⟩ ?_
    rw [show decide (a = b) = false from decide_eq_false (fun z_ => by subst z_; omega)]
    exact ⟨rfl, h⟩
   ·
    refine wc_skip ?_
    refine qn_block_normal ?_
    refine qn_then ?_
    refine wc_region ?_
    refine wl_v rfl rfl (ov_move _ rfl) ?_
    refine wl_v rfl rfl (ov_bin _ rfl rfl (binR_add (r := ((i : Int)) + 1) (Sx.w64 (by omega)))) ?_
    refine wl_v rfl rfl (ov_assign _ rfl) ?_
    refine wl_nil ?_
    refine qn_next ((i + 1)) (by show a.length - (i + 1) < a.length - i; omega) ⟨(congrArg (fun z_ => some (Value.slice (some ad3) z_ (c))) (show (a.length : Nat) = a.length by first | rfl | simp)), (congrArg (fun z_ => some (Value.slice (some ad7) z_ (d))) (show (b.length : Nat) = b.length by first | rfl | simp)), (congrArg (fun z_ => some (Value.int .i64 z_)) (show (((i : Int)) + 1 : Int) = ((i + 1) : Int) by omega)), trivial⟩ ?_
    show ((a.length = b.length ∧ (i + 1) ≤ a.length) ∧ ∀ j, j < (i + 1) → a.getD j 0 = b.getD j 0) ∧ _
    exact ⟨⟨⟨by omega, by omega⟩, fun j_ hj_ => by
      rcases Nat.lt_succ_iff_lt_or_eq.1 hj_ with z_ | rfl
      · exact hJ.2 j_ z_
      · omega⟩, h⟩
  ·
   refine wc_exit ?_
   refine qn_then_exit ?_
   refine qn_then_exit ?_
   refine qn_block_exit ?_
   refine qn_then ?_
   refine wc_seq ?_
   refine wc_region ?_
   refine wl_v rfl rfl (ov_assign _ rfl) ?_
   refine wl_nil ?_
   refine qn_then ?_
   refine wc_ret ?_
   refine qn_ret [_] ⟨rfl, trivial⟩ ?_
   rw [show decide (a = b) = true from decide_eq_true ((same_iff hJ.1.1).1 (fun j_ hj_ => hJ.2 j_ (by omega)))]
   exact ⟨rfl, h⟩
end Go.Proofs.Ytbeihfcjfkddcaa.RF
