/- Pruned by wip/prune.py. -/
import Derived.Test.YtbeihfcjfkddcaaProg
import Derived.Test.YtbeihfcjfkddcaaQSxGlue
import Derived.Test.YtbeihfcjfkddcaaQSxFlow
import Derived.Test.YtbeihfcjfkddcaaQSxIter
import Derived.Test.YtbeihfcjfkddcaaQSxBytes
import Derived.Test.YtbeihfcjfkddcaaQHyRead
import Derived.Test.YtbeihfcjfkddcaaQSxRunes
import Derived.Test.YtbeihfcjfkddcaaQSxLetter
import Derived.Test.YtbeihfcjfkddcaaQSxText
namespace Go.Proofs.Ytbeihfcjfkddcaa.RD
open Go Go.RowKit Go.Proofs.YtbeihfcjfkddcaaW.PrintWords Go.Proofs.Ytbeihfcjfkddcaa.Hy Go.Proofs.Ytbeihfcjfkddcaa.Given Go.Proofs.Ytbeihfcjfkddcaa.Rn Go.Proofs.Ytbeihfcjfkddcaa.Sx 
set_option linter.unusedVariables false
set_option linter.unusedSimpArgs false
theorem ent32 : Sx.Ent Try.prog 32 := ⟨Try.f32, Try.func32, by kernel_rfl, by kernel_rfl⟩
theorem infb3 : (Try.prog.info? 3).map (fun i => (i.zero, i.size)) = some (some (.int .i64 (0)), 1) := by kernel_rfl
theorem es56 : Sx.elemSz Try.prog 56 = some (21, 1) := by kernel_rfl
theorem es36 : Sx.elemSz Try.prog 36 = some (3, 1) := by kernel_rfl
theorem szf3 : (Try.prog.info? 3).map (·.size) = some 1 := by kernel_rfl
theorem infb21 : (Try.prog.info? 21).map (fun i => (i.zero, i.size)) = some (some (.int .i32 (0)), 1) := by kernel_rfl
theorem inf21 : (Try.prog.info? 21).map (fun i => (i.zero, i.size, i.bytes)) = some (some (.int .i32 (0)), 1, 4) := by kernel_rfl
theorem inf3 : (Try.prog.info? 3).map (fun i => (i.zero, i.size, i.bytes)) = some (some (.int .i64 (0)), 1, 8) := by kernel_rfl
theorem ent33 : Sx.Ent Try.prog 33 := ⟨Try.f33, Try.func33, by kernel_rfl, by kernel_rfl⟩
theorem ent34 : Sx.Ent Try.prog 34 := ⟨Try.f34, Try.func34, by kernel_rfl, by kernel_rfl⟩
theorem sh3 : Sx.shapeOf Try.prog 3 = some (false, 1) := by kernel_rfl
theorem ent35 : Sx.Ent Try.prog 35 := ⟨Try.f35, Try.func35, by kernel_rfl, by kernel_rfl⟩
set_option maxHeartbeats 4000000 in
set_option maxRecDepth 100000 in
theorem pattern_calls {w0 w : World} {F0 : Nat → Prop} {R : List Sx.HP} (s : ByteArray) (hs : s.size ≤ 1000000000) (h : Sx.St w0 F0 ([] ++ R) w) : Calls Try.prog 26 #[.string (s)] w (fun e w1 => (∃ (L Q : List Int) (A : Option Addr) (c : Nat) (A2 : Option Addr) (c2 : Nat), patV s = some (L, Q) ∧ e = .returned (.tuple #[.slice A L.length c, .slice A2 Q.length c2, .bool true]) ∧ Sx.St w0 F0 ([Sx.row (Kd.int .i32) 21 (A) (c) (L), Sx.row (Kd.int .i64) 3 (A2) (c2) (Q)] ++ R) w1) ∨ (patV s = none ∧ ∃ v1 v2, e = .returned (.tuple #[v1, v2, .bool false]) ∧ Sx.St w0 F0 R w1)) := by
 refine Sx.calls_fn (vs := [.string (s)]) Try.func26 rfl Try.ntmps26 rfl ?_
 refine wc_seq ?_
 refine wc_region ?_
 refine wl_v rfl rfl (ov_assign _ rfl) ?_
 refine wl_v rfl rfl (ov_assign _ rfl) ?_
 refine wl_v rfl rfl (ov_assign _ rfl) ?_
 refine wl_nil ?_
 refine qn_then ?_
 refine wc_seq ?_
 refine wc_seq ?_
 refine wc_region ?_
 refine wl_v rfl rfl (ov_move _ rfl) ?_
 refine wl_v rfl rfl (ov_lens _ rfl Try.underlying9) ?_
 refine wl_v rfl rfl (ov_bin _ rfl rfl (binR_gtr)) ?_
 refine wl_v rfl rfl (ov_move _ rfl) ?_
 refine wl_split 14 rfl (fun c1 => ?_) (fun c1 => ?_)
 ·
  refine wl_skip rfl rfl ?_
  refine wl_skip rfl rfl ?_
  refine wl_skip rfl rfl ?_
  refine wl_v rfl rfl (ov_pick_true _ rfl rfl) ?_
  refine wl_nil ?_
  refine qn_then ?_
  refine wc_cond_true rfl ?_
  refine wc_seq ?_
  refine wc_region ?_
  refine wl_v rfl rfl (ov_assign _ rfl) ?_
  refine wl_v rfl rfl (ov_assign _ rfl) ?_
  refine wl_v rfl rfl (ov_assign _ rfl) ?_
  refine wl_nil ?_
  refine qn_then ?_
  refine wc_ret ?_
  refine qn_then_ret ?_
  refine qn_ret [_, _, _] ⟨rfl, rfl, rfl, trivial⟩ ?_
  refine Or.inr ⟨?_, _, _, rfl, h⟩
  unfold patV
  rw [if_pos (by omega)]
 ·
  refine wl_v rfl rfl (ov_move _ rfl) ?_
  refine wl_call _ rfl rfl rfl ent32 (RN.Bad_calls (R := [] ++ R) s (by omega) h) ?_
  rintro e_ w_ ⟨rfl, h⟩
  refine ⟨_, rfl, ?_⟩
  refine wl_v rfl rfl (ov_bin _ rfl rfl (binR_geq)) ?_
  refine wl_v rfl rfl (ov_pick_false _ rfl rfl) ?_
  refine wl_nil ?_
  refine qn_then ?_
  refine wc_cond (by rfl) (fun c2 => ?_) (fun c2 => ?_)
  ·
   refine wc_seq ?_
   refine wc_region ?_
   refine wl_v rfl rfl (ov_assign _ rfl) ?_
   refine wl_v rfl rfl (ov_assign _ rfl) ?_
   refine wl_v rfl rfl (ov_assign _ rfl) ?_
   refine wl_nil ?_
   refine qn_then ?_
   refine wc_ret ?_
   refine qn_then_ret ?_
   refine qn_ret [_, _, _] ⟨rfl, rfl, rfl, trivial⟩ ?_
   refine Or.inr ⟨?_, _, _, rfl, h⟩
   unfold patV
   rw [if_pos (by omega)]
  ·
   refine wc_skip ?_
   refine qn_then ?_
   refine wc_seq ?_
   refine wc_region ?_
   refine wl_v rfl rfl (ov_assign _ rfl) ?_
   refine wl_nil ?_
   refine qn_then ?_
   refine wc_seq ?_
   refine wc_region ?_
   refine wl_lit (d := (Kd.int .i64)) [(0, .int .i64 (0))] _ [.int .i64 (0)] ([0]) h rfl rfl rfl rfl Try.underlying36 infb3 rfl (by decide) (by kernel_rfl) rfl (fun _ _ _ => ((Reps.none _ _).snoc ((Sx.mkInt .i64 (0))) rfl)) (fun A3 cp4 _ h => ?_)
   refine wl_v rfl rfl (ov_assign _ rfl) ?_
   refine wl_nil ?_
   refine qn_then ?_
   refine wc_seq ?_
   refine wc_region ?_
   refine wl_v rfl rfl (ov_assign _ rfl) ?_
   refine wl_v rfl rfl (ov_assign _ rfl) ?_
   refine wl_nil ?_
   refine qn_then ?_
   refine wc_seq ?_
   refine wc_seq ?_
   refine wc_region ?_
   refine wl_v rfl rfl (ov_move _ rfl) ?_
   refine wl_range _ h rfl rfl rfl Try.underlying9 (fun b5 _ h => ?_)
   refine wl_nil ?_
   refine qn_then ?_
   refine wc_block ?_
   replace h := st_nilrow (Kd.int .i32) 21 h
   replace h := st_front 2 h
   replace h := st_front 1 h
   replace h := st_front 2 h
   refine wc_loop (fun (x_ : Nat × (List (Int × Int)) × (Option Addr) × Nat × (List Int) × (Option Addr) × Nat × (List Int) × Bool × Int) => [(0, .string (s)), (5, .slice (x_.2.2.1) ((x_.2.2.2.2.1).length) (x_.2.2.2.1)), (6, .slice (x_.2.2.2.2.2.1) ((x_.2.2.2.2.2.2.2.1).length) (x_.2.2.2.2.2.2.1)), (7, .bool (x_.2.2.2.2.2.2.2.2.1)), (8, .int .i64 (x_.2.2.2.2.2.2.2.2.2)), (21, .pointer (some ⟨b5, 0, none⟩))]) (fun (x_ : Nat × (List (Int × Int)) × (Option Addr) × Nat × (List Int) × (Option Addr) × Nat × (List Int) × Bool × Int) (w : World) => (Par s ((x_.1 : Nat) : Int) x_.2.1 s.size ∧ patGo (runesOf x_.2.1) (decide (x_.1 = 0)) x_.2.2.2.2.1 x_.2.2.2.2.2.2.2.1 x_.2.2.2.2.2.2.2.2.1 (decide (0 < x_.2.2.2.2.2.2.2.2.2)) = patV s ∧ (x_.2.2.2.2.2.2.2.1).length = (x_.2.2.2.2.1).length + 1 ∧ (0 ≤ x_.2.2.2.2.2.2.2.2.2 ∧ x_.2.2.2.2.2.2.2.2.2 ≤ ((x_.1 : Nat) : Int)) ∧ (x_.2.2.2.2.1).length ≤ x_.1) ∧ Sx.St w0 F0 ([Sx.siter b5 (s) (x_.1), Sx.row (Kd.int .i32) 21 (x_.2.2.1) (x_.2.2.2.1) (x_.2.2.2.2.1), Sx.row (Kd.int .i64) 3 (x_.2.2.2.2.2.1) (x_.2.2.2.2.2.2.1) (x_.2.2.2.2.2.2.2.1)] ++ R) w) (fun (x_ : Nat × (List (Int × Int)) × (Option Addr) × Nat × (List Int) × (Option Addr) × Nat × (List Int) × Bool × Int) => s.size - x_.1) (0, (refV s).1, none, 0, [], A3, cp4, [0], false, 0) ?_ ?_ ?_
   · exact ⟨rfl, (congrArg (fun z_ => some (Value.slice (none) z_ (0))) (show (0 : Nat) = ([]).length by first | rfl | simp)), (congrArg (fun z_ => some (Value.slice (A3) z_ (cp4))) (show (([0] : List _).length : Nat) = ([0]).length by first | rfl | simp)), (congrArg (fun z_ => some (Value.bool z_)) (show false = (false) by first | rfl | simp | omega)), rfl, rfl, trivial⟩
   · exact ⟨⟨bad_par (by omega), by unfold patV; rw [if_neg (by omega)]; rfl, rfl, ⟨Int.le_refl _, Int.le_refl _⟩, Nat.le_refl _⟩, h⟩
   rintro ⟨p, rest, A, c, L, A2, c2, Lv, dg, re⟩ w h
   obtain ⟨hJ, h⟩ := h
   replace hJ : Par s ((p : Nat) : Int) rest s.size ∧ patGo (runesOf rest) (decide (p = 0)) L Lv dg (decide (0 < re)) = patV s ∧ (Lv).length = (L).length + 1 ∧ (0 ≤ re ∧ re ≤ ((p : Nat) : Int)) ∧ (L).length ≤ p := hJ
   replace h : Sx.St w0 F0 ([Sx.siter b5 (s) (p), Sx.row (Kd.int .i32) 21 (A) (c) (L), Sx.row (Kd.int .i64) 3 (A2) (c2) (Lv)] ++ R) w := h
   show Sx.WC _ _ _ _ [(0, .string (s)), (5, .slice (A) ((L).length) (c)), (6, .slice (A2) ((Lv).length) (c2)), (7, .bool (dg)), (8, .int .i64 (re)), (21, .pointer (some ⟨b5, 0, none⟩))] _
   refine wc_seq ?_
   refine wc_region ?_
   refine wl_next (i := 0) h rfl rfl rfl rfl (fun c6 _ h => ?_) (fun c6 _ h => ?_)
   ·
    have hple_ := par_le hJ.1
    obtain ⟨r, l, rfl, hok_, hr_, hd1_, hd2_, hpar_, hby_⟩ := par_next hJ.1 c6
    rw [hr_]
    refine wl_v rfl rfl (ov_extract [.bool true, .int .i64 ((((p : Nat)) : Int)), .int .i32 (r)] _ rfl rfl) ?_
    refine wl_nil ?_
    refine qn_then ?_
    refine wc_seq ?_
    refine wc_cond_true rfl ?_
    refine wc_skip ?_
    refine qn_then ?_
    refine wc_block ?_
    refine wc_seq ?_
    refine wc_region ?_
    refine wl_v rfl rfl (ov_extract [.bool true, .int .i64 ((((p : Nat)) : Int)), .int .i32 (r)] _ rfl rfl) ?_
    refine wl_v rfl rfl (ov_extract [.bool true, .int .i64 ((((p : Nat)) : Int)), .int .i32 (r)] _ rfl rfl) ?_
    refine wl_v rfl rfl (ov_assign _ rfl) ?_
    refine wl_v rfl rfl (ov_assign _ rfl) ?_
    refine wl_nil ?_
    refine qn_then ?_
    refine wc_seq ?_
    refine wc_block ?_
    refine wc_seq ?_
    refine wc_region ?_
    refine wl_v rfl rfl (ov_move _ rfl) ?_
    refine wl_v rfl rfl (ov_bin _ rfl rfl (binR_geq)) ?_
    refine wl_v rfl rfl (ov_move _ rfl) ?_
    refine wl_split 29 rfl (fun c7 => ?_) (fun c7 => ?_)
    ·
     refine wl_v rfl rfl (ov_move _ rfl) ?_
     refine wl_v rfl rfl (ov_bin _ rfl rfl (binR_leq)) ?_
     refine wl_v rfl rfl (ov_pick_true _ rfl rfl) ?_
     refine wl_v rfl rfl (ov_assign _ rfl) ?_
     refine wl_nil ?_
     refine qn_then ?_
     refine wc_cond (by rfl) (fun c8 => ?_) (fun c8 => ?_)
     ·
      refine wc_seq ?_
      refine wc_seq ?_
      refine wc_region ?_
      refine wl_v rfl rfl (ov_move _ rfl) ?_
      refine wl_nil ?_
      refine qn_then ?_
      refine wc_condb (by rfl) (fun c9 => ?_) (fun c9 => ?_)
      ·
       refine wc_seq ?_
       refine wc_region ?_
       refine wl_v rfl rfl (ov_assign _ rfl) ?_
       refine wl_v rfl rfl (ov_assign _ rfl) ?_
       refine wl_v rfl rfl (ov_assign _ rfl) ?_
       refine wl_nil ?_
       refine qn_then ?_
       refine wc_ret ?_
       refine qn_then_ret ?_
       refine qn_block_ret ?_
       refine qn_then_ret ?_
       refine qn_block_ret ?_
       refine qn_then_ret ?_
       refine qn_block_ret ?_
       refine qn_then_ret ?_
       replace h := st_selT [false, false, false] h
       refine qn_ret [_, _, _] ⟨rfl, rfl, rfl, trivial⟩ ?_
       refine Or.inr ⟨?_, _, _, rfl, h⟩
       rw [← hJ.2.1, show runesOf ((((p : Nat) : Int), r) :: l) = r :: runesOf l from rfl]
       first
       | exact patGo_dg2 ⟨by omega, by omega⟩ (by assumption)
       | exact patGo_pt2 (by omega) (decide_eq_false (by omega)) (fun z_ => by have q_ := (par_nil hpar_).1 (List.map_eq_nil_iff.1 z_); have q2_ := asc_len hby_ (by omega) (by omega); omega)
       | exact patGo_no (by omega) (by omega) (fun z_ => by first | exact absurd z_.1 (by assumption) | exact absurd z_.2 (by omega))
      ·
       refine wc_skip ?_
       refine qn_then ?_
       refine wc_seq ?_
       refine wc_region ?_
       refine wl_v rfl rfl (ov_move _ rfl) ?_
       refine wl_v rfl rfl (ov_move _ rfl) ?_
       refine wl_v rfl rfl (ov_len _ _ _ _ _ rfl es56) ?_
       refine wl_v rfl rfl (ov_move _ rfl) ?_
       refine wl_v rfl rfl (ov_bin _ rfl rfl (binR_sub (r := r - 48) (Sx.w32 (by omega)))) ?_
       refine wl_v rfl rfl (ov_convint (r - 48) rfl Try.underlying21 Try.underlying3 (Sx.w64 (by omega))) ?_
       obtain ⟨ad10, rfl⟩ := Sx.C_some ((Sx.row_reads h (i := 2) rfl).2) (k := (L).length) (by first | assumption | omega)
       refine wl_v rfl rfl (ov_indexAddrN _ _ _ _ _ (L).length rfl rfl es36 rfl (by first | assumption | omega | (simp only [List.length_take, List.length_drop, List.length_set]; omega))) ?_
       refine wl_storeeN 2 (L).length 0 (.int .i64 (r - 48)) [.int .i64 (r - 48)] (0 : Int) (r - 48) h rfl rfl rfl (by first | rfl | simp) rfl rfl (by simp [Value.oneCell']) szf3 (by first | assumption | omega | (simp only [List.length_set]; omega)) (Nat.le_of_ble_eq_true rfl) (by intro cl hcl hM; obtain ⟨_, _, _, hM⟩ := hM; obtain rfl : cl = [.int .i64 _] := hM; intro _ _ _; exact (Sx.mkInt .i64 (r - 48))) (fun _ h => ?_)
       refine wl_nil ?_
       refine qn_then ?_
       refine wc_seq ?_
       refine wc_region ?_
       refine wl_v rfl rfl (ov_assign _ rfl) ?_
       refine wl_nil ?_
       refine qn_then ?_
       refine wc_exit ?_
       refine qn_block_other (by decide) ?_
       refine qn_then_exit ?_
       refine qn_block_exit ?_
       replace h := st_front 2 h
       replace h := st_front 2 h
       replace h := st_front 2 h
       refine qn_next ((p + (Utf8.decode s p).2), l, A, c, (L), some ad10, c2, ((Lv).set (L).length (r - 48)), true, re) (by show s.size - (p + (Utf8.decode s p).2) < s.size - p; omega) ⟨rfl, (congrArg (fun z_ => some (Value.slice (A) z_ (c))) (show ((L).length : Nat) = ((L)).length by first | rfl | simp)), (congrArg (fun z_ => some (Value.slice (some ad10) z_ (c2))) (show ((Lv).length : Nat) = (((Lv).set (L).length (r - 48))).length by first | rfl | simp)), (congrArg (fun z_ => some (Value.bool z_)) (show true = (true) by first | rfl | simp | omega)), rfl, rfl, trivial⟩ ?_
       show (Par s (((p + (Utf8.decode s p).2) : Nat) : Int) l s.size ∧ patGo (runesOf l) (decide ((p + (Utf8.decode s p).2) = 0)) (L) ((Lv).set (L).length (r - 48)) true (decide (0 < re)) = patV s ∧ (((Lv).set (L).length (r - 48))).length = ((L)).length + 1 ∧ (0 ≤ re ∧ re ≤ (((p + (Utf8.decode s p).2) : Nat) : Int)) ∧ ((L)).length ≤ (p + (Utf8.decode s p).2)) ∧ _
       have e_ := hJ.2.1
       rw [show runesOf ((((p : Nat) : Int), r) :: l) = r :: runesOf l from rfl] at e_
       rw [patGo_dg ⟨by omega, by omega⟩ (by assumption)] at e_
       have ef_ : (false : Bool) = decide ((p + (Utf8.decode s p).2) = 0) := (decide_eq_false (by omega)).symm
       refine ⟨⟨hpar_, ?_, ?_, ?_, ?_⟩, h⟩
       · rw [← ef_]; exact e_
       · first | omega | (simp only [List.length_append, List.length_set, List.length_cons, List.length_nil]; omega)
       · omega
       · first | omega | (simp only [List.length_append, List.length_cons, List.length_nil]; omega)
     ·
      refine wc_seq ?_
      refine wc_region ?_
      refine wl_v rfl rfl (ov_move _ rfl) ?_
      refine wl_v rfl rfl (ov_bin _ rfl rfl (binR_eql)) ?_
      refine wl_v rfl rfl (ov_assign _ rfl) ?_
      refine wl_nil ?_
      refine qn_then ?_
      refine wc_cond (by rfl) (fun c11 => ?_) (fun c11 => ?_)
      ·
       refine wc_seq ?_
       refine wc_region ?_
       refine wl_v rfl rfl (ov_move _ rfl) ?_
       refine wl_v rfl rfl (ov_bin _ rfl rfl (binR_gtr)) ?_
       refine wl_v rfl rfl (ov_move _ rfl) ?_
       refine wl_split 46 rfl (fun c12 => ?_) (fun c12 => ?_)
       ·
        refine wl_v rfl rfl (ov_move _ rfl) ?_
        refine wl_v rfl rfl (ov_move _ rfl) ?_
        refine wl_v rfl rfl (ov_lens _ rfl Try.underlying9) ?_
        refine wl_v rfl rfl (ov_bin _ rfl rfl (binR_sub (r := (((s).size : Int)) - 1) (Sx.w64 (by omega)))) ?_
        refine wl_v rfl rfl (ov_bin _ rfl rfl (binR_lss)) ?_
        refine wl_v rfl rfl (ov_pick_true _ rfl rfl) ?_
        refine wl_nil ?_
        refine qn_then ?_
        refine wc_cond (by rfl) (fun c13 => ?_) (fun c13 => ?_)
        ·
         refine wc_seq ?_
         refine wc_region ?_
         refine wl_v rfl rfl (ov_assign _ rfl) ?_
         refine wl_v rfl rfl (ov_assign _ rfl) ?_
         refine wl_v rfl rfl (ov_assign _ rfl) ?_
         refine wl_nil ?_
         refine qn_then ?_
         refine wc_ret ?_
         refine qn_block_ret ?_
         refine qn_then_ret ?_
         refine qn_block_ret ?_
         refine qn_then_ret ?_
         refine qn_block_ret ?_
         refine qn_then_ret ?_
         replace h := st_selT [false, false, false] h
         refine qn_ret [_, _, _] ⟨rfl, rfl, rfl, trivial⟩ ?_
         refine Or.inr ⟨?_, _, _, rfl, h⟩
         rw [← hJ.2.1, show runesOf ((((p : Nat) : Int), r) :: l) = r :: runesOf l from rfl]
         first
         | exact patGo_dg2 ⟨by omega, by omega⟩ (by assumption)
         | exact patGo_pt2 (by omega) (decide_eq_false (by omega)) (fun z_ => by have q_ := (par_nil hpar_).1 (List.map_eq_nil_iff.1 z_); have q2_ := asc_len hby_ (by omega) (by omega); omega)
         | exact patGo_no (by omega) (by omega) (fun z_ => by first | exact absurd z_.1 (by assumption) | exact absurd z_.2 (by omega))
        ·
         refine wc_skip ?_
         refine qn_block_normal ?_
         refine qn_then ?_
         refine wc_seq ?_
         refine wc_region ?_
         refine wl_v rfl rfl (ov_move _ rfl) ?_
         refine wl_v rfl rfl (ov_move _ rfl) ?_
         refine wl_lit (d := (Kd.int .i32)) [(0, .int .i32 (r))] _ [.int .i32 (r)] ([r]) h rfl rfl rfl rfl Try.underlying56 infb21 rfl (by decide) (by kernel_rfl) rfl (fun _ _ _ => ((Reps.none _ _).snoc ((Sx.mkInt .i32 (r))) rfl)) (fun A14 cp15 _ h => ?_)
         refine wl_append (d := (Kd.int .i32)) (L := L) 2 _ 4 _ _ _ ([r]) (Sx.flat_int _) h rfl rfl rfl rfl rfl ((Sx.row_reads h (i := 0) rfl).2) Try.underlying56 inf21 rfl (by decide) (by decide) (by first | omega | (simp only [List.length_cons, List.length_nil, List.length_append, List.length_set]; omega)) (by first | rfl | simp) (fun A16 cp17 _ h => ?_)
         replace h := st_selT [false, true, true, true] h
         refine wl_v rfl rfl (ov_assign _ rfl) ?_
         refine wl_nil ?_
         refine qn_then ?_
         refine wc_seq ?_
         refine wc_region ?_
         refine wl_v rfl rfl (ov_move _ rfl) ?_
         refine wl_lit (d := (Kd.int .i64)) [(0, .int .i64 (0))] _ [.int .i64 (0)] ([0]) h rfl rfl rfl rfl Try.underlying36 infb3 rfl (by decide) (by kernel_rfl) rfl (fun _ _ _ => ((Reps.none _ _).snoc ((Sx.mkInt .i64 (0))) rfl)) (fun A18 cp19 _ h => ?_)
         refine wl_append (d := (Kd.int .i64)) (L := Lv) 3 _ 8 _ _ _ ([0]) (Sx.flat_int _) h rfl rfl rfl rfl rfl ((Sx.row_reads h (i := 0) rfl).2) Try.underlying36 inf3 rfl (by decide) (by decide) (by first | omega | (simp only [List.length_cons, List.length_nil, List.length_append, List.length_set]; omega)) (by first | rfl | simp) (fun A20 cp21 _ h => ?_)
         replace h := st_selT [false, true, true, true] h
         refine wl_v rfl rfl (ov_assign _ rfl) ?_
         refine wl_nil ?_
         refine qn_then ?_
         refine wc_region ?_
         refine wl_v rfl rfl (ov_assign _ rfl) ?_
         refine wl_nil ?_
         refine qn_block_normal ?_
         replace h := st_front 2 h
         replace h := st_front 2 h
         replace h := st_front 2 h
         refine qn_next ((p + (Utf8.decode s p).2), l, A16, cp17, (L ++ ([r])), A20, cp21, (Lv ++ ([0])), false, re) (by show s.size - (p + (Utf8.decode s p).2) < s.size - p; omega) ⟨rfl, (congrArg (fun z_ => some (Value.slice (A16) z_ (cp17))) (show ((L ++ ([r])).length : Nat) = ((L ++ ([r]))).length by first | rfl | simp)), (congrArg (fun z_ => some (Value.slice (A20) z_ (cp21))) (show ((Lv ++ ([0])).length : Nat) = ((Lv ++ ([0]))).length by first | rfl | simp)), (congrArg (fun z_ => some (Value.bool z_)) (show false = (false) by first | rfl | simp | omega)), rfl, rfl, trivial⟩ ?_
         show (Par s (((p + (Utf8.decode s p).2) : Nat) : Int) l s.size ∧ patGo (runesOf l) (decide ((p + (Utf8.decode s p).2) = 0)) (L ++ ([r])) (Lv ++ ([0])) false (decide (0 < re)) = patV s ∧ ((Lv ++ ([0]))).length = ((L ++ ([r]))).length + 1 ∧ (0 ≤ re ∧ re ≤ (((p + (Utf8.decode s p).2) : Nat) : Int)) ∧ ((L ++ ([r]))).length ≤ (p + (Utf8.decode s p).2)) ∧ _
         have e_ := hJ.2.1
         rw [show runesOf ((((p : Nat) : Int), r) :: l) = r :: runesOf l from rfl] at e_
         rw [patGo_pt (by omega) (by first | (left; exact decide_eq_true (by omega)) | (right; have q_ := (par_nil hpar_).2 (by have q2_ := asc_len hby_ (by omega) (by omega); omega); rw [q_]; rfl))] at e_
         have ef_ : (false : Bool) = decide ((p + (Utf8.decode s p).2) = 0) := (decide_eq_false (by omega)).symm
         refine ⟨⟨hpar_, ?_, ?_, ?_, ?_⟩, h⟩
         · rw [← ef_]; exact e_
         · first | omega | (simp only [List.length_append, List.length_set, List.length_cons, List.length_nil]; omega)
         · omega
         · first | omega | (simp only [List.length_append, List.length_cons, List.length_nil]; omega)
       ·
        refine wl_skip rfl rfl ?_
        refine wl_skip rfl rfl ?_
        refine wl_skip rfl rfl ?_
        refine wl_skip rfl rfl ?_
        refine wl_skip rfl rfl ?_
        refine wl_v rfl rfl (ov_pick_false _ rfl rfl) ?_
        refine wl_nil ?_
        refine qn_then ?_
        refine wc_cond_false rfl ?_
        refine wc_skip ?_
        refine qn_block_normal ?_
        refine qn_then ?_
        refine wc_seq ?_
        refine wc_region ?_
        refine wl_v rfl rfl (ov_move _ rfl) ?_
        refine wl_v rfl rfl (ov_move _ rfl) ?_
        refine wl_lit (d := (Kd.int .i32)) [(0, .int .i32 (r))] _ [.int .i32 (r)] ([r]) h rfl rfl rfl rfl Try.underlying56 infb21 rfl (by decide) (by kernel_rfl) rfl (fun _ _ _ => ((Reps.none _ _).snoc ((Sx.mkInt .i32 (r))) rfl)) (fun A22 cp23 _ h => ?_)
        refine wl_append (d := (Kd.int .i32)) (L := L) 2 _ 4 _ _ _ ([r]) (Sx.flat_int _) h rfl rfl rfl rfl rfl ((Sx.row_reads h (i := 0) rfl).2) Try.underlying56 inf21 rfl (by decide) (by decide) (by first | omega | (simp only [List.length_cons, List.length_nil, List.length_append, List.length_set]; omega)) (by first | rfl | simp) (fun A24 cp25 _ h => ?_)
        replace h := st_selT [false, true, true, true] h
        refine wl_v rfl rfl (ov_assign _ rfl) ?_
        refine wl_nil ?_
        refine qn_then ?_
        refine wc_seq ?_
        refine wc_region ?_
        refine wl_v rfl rfl (ov_move _ rfl) ?_
        refine wl_lit (d := (Kd.int .i64)) [(0, .int .i64 (0))] _ [.int .i64 (0)] ([0]) h rfl rfl rfl rfl Try.underlying36 infb3 rfl (by decide) (by kernel_rfl) rfl (fun _ _ _ => ((Reps.none _ _).snoc ((Sx.mkInt .i64 (0))) rfl)) (fun A26 cp27 _ h => ?_)
        refine wl_append (d := (Kd.int .i64)) (L := Lv) 3 _ 8 _ _ _ ([0]) (Sx.flat_int _) h rfl rfl rfl rfl rfl ((Sx.row_reads h (i := 0) rfl).2) Try.underlying36 inf3 rfl (by decide) (by decide) (by first | omega | (simp only [List.length_cons, List.length_nil, List.length_append, List.length_set]; omega)) (by first | rfl | simp) (fun A28 cp29 _ h => ?_)
        replace h := st_selT [false, true, true, true] h
        refine wl_v rfl rfl (ov_assign _ rfl) ?_
        refine wl_nil ?_
        refine qn_then ?_
        refine wc_region ?_
        refine wl_v rfl rfl (ov_assign _ rfl) ?_
        refine wl_nil ?_
        refine qn_block_normal ?_
        replace h := st_front 2 h
        replace h := st_front 2 h
        replace h := st_front 2 h
        refine qn_next ((p + (Utf8.decode s p).2), l, A24, cp25, (L ++ ([r])), A28, cp29, (Lv ++ ([0])), false, re) (by show s.size - (p + (Utf8.decode s p).2) < s.size - p; omega) ⟨rfl, (congrArg (fun z_ => some (Value.slice (A24) z_ (cp25))) (show ((L ++ ([r])).length : Nat) = ((L ++ ([r]))).length by first | rfl | simp)), (congrArg (fun z_ => some (Value.slice (A28) z_ (cp29))) (show ((Lv ++ ([0])).length : Nat) = ((Lv ++ ([0]))).length by first | rfl | simp)), (congrArg (fun z_ => some (Value.bool z_)) (show false = (false) by first | rfl | simp | omega)), rfl, rfl, trivial⟩ ?_
        show (Par s (((p + (Utf8.decode s p).2) : Nat) : Int) l s.size ∧ patGo (runesOf l) (decide ((p + (Utf8.decode s p).2) = 0)) (L ++ ([r])) (Lv ++ ([0])) false (decide (0 < re)) = patV s ∧ ((Lv ++ ([0]))).length = ((L ++ ([r]))).length + 1 ∧ (0 ≤ re ∧ re ≤ (((p + (Utf8.decode s p).2) : Nat) : Int)) ∧ ((L ++ ([r]))).length ≤ (p + (Utf8.decode s p).2)) ∧ _
        have e_ := hJ.2.1
        rw [show runesOf ((((p : Nat) : Int), r) :: l) = r :: runesOf l from rfl] at e_
        rw [patGo_pt (by omega) (by first | (left; exact decide_eq_true (by omega)) | (right; have q_ := (par_nil hpar_).2 (by have q2_ := asc_len hby_ (by omega) (by omega); omega); rw [q_]; rfl))] at e_
        have ef_ : (false : Bool) = decide ((p + (Utf8.decode s p).2) = 0) := (decide_eq_false (by omega)).symm
        refine ⟨⟨hpar_, ?_, ?_, ?_, ?_⟩, h⟩
        · rw [← ef_]; exact e_
        · first | omega | (simp only [List.length_append, List.length_set, List.length_cons, List.length_nil]; omega)
        · omega
        · first | omega | (simp only [List.length_append, List.length_cons, List.length_nil]; omega)
      ·
       refine wc_seq ?_
       refine wc_region ?_
       refine wl_v rfl rfl (ov_move _ rfl) ?_
       refine wl_call _ rfl rfl rfl ent33 (LT.hLetter_calls (R := [Sx.siter b5 (s) (p + (Utf8.decode (s) (p)).2), Sx.row (Kd.int .i32) 21 (A) (c) (L), Sx.row (Kd.int .i64) 3 (A2) (c2) (Lv)] ++ R) r (by omega) (by omega) h) ?_
       rintro e_ w_ ⟨rfl, h⟩
       refine ⟨_, rfl, ?_⟩
       refine wl_v rfl rfl (ov_move _ rfl) ?_
       refine wl_split 56 rfl (fun c30 => ?_) (fun c30 => ?_)
       ·
        refine wl_v rfl rfl (ov_move _ rfl) ?_
        refine wl_call _ rfl rfl rfl ent34 (LT.hLower_calls (R := [Sx.siter b5 (s) (p + (Utf8.decode (s) (p)).2), Sx.row (Kd.int .i32) 21 (A) (c) (L), Sx.row (Kd.int .i64) 3 (A2) (c2) (Lv)] ++ R) r (by omega) (by omega) h) ?_
        rintro e_ w_ ⟨rfl, h⟩
        refine ⟨_, rfl, ?_⟩
        have hlb31 := lowV_bd r
        refine wl_v rfl rfl (ov_move _ rfl) ?_
        refine wl_v rfl rfl (ov_bin _ rfl rfl (binR_eql)) ?_
        refine wl_v rfl rfl (ov_pick_true _ rfl rfl) ?_
        refine wl_v rfl rfl (ov_assign _ rfl) ?_
        refine wl_nil ?_
        refine qn_then ?_
        refine wc_cond (by rfl) (fun c32 => ?_) (fun c32 => ?_)
        ·
         refine wc_region ?_
         refine wl_v rfl rfl (ov_move _ rfl) ?_
         refine wl_v rfl rfl (ov_bin _ rfl rfl (binR_add (r := re + 1) (Sx.w64 (by omega)))) ?_
         refine wl_v rfl rfl (ov_assign _ rfl) ?_
         refine wl_nil ?_
         refine qn_block_normal ?_
         refine qn_then ?_
         refine wc_seq ?_
         refine wc_region ?_
         refine wl_v rfl rfl (ov_move _ rfl) ?_
         refine wl_v rfl rfl (ov_move _ rfl) ?_
         refine wl_lit (d := (Kd.int .i32)) [(0, .int .i32 (r))] _ [.int .i32 (r)] ([r]) h rfl rfl rfl rfl Try.underlying56 infb21 rfl (by decide) (by kernel_rfl) rfl (fun _ _ _ => ((Reps.none _ _).snoc ((Sx.mkInt .i32 (r))) rfl)) (fun A33 cp34 _ h => ?_)
         refine wl_append (d := (Kd.int .i32)) (L := L) 2 _ 4 _ _ _ ([r]) (Sx.flat_int _) h rfl rfl rfl rfl rfl ((Sx.row_reads h (i := 0) rfl).2) Try.underlying56 inf21 rfl (by decide) (by decide) (by first | omega | (simp only [List.length_cons, List.length_nil, List.length_append, List.length_set]; omega)) (by first | rfl | simp) (fun A35 cp36 _ h => ?_)
         replace h := st_selT [false, true, true, true] h
         refine wl_v rfl rfl (ov_assign _ rfl) ?_
         refine wl_nil ?_
         refine qn_then ?_
         refine wc_seq ?_
         refine wc_region ?_
         refine wl_v rfl rfl (ov_move _ rfl) ?_
         refine wl_lit (d := (Kd.int .i64)) [(0, .int .i64 (0))] _ [.int .i64 (0)] ([0]) h rfl rfl rfl rfl Try.underlying36 infb3 rfl (by decide) (by kernel_rfl) rfl (fun _ _ _ => ((Reps.none _ _).snoc ((Sx.mkInt .i64 (0))) rfl)) (fun A37 cp38 _ h => ?_)
         refine wl_append (d := (Kd.int .i64)) (L := Lv) 3 _ 8 _ _ _ ([0]) (Sx.flat_int _) h rfl rfl rfl rfl rfl ((Sx.row_reads h (i := 0) rfl).2) Try.underlying36 inf3 rfl (by decide) (by decide) (by first | omega | (simp only [List.length_cons, List.length_nil, List.length_append, List.length_set]; omega)) (by first | rfl | simp) (fun A39 cp40 _ h => ?_)
         replace h := st_selT [false, true, true, true] h
         refine wl_v rfl rfl (ov_assign _ rfl) ?_
         refine wl_nil ?_
         refine qn_then ?_
         refine wc_region ?_
         refine wl_v rfl rfl (ov_assign _ rfl) ?_
         refine wl_nil ?_
         refine qn_block_normal ?_
         replace h := st_front 2 h
         replace h := st_front 2 h
         replace h := st_front 2 h
         refine qn_next ((p + (Utf8.decode s p).2), l, A35, cp36, (L ++ ([r])), A39, cp40, (Lv ++ ([0])), false, (re + 1)) (by show s.size - (p + (Utf8.decode s p).2) < s.size - p; omega) ⟨rfl, (congrArg (fun z_ => some (Value.slice (A35) z_ (cp36))) (show ((L ++ ([r])).length : Nat) = ((L ++ ([r]))).length by first | rfl | simp)), (congrArg (fun z_ => some (Value.slice (A39) z_ (cp40))) (show ((Lv ++ ([0])).length : Nat) = ((Lv ++ ([0]))).length by first | rfl | simp)), (congrArg (fun z_ => some (Value.bool z_)) (show false = (false) by first | rfl | simp | omega)), (congrArg (fun z_ => some (Value.int .i64 z_)) (show (re + 1 : Int) = (re + 1) by omega)), rfl, trivial⟩ ?_
         show (Par s (((p + (Utf8.decode s p).2) : Nat) : Int) l s.size ∧ patGo (runesOf l) (decide ((p + (Utf8.decode s p).2) = 0)) (L ++ ([r])) (Lv ++ ([0])) false (decide (0 < (re + 1))) = patV s ∧ ((Lv ++ ([0]))).length = ((L ++ ([r]))).length + 1 ∧ (0 ≤ (re + 1) ∧ (re + 1) ≤ (((p + (Utf8.decode s p).2) : Nat) : Int)) ∧ ((L ++ ([r]))).length ≤ (p + (Utf8.decode s p).2)) ∧ _
         have e_ := hJ.2.1
         rw [show runesOf ((((p : Nat) : Int), r) :: l) = r :: runesOf l from rfl] at e_
         rw [patGo_let (by assumption) (by omega)] at e_
         have ef_ : (false : Bool) = decide ((p + (Utf8.decode s p).2) = 0) := (decide_eq_false (by omega)).symm
         have er_ : (true : Bool) = decide (0 < re + 1) := (decide_eq_true (by omega)).symm
         refine ⟨⟨hpar_, ?_, ?_, ?_, ?_⟩, h⟩
         · rw [← ef_, ← er_]; exact e_
         · first | omega | (simp only [List.length_append, List.length_set, List.length_cons, List.length_nil]; omega)
         · omega
         · first | omega | (simp only [List.length_append, List.length_cons, List.length_nil]; omega)
        ·
         refine wc_seq ?_
         refine wc_region ?_
         refine wl_v rfl rfl (ov_assign _ rfl) ?_
         refine wl_v rfl rfl (ov_assign _ rfl) ?_
         refine wl_v rfl rfl (ov_assign _ rfl) ?_
         refine wl_nil ?_
         refine qn_then ?_
         refine wc_ret ?_
         refine qn_block_ret ?_
         refine qn_then_ret ?_
         refine qn_block_ret ?_
         refine qn_then_ret ?_
         refine qn_block_ret ?_
         refine qn_then_ret ?_
         replace h := st_selT [false, false, false] h
         refine qn_ret [_, _, _] ⟨rfl, rfl, rfl, trivial⟩ ?_
         refine Or.inr ⟨?_, _, _, rfl, h⟩
         rw [← hJ.2.1, show runesOf ((((p : Nat) : Int), r) :: l) = r :: runesOf l from rfl]
         first
         | exact patGo_dg2 ⟨by omega, by omega⟩ (by assumption)
         | exact patGo_pt2 (by omega) (decide_eq_false (by omega)) (fun z_ => by have q_ := (par_nil hpar_).1 (List.map_eq_nil_iff.1 z_); have q2_ := asc_len hby_ (by omega) (by omega); omega)
         | exact patGo_no (by omega) (by omega) (fun z_ => by first | exact absurd z_.1 (by assumption) | exact absurd z_.2 (by omega))
       ·
        refine wl_skip rfl rfl ?_
        refine wl_skip rfl rfl ?_
        refine wl_skip rfl rfl ?_
        refine wl_skip rfl rfl ?_
        refine wl_v rfl rfl (ov_pick_false _ rfl rfl) ?_
        refine wl_v rfl rfl (ov_assign _ rfl) ?_
        refine wl_nil ?_
        refine qn_then ?_
        refine wc_cond_false rfl ?_
        refine wc_seq ?_
        refine wc_region ?_
        refine wl_v rfl rfl (ov_assign _ rfl) ?_
        refine wl_v rfl rfl (ov_assign _ rfl) ?_
        refine wl_v rfl rfl (ov_assign _ rfl) ?_
        refine wl_nil ?_
        refine qn_then ?_
        refine wc_ret ?_
        refine qn_block_ret ?_
        refine qn_then_ret ?_
        refine qn_block_ret ?_
        refine qn_then_ret ?_
        refine qn_block_ret ?_
        refine qn_then_ret ?_
        replace h := st_selT [false, false, false] h
        refine qn_ret [_, _, _] ⟨rfl, rfl, rfl, trivial⟩ ?_
        refine Or.inr ⟨?_, _, _, rfl, h⟩
        rw [← hJ.2.1, show runesOf ((((p : Nat) : Int), r) :: l) = r :: runesOf l from rfl]
        first
        | exact patGo_dg2 ⟨by omega, by omega⟩ (by assumption)
        | exact patGo_pt2 (by omega) (decide_eq_false (by omega)) (fun z_ => by have q_ := (par_nil hpar_).1 (List.map_eq_nil_iff.1 z_); have q2_ := asc_len hby_ (by omega) (by omega); omega)
        | exact patGo_no (by omega) (by omega) (fun z_ => by first | exact absurd z_.1 (by assumption) | exact absurd z_.2 (by omega))
    ·
     refine wl_skip rfl rfl ?_
     refine wl_skip rfl rfl ?_
     refine wl_v rfl rfl (ov_pick_false _ rfl rfl) ?_
     refine wl_v rfl rfl (ov_assign _ rfl) ?_
     refine wl_nil ?_
     refine qn_then ?_
     refine wc_cond_false rfl ?_
     refine wc_seq ?_
     refine wc_region ?_
     refine wl_v rfl rfl (ov_move _ rfl) ?_
     refine wl_v rfl rfl (ov_bin _ rfl rfl (binR_eql)) ?_
     refine wl_v rfl rfl (ov_assign _ rfl) ?_
     refine wl_nil ?_
     refine qn_then ?_
     refine wc_cond (by rfl) (fun c41 => ?_) (fun c41 => ?_)
     ·
      refine wc_seq ?_
      refine wc_region ?_
      refine wl_v rfl rfl (ov_move _ rfl) ?_
      refine wl_v rfl rfl (ov_bin _ rfl rfl (binR_gtr)) ?_
      refine wl_v rfl rfl (ov_move _ rfl) ?_
      refine wl_split 46 rfl (fun c42 => ?_) (fun c42 => ?_)
      ·
       refine wl_v rfl rfl (ov_move _ rfl) ?_
       refine wl_v rfl rfl (ov_move _ rfl) ?_
       refine wl_v rfl rfl (ov_lens _ rfl Try.underlying9) ?_
       refine wl_v rfl rfl (ov_bin _ rfl rfl (binR_sub (r := (((s).size : Int)) - 1) (Sx.w64 (by omega)))) ?_
       refine wl_v rfl rfl (ov_bin _ rfl rfl (binR_lss)) ?_
       refine wl_v rfl rfl (ov_pick_true _ rfl rfl) ?_
       refine wl_nil ?_
       refine qn_then ?_
       refine wc_cond (by rfl) (fun c43 => ?_) (fun c43 => ?_)
       ·
        refine wc_seq ?_
        refine wc_region ?_
        refine wl_v rfl rfl (ov_assign _ rfl) ?_
        refine wl_v rfl rfl (ov_assign _ rfl) ?_
        refine wl_v rfl rfl (ov_assign _ rfl) ?_
        refine wl_nil ?_
        refine qn_then ?_
        refine wc_ret ?_
        refine qn_block_ret ?_
        refine qn_then_ret ?_
        refine qn_block_ret ?_
        refine qn_then_ret ?_
        refine qn_block_ret ?_
        refine qn_then_ret ?_
        replace h := st_selT [false, false, false] h
        refine qn_ret [_, _, _] ⟨rfl, rfl, rfl, trivial⟩ ?_
        refine Or.inr ⟨?_, _, _, rfl, h⟩
        rw [← hJ.2.1, show runesOf ((((p : Nat) : Int), r) :: l) = r :: runesOf l from rfl]
        first
        | exact patGo_dg2 ⟨by omega, by omega⟩ (by assumption)
        | exact patGo_pt2 (by omega) (decide_eq_false (by omega)) (fun z_ => by have q_ := (par_nil hpar_).1 (List.map_eq_nil_iff.1 z_); have q2_ := asc_len hby_ (by omega) (by omega); omega)
        | exact patGo_no (by omega) (by omega) (fun z_ => by first | exact absurd z_.1 (by assumption) | exact absurd z_.2 (by omega))
       ·
        refine wc_skip ?_
        refine qn_block_normal ?_
        refine qn_then ?_
        refine wc_seq ?_
        refine wc_region ?_
        refine wl_v rfl rfl (ov_move _ rfl) ?_
        refine wl_v rfl rfl (ov_move _ rfl) ?_
        refine wl_lit (d := (Kd.int .i32)) [(0, .int .i32 (r))] _ [.int .i32 (r)] ([r]) h rfl rfl rfl rfl Try.underlying56 infb21 rfl (by decide) (by kernel_rfl) rfl (fun _ _ _ => ((Reps.none _ _).snoc ((Sx.mkInt .i32 (r))) rfl)) (fun A44 cp45 _ h => ?_)
        refine wl_append (d := (Kd.int .i32)) (L := L) 2 _ 4 _ _ _ ([r]) (Sx.flat_int _) h rfl rfl rfl rfl rfl ((Sx.row_reads h (i := 0) rfl).2) Try.underlying56 inf21 rfl (by decide) (by decide) (by first | omega | (simp only [List.length_cons, List.length_nil, List.length_append, List.length_set]; omega)) (by first | rfl | simp) (fun A46 cp47 _ h => ?_)
        replace h := st_selT [false, true, true, true] h
        refine wl_v rfl rfl (ov_assign _ rfl) ?_
        refine wl_nil ?_
        refine qn_then ?_
        refine wc_seq ?_
        refine wc_region ?_
        refine wl_v rfl rfl (ov_move _ rfl) ?_
        refine wl_lit (d := (Kd.int .i64)) [(0, .int .i64 (0))] _ [.int .i64 (0)] ([0]) h rfl rfl rfl rfl Try.underlying36 infb3 rfl (by decide) (by kernel_rfl) rfl (fun _ _ _ => ((Reps.none _ _).snoc ((Sx.mkInt .i64 (0))) rfl)) (fun A48 cp49 _ h => ?_)
        refine wl_append (d := (Kd.int .i64)) (L := Lv) 3 _ 8 _ _ _ ([0]) (Sx.flat_int _) h rfl rfl rfl rfl rfl ((Sx.row_reads h (i := 0) rfl).2) Try.underlying36 inf3 rfl (by decide) (by decide) (by first | omega | (simp only [List.length_cons, List.length_nil, List.length_append, List.length_set]; omega)) (by first | rfl | simp) (fun A50 cp51 _ h => ?_)
        replace h := st_selT [false, true, true, true] h
        refine wl_v rfl rfl (ov_assign _ rfl) ?_
        refine wl_nil ?_
        refine qn_then ?_
        refine wc_region ?_
        refine wl_v rfl rfl (ov_assign _ rfl) ?_
        refine wl_nil ?_
        refine qn_block_normal ?_
        replace h := st_front 2 h
        replace h := st_front 2 h
        replace h := st_front 2 h
        refine qn_next ((p + (Utf8.decode s p).2), l, A46, cp47, (L ++ ([r])), A50, cp51, (Lv ++ ([0])), false, re) (by show s.size - (p + (Utf8.decode s p).2) < s.size - p; omega) ⟨rfl, (congrArg (fun z_ => some (Value.slice (A46) z_ (cp47))) (show ((L ++ ([r])).length : Nat) = ((L ++ ([r]))).length by first | rfl | simp)), (congrArg (fun z_ => some (Value.slice (A50) z_ (cp51))) (show ((Lv ++ ([0])).length : Nat) = ((Lv ++ ([0]))).length by first | rfl | simp)), (congrArg (fun z_ => some (Value.bool z_)) (show false = (false) by first | rfl | simp | omega)), rfl, rfl, trivial⟩ ?_
        show (Par s (((p + (Utf8.decode s p).2) : Nat) : Int) l s.size ∧ patGo (runesOf l) (decide ((p + (Utf8.decode s p).2) = 0)) (L ++ ([r])) (Lv ++ ([0])) false (decide (0 < re)) = patV s ∧ ((Lv ++ ([0]))).length = ((L ++ ([r]))).length + 1 ∧ (0 ≤ re ∧ re ≤ (((p + (Utf8.decode s p).2) : Nat) : Int)) ∧ ((L ++ ([r]))).length ≤ (p + (Utf8.decode s p).2)) ∧ _
        have e_ := hJ.2.1
        rw [show runesOf ((((p : Nat) : Int), r) :: l) = r :: runesOf l from rfl] at e_
        rw [patGo_pt (by omega) (by first | (left; exact decide_eq_true (by omega)) | (right; have q_ := (par_nil hpar_).2 (by have q2_ := asc_len hby_ (by omega) (by omega); omega); rw [q_]; rfl))] at e_
        have ef_ : (false : Bool) = decide ((p + (Utf8.decode s p).2) = 0) := (decide_eq_false (by omega)).symm
        refine ⟨⟨hpar_, ?_, ?_, ?_, ?_⟩, h⟩
        · rw [← ef_]; exact e_
        · first | omega | (simp only [List.length_append, List.length_set, List.length_cons, List.length_nil]; omega)
        · omega
        · first | omega | (simp only [List.length_append, List.length_cons, List.length_nil]; omega)
      ·
       refine wl_skip rfl rfl ?_
       refine wl_skip rfl rfl ?_
       refine wl_skip rfl rfl ?_
       refine wl_skip rfl rfl ?_
       refine wl_skip rfl rfl ?_
       refine wl_v rfl rfl (ov_pick_false _ rfl rfl) ?_
       refine wl_nil ?_
       refine qn_then ?_
       refine wc_cond_false rfl ?_
       refine wc_skip ?_
       refine qn_block_normal ?_
       refine qn_then ?_
       refine wc_seq ?_
       refine wc_region ?_
       refine wl_v rfl rfl (ov_move _ rfl) ?_
       refine wl_v rfl rfl (ov_move _ rfl) ?_
       refine wl_lit (d := (Kd.int .i32)) [(0, .int .i32 (r))] _ [.int .i32 (r)] ([r]) h rfl rfl rfl rfl Try.underlying56 infb21 rfl (by decide) (by kernel_rfl) rfl (fun _ _ _ => ((Reps.none _ _).snoc ((Sx.mkInt .i32 (r))) rfl)) (fun A52 cp53 _ h => ?_)
       refine wl_append (d := (Kd.int .i32)) (L := L) 2 _ 4 _ _ _ ([r]) (Sx.flat_int _) h rfl rfl rfl rfl rfl ((Sx.row_reads h (i := 0) rfl).2) Try.underlying56 inf21 rfl (by decide) (by decide) (by first | omega | (simp only [List.length_cons, List.length_nil, List.length_append, List.length_set]; omega)) (by first | rfl | simp) (fun A54 cp55 _ h => ?_)
       replace h := st_selT [false, true, true, true] h
       refine wl_v rfl rfl (ov_assign _ rfl) ?_
       refine wl_nil ?_
       refine qn_then ?_
       refine wc_seq ?_
       refine wc_region ?_
       refine wl_v rfl rfl (ov_move _ rfl) ?_
       refine wl_lit (d := (Kd.int .i64)) [(0, .int .i64 (0))] _ [.int .i64 (0)] ([0]) h rfl rfl rfl rfl Try.underlying36 infb3 rfl (by decide) (by kernel_rfl) rfl (fun _ _ _ => ((Reps.none _ _).snoc ((Sx.mkInt .i64 (0))) rfl)) (fun A56 cp57 _ h => ?_)
       refine wl_append (d := (Kd.int .i64)) (L := Lv) 3 _ 8 _ _ _ ([0]) (Sx.flat_int _) h rfl rfl rfl rfl rfl ((Sx.row_reads h (i := 0) rfl).2) Try.underlying36 inf3 rfl (by decide) (by decide) (by first | omega | (simp only [List.length_cons, List.length_nil, List.length_append, List.length_set]; omega)) (by first | rfl | simp) (fun A58 cp59 _ h => ?_)
       replace h := st_selT [false, true, true, true] h
       refine wl_v rfl rfl (ov_assign _ rfl) ?_
       refine wl_nil ?_
       refine qn_then ?_
       refine wc_region ?_
       refine wl_v rfl rfl (ov_assign _ rfl) ?_
       refine wl_nil ?_
       refine qn_block_normal ?_
       replace h := st_front 2 h
       replace h := st_front 2 h
       replace h := st_front 2 h
       refine qn_next ((p + (Utf8.decode s p).2), l, A54, cp55, (L ++ ([r])), A58, cp59, (Lv ++ ([0])), false, re) (by show s.size - (p + (Utf8.decode s p).2) < s.size - p; omega) ⟨rfl, (congrArg (fun z_ => some (Value.slice (A54) z_ (cp55))) (show ((L ++ ([r])).length : Nat) = ((L ++ ([r]))).length by first | rfl | simp)), (congrArg (fun z_ => some (Value.slice (A58) z_ (cp59))) (show ((Lv ++ ([0])).length : Nat) = ((Lv ++ ([0]))).length by first | rfl | simp)), (congrArg (fun z_ => some (Value.bool z_)) (show false = (false) by first | rfl | simp | omega)), rfl, rfl, trivial⟩ ?_
       show (Par s (((p + (Utf8.decode s p).2) : Nat) : Int) l s.size ∧ patGo (runesOf l) (decide ((p + (Utf8.decode s p).2) = 0)) (L ++ ([r])) (Lv ++ ([0])) false (decide (0 < re)) = patV s ∧ ((Lv ++ ([0]))).length = ((L ++ ([r]))).length + 1 ∧ (0 ≤ re ∧ re ≤ (((p + (Utf8.decode s p).2) : Nat) : Int)) ∧ ((L ++ ([r]))).length ≤ (p + (Utf8.decode s p).2)) ∧ _
       have e_ := hJ.2.1
       rw [show runesOf ((((p : Nat) : Int), r) :: l) = r :: runesOf l from rfl] at e_
       rw [patGo_pt (by omega) (by first | (left; exact decide_eq_true (by omega)) | (right; have q_ := (par_nil hpar_).2 (by have q2_ := asc_len hby_ (by omega) (by omega); omega); rw [q_]; rfl))] at e_
       have ef_ : (false : Bool) = decide ((p + (Utf8.decode s p).2) = 0) := (decide_eq_false (by omega)).symm
       refine ⟨⟨hpar_, ?_, ?_, ?_, ?_⟩, h⟩
       · rw [← ef_]; exact e_
       · first | omega | (simp only [List.length_append, List.length_set, List.length_cons, List.length_nil]; omega)
       · omega
       · first | omega | (simp only [List.length_append, List.length_cons, List.length_nil]; omega)
     ·
      refine wc_seq ?_
      refine wc_region ?_
      refine wl_v rfl rfl (ov_move _ rfl) ?_
      refine wl_call _ rfl rfl rfl ent33 (LT.hLetter_calls (R := [Sx.siter b5 (s) (p + (Utf8.decode (s) (p)).2), Sx.row (Kd.int .i32) 21 (A) (c) (L), Sx.row (Kd.int .i64) 3 (A2) (c2) (Lv)] ++ R) r (by omega) (by omega) h) ?_
      rintro e_ w_ ⟨rfl, h⟩
      refine ⟨_, rfl, ?_⟩
      refine wl_v rfl rfl (ov_move _ rfl) ?_
      refine wl_split 56 rfl (fun c60 => ?_) (fun c60 => ?_)
      ·
       refine wl_v rfl rfl (ov_move _ rfl) ?_
       refine wl_call _ rfl rfl rfl ent34 (LT.hLower_calls (R := [Sx.siter b5 (s) (p + (Utf8.decode (s) (p)).2), Sx.row (Kd.int .i32) 21 (A) (c) (L), Sx.row (Kd.int .i64) 3 (A2) (c2) (Lv)] ++ R) r (by omega) (by omega) h) ?_
       rintro e_ w_ ⟨rfl, h⟩
       refine ⟨_, rfl, ?_⟩
       have hlb61 := lowV_bd r
       refine wl_v rfl rfl (ov_move _ rfl) ?_
       refine wl_v rfl rfl (ov_bin _ rfl rfl (binR_eql)) ?_
       refine wl_v rfl rfl (ov_pick_true _ rfl rfl) ?_
       refine wl_v rfl rfl (ov_assign _ rfl) ?_
       refine wl_nil ?_
       refine qn_then ?_
       refine wc_cond (by rfl) (fun c62 => ?_) (fun c62 => ?_)
       ·
        refine wc_region ?_
        refine wl_v rfl rfl (ov_move _ rfl) ?_
        refine wl_v rfl rfl (ov_bin _ rfl rfl (binR_add (r := re + 1) (Sx.w64 (by omega)))) ?_
        refine wl_v rfl rfl (ov_assign _ rfl) ?_
        refine wl_nil ?_
        refine qn_block_normal ?_
        refine qn_then ?_
        refine wc_seq ?_
        refine wc_region ?_
        refine wl_v rfl rfl (ov_move _ rfl) ?_
        refine wl_v rfl rfl (ov_move _ rfl) ?_
        refine wl_lit (d := (Kd.int .i32)) [(0, .int .i32 (r))] _ [.int .i32 (r)] ([r]) h rfl rfl rfl rfl Try.underlying56 infb21 rfl (by decide) (by kernel_rfl) rfl (fun _ _ _ => ((Reps.none _ _).snoc ((Sx.mkInt .i32 (r))) rfl)) (fun A63 cp64 _ h => ?_)
        refine wl_append (d := (Kd.int .i32)) (L := L) 2 _ 4 _ _ _ ([r]) (Sx.flat_int _) h rfl rfl rfl rfl rfl ((Sx.row_reads h (i := 0) rfl).2) Try.underlying56 inf21 rfl (by decide) (by decide) (by first | omega | (simp only [List.length_cons, List.length_nil, List.length_append, List.length_set]; omega)) (by first | rfl | simp) (fun A65 cp66 _ h => ?_)
        replace h := st_selT [false, true, true, true] h
        refine wl_v rfl rfl (ov_assign _ rfl) ?_
        refine wl_nil ?_
        refine qn_then ?_
        refine wc_seq ?_
        refine wc_region ?_
        refine wl_v rfl rfl (ov_move _ rfl) ?_
        refine wl_lit (d := (Kd.int .i64)) [(0, .int .i64 (0))] _ [.int .i64 (0)] ([0]) h rfl rfl rfl rfl Try.underlying36 infb3 rfl (by decide) (by kernel_rfl) rfl (fun _ _ _ => ((Reps.none _ _).snoc ((Sx.mkInt .i64 (0))) rfl)) (fun A67 cp68 _ h => ?_)
        refine wl_append (d := (Kd.int .i64)) (L := Lv) 3 _ 8 _ _ _ ([0]) (Sx.flat_int _) h rfl rfl rfl rfl rfl ((Sx.row_reads h (i := 0) rfl).2) Try.underlying36 inf3 rfl (by decide) (by decide) (by first | omega | (simp only [List.length_cons, List.length_nil, List.length_append, List.length_set]; omega)) (by first | rfl | simp) (fun A69 cp70 _ h => ?_)
        replace h := st_selT [false, true, true, true] h
        refine wl_v rfl rfl (ov_assign _ rfl) ?_
        refine wl_nil ?_
        refine qn_then ?_
        refine wc_region ?_
        refine wl_v rfl rfl (ov_assign _ rfl) ?_
        refine wl_nil ?_
        refine qn_block_normal ?_
        replace h := st_front 2 h
        replace h := st_front 2 h
        replace h := st_front 2 h
        refine qn_next ((p + (Utf8.decode s p).2), l, A65, cp66, (L ++ ([r])), A69, cp70, (Lv ++ ([0])), false, (re + 1)) (by show s.size - (p + (Utf8.decode s p).2) < s.size - p; omega) ⟨rfl, (congrArg (fun z_ => some (Value.slice (A65) z_ (cp66))) (show ((L ++ ([r])).length : Nat) = ((L ++ ([r]))).length by first | rfl | simp)), (congrArg (fun z_ => some (Value.slice (A69) z_ (cp70))) (show ((Lv ++ ([0])).length : Nat) = ((Lv ++ ([0]))).length by first | rfl | simp)), (congrArg (fun z_ => some (Value.bool z_)) (show false = (false) by first | rfl | simp | omega)), (congrArg (fun z_ => some (Value.int .i64 z_)) (show (re + 1 : Int) = (re + 1) by omega)), rfl, trivial⟩ ?_
        show (Par s (((p + (Utf8.decode s p).2) : Nat) : Int) l s.size ∧ patGo (runesOf l) (decide ((p + (Utf8.decode s p).2) = 0)) (L ++ ([r])) (Lv ++ ([0])) false (decide (0 < (re + 1))) = patV s ∧ ((Lv ++ ([0]))).length = ((L ++ ([r]))).length + 1 ∧ (0 ≤ (re + 1) ∧ (re + 1) ≤ (((p + (Utf8.decode s p).2) : Nat) : Int)) ∧ ((L ++ ([r]))).length ≤ (p + (Utf8.decode s p).2)) ∧ _
        have e_ := hJ.2.1
        rw [show runesOf ((((p : Nat) : Int), r) :: l) = r :: runesOf l from rfl] at e_
        rw [patGo_let (by assumption) (by omega)] at e_
        have ef_ : (false : Bool) = decide ((p + (Utf8.decode s p).2) = 0) := (decide_eq_false (by omega)).symm
        have er_ : (true : Bool) = decide (0 < re + 1) := (decide_eq_true (by omega)).symm
        refine ⟨⟨hpar_, ?_, ?_, ?_, ?_⟩, h⟩
        · rw [← ef_, ← er_]; exact e_
        · first | omega | (simp only [List.length_append, List.length_set, List.length_cons, List.length_nil]; omega)
        · omega
        · first | omega | (simp only [List.length_append, List.length_cons, List.length_nil]; omega)
       ·
        refine wc_seq ?_
        refine wc_region ?_
        refine wl_v rfl rfl (ov_assign _ rfl) ?_
        refine wl_v rfl rfl (ov_assign _ rfl) ?_
        refine wl_v rfl rfl (ov_assign _ rfl) ?_
        refine wl_nil ?_
        refine qn_then ?_
        refine wc_ret ?_
        refine qn_block_ret ?_
        refine qn_then_ret ?_
        refine qn_block_ret ?_
        refine qn_then_ret ?_
        refine qn_block_ret ?_
        refine qn_then_ret ?_
        replace h := st_selT [false, false, false] h
        refine qn_ret [_, _, _] ⟨rfl, rfl, rfl, trivial⟩ ?_
        refine Or.inr ⟨?_, _, _, rfl, h⟩
        rw [← hJ.2.1, show runesOf ((((p : Nat) : Int), r) :: l) = r :: runesOf l from rfl]
        first
        | exact patGo_dg2 ⟨by omega, by omega⟩ (by assumption)
        | exact patGo_pt2 (by omega) (decide_eq_false (by omega)) (fun z_ => by have q_ := (par_nil hpar_).1 (List.map_eq_nil_iff.1 z_); have q2_ := asc_len hby_ (by omega) (by omega); omega)
        | exact patGo_no (by omega) (by omega) (fun z_ => by first | exact absurd z_.1 (by assumption) | exact absurd z_.2 (by omega))
      ·
       refine wl_skip rfl rfl ?_
       refine wl_skip rfl rfl ?_
       refine wl_skip rfl rfl ?_
       refine wl_skip rfl rfl ?_
       refine wl_v rfl rfl (ov_pick_false _ rfl rfl) ?_
       refine wl_v rfl rfl (ov_assign _ rfl) ?_
       refine wl_nil ?_
       refine qn_then ?_
       refine wc_cond_false rfl ?_
       refine wc_seq ?_
       refine wc_region ?_
       refine wl_v rfl rfl (ov_assign _ rfl) ?_
       refine wl_v rfl rfl (ov_assign _ rfl) ?_
       refine wl_v rfl rfl (ov_assign _ rfl) ?_
       refine wl_nil ?_
       refine qn_then ?_
       refine wc_ret ?_
       refine qn_block_ret ?_
       refine qn_then_ret ?_
       refine qn_block_ret ?_
       refine qn_then_ret ?_
       refine qn_block_ret ?_
       refine qn_then_ret ?_
       replace h := st_selT [false, false, false] h
       refine qn_ret [_, _, _] ⟨rfl, rfl, rfl, trivial⟩ ?_
       refine Or.inr ⟨?_, _, _, rfl, h⟩
       rw [← hJ.2.1, show runesOf ((((p : Nat) : Int), r) :: l) = r :: runesOf l from rfl]
       first
       | exact patGo_dg2 ⟨by omega, by omega⟩ (by assumption)
       | exact patGo_pt2 (by omega) (decide_eq_false (by omega)) (fun z_ => by have q_ := (par_nil hpar_).1 (List.map_eq_nil_iff.1 z_); have q2_ := asc_len hby_ (by omega) (by omega); omega)
       | exact patGo_no (by omega) (by omega) (fun z_ => by first | exact absurd z_.1 (by assumption) | exact absurd z_.2 (by omega))
   ·
    have hple_ := par_le hJ.1
    obtain rfl := par_stop hJ.1 c6
    refine wl_v rfl rfl (ov_extract [.bool false] _ rfl rfl) ?_
    refine wl_nil ?_
    refine qn_then ?_
    refine wc_seq ?_
    refine wc_cond_false rfl ?_
    refine wc_exit ?_
    refine qn_then_exit ?_
    refine qn_then_exit ?_
    refine qn_block_exit ?_
    refine qn_then ?_
    refine wc_seq ?_
    refine wc_region ?_
    refine wl_v rfl rfl (ov_move _ rfl) ?_
    refine wl_v rfl rfl (ov_move _ rfl) ?_
    refine wl_v rfl rfl (ov_move _ rfl) ?_
    refine wl_v rfl rfl (ov_bin _ rfl rfl (binR_gtr)) ?_
    refine wl_v rfl rfl (ov_assign _ rfl) ?_
    refine wl_v rfl rfl (ov_assign _ rfl) ?_
    refine wl_v rfl rfl (ov_assign _ rfl) ?_
    refine wl_nil ?_
    refine qn_then ?_
    refine wc_ret ?_
    replace h := st_front 2 h
    replace h := st_front 2 h
    replace h := st_selT [true, true, false] h
    refine qn_ret [_, _, _] ⟨rfl, rfl, rfl, trivial⟩ ?_
    have e_ := hJ.2.1
    rw [show runesOf [] = [] from rfl, patGo] at e_
    by_cases hr0_ : 0 < re
    · rw [if_pos (decide_eq_true hr0_)] at e_
      refine Or.inl ⟨L, Lv, A, c, A2, c2, e_.symm, ?_, h⟩
      rw [show (decide (0 < re)) = true from decide_eq_true hr0_]
      rfl
    · rw [if_neg (by rw [decide_eq_false hr0_]; decide)] at e_
      refine Or.inr ⟨e_.symm, .slice (A) ((L).length) (c), .slice (A2) ((Lv).length) (c2), ?_, st_selT [false, false] h⟩
      exact congrArg (fun z => Ending.returned (Value.tuple #[.slice (A) ((L).length) (c), .slice (A2) ((Lv).length) (c2), .bool z])) (decide_eq_false hr0_)
set_option maxHeartbeats 4000000 in
set_option maxRecDepth 100000 in
theorem word_calls {w0 w : World} {F0 : Nat → Prop} {R : List Sx.HP} (s : ByteArray) (hs : s.size ≤ 1000000000) (h : Sx.St w0 F0 ([] ++ R) w) : Calls Try.prog 28 #[.string (s)] w (fun e w1 => (∃ (L Q : List Int) (A : Option Addr) (c : Nat), wordV s = some (L, Q) ∧ e = .returned (.tuple #[.string (strOfNums (flatB L)), .slice A Q.length c, .bool true]) ∧ Sx.St w0 F0 ([Sx.row (Kd.int .i64) 3 (A) (c) (Q)] ++ R) w1) ∨ (wordV s = none ∧ ∃ v1 v2, e = .returned (.tuple #[v1, v2, .bool false]) ∧ Sx.St w0 F0 R w1)) := by
 refine Sx.calls_fn (vs := [.string (s)]) Try.func28 rfl Try.ntmps28 rfl ?_
 refine wc_seq ?_
 refine wc_region ?_
 refine wl_v rfl rfl (ov_assign _ rfl) ?_
 refine wl_v rfl rfl (ov_assign _ rfl) ?_
 refine wl_v rfl rfl (ov_assign _ rfl) ?_
 refine wl_nil ?_
 refine qn_then ?_
 refine wc_seq ?_
 refine wc_seq ?_
 refine wc_region ?_
 refine wl_v rfl rfl (ov_move _ rfl) ?_
 refine wl_v rfl rfl (ov_lens _ rfl Try.underlying9) ?_
 refine wl_v rfl rfl (ov_bin _ rfl rfl (binR_gtr)) ?_
 refine wl_v rfl rfl (ov_move _ rfl) ?_
 refine wl_split 13 rfl (fun c1 => ?_) (fun c1 => ?_)
 ·
  refine wl_skip rfl rfl ?_
  refine wl_skip rfl rfl ?_
  refine wl_skip rfl rfl ?_
  refine wl_v rfl rfl (ov_pick_true _ rfl rfl) ?_
  refine wl_nil ?_
  refine qn_then ?_
  refine wc_cond_true rfl ?_
  refine wc_seq ?_
  refine wc_region ?_
  refine wl_v rfl rfl (ov_assign _ rfl) ?_
  refine wl_v rfl rfl (ov_assign _ rfl) ?_
  refine wl_v rfl rfl (ov_assign _ rfl) ?_
  refine wl_nil ?_
  refine qn_then ?_
  refine wc_ret ?_
  refine qn_then_ret ?_
  refine qn_ret [_, _, _] ⟨rfl, rfl, rfl, trivial⟩ ?_
  refine Or.inr ⟨?_, _, _, rfl, h⟩
  unfold wordV
  rw [if_pos (by omega)]
 ·
  refine wl_v rfl rfl (ov_move _ rfl) ?_
  refine wl_call _ rfl rfl rfl ent32 (RN.Bad_calls (R := [] ++ R) s (by omega) h) ?_
  rintro e_ w_ ⟨rfl, h⟩
  refine ⟨_, rfl, ?_⟩
  refine wl_v rfl rfl (ov_bin _ rfl rfl (binR_geq)) ?_
  refine wl_v rfl rfl (ov_pick_false _ rfl rfl) ?_
  refine wl_nil ?_
  refine qn_then ?_
  refine wc_cond (by rfl) (fun c2 => ?_) (fun c2 => ?_)
  ·
   refine wc_seq ?_
   refine wc_region ?_
   refine wl_v rfl rfl (ov_assign _ rfl) ?_
   refine wl_v rfl rfl (ov_assign _ rfl) ?_
   refine wl_v rfl rfl (ov_assign _ rfl) ?_
   refine wl_nil ?_
   refine qn_then ?_
   refine wc_ret ?_
   refine qn_then_ret ?_
   refine qn_ret [_, _, _] ⟨rfl, rfl, rfl, trivial⟩ ?_
   refine Or.inr ⟨?_, _, _, rfl, h⟩
   unfold wordV
   rw [if_pos (by omega)]
  ·
   refine wc_skip ?_
   refine qn_then ?_
   refine wc_seq ?_
   refine wc_region ?_
   refine wl_v rfl rfl (ov_assign _ rfl) ?_
   refine wl_nil ?_
   refine qn_then ?_
   refine wc_seq ?_
   refine wc_region ?_
   refine wl_v rfl rfl (ov_assign _ rfl) ?_
   refine wl_nil ?_
   refine qn_then ?_
   refine wc_seq ?_
   refine wc_region ?_
   refine wl_v rfl rfl (ov_assign _ rfl) ?_
   refine wl_nil ?_
   refine qn_then ?_
   refine wc_seq ?_
   refine wc_seq ?_
   refine wc_region ?_
   refine wl_v rfl rfl (ov_move _ rfl) ?_
   refine wl_range _ h rfl rfl rfl Try.underlying9 (fun b3 _ h => ?_)
   refine wl_nil ?_
   refine qn_then ?_
   refine wc_block ?_
   replace h := st_nilrow (Kd.int .u8) 5 (st_nilrow (Kd.int .i64) 3 h)
   replace h := st_front 1 h
   replace h := st_front 1 h
   replace h := st_front 2 h
   refine wc_loop (fun (x_ : Nat × (List (Int × Int)) × (Option Addr) × Nat × (List Int) × (Option Addr) × Nat × (List Int)) => [(0, .string (s)), (5, .slice (x_.2.2.1) ((flatB x_.2.2.2.2.1).length) (x_.2.2.2.1)), (6, .slice (x_.2.2.2.2.2.1) ((x_.2.2.2.2.2.2.2).length) (x_.2.2.2.2.2.2.1)), (7, .int .i64 ((((x_.2.2.2.2.1).length) : Int))), (19, .pointer (some ⟨b3, 0, none⟩))]) (fun (x_ : Nat × (List (Int × Int)) × (Option Addr) × Nat × (List Int) × (Option Addr) × Nat × (List Int)) (w : World) => (Par s ((x_.1 : Nat) : Int) x_.2.1 s.size ∧ wordGo (runesOf x_.2.1) x_.2.2.2.2.1 x_.2.2.2.2.2.2.2 = wordV s ∧ ((x_.2.2.2.2.1).length ≤ x_.1 ∧ (x_.2.2.2.2.2.2.2).length ≤ x_.1) ∧ (flatB x_.2.2.2.2.1).length ≤ 4 * x_.1) ∧ Sx.St w0 F0 ([Sx.siter b3 (s) (x_.1), Sx.row (Kd.int .u8) 5 (x_.2.2.1) (x_.2.2.2.1) ((flatB x_.2.2.2.2.1)), Sx.row (Kd.int .i64) 3 (x_.2.2.2.2.2.1) (x_.2.2.2.2.2.2.1) (x_.2.2.2.2.2.2.2)] ++ R) w) (fun (x_ : Nat × (List (Int × Int)) × (Option Addr) × Nat × (List Int) × (Option Addr) × Nat × (List Int)) => s.size - x_.1) (0, (refV s).1, none, 0, [], none, 0, []) ?_ ?_ ?_
   · exact ⟨rfl, (congrArg (fun z_ => some (Value.slice (none) z_ (0))) (show (0 : Nat) = (flatB []).length by first | rfl | simp)), (congrArg (fun z_ => some (Value.slice (none) z_ (0))) (show (0 : Nat) = ([]).length by first | rfl | simp)), (congrArg (fun z_ => some (Value.int .i64 z_)) (show (0 : Int) = ((([]).length) : Int) by rfl)), rfl, trivial⟩
   · exact ⟨⟨bad_par (by omega), by unfold wordV; rw [if_neg (by omega)]; rfl, ⟨Nat.le_refl _, Nat.le_refl _⟩, Nat.le_refl _⟩, h⟩
   rintro ⟨p, rest, A, c, L, A2, c2, Q⟩ w h
   obtain ⟨hJ, h⟩ := h
   replace hJ : Par s ((p : Nat) : Int) rest s.size ∧ wordGo (runesOf rest) L Q = wordV s ∧ ((L).length ≤ p ∧ (Q).length ≤ p) ∧ (flatB L).length ≤ 4 * p := hJ
   replace h : Sx.St w0 F0 ([Sx.siter b3 (s) (p), Sx.row (Kd.int .u8) 5 (A) (c) ((flatB L)), Sx.row (Kd.int .i64) 3 (A2) (c2) (Q)] ++ R) w := h
   show Sx.WC _ _ _ _ [(0, .string (s)), (5, .slice (A) ((flatB L).length) (c)), (6, .slice (A2) ((Q).length) (c2)), (7, .int .i64 ((((L).length) : Int))), (19, .pointer (some ⟨b3, 0, none⟩))] _
   refine wc_seq ?_
   refine wc_region ?_
   refine wl_next (i := 0) h rfl rfl rfl rfl (fun c4 _ h => ?_) (fun c4 _ h => ?_)
   ·
    have hple_ := par_le hJ.1
    obtain ⟨r, l, rfl, hok_, hr_, hd1_, hd2_, hpar_, hby_⟩ := par_next hJ.1 c4
    rw [hr_]
    refine wl_v rfl rfl (ov_extract [.bool true, .int .i64 ((((p : Nat)) : Int)), .int .i32 (r)] _ rfl rfl) ?_
    refine wl_nil ?_
    refine qn_then ?_
    refine wc_seq ?_
    refine wc_cond_true rfl ?_
    refine wc_skip ?_
    refine qn_then ?_
    refine wc_block ?_
    refine wc_seq ?_
    refine wc_region ?_
    refine wl_v rfl rfl (ov_extract [.bool true, .int .i64 ((((p : Nat)) : Int)), .int .i32 (r)] _ rfl rfl) ?_
    refine wl_v rfl rfl (ov_assign _ rfl) ?_
    refine wl_nil ?_
    refine qn_then ?_
    refine wc_seq ?_
    refine wc_seq ?_
    refine wc_region ?_
    refine wl_v rfl rfl (ov_move _ rfl) ?_
    refine wl_v rfl rfl (ov_bin _ rfl rfl (binR_eql)) ?_
    refine wl_nil ?_
    refine qn_then ?_
    refine wc_cond (by rfl) (fun c5 => ?_) (fun c5 => ?_)
    ·
     refine wc_seq ?_
     refine wc_seq ?_
     refine wc_region ?_
     refine wl_v rfl rfl (ov_move _ rfl) ?_
     refine wl_v rfl rfl (ov_bin _ rfl rfl (binR_eql)) ?_
     refine wl_v rfl rfl (ov_move _ rfl) ?_
     refine wl_split 27 rfl (fun c6 => ?_) (fun c6 => ?_)
     ·
      refine wl_skip rfl rfl ?_
      refine wl_skip rfl rfl ?_
      refine wl_skip rfl rfl ?_
      refine wl_skip rfl rfl ?_
      refine wl_skip rfl rfl ?_
      refine wl_skip rfl rfl ?_
      refine wl_skip rfl rfl ?_
      refine wl_skip rfl rfl ?_
      refine wl_skip rfl rfl ?_
      refine wl_skip rfl rfl ?_
      refine wl_skip rfl rfl ?_
      refine wl_skip rfl rfl ?_
      refine wl_skip rfl rfl ?_
      refine wl_v rfl rfl (ov_pick_true _ rfl rfl) ?_
      refine wl_nil ?_
      refine qn_then ?_
      refine wc_cond_true rfl ?_
      refine wc_seq ?_
      refine wc_region ?_
      refine wl_v rfl rfl (ov_assign _ rfl) ?_
      refine wl_v rfl rfl (ov_assign _ rfl) ?_
      refine wl_v rfl rfl (ov_assign _ rfl) ?_
      refine wl_nil ?_
      refine qn_then ?_
      refine wc_ret ?_
      refine qn_then_ret ?_
      refine qn_then_ret ?_
      refine qn_block_ret ?_
      refine qn_then_ret ?_
      refine qn_block_ret ?_
      refine qn_then_ret ?_
      replace h := st_selT [false, false, false] h
      refine qn_ret [_, _, _] ⟨rfl, rfl, rfl, trivial⟩ ?_
      refine Or.inr ⟨?_, _, _, rfl, h⟩
      rw [← hJ.2.1, show runesOf ((((p : Nat) : Int), r) :: l) = r :: runesOf l from rfl]
      first
      | exact wordGo_mk2 (by omega) (by first | exact .inl (List.length_eq_zero_iff.1 (by omega)) | exact .inr ⟨fun z_ => by (subst z_; simp at *), by omega⟩)
      | exact wordGo_no (by omega) (by assumption)
     ·
      refine wl_v rfl rfl (ov_move _ rfl) ?_
      refine wl_v rfl rfl (ov_len _ _ _ _ _ rfl es36) ?_
      refine wl_v rfl rfl (ov_bin _ rfl rfl (binR_gtr)) ?_
      refine wl_v rfl rfl (ov_move _ rfl) ?_
      refine wl_split 31 rfl (fun c7 => ?_) (fun c7 => ?_)
      ·
       refine wl_v rfl rfl (ov_move _ rfl) ?_
       refine wl_v rfl rfl (ov_move _ rfl) ?_
       refine wl_v rfl rfl (ov_len _ _ _ _ _ rfl es36) ?_
       refine wl_v rfl rfl (ov_bin _ rfl rfl (binR_sub (r := ((((Q).length : Nat) : Int)) - 1) (Sx.w64 (by omega)))) ?_
       obtain ⟨ad8, rfl⟩ := Sx.C_some ((Sx.row_reads h (i := 2) rfl).2) (k := (((Q).length) - 1)) (by first | assumption | omega)
       refine wl_v rfl rfl (ov_indexAddrN _ _ _ _ _ (((Q).length) - 1) rfl rfl es36 (by omega) (by first | assumption | omega | (simp only [List.length_take, List.length_drop, List.length_set]; omega))) ?_
       obtain ⟨cl11, _, hk10, hc9⟩ := Sx.C_cells ((Sx.row_reads h (i := 2) rfl).2) (z := (0 : Int)) (k := (((Q).length) - 1)) (by first | assumption | omega | (simp only [List.length_set]; omega))
       obtain rfl : cl11 = [.int .i64 _] := hk10
       refine wl_v rfl rfl (ov_load1 _ _ rfl sh3 ((hc9 0 _ rfl))) ?_
       refine wl_v rfl rfl (ov_move _ rfl) ?_
       refine wl_v rfl rfl (ov_bin _ rfl rfl (binR_eql)) ?_
       refine wl_v rfl rfl (ov_pick_true _ rfl rfl) ?_
       refine wl_v rfl rfl (ov_pick_false _ rfl rfl) ?_
       refine wl_nil ?_
       refine qn_then ?_
       refine wc_cond (by rfl) (fun c12 => ?_) (fun c12 => ?_)
       ·
        refine wc_seq ?_
        refine wc_region ?_
        refine wl_v rfl rfl (ov_assign _ rfl) ?_
        refine wl_v rfl rfl (ov_assign _ rfl) ?_
        refine wl_v rfl rfl (ov_assign _ rfl) ?_
        refine wl_nil ?_
        refine qn_then ?_
        refine wc_ret ?_
        refine qn_then_ret ?_
        refine qn_then_ret ?_
        refine qn_block_ret ?_
        refine qn_then_ret ?_
        refine qn_block_ret ?_
        refine qn_then_ret ?_
        replace h := st_selT [false, false, false] h
        refine qn_ret [_, _, _] ⟨rfl, rfl, rfl, trivial⟩ ?_
        refine Or.inr ⟨?_, _, _, rfl, h⟩
        rw [← hJ.2.1, show runesOf ((((p : Nat) : Int), r) :: l) = r :: runesOf l from rfl]
        first
        | exact wordGo_mk2 (by omega) (by first | exact .inl (List.length_eq_zero_iff.1 (by omega)) | exact .inr ⟨fun z_ => by (subst z_; simp at *), by omega⟩)
        | exact wordGo_no (by omega) (by assumption)
       ·
        refine wc_skip ?_
        refine qn_then ?_
        refine wc_seq ?_
        refine wc_region ?_
        refine wl_v rfl rfl (ov_move _ rfl) ?_
        refine wl_v rfl rfl (ov_move _ rfl) ?_
        refine wl_lit (d := (Kd.int .i64)) [(0, .int .i64 ((((L).length) : Int)))] _ [.int .i64 ((((L).length) : Int))] ([(((L).length) : Int)]) h rfl rfl rfl rfl Try.underlying36 infb3 rfl (by decide) (by kernel_rfl) rfl (fun _ _ _ => ((Reps.none _ _).snoc ((Sx.mkInt .i64 ((((L).length) : Int)))) rfl)) (fun A13 cp14 _ h => ?_)
        refine wl_append (d := (Kd.int .i64)) (L := Q) 3 _ 8 _ _ _ ([(((L).length) : Int)]) (Sx.flat_int _) h rfl rfl rfl rfl rfl ((Sx.row_reads h (i := 0) rfl).2) Try.underlying36 inf3 rfl (by decide) (by decide) (by first | omega | (simp only [List.length_cons, List.length_nil, List.length_append, List.length_set]; omega)) (by first | rfl | simp) (fun A15 cp16 _ h => ?_)
        replace h := st_selT [false, true, true, true] h
        refine wl_v rfl rfl (ov_assign _ rfl) ?_
        refine wl_nil ?_
        refine qn_then ?_
        refine wc_exit ?_
        refine qn_then_exit ?_
        refine qn_block_exit ?_
        replace h := st_front 2 h
        replace h := st_front 2 h
        replace h := st_front 2 h
        refine qn_next ((p + (Utf8.decode s p).2), l, A, c, L, A15, cp16, (Q ++ ([(((L).length) : Int)]))) (by show s.size - (p + (Utf8.decode s p).2) < s.size - p; omega) ⟨rfl, rfl, (congrArg (fun z_ => some (Value.slice (A15) z_ (cp16))) (show ((Q ++ ([(((L).length) : Int)])).length : Nat) = ((Q ++ ([(((L).length) : Int)]))).length by first | rfl | simp)), rfl, rfl, trivial⟩ ?_
        show (Par s (((p + (Utf8.decode s p).2) : Nat) : Int) l s.size ∧ wordGo (runesOf l) L (Q ++ ([(((L).length) : Int)])) = wordV s ∧ ((L).length ≤ (p + (Utf8.decode s p).2) ∧ ((Q ++ ([(((L).length) : Int)]))).length ≤ (p + (Utf8.decode s p).2)) ∧ (flatB L).length ≤ 4 * (p + (Utf8.decode s p).2)) ∧ _
        have e_ := hJ.2.1
        rw [show runesOf ((((p : Nat) : Int), r) :: l) = r :: runesOf l from rfl] at e_
        rw [wordGo_mk (by omega) (fun z_ => by rcases z_ with z_ | ⟨z1_, z2_⟩ <;> first | (subst z_; simp at *; done) | (exact z1_ (List.length_eq_zero_iff.1 (by omega))) | omega | contradiction)] at e_
        refine ⟨⟨hpar_, e_, ?_, ?_⟩, h⟩
        · first | omega | (simp only [List.length_append, List.length_cons, List.length_nil]; omega)
        · first | omega | (rw [flatB_snoc]; simp only [List.length_append]; omega)
      ·
       refine wl_skip rfl rfl ?_
       refine wl_skip rfl rfl ?_
       refine wl_skip rfl rfl ?_
       refine wl_skip rfl rfl ?_
       refine wl_skip rfl rfl ?_
       refine wl_skip rfl rfl ?_
       refine wl_skip rfl rfl ?_
       refine wl_skip rfl rfl ?_
       refine wl_v rfl rfl (ov_pick_false _ rfl rfl) ?_
       refine wl_v rfl rfl (ov_pick_false _ rfl rfl) ?_
       refine wl_nil ?_
       refine qn_then ?_
       refine wc_cond_false rfl ?_
       refine wc_skip ?_
       refine qn_then ?_
       refine wc_seq ?_
       refine wc_region ?_
       refine wl_v rfl rfl (ov_move _ rfl) ?_
       refine wl_v rfl rfl (ov_move _ rfl) ?_
       refine wl_lit (d := (Kd.int .i64)) [(0, .int .i64 ((((L).length) : Int)))] _ [.int .i64 ((((L).length) : Int))] ([(((L).length) : Int)]) h rfl rfl rfl rfl Try.underlying36 infb3 rfl (by decide) (by kernel_rfl) rfl (fun _ _ _ => ((Reps.none _ _).snoc ((Sx.mkInt .i64 ((((L).length) : Int)))) rfl)) (fun A17 cp18 _ h => ?_)
       refine wl_append (d := (Kd.int .i64)) (L := Q) 3 _ 8 _ _ _ ([(((L).length) : Int)]) (Sx.flat_int _) h rfl rfl rfl rfl rfl ((Sx.row_reads h (i := 0) rfl).2) Try.underlying36 inf3 rfl (by decide) (by decide) (by first | omega | (simp only [List.length_cons, List.length_nil, List.length_append, List.length_set]; omega)) (by first | rfl | simp) (fun A19 cp20 _ h => ?_)
       replace h := st_selT [false, true, true, true] h
       refine wl_v rfl rfl (ov_assign _ rfl) ?_
       refine wl_nil ?_
       refine qn_then ?_
       refine wc_exit ?_
       refine qn_then_exit ?_
       refine qn_block_exit ?_
       replace h := st_front 2 h
       replace h := st_front 2 h
       replace h := st_front 2 h
       refine qn_next ((p + (Utf8.decode s p).2), l, A, c, L, A19, cp20, (Q ++ ([(((L).length) : Int)]))) (by show s.size - (p + (Utf8.decode s p).2) < s.size - p; omega) ⟨rfl, rfl, (congrArg (fun z_ => some (Value.slice (A19) z_ (cp20))) (show ((Q ++ ([(((L).length) : Int)])).length : Nat) = ((Q ++ ([(((L).length) : Int)]))).length by first | rfl | simp)), rfl, rfl, trivial⟩ ?_
       show (Par s (((p + (Utf8.decode s p).2) : Nat) : Int) l s.size ∧ wordGo (runesOf l) L (Q ++ ([(((L).length) : Int)])) = wordV s ∧ ((L).length ≤ (p + (Utf8.decode s p).2) ∧ ((Q ++ ([(((L).length) : Int)]))).length ≤ (p + (Utf8.decode s p).2)) ∧ (flatB L).length ≤ 4 * (p + (Utf8.decode s p).2)) ∧ _
       have e_ := hJ.2.1
       rw [show runesOf ((((p : Nat) : Int), r) :: l) = r :: runesOf l from rfl] at e_
       rw [wordGo_mk (by omega) (fun z_ => by rcases z_ with z_ | ⟨z1_, z2_⟩ <;> first | (subst z_; simp at *; done) | (exact z1_ (List.length_eq_zero_iff.1 (by omega))) | omega | contradiction)] at e_
       refine ⟨⟨hpar_, e_, ?_, ?_⟩, h⟩
       · first | omega | (simp only [List.length_append, List.length_cons, List.length_nil]; omega)
       · first | omega | (rw [flatB_snoc]; simp only [List.length_append]; omega)
    ·
     refine wc_skip ?_
     refine qn_then ?_
     refine wc_seq ?_
     refine wc_seq ?_
     refine wc_region ?_
     refine wl_v rfl rfl (ov_move _ rfl) ?_
     refine wl_call _ rfl rfl rfl ent33 (LT.hLetter_calls (R := [Sx.siter b3 (s) (p + (Utf8.decode (s) (p)).2), Sx.row (Kd.int .u8) 5 (A) (c) ((flatB L)), Sx.row (Kd.int .i64) 3 (A2) (c2) (Q)] ++ R) r (by omega) (by omega) h) ?_
     rintro e_ w_ ⟨rfl, h⟩
     refine ⟨_, rfl, ?_⟩
     refine wl_v rfl rfl (ov_not _ (¬ (LetP r)) rfl (by first | exact decide_not.symm | simp)) ?_
     refine wl_nil ?_
     refine qn_then ?_
     refine wc_cond (by rfl) (fun c21 => ?_) (fun c21 => ?_)
     ·
      refine wc_seq ?_
      refine wc_region ?_
      refine wl_v rfl rfl (ov_assign _ rfl) ?_
      refine wl_v rfl rfl (ov_assign _ rfl) ?_
      refine wl_v rfl rfl (ov_assign _ rfl) ?_
      refine wl_nil ?_
      refine qn_then ?_
      refine wc_ret ?_
      refine qn_then_ret ?_
      refine qn_block_ret ?_
      refine qn_then_ret ?_
      refine qn_block_ret ?_
      refine qn_then_ret ?_
      replace h := st_selT [false, false, false] h
      refine qn_ret [_, _, _] ⟨rfl, rfl, rfl, trivial⟩ ?_
      refine Or.inr ⟨?_, _, _, rfl, h⟩
      rw [← hJ.2.1, show runesOf ((((p : Nat) : Int), r) :: l) = r :: runesOf l from rfl]
      first
      | exact wordGo_mk2 (by omega) (by first | exact .inl (List.length_eq_zero_iff.1 (by omega)) | exact .inr ⟨fun z_ => by (subst z_; simp at *), by omega⟩)
      | exact wordGo_no (by omega) (by assumption)
     ·
      refine wc_skip ?_
      refine qn_then ?_
      refine wc_seq ?_
      refine wc_region ?_
      refine wl_v rfl rfl (ov_move _ rfl) ?_
      refine wl_v rfl rfl (ov_move _ rfl) ?_
      refine wl_call _ rfl rfl rfl ent34 (LT.hLower_calls (R := [Sx.siter b3 (s) (p + (Utf8.decode (s) (p)).2), Sx.row (Kd.int .u8) 5 (A) (c) ((flatB L)), Sx.row (Kd.int .i64) 3 (A2) (c2) (Q)] ++ R) r (by omega) (by omega) h) ?_
      rintro e_ w_ ⟨rfl, h⟩
      refine ⟨_, rfl, ?_⟩
      have hlb22 := lowV_bd r
      refine wl_call _ rfl rfl rfl ent35 (TX.Append_calls (R := [Sx.siter b3 (s) (p + (Utf8.decode (s) (p)).2), Sx.row (Kd.int .u8) 5 (A) (c) ((flatB L)), Sx.row (Kd.int .i64) 3 (A2) (c2) (Q)] ++ R) (A) (c) ((flatB L)) (lowV r) (Sx.row_reads_at (R := [Sx.siter b3 (s) (p + (Utf8.decode (s) (p)).2), Sx.row (Kd.int .u8) 5 (A) (c) ((flatB L)), Sx.row (Kd.int .i64) 3 (A2) (c2) (Q)] ++ R) (j := 1) rfl) (by omega) h) ?_
      rintro e_ w_ ⟨Au23, cu23, rfl, h⟩
      refine ⟨_, rfl, ?_⟩
      have hblu23 := bytes_le (lowV r)
      replace h : Sx.St w0 F0 ([Sx.row (Kd.int .u8) 5 (Au23) (cu23) (((flatB L) ++ bytesV (lowV r))), Sx.siter b3 (s) (p + (Utf8.decode (s) (p)).2), Sx.row (Kd.int .u8) 5 (A) (c) ((flatB L)), Sx.row (Kd.int .i64) 3 (A2) (c2) (Q)] ++ R) _ := h
      replace h := st_selT [true, true, false, true] h
      refine wl_v rfl rfl (ov_assign _ rfl) ?_
      refine wl_nil ?_
      refine qn_then ?_
      refine wc_region ?_
      refine wl_v rfl rfl (ov_move _ rfl) ?_
      refine wl_v rfl rfl (ov_bin _ rfl rfl (binR_add (r := ((((L).length) : Int)) + 1) (Sx.w64 (by omega)))) ?_
      refine wl_v rfl rfl (ov_assign _ rfl) ?_
      refine wl_nil ?_
      refine qn_block_normal ?_
      have e_ : ((flatB L) ++ bytesV (lowV r)) = (flatB (L ++ [lowV r])) := by exact (flatB_snoc _ _).symm
      replace h := st_cast (congrArg (fun z_ => ([Sx.row (Kd.int .u8) 5 (Au23) (cu23) (z_), Sx.siter b3 (s) (p + (Utf8.decode (s) (p)).2), Sx.row (Kd.int .i64) 3 (A2) (c2) (Q)] ++ R)) e_) h
      clear e_
      replace h := st_front 2 h
      replace h := st_front 1 h
      replace h := st_front 2 h
      refine qn_next ((p + (Utf8.decode s p).2), l, Au23, cu23, (L ++ [lowV r]), A2, c2, (Q)) (by show s.size - (p + (Utf8.decode s p).2) < s.size - p; omega) ⟨rfl, (congrArg (fun z_ => some (Value.slice (Au23) z_ (cu23))) (by rw [flatB_snoc])), (congrArg (fun z_ => some (Value.slice (A2) z_ (c2))) (show ((Q).length : Nat) = ((Q)).length by first | rfl | simp)), (congrArg (fun z_ => some (Value.int .i64 z_)) (show (((((L).length) : Int)) + 1 : Int) = ((((L ++ [lowV r])).length) : Int) by simp)), rfl, trivial⟩ ?_
      show (Par s (((p + (Utf8.decode s p).2) : Nat) : Int) l s.size ∧ wordGo (runesOf l) (L ++ [lowV r]) (Q) = wordV s ∧ (((L ++ [lowV r])).length ≤ (p + (Utf8.decode s p).2) ∧ ((Q)).length ≤ (p + (Utf8.decode s p).2)) ∧ (flatB (L ++ [lowV r])).length ≤ 4 * (p + (Utf8.decode s p).2)) ∧ _
      have e_ := hJ.2.1
      rw [show runesOf ((((p : Nat) : Int), r) :: l) = r :: runesOf l from rfl] at e_
      rw [wordGo_let (by first | assumption | exact Classical.not_not.1 (by assumption))] at e_
      refine ⟨⟨hpar_, e_, ?_, ?_⟩, h⟩
      · first | omega | (simp only [List.length_append, List.length_cons, List.length_nil]; omega)
      · first | omega | (rw [flatB_snoc]; simp only [List.length_append]; omega)
   ·
    have hple_ := par_le hJ.1
    obtain rfl := par_stop hJ.1 c4
    refine wl_v rfl rfl (ov_extract [.bool false] _ rfl rfl) ?_
    refine wl_nil ?_
    refine qn_then ?_
    refine wc_seq ?_
    refine wc_cond_false rfl ?_
    refine wc_exit ?_
    refine qn_then_exit ?_
    refine qn_then_exit ?_
    refine qn_block_exit ?_
    refine qn_then ?_
    refine wc_seq ?_
    refine wc_seq ?_
    refine wc_region ?_
    refine wl_v rfl rfl (ov_move _ rfl) ?_
    refine wl_v rfl rfl (ov_bin _ rfl rfl (binR_eql)) ?_
    refine wl_v rfl rfl (ov_move _ rfl) ?_
    refine wl_split 57 rfl (fun c24 => ?_) (fun c24 => ?_)
    ·
     refine wl_skip rfl rfl ?_
     refine wl_skip rfl rfl ?_
     refine wl_skip rfl rfl ?_
     refine wl_skip rfl rfl ?_
     refine wl_skip rfl rfl ?_
     refine wl_skip rfl rfl ?_
     refine wl_skip rfl rfl ?_
     refine wl_skip rfl rfl ?_
     refine wl_skip rfl rfl ?_
     refine wl_skip rfl rfl ?_
     refine wl_skip rfl rfl ?_
     refine wl_skip rfl rfl ?_
     refine wl_skip rfl rfl ?_
     refine wl_v rfl rfl (ov_pick_true _ rfl rfl) ?_
     refine wl_nil ?_
     refine qn_then ?_
     refine wc_cond_true rfl ?_
     refine wc_seq ?_
     refine wc_region ?_
     refine wl_v rfl rfl (ov_assign _ rfl) ?_
     refine wl_v rfl rfl (ov_assign _ rfl) ?_
     refine wl_v rfl rfl (ov_assign _ rfl) ?_
     refine wl_nil ?_
     refine qn_then ?_
     refine wc_ret ?_
     refine qn_then_ret ?_
     replace h := st_selT [false, false, false] h
     refine qn_ret [_, _, _] ⟨rfl, rfl, rfl, trivial⟩ ?_
     refine Or.inr ⟨?_, _, _, rfl, h⟩
     rw [← hJ.2.1, show runesOf [] = [] from rfl, wordGo, if_pos (by first | exact .inl (List.length_eq_zero_iff.1 (by omega)) | exact .inr ⟨fun z_ => by (subst z_; simp at *), by omega⟩)]
    ·
     refine wl_v rfl rfl (ov_move _ rfl) ?_
     refine wl_v rfl rfl (ov_len _ _ _ _ _ rfl es36) ?_
     refine wl_v rfl rfl (ov_bin _ rfl rfl (binR_gtr)) ?_
     refine wl_v rfl rfl (ov_move _ rfl) ?_
     refine wl_split 61 rfl (fun c25 => ?_) (fun c25 => ?_)
     ·
      refine wl_v rfl rfl (ov_move _ rfl) ?_
      refine wl_v rfl rfl (ov_move _ rfl) ?_
      refine wl_v rfl rfl (ov_len _ _ _ _ _ rfl es36) ?_
      refine wl_v rfl rfl (ov_bin _ rfl rfl (binR_sub (r := ((((Q).length : Nat) : Int)) - 1) (Sx.w64 (by omega)))) ?_
      obtain ⟨ad26, rfl⟩ := Sx.C_some ((Sx.row_reads h (i := 2) rfl).2) (k := (((Q).length) - 1)) (by first | assumption | omega)
      refine wl_v rfl rfl (ov_indexAddrN _ _ _ _ _ (((Q).length) - 1) rfl rfl es36 (by omega) (by first | assumption | omega | (simp only [List.length_take, List.length_drop, List.length_set]; omega))) ?_
      obtain ⟨cl29, _, hk28, hc27⟩ := Sx.C_cells ((Sx.row_reads h (i := 2) rfl).2) (z := (0 : Int)) (k := (((Q).length) - 1)) (by first | assumption | omega | (simp only [List.length_set]; omega))
      obtain rfl : cl29 = [.int .i64 _] := hk28
      refine wl_v rfl rfl (ov_load1 _ _ rfl sh3 ((hc27 0 _ rfl))) ?_
      refine wl_v rfl rfl (ov_move _ rfl) ?_
      refine wl_v rfl rfl (ov_bin _ rfl rfl (binR_eql)) ?_
      refine wl_v rfl rfl (ov_pick_true _ rfl rfl) ?_
      refine wl_v rfl rfl (ov_pick_false _ rfl rfl) ?_
      refine wl_nil ?_
      refine qn_then ?_
      refine wc_cond (by rfl) (fun c30 => ?_) (fun c30 => ?_)
      ·
       refine wc_seq ?_
       refine wc_region ?_
       refine wl_v rfl rfl (ov_assign _ rfl) ?_
       refine wl_v rfl rfl (ov_assign _ rfl) ?_
       refine wl_v rfl rfl (ov_assign _ rfl) ?_
       refine wl_nil ?_
       refine qn_then ?_
       refine wc_ret ?_
       refine qn_then_ret ?_
       replace h := st_selT [false, false, false] h
       refine qn_ret [_, _, _] ⟨rfl, rfl, rfl, trivial⟩ ?_
       refine Or.inr ⟨?_, _, _, rfl, h⟩
       rw [← hJ.2.1, show runesOf [] = [] from rfl, wordGo, if_pos (by first | exact .inl (List.length_eq_zero_iff.1 (by omega)) | exact .inr ⟨fun z_ => by (subst z_; simp at *), by omega⟩)]
      ·
       refine wc_skip ?_
       refine qn_then ?_
       refine wc_seq ?_
       refine wc_region ?_
       refine wl_v rfl rfl (ov_move _ rfl) ?_
       refine wl_v rfl rfl (ov_string rfl ((Sx.row_reads h (i := 1) rfl).2) Try.underlying40 Try.underlying5 Try.underlying9) ?_
       refine wl_v rfl rfl (ov_move _ rfl) ?_
       refine wl_v rfl rfl (ov_assign _ rfl) ?_
       refine wl_v rfl rfl (ov_assign _ rfl) ?_
       refine wl_v rfl rfl (ov_assign _ rfl) ?_
       refine wl_nil ?_
       refine qn_then ?_
       refine wc_ret ?_
       replace h := st_front 2 h
       replace h := st_selT [true, false, false] h
       refine qn_ret [_, _, _] ⟨rfl, rfl, rfl, trivial⟩ ?_
       have e_ := hJ.2.1
       rw [show runesOf [] = [] from rfl, wordGo, if_neg (fun z_ => by rcases z_ with z_ | ⟨z1_, z2_⟩ <;> first | (subst z_; simp at *; done) | (exact z1_ (List.length_eq_zero_iff.1 (by omega))) | omega | contradiction)] at e_
       exact Or.inl ⟨L, Q, some ad26, c2, e_.symm, rfl, h⟩
     ·
      refine wl_skip rfl rfl ?_
      refine wl_skip rfl rfl ?_
      refine wl_skip rfl rfl ?_
      refine wl_skip rfl rfl ?_
      refine wl_skip rfl rfl ?_
      refine wl_skip rfl rfl ?_
      refine wl_skip rfl rfl ?_
      refine wl_skip rfl rfl ?_
      refine wl_v rfl rfl (ov_pick_false _ rfl rfl) ?_
      refine wl_v rfl rfl (ov_pick_false _ rfl rfl) ?_
      refine wl_nil ?_
      refine qn_then ?_
      refine wc_cond_false rfl ?_
      refine wc_skip ?_
      refine qn_then ?_
      refine wc_seq ?_
      refine wc_region ?_
      refine wl_v rfl rfl (ov_move _ rfl) ?_
      refine wl_v rfl rfl (ov_string rfl ((Sx.row_reads h (i := 1) rfl).2) Try.underlying40 Try.underlying5 Try.underlying9) ?_
      refine wl_v rfl rfl (ov_move _ rfl) ?_
      refine wl_v rfl rfl (ov_assign _ rfl) ?_
      refine wl_v rfl rfl (ov_assign _ rfl) ?_
      refine wl_v rfl rfl (ov_assign _ rfl) ?_
      refine wl_nil ?_
      refine qn_then ?_
      refine wc_ret ?_
      replace h := st_front 2 h
      replace h := st_selT [true, false, false] h
      refine qn_ret [_, _, _] ⟨rfl, rfl, rfl, trivial⟩ ?_
      have e_ := hJ.2.1
      rw [show runesOf [] = [] from rfl, wordGo, if_neg (fun z_ => by rcases z_ with z_ | ⟨z1_, z2_⟩ <;> first | (subst z_; simp at *; done) | (exact z1_ (List.length_eq_zero_iff.1 (by omega))) | omega | contradiction)] at e_
      exact Or.inl ⟨L, Q, A2, c2, e_.symm, rfl, h⟩
end Go.Proofs.Ytbeihfcjfkddcaa.RD
