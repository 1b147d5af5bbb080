/- Pruned by wip/prune.py. -/
import Derived.Test.YtbakllppgekmoaaProg
import Derived.Test.YtbakllppgekmoaaQSxGlue
import Derived.Test.YtbakllppgekmoaaQSxJoin
import Derived.Test.YtbakllppgekmoaaQSxKinds
import Derived.Test.YtbakllppgekmoaaQCmpBetween
import Derived.Test.YtbakllppgekmoaaQSxTrace
import Derived.Test.YtbakllppgekmoaaQSxLetters
namespace Go.Proofs.Ytbakllppgekmoaa.D
open Go Go.RowKit Go.Proofs.YtbakllppgekmoaaW.PrintWords Go.Proofs.Ytbakllppgekmoaa.Kinds Go.Proofs.Ytbakllppgekmoaa.Cmp Go.Proofs.Ytbakllppgekmoaa.Given Go.Proofs.Ytbakllppgekmoaa.Sx 
set_option linter.unusedVariables false
set_option linter.unusedSimpArgs false
theorem es52 : Sx.elemSz Try.prog 52 = some (21, 1) := by kernel_rfl
theorem sh21 : Sx.shapeOf Try.prog 21 = some (false, 1) := by kernel_rfl
theorem ent37 : Sx.Ent Try.prog 37 := ⟨Try.f37, Try.func37, by kernel_rfl, by kernel_rfl⟩
theorem ent38 : Sx.Ent Try.prog 38 := ⟨Try.f38, Try.func38, by kernel_rfl, by kernel_rfl⟩
theorem fo64_0 : Sx.fieldOff Try.prog 64 0 = some 0 := by kernel_rfl
theorem sh52 : Sx.shapeOf Try.prog 52 = some (false, 1) := by kernel_rfl
theorem fo64_1 : Sx.fieldOff Try.prog 64 1 = some 1 := by kernel_rfl
theorem infb69 : (Try.prog.info? 69).map (fun i => (i.zero, i.size)) = some (some (.agg #[.int .i64 (0), .int .i64 (0)]), 2) := by kernel_rfl
theorem inf69 : (Try.prog.info? 69).map (fun i => (i.zero, i.size, i.bytes)) = some (some (.agg #[.int .i64 (0), .int .i64 (0)]), 2, 16) := by kernel_rfl
theorem es65 : Sx.elemSz Try.prog 65 = some (69, 2) := by kernel_rfl
theorem sh69 : Sx.shapeOf Try.prog 69 = some (true, 2) := by kernel_rfl
theorem zo69 : Sx.zeroOf Try.prog 69 = some (.agg #[.int .i64 (0), .int .i64 (0)]) := by kernel_rfl
theorem ar69 : Sx.arrSz Try.prog 69 = some (2, 3, 1) := by kernel_rfl
theorem sh3 : Sx.shapeOf Try.prog 3 = some (false, 1) := by kernel_rfl
theorem es49 : Sx.elemSz Try.prog 49 = some (3, 1) := by kernel_rfl
theorem infb33 : (Try.prog.info? 33).map (fun i => (i.zero, i.size)) = some (some (.agg #[.int .i64 (0), .int .i64 (0), .string (ByteArray.empty)]), 3) := by kernel_rfl
theorem inf33 : (Try.prog.info? 33).map (fun i => (i.zero, i.size, i.bytes)) = some (some (.agg #[.int .i64 (0), .int .i64 (0), .string (ByteArray.empty)]), 3, 32) := by kernel_rfl
theorem ent32 : Sx.Ent Try.prog 32 := ⟨Try.f32, Try.func32, by kernel_rfl, by kernel_rfl⟩
theorem ent33 : Sx.Ent Try.prog 33 := ⟨Try.f33, Try.func33, by kernel_rfl, by kernel_rfl⟩
set_option maxHeartbeats 4000000 in
set_option maxRecDepth 100000 in
theorem between_calls {w0 w : World} {F0 : Nat → Prop} {R : List Sx.HP} {v0 : World} (X : List Int) (AX : Option Addr) (cX : Nat) (Y : List Int) (AY : Option Addr) (cY : Nat) (ax : List Int) (Aa : Option Addr) (ca : Nat) (bys : List Int) (Ab : Option Addr) (cb : Nat) (b : ByteArray) (hv : Sx.RO v0 w0 F0) (hlX : X.length ≤ cX) (hCX : (Kd.int .i32).C v0 AX X.length X) (hlY : Y.length ≤ cY) (hCY : (Kd.int .i32).C v0 AY Y.length Y) (hla : ax.length ≤ ca) (hCa : (Kd.int .i64).C v0 Aa ax.length ax) (hlb : bys.length ≤ cb) (hCb : (Kd.int .i64).C v0 Ab bys.length bys) (hX1 : X.length ≤ 100000) (hY1 : Y.length ≤ 100000) (hax : ax.length = X.length + 1) (hby : bys.length = Y.length + 1) (hbo : ∀ i j : Nat, i ≤ j → j < bys.length → 0 ≤ bys.getD i 0 ∧ bys.getD i 0 ≤ bys.getD j 0 ∧ bys.getD j 0 ≤ b.size) (hbz : b.size ≤ 100000) (h : Sx.St w0 F0 ([] ++ R) w) : Calls Try.prog 33 #[.slice (AX) (X.length) (cX), .slice (AY) (Y.length) (cY), .slice (Aa) (ax.length) (ca), .slice (Ab) (bys.length) (cb), .string (b)] w (fun e w1 => ∃ Ae ce, e = .returned (.slice Ae (betweenV X Y ax bys b).length ce) ∧ Sx.St w0 F0 ([Sx.row k33 33 (Ae) (ce) (betweenV X Y ax bys b)] ++ R) w1) := by
 have hef_ := ends_facts X Y
 have hml_ := mid_len X Y
 have hpl_ := pairs_len (midX X Y) (midY X Y)
 have hps_ : (pairsV (midX X Y) (midY X Y) ++ [(((midX X Y).length : Int), ((midY X Y).length : Int))]).length = (pairsV (midX X Y) (midY X Y)).length + 1 := by rw [List.length_append]; rfl
 refine Sx.calls_fn (vs := [.slice (AX) (X.length) (cX), .slice (AY) (Y.length) (cY), .slice (Aa) (ax.length) (ca), .slice (Ab) (bys.length) (cb), .string (b)]) Try.func33 rfl Try.ntmps33 rfl ?_
 refine wc_seq ?_
 refine wc_region ?_
 refine wl_v rfl rfl (ov_assign _ rfl) ?_
 refine wl_nil ?_
 refine qn_then ?_
 refine wc_seq ?_
 refine wc_region ?_
 refine wl_v rfl rfl (ov_assign _ rfl) ?_
 refine wl_nil ?_
 refine qn_then ?_
 refine wc_seq ?_
 refine wc_join (fun (x_ : Unit) => [(0, .slice (AX) (X.length) (cX)), (1, .slice (AY) (Y.length) (cY)), (2, .slice (Aa) (ax.length) (ca)), (3, .slice (Ab) (bys.length) (cb)), (4, .string (b)), (11, .int .i64 ((preV X Y)))]) (fun (x_ : Unit) (w : World) => Sx.St w0 F0 ([] ++ R) w) ?_ ?_
 ·
  refine wc_block ?_
  refine wc_loop (fun (x_ : Nat × Int) => [(0, .slice (AX) (X.length) (cX)), (1, .slice (AY) (Y.length) (cY)), (2, .slice (Aa) (ax.length) (ca)), (3, .slice (Ab) (bys.length) (cb)), (4, .string (b)), (11, .int .i64 (x_.2))]) (fun (x_ : Nat × Int) (w : World) => (0 ≤ x_.2 ∧ x_.2 ≤ X.length ∧ x_.2 ≤ Y.length ∧ (X.length : Int) < x_.2 + ((x_.1 : Nat) : Int) ∧ slideN X Y x_.1 x_.2 x_.2 = (preV X Y)) ∧ Sx.St w0 F0 ([] ++ R) w) (fun (x_ : Nat × Int) => x_.1) ((X.length + 1), 0) ?_ ?_ ?_
  · exact ⟨rfl, rfl, rfl, rfl, rfl, rfl, trivial⟩
  · exact ⟨⟨Int.le_refl _, by show (0 : Int) ≤ X.length; omega, by show (0 : Int) ≤ Y.length; omega, by show (X.length : Int) < 0 + ((X.length + 1 : Nat) : Int); omega, rfl⟩, h⟩
  rintro ⟨m, f1⟩ w h
  obtain ⟨hJ, h⟩ := h
  replace hJ : 0 ≤ f1 ∧ f1 ≤ X.length ∧ f1 ≤ Y.length ∧ (X.length : Int) < f1 + ((m : Nat) : Int) ∧ slideN X Y m f1 f1 = (preV X Y) := hJ
  replace h : Sx.St w0 F0 ([] ++ R) w := h
  show Sx.WC _ _ _ _ [(0, .slice (AX) (X.length) (cX)), (1, .slice (AY) (Y.length) (cY)), (2, .slice (Aa) (ax.length) (ca)), (3, .slice (Ab) (bys.length) (cb)), (4, .string (b)), (11, .int .i64 (f1))] _
  refine wc_seq ?_
  refine wc_seq ?_
  refine wc_draw (fun w => Sx.St w0 F0 ([] ++ R) w) (by kernel_rfl) ?_
  replace h := st_drew h
  refine wa_tk 0 rfl rfl rfl (st_selT [] h) (fun w_ hS => ov_move _ rfl) ?_
  refine wa_tk 1 rfl rfl rfl (st_selT [] h) (fun w_ hS => ov_move _ rfl) ?_
  refine wa_tk 2 rfl rfl rfl (st_selT [] h) (fun w_ hS => ov_len _ _ _ _ _ rfl es52) ?_
  refine wa_tk 3 rfl rfl rfl (st_selT [] h) (fun w_ hS => ov_bin _ rfl rfl (binR_lss)) ?_
  refine wa_tk 4 rfl rfl rfl (st_selT [] h) (fun w_ hS => ov_move _ rfl) ?_
  refine wa_split 26 rfl (fun c1 => ?_) (fun c1 => ?_)
  ·
   refine wa_tk 5 rfl rfl rfl (st_selT [] h) (fun w_ hS => ov_move _ rfl) ?_
   refine wa_tk 6 rfl rfl rfl (st_selT [] h) (fun w_ hS => ov_move _ rfl) ?_
   refine wa_tk 7 rfl rfl rfl (st_selT [] h) (fun w_ hS => ov_len _ _ _ _ _ rfl es52) ?_
   refine wa_tk 8 rfl rfl rfl (st_selT [] h) (fun w_ hS => ov_bin _ rfl rfl (binR_lss)) ?_
   refine wa_tk 9 rfl rfl rfl (st_selT [] h) (fun w_ hS => ov_pick_true _ rfl rfl) ?_
   refine wa_tk 10 rfl rfl rfl (st_selT [] h) (fun w_ hS => ov_move _ rfl) ?_
   refine wa_split 32 rfl (fun c2 => ?_) (fun c2 => ?_)
   ·
    refine wa_tk 11 rfl rfl rfl (st_selT [] h) (fun w_ hS => ov_move _ rfl) ?_
    refine wa_tk 12 rfl rfl rfl (st_selT [] h) (fun w_ hS => ov_move _ rfl) ?_
    obtain ⟨ad3, rfl⟩ := Sx.C_some ((Sx.ro_C hv h hCX)) (k := (f1 : Int).toNat) (by first | assumption | omega)
    refine wa_tk 13 rfl rfl rfl (st_selT [] h) (fun w_ hS => ov_indexAddrN _ _ _ _ _ (f1 : Int).toNat rfl rfl es52 (by omega) (by first | assumption | omega | (simp only [List.length_take, List.length_drop, List.length_set]; omega))) ?_
    obtain ⟨cl6, _, hk5, hc4⟩ := Sx.C_cells (hCX) (z := (0 : Int)) (k := (f1 : Int).toNat) (by first | assumption | omega)
    obtain rfl : cl6 = [.int .i32 _] := hk5
    refine wa_tk 14 rfl rfl rfl (st_selT [] h) (fun w_ hS => ov_load1 _ _ rfl sh21 (Sx.ro_cell hv hS (hc4 0 _ rfl))) ?_
    refine wa_tk 15 rfl rfl rfl (st_selT [] h) (fun w_ hS => ov_move _ rfl) ?_
    refine wa_tk 16 rfl rfl rfl (st_selT [] h) (fun w_ hS => ov_move _ rfl) ?_
    obtain ⟨ad7, rfl⟩ := Sx.C_some ((Sx.ro_C hv h hCY)) (k := (f1 : Int).toNat) (by first | assumption | omega)
    refine wa_tk 17 rfl rfl rfl (st_selT [] h) (fun w_ hS => ov_indexAddrN _ _ _ _ _ (f1 : Int).toNat rfl rfl es52 (by omega) (by first | assumption | omega | (simp only [List.length_take, List.length_drop, List.length_set]; omega))) ?_
    obtain ⟨cl10, _, hk9, hc8⟩ := Sx.C_cells (hCY) (z := (0 : Int)) (k := (f1 : Int).toNat) (by first | assumption | omega)
    obtain rfl : cl10 = [.int .i32 _] := hk9
    refine wa_tk 18 rfl rfl rfl (st_selT [] h) (fun w_ hS => ov_load1 _ _ rfl sh21 (Sx.ro_cell hv hS (hc8 0 _ rfl))) ?_
    refine wa_tk 19 rfl rfl rfl (st_selT [] h) (fun w_ hS => ov_bin _ rfl rfl (binR_eql)) ?_
    refine wa_tk 20 rfl rfl rfl (st_selT [] h) (fun w_ hS => ov_pick_true _ rfl rfl) ?_
    refine wa_done (by kernel_rfl) ?_
    refine qn_then ?_
    refine wc_cond (by rfl) (fun c11 => ?_) (fun c11 => ?_)
    ·
     refine wc_skip ?_
     refine qn_then ?_
     refine wc_block ?_
     refine wc_region ?_
     refine wl_v rfl rfl (ov_move _ rfl) ?_
     refine wl_v rfl rfl (ov_bin _ rfl rfl (binR_add (r := f1 + 1) (Sx.w64 (by omega)))) ?_
     refine wl_v rfl rfl (ov_assign _ rfl) ?_
     refine wl_nil ?_
     refine qn_block_normal ?_
     refine qn_next ((m - 1), (f1 + 1)) (by show (m - 1) < m; omega) ⟨(congrArg (fun z_ => some (Value.slice (some ad3) z_ (cX))) (show (X.length : Nat) = X.length by first | rfl | simp)), (congrArg (fun z_ => some (Value.slice (some ad7) z_ (cY))) (show (Y.length : Nat) = Y.length by first | rfl | simp)), rfl, rfl, rfl, (congrArg (fun z_ => some (Value.int .i64 z_)) (show (f1 + 1 : Int) = (f1 + 1) by omega)), trivial⟩ ?_
     show (0 ≤ (f1 + 1) ∧ (f1 + 1) ≤ X.length ∧ (f1 + 1) ≤ Y.length ∧ (X.length : Int) < (f1 + 1) + (((m - 1) : Nat) : Int) ∧ slideN X Y (m - 1) (f1 + 1) (f1 + 1) = (preV X Y)) ∧ _
     obtain ⟨m, rfl⟩ : ∃ q_, m = q_ + 1 := ⟨m - 1, by omega⟩
     have hs_ := hJ.2.2.2.2
     simp only [slideN] at hs_
     rw [if_pos ⟨by omega, by omega, by assumption⟩] at hs_
     exact ⟨⟨by omega, by omega, by omega, by omega, hs_⟩, h⟩
    ·
     refine wc_exit ?_
     refine qn_then_exit ?_
     refine qn_then_exit ?_
     refine qn_block_exit ?_
     have hs_ : f1 = (preV X Y) := by
       rw [← hJ.2.2.2.2]
       cases m with
       | zero => rfl
       | succ m => simp only [slideN]; rw [if_neg (by first | omega | (rintro ⟨_, _, hz_⟩; contradiction))]
     refine qn_joined (()) ⟨(congrArg (fun z_ => some (Value.slice (some ad3) z_ (cX))) (show (X.length : Nat) = X.length by first | rfl | simp)), (congrArg (fun z_ => some (Value.slice (some ad7) z_ (cY))) (show (Y.length : Nat) = Y.length by first | rfl | simp)), rfl, rfl, rfl, (congrArg (fun z_ => some (Value.int .i64 z_)) (show (f1 : Int) = (preV X Y) by exact hs_)), trivial⟩ ?_
     exact h
   ·
    refine wa_sk 11 rfl rfl rfl (st_selT [] h) ?_
    refine wa_sk 12 rfl rfl rfl (st_selT [] h) ?_
    refine wa_sk 13 rfl rfl rfl (st_selT [] h) ?_
    refine wa_sk 14 rfl rfl rfl (st_selT [] h) ?_
    refine wa_sk 15 rfl rfl rfl (st_selT [] h) ?_
    refine wa_sk 16 rfl rfl rfl (st_selT [] h) ?_
    refine wa_sk 17 rfl rfl rfl (st_selT [] h) ?_
    refine wa_sk 18 rfl rfl rfl (st_selT [] h) ?_
    refine wa_sk 19 rfl rfl rfl (st_selT [] h) ?_
    refine wa_tk 20 rfl rfl rfl (st_selT [] h) (fun w_ hS => ov_pick_false _ rfl rfl) ?_
    refine wa_done (by kernel_rfl) ?_
    refine qn_then ?_
    refine wc_cond_false rfl ?_
    refine wc_exit ?_
    refine qn_then_exit ?_
    refine qn_then_exit ?_
    refine qn_block_exit ?_
    have hs_ : f1 = (preV X Y) := by
      rw [← hJ.2.2.2.2]
      cases m with
      | zero => rfl
      | succ m => simp only [slideN]; rw [if_neg (by first | omega | (rintro ⟨_, _, hz_⟩; contradiction))]
    refine qn_joined (()) ⟨rfl, rfl, rfl, rfl, rfl, (congrArg (fun z_ => some (Value.int .i64 z_)) (show (f1 : Int) = (preV X Y) by exact hs_)), trivial⟩ ?_
    exact h
  ·
   refine wa_sk 5 rfl rfl rfl (st_selT [] h) ?_
   refine wa_sk 6 rfl rfl rfl (st_selT [] h) ?_
   refine wa_sk 7 rfl rfl rfl (st_selT [] h) ?_
   refine wa_sk 8 rfl rfl rfl (st_selT [] h) ?_
   refine wa_tk 9 rfl rfl rfl (st_selT [] h) (fun w_ hS => ov_pick_false _ rfl rfl) ?_
   refine wa_tk 10 rfl rfl rfl (st_selT [] h) (fun w_ hS => ov_move _ rfl) ?_
   refine wa_sk 11 rfl rfl rfl (st_selT [] h) ?_
   refine wa_sk 12 rfl rfl rfl (st_selT [] h) ?_
   refine wa_sk 13 rfl rfl rfl (st_selT [] h) ?_
   refine wa_sk 14 rfl rfl rfl (st_selT [] h) ?_
   refine wa_sk 15 rfl rfl rfl (st_selT [] h) ?_
   refine wa_sk 16 rfl rfl rfl (st_selT [] h) ?_
   refine wa_sk 17 rfl rfl rfl (st_selT [] h) ?_
   refine wa_sk 18 rfl rfl rfl (st_selT [] h) ?_
   refine wa_sk 19 rfl rfl rfl (st_selT [] h) ?_
   refine wa_tk 20 rfl rfl rfl (st_selT [] h) (fun w_ hS => ov_pick_false _ rfl rfl) ?_
   refine wa_done (by kernel_rfl) ?_
   refine qn_then ?_
   refine wc_cond_false rfl ?_
   refine wc_exit ?_
   refine qn_then_exit ?_
   refine qn_then_exit ?_
   refine qn_block_exit ?_
   have hs_ : f1 = (preV X Y) := by
     rw [← hJ.2.2.2.2]
     cases m with
     | zero => rfl
     | succ m => simp only [slideN]; rw [if_neg (by first | omega | (rintro ⟨_, _, hz_⟩; contradiction))]
   refine qn_joined (()) ⟨rfl, rfl, rfl, rfl, rfl, (congrArg (fun z_ => some (Value.int .i64 z_)) (show (f1 : Int) = (preV X Y) by exact hs_)), trivial⟩ ?_
   exact h
 ·
  intro u_ w h
  replace h : Sx.St w0 F0 ([] ++ R) w := h
  show Sx.QN _ _ _ [(0, .slice (AX) (X.length) (cX)), (1, .slice (AY) (Y.length) (cY)), (2, .slice (Aa) (ax.length) (ca)), (3, .slice (Ab) (bys.length) (cb)), (4, .string (b)), (11, .int .i64 ((preV X Y)))] _
  refine qn_then ?_
  refine wc_seq ?_
  refine wc_region ?_
  refine wl_v rfl rfl (ov_assign _ rfl) ?_
  refine wl_nil ?_
  refine qn_then ?_
  refine wc_seq ?_
  refine wc_join (fun (x_ : Unit) => [(0, .slice (AX) (X.length) (cX)), (1, .slice (AY) (Y.length) (cY)), (2, .slice (Aa) (ax.length) (ca)), (3, .slice (Ab) (bys.length) (cb)), (4, .string (b)), (11, .int .i64 ((preV X Y))), (12, .int .i64 ((postV X Y)))]) (fun (x_ : Unit) (w : World) => Sx.St w0 F0 ([] ++ R) w) ?_ ?_
  ·
   refine wc_block ?_
   refine wc_loop (fun (x_ : Nat × Int) => [(0, .slice (AX) (X.length) (cX)), (1, .slice (AY) (Y.length) (cY)), (2, .slice (Aa) (ax.length) (ca)), (3, .slice (Ab) (bys.length) (cb)), (4, .string (b)), (11, .int .i64 ((preV X Y))), (12, .int .i64 (x_.2))]) (fun (x_ : Nat × Int) (w : World) => (0 ≤ x_.2 ∧ x_.2 ≤ (X.length : Int) - (preV X Y) ∧ x_.2 ≤ (Y.length : Int) - (preV X Y) ∧ (X.length : Int) < x_.2 + ((x_.1 : Nat) : Int) ∧ postN X Y (preV X Y) x_.1 x_.2 = (postV X Y)) ∧ Sx.St w0 F0 ([] ++ R) w) (fun (x_ : Nat × Int) => x_.1) ((X.length + 1), 0) ?_ ?_ ?_
   · exact ⟨rfl, rfl, rfl, rfl, rfl, rfl, rfl, trivial⟩
   · exact ⟨⟨Int.le_refl _, by show (0 : Int) ≤ (X.length : Int) - (preV X Y); omega, by show (0 : Int) ≤ (Y.length : Int) - (preV X Y); omega, by show (X.length : Int) < 0 + ((X.length + 1 : Nat) : Int); omega, rfl⟩, h⟩
   rintro ⟨m, e1⟩ w h
   obtain ⟨hJ, h⟩ := h
   replace hJ : 0 ≤ e1 ∧ e1 ≤ (X.length : Int) - (preV X Y) ∧ e1 ≤ (Y.length : Int) - (preV X Y) ∧ (X.length : Int) < e1 + ((m : Nat) : Int) ∧ postN X Y (preV X Y) m e1 = (postV X Y) := hJ
   replace h : Sx.St w0 F0 ([] ++ R) w := h
   show Sx.WC _ _ _ _ [(0, .slice (AX) (X.length) (cX)), (1, .slice (AY) (Y.length) (cY)), (2, .slice (Aa) (ax.length) (ca)), (3, .slice (Ab) (bys.length) (cb)), (4, .string (b)), (11, .int .i64 ((preV X Y))), (12, .int .i64 (e1))] _
   refine wc_seq ?_
   refine wc_seq ?_
   refine wc_draw (fun w => Sx.St w0 F0 ([] ++ R) w) (by kernel_rfl) ?_
   replace h := st_drew h
   refine wa_tk 0 rfl rfl rfl (st_selT [] h) (fun w_ hS => ov_move _ rfl) ?_
   refine wa_tk 1 rfl rfl rfl (st_selT [] h) (fun w_ hS => ov_move _ rfl) ?_
   refine wa_tk 2 rfl rfl rfl (st_selT [] h) (fun w_ hS => ov_len _ _ _ _ _ rfl es52) ?_
   refine wa_tk 3 rfl rfl rfl (st_selT [] h) (fun w_ hS => ov_move _ rfl) ?_
   refine wa_tk 4 rfl rfl rfl (st_selT [] h) (fun w_ hS => ov_bin _ rfl rfl (binR_sub (r := (((X.length : Nat) : Int)) - ((preV X Y))) (Sx.w64 (by omega)))) ?_
   refine wa_tk 5 rfl rfl rfl (st_selT [] h) (fun w_ hS => ov_bin _ rfl rfl (binR_lss)) ?_
   refine wa_tk 6 rfl rfl rfl (st_selT [] h) (fun w_ hS => ov_move _ rfl) ?_
   refine wa_split 51 rfl (fun c12 => ?_) (fun c12 => ?_)
   ·
    refine wa_tk 7 rfl rfl rfl (st_selT [] h) (fun w_ hS => ov_move _ rfl) ?_
    refine wa_tk 8 rfl rfl rfl (st_selT [] h) (fun w_ hS => ov_move _ rfl) ?_
    refine wa_tk 9 rfl rfl rfl (st_selT [] h) (fun w_ hS => ov_len _ _ _ _ _ rfl es52) ?_
    refine wa_tk 10 rfl rfl rfl (st_selT [] h) (fun w_ hS => ov_move _ rfl) ?_
    refine wa_tk 11 rfl rfl rfl (st_selT [] h) (fun w_ hS => ov_bin _ rfl rfl (binR_sub (r := (((Y.length : Nat) : Int)) - ((preV X Y))) (Sx.w64 (by omega)))) ?_
    refine wa_tk 12 rfl rfl rfl (st_selT [] h) (fun w_ hS => ov_bin _ rfl rfl (binR_lss)) ?_
    refine wa_tk 13 rfl rfl rfl (st_selT [] h) (fun w_ hS => ov_pick_true _ rfl rfl) ?_
    refine wa_tk 14 rfl rfl rfl (st_selT [] h) (fun w_ hS => ov_move _ rfl) ?_
    refine wa_split 59 rfl (fun c13 => ?_) (fun c13 => ?_)
    ·
     refine wa_tk 15 rfl rfl rfl (st_selT [] h) (fun w_ hS => ov_move _ rfl) ?_
     refine wa_tk 16 rfl rfl rfl (st_selT [] h) (fun w_ hS => ov_move _ rfl) ?_
     refine wa_tk 17 rfl rfl rfl (st_selT [] h) (fun w_ hS => ov_len _ _ _ _ _ rfl es52) ?_
     refine wa_tk 18 rfl rfl rfl (st_selT [] h) (fun w_ hS => ov_bin _ rfl rfl (binR_sub (r := (((X.length : Nat) : Int)) - 1) (Sx.w64 (by omega)))) ?_
     refine wa_tk 19 rfl rfl rfl (st_selT [] h) (fun w_ hS => ov_move _ rfl) ?_
     refine wa_tk 20 rfl rfl rfl (st_selT [] h) (fun w_ hS => ov_bin _ rfl rfl (binR_sub (r := ((((X.length : Nat) : Int)) - 1) - e1) (Sx.w64 (by omega)))) ?_
     obtain ⟨ad14, rfl⟩ := Sx.C_some ((Sx.ro_C hv h hCX)) (k := (((((X.length : Nat) : Int)) - 1) - e1 : Int).toNat) (by first | assumption | omega)
     refine wa_tk 21 rfl rfl rfl (st_selT [] h) (fun w_ hS => ov_indexAddrN _ _ _ _ _ (((((X.length : Nat) : Int)) - 1) - e1 : Int).toNat rfl rfl es52 (by omega) (by first | assumption | omega | (simp only [List.length_take, List.length_drop, List.length_set]; omega))) ?_
     obtain ⟨cl17, _, hk16, hc15⟩ := Sx.C_cells (hCX) (z := (0 : Int)) (k := (((((X.length : Nat) : Int)) - 1) - e1 : Int).toNat) (by first | assumption | omega)
     obtain rfl : cl17 = [.int .i32 _] := hk16
     refine wa_tk 22 rfl rfl rfl (st_selT [] h) (fun w_ hS => ov_load1 _ _ rfl sh21 (Sx.ro_cell hv hS (hc15 0 _ rfl))) ?_
     refine wa_tk 23 rfl rfl rfl (st_selT [] h) (fun w_ hS => ov_move _ rfl) ?_
     refine wa_tk 24 rfl rfl rfl (st_selT [] h) (fun w_ hS => ov_move _ rfl) ?_
     refine wa_tk 25 rfl rfl rfl (st_selT [] h) (fun w_ hS => ov_len _ _ _ _ _ rfl es52) ?_
     refine wa_tk 26 rfl rfl rfl (st_selT [] h) (fun w_ hS => ov_bin _ rfl rfl (binR_sub (r := (((Y.length : Nat) : Int)) - 1) (Sx.w64 (by omega)))) ?_
     refine wa_tk 27 rfl rfl rfl (st_selT [] h) (fun w_ hS => ov_move _ rfl) ?_
     refine wa_tk 28 rfl rfl rfl (st_selT [] h) (fun w_ hS => ov_bin _ rfl rfl (binR_sub (r := ((((Y.length : Nat) : Int)) - 1) - e1) (Sx.w64 (by omega)))) ?_
     obtain ⟨ad18, rfl⟩ := Sx.C_some ((Sx.ro_C hv h hCY)) (k := (((((Y.length : Nat) : Int)) - 1) - e1 : Int).toNat) (by first | assumption | omega)
     refine wa_tk 29 rfl rfl rfl (st_selT [] h) (fun w_ hS => ov_indexAddrN _ _ _ _ _ (((((Y.length : Nat) : Int)) - 1) - e1 : Int).toNat rfl rfl es52 (by omega) (by first | assumption | omega | (simp only [List.length_take, List.length_drop, List.length_set]; omega))) ?_
     obtain ⟨cl21, _, hk20, hc19⟩ := Sx.C_cells (hCY) (z := (0 : Int)) (k := (((((Y.length : Nat) : Int)) - 1) - e1 : Int).toNat) (by first | assumption | omega)
     obtain rfl : cl21 = [.int .i32 _] := hk20
     refine wa_tk 30 rfl rfl rfl (st_selT [] h) (fun w_ hS => ov_load1 _ _ rfl sh21 (Sx.ro_cell hv hS (hc19 0 _ rfl))) ?_
     refine wa_tk 31 rfl rfl rfl (st_selT [] h) (fun w_ hS => ov_bin _ rfl rfl (binR_eql)) ?_
     refine wa_tk 32 rfl rfl rfl (st_selT [] h) (fun w_ hS => ov_pick_true _ rfl rfl) ?_
     refine wa_done (by kernel_rfl) ?_
     refine qn_then ?_
     refine wc_cond (by rfl) (fun c22 => ?_) (fun c22 => ?_)
     ·
      refine wc_skip ?_
      refine qn_then ?_
      refine wc_block ?_
      refine wc_region ?_
      refine wl_v rfl rfl (ov_move _ rfl) ?_
      refine wl_v rfl rfl (ov_bin _ rfl rfl (binR_add (r := e1 + 1) (Sx.w64 (by omega)))) ?_
      refine wl_v rfl rfl (ov_assign _ rfl) ?_
      refine wl_nil ?_
      refine qn_block_normal ?_
      refine qn_next ((m - 1), (e1 + 1)) (by show (m - 1) < m; omega) ⟨(congrArg (fun z_ => some (Value.slice (some ad14) z_ (cX))) (show (X.length : Nat) = X.length by first | rfl | simp)), (congrArg (fun z_ => some (Value.slice (some ad18) z_ (cY))) (show (Y.length : Nat) = Y.length by first | rfl | simp)), rfl, rfl, rfl, rfl, (congrArg (fun z_ => some (Value.int .i64 z_)) (show (e1 + 1 : Int) = (e1 + 1) by omega)), trivial⟩ ?_
      show (0 ≤ (e1 + 1) ∧ (e1 + 1) ≤ (X.length : Int) - (preV X Y) ∧ (e1 + 1) ≤ (Y.length : Int) - (preV X Y) ∧ (X.length : Int) < (e1 + 1) + (((m - 1) : Nat) : Int) ∧ postN X Y (preV X Y) (m - 1) (e1 + 1) = (postV X Y)) ∧ _
      obtain ⟨m, rfl⟩ : ∃ q_, m = q_ + 1 := ⟨m - 1, by omega⟩
      have hs_ := hJ.2.2.2.2
      simp only [postN] at hs_
      rw [if_pos ⟨by omega, by omega, by assumption⟩] at hs_
      exact ⟨⟨by omega, by omega, by omega, by omega, hs_⟩, h⟩
     ·
      refine wc_exit ?_
      refine qn_then_exit ?_
      refine qn_then_exit ?_
      refine qn_block_exit ?_
      have hs_ : e1 = (postV X Y) := by
        rw [← hJ.2.2.2.2]
        cases m with
        | zero => rfl
        | succ m => simp only [postN]; rw [if_neg (by first | omega | (rintro ⟨_, _, hz_⟩; contradiction))]
      refine qn_joined (()) ⟨(congrArg (fun z_ => some (Value.slice (some ad14) z_ (cX))) (show (X.length : Nat) = X.length by first | rfl | simp)), (congrArg (fun z_ => some (Value.slice (some ad18) z_ (cY))) (show (Y.length : Nat) = Y.length by first | rfl | simp)), rfl, rfl, rfl, rfl, (congrArg (fun z_ => some (Value.int .i64 z_)) (show (e1 : Int) = (postV X Y) by exact hs_)), trivial⟩ ?_
      exact h
    ·
     refine wa_sk 15 rfl rfl rfl (st_selT [] h) ?_
     refine wa_sk 16 rfl rfl rfl (st_selT [] h) ?_
     refine wa_sk 17 rfl rfl rfl (st_selT [] h) ?_
     refine wa_sk 18 rfl rfl rfl (st_selT [] h) ?_
     refine wa_sk 19 rfl rfl rfl (st_selT [] h) ?_
     refine wa_sk 20 rfl rfl rfl (st_selT [] h) ?_
     refine wa_sk 21 rfl rfl rfl (st_selT [] h) ?_
     refine wa_sk 22 rfl rfl rfl (st_selT [] h) ?_
     refine wa_sk 23 rfl rfl rfl (st_selT [] h) ?_
     refine wa_sk 24 rfl rfl rfl (st_selT [] h) ?_
     refine wa_sk 25 rfl rfl rfl (st_selT [] h) ?_
     refine wa_sk 26 rfl rfl rfl (st_selT [] h) ?_
     refine wa_sk 27 rfl rfl rfl (st_selT [] h) ?_
     refine wa_sk 28 rfl rfl rfl (st_selT [] h) ?_
     refine wa_sk 29 rfl rfl rfl (st_selT [] h) ?_
     refine wa_sk 30 rfl rfl rfl (st_selT [] h) ?_
     refine wa_sk 31 rfl rfl rfl (st_selT [] h) ?_
     refine wa_tk 32 rfl rfl rfl (st_selT [] h) (fun w_ hS => ov_pick_false _ rfl rfl) ?_
     refine wa_done (by kernel_rfl) ?_
     refine qn_then ?_
     refine wc_cond_false rfl ?_
     refine wc_exit ?_
     refine qn_then_exit ?_
     refine qn_then_exit ?_
     refine qn_block_exit ?_
     have hs_ : e1 = (postV X Y) := by
       rw [← hJ.2.2.2.2]
       cases m with
       | zero => rfl
       | succ m => simp only [postN]; rw [if_neg (by first | omega | (rintro ⟨_, _, hz_⟩; contradiction))]
     refine qn_joined (()) ⟨rfl, rfl, rfl, rfl, rfl, rfl, (congrArg (fun z_ => some (Value.int .i64 z_)) (show (e1 : Int) = (postV X Y) by exact hs_)), trivial⟩ ?_
     exact h
   ·
    refine wa_sk 7 rfl rfl rfl (st_selT [] h) ?_
    refine wa_sk 8 rfl rfl rfl (st_selT [] h) ?_
    refine wa_sk 9 rfl rfl rfl (st_selT [] h) ?_
    refine wa_sk 10 rfl rfl rfl (st_selT [] h) ?_
    refine wa_sk 11 rfl rfl rfl (st_selT [] h) ?_
    refine wa_sk 12 rfl rfl rfl (st_selT [] h) ?_
    refine wa_tk 13 rfl rfl rfl (st_selT [] h) (fun w_ hS => ov_pick_false _ rfl rfl) ?_
    refine wa_tk 14 rfl rfl rfl (st_selT [] h) (fun w_ hS => ov_move _ rfl) ?_
    refine wa_sk 15 rfl rfl rfl (st_selT [] h) ?_
    refine wa_sk 16 rfl rfl rfl (st_selT [] h) ?_
    refine wa_sk 17 rfl rfl rfl (st_selT [] h) ?_
    refine wa_sk 18 rfl rfl rfl (st_selT [] h) ?_
    refine wa_sk 19 rfl rfl rfl (st_selT [] h) ?_
    refine wa_sk 20 rfl rfl rfl (st_selT [] h) ?_
    refine wa_sk 21 rfl rfl rfl (st_selT [] h) ?_
    refine wa_sk 22 rfl rfl rfl (st_selT [] h) ?_
    refine wa_sk 23 rfl rfl rfl (st_selT [] h) ?_
    refine wa_sk 24 rfl rfl rfl (st_selT [] h) ?_
    refine wa_sk 25 rfl rfl rfl (st_selT [] h) ?_
    refine wa_sk 26 rfl rfl rfl (st_selT [] h) ?_
    refine wa_sk 27 rfl rfl rfl (st_selT [] h) ?_
    refine wa_sk 28 rfl rfl rfl (st_selT [] h) ?_
    refine wa_sk 29 rfl rfl rfl (st_selT [] h) ?_
    refine wa_sk 30 rfl rfl rfl (st_selT [] h) ?_
    refine wa_sk 31 rfl rfl rfl (st_selT [] h) ?_
    refine wa_tk 32 rfl rfl rfl (st_selT [] h) (fun w_ hS => ov_pick_false _ rfl rfl) ?_
    refine wa_done (by kernel_rfl) ?_
    refine qn_then ?_
    refine wc_cond_false rfl ?_
    refine wc_exit ?_
    refine qn_then_exit ?_
    refine qn_then_exit ?_
    refine qn_block_exit ?_
    have hs_ : e1 = (postV X Y) := by
      rw [← hJ.2.2.2.2]
      cases m with
      | zero => rfl
      | succ m => simp only [postN]; rw [if_neg (by first | omega | (rintro ⟨_, _, hz_⟩; contradiction))]
    refine qn_joined (()) ⟨rfl, rfl, rfl, rfl, rfl, rfl, (congrArg (fun z_ => some (Value.int .i64 z_)) (show (e1 : Int) = (postV X Y) by exact hs_)), trivial⟩ ?_
    exact h
  ·
   intro u_ w h
   replace h : Sx.St w0 F0 ([] ++ R) w := h
   show Sx.QN _ _ _ [(0, .slice (AX) (X.length) (cX)), (1, .slice (AY) (Y.length) (cY)), (2, .slice (Aa) (ax.length) (ca)), (3, .slice (Ab) (bys.length) (cb)), (4, .string (b)), (11, .int .i64 ((preV X Y))), (12, .int .i64 ((postV X Y)))] _
   refine qn_then ?_
   refine wc_seq ?_
   refine wc_draw (fun w => Sx.St w0 F0 ([] ++ R) w) (by kernel_rfl) ?_
   replace h := st_drew h
   refine wa_tk 0 rfl rfl rfl (st_selT [] h) (fun w_ hS => ov_move _ rfl) ?_
   refine wa_tk 1 rfl rfl rfl (st_selT [] h) (fun w_ hS => ov_move _ rfl) ?_
   refine wa_tk 2 rfl rfl rfl (st_selT [] h) (fun w_ hS => ov_move _ rfl) ?_
   refine wa_tk 3 rfl rfl rfl (st_selT [] h) (fun w_ hS => ov_len _ _ _ _ _ rfl es52) ?_
   refine wa_tk 4 rfl rfl rfl (st_selT [] h) (fun w_ hS => ov_move _ rfl) ?_
   refine wa_tk 5 rfl rfl rfl (st_selT [] h) (fun w_ hS => ov_bin _ rfl rfl (binR_sub (r := (((X.length : Nat) : Int)) - ((postV X Y))) (Sx.w64 (by omega)))) ?_
   have hcap23 := hlX
   obtain ⟨A24, hA25⟩ : ∃ A_, (if cX = (((preV X Y) : Int).toNat) then AX else Option.map (·.add ((((preV X Y) : Int).toNat) * 1)) (AX)) = A_ := ⟨_, rfl⟩
   refine wa_tk 6 rfl rfl rfl (st_selT [] h) (fun w_ hS => by exact ov_slice _ _ _ (((preV X Y) : Int).toNat) (((((X.length : Nat) : Int)) - ((postV X Y)) : Int).toNat) (by rfl) (by exact ⟨_, _, rfl, (by omega)⟩) (by exact ⟨_, _, rfl, (by omega)⟩) es52 (by omega) (by omega) hA25 (n' := (((X).take (((((X.length : Nat) : Int)) - ((postV X Y)) : Int).toNat)).drop (((preV X Y) : Int).toNat)).length) (by simp only [List.length_drop, List.length_take]; omega)) ?_
   refine wa_tk 7 rfl rfl rfl (st_selT [] h) (fun w_ hS => ov_move _ rfl) ?_
   refine wa_tk 8 rfl rfl rfl (st_selT [] h) (fun w_ hS => ov_move _ rfl) ?_
   refine wa_tk 9 rfl rfl rfl (st_selT [] h) (fun w_ hS => ov_move _ rfl) ?_
   refine wa_tk 10 rfl rfl rfl (st_selT [] h) (fun w_ hS => ov_len _ _ _ _ _ rfl es52) ?_
   refine wa_tk 11 rfl rfl rfl (st_selT [] h) (fun w_ hS => ov_move _ rfl) ?_
   refine wa_tk 12 rfl rfl rfl (st_selT [] h) (fun w_ hS => ov_bin _ rfl rfl (binR_sub (r := (((Y.length : Nat) : Int)) - ((postV X Y))) (Sx.w64 (by omega)))) ?_
   have hcap26 := hlY
   obtain ⟨A27, hA28⟩ : ∃ A_, (if cY = (((preV X Y) : Int).toNat) then AY else Option.map (·.add ((((preV X Y) : Int).toNat) * 1)) (AY)) = A_ := ⟨_, rfl⟩
   refine wa_tk 13 rfl rfl rfl (st_selT [] h) (fun w_ hS => by exact ov_slice _ _ _ (((preV X Y) : Int).toNat) (((((Y.length : Nat) : Int)) - ((postV X Y)) : Int).toNat) (by rfl) (by exact ⟨_, _, rfl, (by omega)⟩) (by exact ⟨_, _, rfl, (by omega)⟩) es52 (by omega) (by omega) hA28 (n' := (((Y).take (((((Y.length : Nat) : Int)) - ((postV X Y)) : Int).toNat)).drop (((preV X Y) : Int).toNat)).length) (by simp only [List.length_drop, List.length_take]; omega)) ?_
   refine wa_tk 14 rfl rfl rfl (st_selT [] h) (fun w_ hS => ov_build [(0, .slice (A24) ((((X).take (((((X.length : Nat) : Int)) - ((postV X Y)) : Int).toNat)).drop (((preV X Y) : Int).toNat)).length) (cX - (((preV X Y) : Int).toNat))), (1, .slice (A27) ((((Y).take (((((Y.length : Nat) : Int)) - ((postV X Y)) : Int).toNat)).drop (((preV X Y) : Int).toNat)).length) (cY - (((preV X Y) : Int).toNat)))] [.slice (A24) ((((X).take (((((X.length : Nat) : Int)) - ((postV X Y)) : Int).toNat)).drop (((preV X Y) : Int).toNat)).length) (cX - (((preV X Y) : Int).toNat)), .slice (A27) ((((Y).take (((((Y.length : Nat) : Int)) - ((postV X Y)) : Int).toNat)).drop (((preV X Y) : Int).toNat)).length) (cY - (((preV X Y) : Int).toNat)), .slice (none) (0) (0)] rfl rfl (by kernel_rfl)) ?_
   refine wa_one 15 rfl (by kernel_rfl) ?_
   refine wl_box _ h rfl rfl rfl (fun b29 _ h => ?_)
   replace h : Sx.St _ _ (Sx.blk b29 [.slice (A24) ((((X).take (((((X.length : Nat) : Int)) - ((postV X Y)) : Int).toNat)).drop (((preV X Y) : Int).toNat)).length) (cX - (((preV X Y) : Int).toNat)), .slice (A27) ((((Y).take (((((Y.length : Nat) : Int)) - ((postV X Y)) : Int).toNat)).drop (((preV X Y) : Int).toNat)).length) (cY - (((preV X Y) : Int).toNat)), .slice (none) (0) (0)] 64 :: _) _ := h
   refine wl_nil ?_
   refine qn_wa (st_selT [false] h) ?_
   refine wa_tk 16 rfl rfl rfl (st_selT [false] h) (fun w_ hS => ov_assign _ rfl) ?_
   refine wa_done (by kernel_rfl) ?_
   refine qn_then ?_
   refine wc_seq ?_
   refine wc_region ?_
   refine wl_v rfl rfl (ov_assign _ rfl) ?_
   refine wl_nil ?_
   refine qn_then ?_
   refine wc_seq ?_
   refine wc_seq ?_
   refine wc_region ?_
   refine wl_v rfl rfl (ov_move _ rfl) ?_
   have hCA_ : (Kd.int .i32).C v0 (A24) (midX X Y).length (midX X Y) := (Sx.mid_C (lo := (((preV X Y) : Int).toNat)) (hi := (((((X.length : Nat) : Int)) - ((postV X Y)) : Int).toNat)) (by omega) (by omega) hcap23 hA25 hCX)
   have hCB_ : (Kd.int .i32).C v0 (A27) (midY X Y).length (midY X Y) := (Sx.mid_C (lo := (((preV X Y) : Int).toNat)) (hi := (((((Y.length : Nat) : Int)) - ((postV X Y)) : Int).toNat)) (by omega) (by omega) hcap26 hA28 hCY)
   have hlA_ : (midX X Y).length ≤ cX - (((preV X Y) : Int).toNat) := by unfold midX; exact (by simp only [List.length_drop, List.length_take]; omega)
   have hlB_ : (midY X Y).length ≤ cY - (((preV X Y) : Int).toNat) := by unfold midY; exact (by simp only [List.length_drop, List.length_take]; omega)
   have hmA_ : (midX X Y).length ≤ X.length := by unfold midX; simp only [List.length_drop, List.length_take]; omega
   have hmB_ : (midY X Y).length ≤ Y.length := by unfold midY; simp only [List.length_drop, List.length_take]; omega
   replace h : Sx.St w0 F0 ([Sx.blk b29 [.slice (A24) (midX X Y).length (cX - (((preV X Y) : Int).toNat)), .slice (A27) (midY X Y).length (cY - (((preV X Y) : Int).toNat)), .slice none 0 0] 64] ++ ([] ++ R)) _ := h
   refine wl_call _ rfl rfl rfl ent37 (T.run_calls (R := [] ++ R) b29 (midX X Y) (A24) (cX - (((preV X Y) : Int).toNat)) (midY X Y) (A27) (cY - (((preV X Y) : Int).toNat)) 1024 hv hlA_ hlB_ hCA_ hCB_ (by omega) (by omega) (by omega) (by omega) h) ?_
   rintro e_ w_ ⟨D, ok, Fs, Af, cf, rfl, hrp_, h⟩
   refine ⟨_, rfl, ?_⟩
   replace h : Sx.St w0 F0 ([Sx.blk b29 [.slice (A24) ((midX X Y).length) (cX - (((preV X Y) : Int).toNat)), .slice (A27) ((midY X Y).length) (cY - (((preV X Y) : Int).toNat)), .slice (Af) (Fs.length) (cf)] 64, Sx.row Far.kF 49 (Af) (cf) (Fs), Far.lib (Far.AllF Fs)] ++ R) _ := h
   refine wl_v rfl rfl (ov_move _ rfl) ?_
   refine wl_v rfl rfl (ov_extract [.int .i64 (((D : Nat) : Int)), .bool (ok)] _ rfl rfl) ?_
   refine wl_v rfl rfl (ov_extract [.int .i64 (((D : Nat) : Int)), .bool (ok)] _ rfl rfl) ?_
   refine wl_v rfl rfl (ov_assign _ rfl) ?_
   refine wl_v rfl rfl (ov_assign _ rfl) ?_
   refine wl_nil ?_
   refine qn_then ?_
   refine wc_seq ?_
   refine wc_region ?_
   refine wl_v rfl rfl (ov_move _ rfl) ?_
   refine wl_nil ?_
   refine qn_then ?_
   refine wc_condb (by rfl) (fun c30 => ?_) (fun c30 => ?_)
   ·
    refine wc_region ?_
    refine wl_v rfl rfl (ov_move _ rfl) ?_
    refine wl_v rfl rfl (ov_move _ rfl) ?_
    replace h := st_front 2 h
    replace h := st_front 2 h
    replace h := st_front 2 h
    have hok_ : ok = true := by assumption
    rw [hok_] at hrp_
    obtain ⟨hpp_, hfd_, hD_, p_, hFD_⟩ := pairs_run hrp_
    refine wl_call _ rfl rfl rfl ent38 (T.kept_calls (R := [] ++ R) b29 (midX X Y) (A24) (cX - (((preV X Y) : Int).toNat)) (midY X Y) (A27) (cY - (((preV X Y) : Int).toNat)) Af cf Fs D (Fs.map (·.1)) p_ hv hlA_ hlB_ hCA_ hCB_ (by omega) (by omega) hFD_ rfl (by omega) hfd_ h) ?_
    rintro e_ w_ ⟨Ao, co, rfl, h⟩
    refine ⟨_, rfl, ?_⟩
    rw [hpp_] at h ⊢
    replace h : Sx.St w0 F0 ([Sx.blk b29 [.slice (A24) ((midX X Y).length) (cX - (((preV X Y) : Int).toNat)), .slice (A27) ((midY X Y).length) (cY - (((preV X Y) : Int).toNat)), .slice (Af) (Fs.length) (cf)] 64, Sx.row Far.kF 49 (Af) (cf) (Fs), Far.lib (Far.AllF Fs), Sx.row (Kd.pair (Kd.int .i64) (Kd.int .i64)) 69 (Ao) (co) ((pairsV (midX X Y) (midY X Y)))] ++ R) _ := h
    refine wl_v rfl rfl (ov_assign _ rfl) ?_
    refine wl_nil ?_
    refine qn_then ?_
    refine wc_seq ?_
    refine wc_draw (fun w => Sx.St w0 F0 ([Sx.blk b29 [.slice (A24) ((midX X Y).length) (cX - (((preV X Y) : Int).toNat)), .slice (A27) ((midY X Y).length) (cY - (((preV X Y) : Int).toNat)), .slice (Af) (Fs.length) (cf)] 64, Sx.row Far.kF 49 (Af) (cf) (Fs), Far.lib (Far.AllF Fs)] ++ R) w) (by kernel_rfl) ?_
    replace h := st_drew h
    refine wa_tk 0 rfl rfl rfl (st_selT [true, true, true, false] h) (fun w_ hS => ov_move _ rfl) ?_
    refine wa_tk 1 rfl rfl rfl (st_selT [true, true, true, false] h) (fun w_ hS => ov_move _ rfl) ?_
    refine wa_tk 2 rfl rfl rfl (st_selT [true, true, true, false] h) (fun w_ hS => ov_nilCheck _ rfl) ?_
    refine wa_tk 3 rfl rfl rfl (st_selT [true, true, true, false] h) (fun w_ hS => ov_fieldAddr _ ⟨b29, 0, none⟩ _ rfl fo64_0 rfl) ?_
    refine wa_tk 4 rfl rfl rfl (st_selT [true, true, true, false] h) (fun w_ hS => ov_loadb 0 _ hS rfl rfl sh52 rfl) ?_
    refine wa_tk 5 rfl rfl rfl (st_selT [true, true, true, false] h) (fun w_ hS => ov_len _ _ _ _ _ rfl es52) ?_
    refine wa_tk 6 rfl rfl rfl (st_selT [true, true, true, false] h) (fun w_ hS => ov_move _ rfl) ?_
    refine wa_tk 7 rfl rfl rfl (st_selT [true, true, true, false] h) (fun w_ hS => ov_nilCheck _ rfl) ?_
    refine wa_tk 8 rfl rfl rfl (st_selT [true, true, true, false] h) (fun w_ hS => ov_fieldAddr _ ⟨b29, 1, none⟩ _ rfl fo64_1 rfl) ?_
    refine wa_tk 9 rfl rfl rfl (st_selT [true, true, true, false] h) (fun w_ hS => ov_loadb 0 _ hS rfl rfl sh52 rfl) ?_
    refine wa_tk 10 rfl rfl rfl (st_selT [true, true, true, false] h) (fun w_ hS => ov_len _ _ _ _ _ rfl es52) ?_
    refine wa_tk 11 rfl rfl rfl (st_selT [true, true, true, false] h) (fun w_ hS => ov_build [(0, .int .i64 ((((midX X Y).length : Nat) : Int))), (1, .int .i64 ((((midY X Y).length : Nat) : Int)))] [.int .i64 ((((midX X Y).length : Nat) : Int)), .int .i64 ((((midY X Y).length : Nat) : Int))] rfl rfl (by kernel_rfl)) ?_
    refine wa_one 12 rfl (by kernel_rfl) ?_
    refine wl_lit (d := (Kd.pair (Kd.int .i64) (Kd.int .i64))) [(0, .agg #[.int .i64 ((((midX X Y).length : Nat) : Int)), .int .i64 ((((midY X Y).length : Nat) : Int))])] _ [.int .i64 ((((midX X Y).length : Nat) : Int)), .int .i64 ((((midY X Y).length : Nat) : Int))] ([(((((midX X Y).length : Nat) : Int), (((midY X Y).length : Nat) : Int)) : Int × Int)]) h rfl rfl rfl rfl Try.underlying65 infb69 rfl (by decide) (by kernel_rfl) rfl (fun _ _ _ => ((Reps.none _ _).snoc ((fun p_ => (⟨[.int .i64 p_.1], [.int .i64 p_.2], rfl, rfl, rfl⟩ : (Kd.pair (Kd.int .i64) (Kd.int .i64)).M _ _ _ p_ [.int .i64 p_.1, .int .i64 p_.2])) ((((((midX X Y).length : Nat) : Int), (((midY X Y).length : Nat) : Int)) : Int × Int))) rfl)) (fun A31 cp32 _ h => ?_)
    refine wl_nil ?_
    refine qn_wa (st_selT [false, true, true, true, false] h) ?_
    refine wa_one 13 rfl (by kernel_rfl) ?_
    refine wl_append (d := (Kd.pair (Kd.int .i64) (Kd.int .i64))) (L := (pairsV (midX X Y) (midY X Y))) 4 _ 16 _ _ _ ([(((((midX X Y).length : Nat) : Int), (((midY X Y).length : Nat) : Int)) : Int × Int)]) (Sx.flat_pair (Sx.flat_int _) (Sx.flat_int _)) h rfl rfl rfl rfl rfl ((Sx.row_reads h (i := 0) rfl).2) Try.underlying65 inf69 rfl (by decide) (by decide) (by first | omega | (simp only [List.length_cons, List.length_nil, List.length_append]; omega)) (by first | rfl | simp) (fun A33 cp34 _ h => ?_)
    replace h := st_selT [false, true, true, true, true] h
    refine wl_nil ?_
    refine qn_wa (st_selT [true, true, true, false] h) ?_
    refine wa_tk 14 rfl rfl rfl (st_selT [true, true, true, false] h) (fun w_ hS => ov_assign _ rfl) ?_
    refine wa_done (by kernel_rfl) ?_
    refine qn_then ?_
    refine wc_seq ?_
    refine wc_region ?_
    refine wl_v rfl rfl (ov_assign _ rfl) ?_
    refine wl_nil ?_
    refine qn_then ?_
    refine wc_seq ?_
    refine wc_region ?_
    refine wl_v rfl rfl (ov_assign _ rfl) ?_
    refine wl_v rfl rfl (ov_assign _ rfl) ?_
    refine wl_nil ?_
    refine qn_then ?_
    refine wc_seq ?_
    refine wc_seq ?_
    refine wc_region ?_
    refine wl_v rfl rfl (ov_move _ rfl) ?_
    refine wl_v rfl rfl (ov_len _ _ _ _ _ rfl es65) ?_
    refine wl_v rfl rfl (ov_move _ rfl) ?_
    refine wl_nil ?_
    refine qn_then ?_
    refine wc_block ?_
    have e_ : ((pairsV (midX X Y) (midY X Y))) ++ ([(((((midX X Y).length : Nat) : Int), (((midY X Y).length : Nat) : Int)) : Int × Int)]) = (pairsV (midX X Y) (midY X Y) ++ [(((midX X Y).length : Int), ((midY X Y).length : Int))]) := by rfl
    replace h := st_cast (congrArg (fun z_ => ([Sx.blk b29 [.slice (A24) ((midX X Y).length) (cX - (((preV X Y) : Int).toNat)), .slice (A27) ((midY X Y).length) (cY - (((preV X Y) : Int).toNat)), .slice (Af) (Fs.length) (cf)] 64, Sx.row Far.kF 49 (Af) (cf) (Fs), Far.lib (Far.AllF Fs), Sx.row (Kd.pair (Kd.int .i64) (Kd.int .i64)) 69 (A33) (cp34) (z_)] ++ R)) e_) h
    clear e_
    have hch_ := pairs_chain (midX X Y) (midY X Y)
    replace h := st_nilrow k33 33 h
    replace h := st_front 4 h
    replace h := st_selT [true, true, false, false, false] h
    refine wc_loop (fun (x_ : Nat × Int × Int × (Option Addr) × (Option Addr) × Nat × (List Edit)) => [(2, .slice (Aa) (ax.length) (ca)), (3, .slice (Ab) (bys.length) (cb)), (4, .string (b)), (11, .int .i64 ((preV X Y))), (17, .slice (x_.2.2.2.2.1) ((x_.2.2.2.2.2.2).length) (x_.2.2.2.2.2.1)), (18, .int .i64 (x_.2.1)), (19, .int .i64 (x_.2.2.1)), (119, .slice (x_.2.2.2.1) ((pairsV (midX X Y) (midY X Y) ++ [(((midX X Y).length : Int), ((midY X Y).length : Int))]).length) (cp34)), (120, .int .i64 ((((pairsV (midX X Y) (midY X Y) ++ [(((midX X Y).length : Int), ((midY X Y).length : Int))]).length : Nat) : Int))), (121, .int .i64 (((x_.1 : Nat) : Int)))]) (fun (x_ : Nat × Int × Int × (Option Addr) × (Option Addr) × Nat × (List Edit)) (w : World) => (x_.1 ≤ (pairsV (midX X Y) (midY X Y) ++ [(((midX X Y).length : Int), ((midY X Y).length : Int))]).length ∧ Chain (midX X Y).length (midY X Y).length x_.2.1 x_.2.2.1 ((pairsV (midX X Y) (midY X Y) ++ [(((midX X Y).length : Int), ((midY X Y).length : Int))]).drop x_.1) ∧ x_.2.2.2.2.2.2 ++ (editsV ax bys b (preV X Y) ((pairsV (midX X Y) (midY X Y) ++ [(((midX X Y).length : Int), ((midY X Y).length : Int))]).drop x_.1) x_.2.1 x_.2.2.1) = betweenV X Y ax bys b ∧ 0 ≤ x_.2.1 ∧ 0 ≤ x_.2.2.1 ∧ (x_.2.2.2.2.2.2).length ≤ x_.1) ∧ Sx.St w0 F0 ([Sx.row (Kd.pair (Kd.int .i64) (Kd.int .i64)) 69 (x_.2.2.2.1) (cp34) ((pairsV (midX X Y) (midY X Y) ++ [(((midX X Y).length : Int), ((midY X Y).length : Int))])), Sx.row k33 33 (x_.2.2.2.2.1) (x_.2.2.2.2.2.1) (x_.2.2.2.2.2.2)] ++ R) w) (fun (x_ : Nat × Int × Int × (Option Addr) × (Option Addr) × Nat × (List Edit)) => (pairsV (midX X Y) (midY X Y) ++ [(((midX X Y).length : Int), ((midY X Y).length : Int))]).length - x_.1) (0, 0, 0, A33, none, 0, []) ?_ ?_ ?_
    · exact ⟨rfl, rfl, rfl, rfl, (congrArg (fun z_ => some (Value.slice (none) z_ (0))) (show (0 : Nat) = ([]).length by first | rfl | simp)), rfl, rfl, (congrArg (fun z_ => some (Value.slice (A33) z_ (cp34))) (by rfl)), (congrArg (fun z_ => some (Value.int .i64 z_)) (show ((((((pairsV (midX X Y) (midY X Y))) ++ ([(((((midX X Y).length : Nat) : Int), (((midY X Y).length : Nat) : Int)) : Int × Int)])).length : Nat) : Int) : Int) = (((pairsV (midX X Y) (midY X Y) ++ [(((midX X Y).length : Int), ((midY X Y).length : Int))]).length : Nat) : Int) by rfl)), (congrArg (fun z_ => some (Value.int .i64 z_)) (show (0 : Int) = ((0 : Nat) : Int) by omega)), trivial⟩
    · exact ⟨⟨Nat.zero_le _, hch_, rfl, Int.le_refl _, Int.le_refl _, Nat.le_refl _⟩, h⟩
    rintro ⟨q, i, j, Ap, Ae, ce, L⟩ w h
    obtain ⟨hJ, h⟩ := h
    replace hJ : q ≤ (pairsV (midX X Y) (midY X Y) ++ [(((midX X Y).length : Int), ((midY X Y).length : Int))]).length ∧ Chain (midX X Y).length (midY X Y).length i j ((pairsV (midX X Y) (midY X Y) ++ [(((midX X Y).length : Int), ((midY X Y).length : Int))]).drop q) ∧ L ++ (editsV ax bys b (preV X Y) ((pairsV (midX X Y) (midY X Y) ++ [(((midX X Y).length : Int), ((midY X Y).length : Int))]).drop q) i j) = betweenV X Y ax bys b ∧ 0 ≤ i ∧ 0 ≤ j ∧ (L).length ≤ q := hJ
    replace h : Sx.St w0 F0 ([Sx.row (Kd.pair (Kd.int .i64) (Kd.int .i64)) 69 (Ap) (cp34) ((pairsV (midX X Y) (midY X Y) ++ [(((midX X Y).length : Int), ((midY X Y).length : Int))])), Sx.row k33 33 (Ae) (ce) (L)] ++ R) w := h
    show Sx.WC _ _ _ _ [(2, .slice (Aa) (ax.length) (ca)), (3, .slice (Ab) (bys.length) (cb)), (4, .string (b)), (11, .int .i64 ((preV X Y))), (17, .slice (Ae) ((L).length) (ce)), (18, .int .i64 (i)), (19, .int .i64 (j)), (119, .slice (Ap) ((pairsV (midX X Y) (midY X Y) ++ [(((midX X Y).length : Int), ((midY X Y).length : Int))]).length) (cp34)), (120, .int .i64 ((((pairsV (midX X Y) (midY X Y) ++ [(((midX X Y).length : Int), ((midY X Y).length : Int))]).length : Nat) : Int))), (121, .int .i64 (((q : Nat) : Int)))] _
    refine wc_seq ?_
    refine wc_region ?_
    refine wl_v rfl rfl (ov_bin _ rfl rfl (binR_lss)) ?_
    refine wl_nil ?_
    refine qn_then ?_
    refine wc_seq ?_
    refine wc_cond (by rfl) (fun c35 => ?_) (fun c35 => ?_)
    ·
     have hq0_ : (pairsV (midX X Y) (midY X Y) ++ [(((midX X Y).length : Int), ((midY X Y).length : Int))]).drop q = (pairsV (midX X Y) (midY X Y) ++ [(((midX X Y).length : Int), ((midY X Y).length : Int))]).getD q ((0, 0) : Int × Int) :: (pairsV (midX X Y) (midY X Y) ++ [(((midX X Y).length : Int), ((midY X Y).length : Int))]).drop (q + 1) := by rw [List.drop_eq_getElem_cons (by omega), List.getD_eq_getElem?_getD, List.getElem?_eq_getElem (by omega)]; rfl
     have hc0_ := hJ.2.1
     rw [hq0_] at hc0_
     obtain ⟨hc1_, hc2_, hc3_, hc4_, _⟩ := hc0_
     refine wc_skip ?_
     refine qn_then ?_
     refine wc_seq ?_
     refine wc_block ?_
     refine wc_seq ?_
     refine wc_region ?_
     obtain ⟨ad36, rfl⟩ := Sx.C_some ((Sx.row_reads h (i := 0) rfl).2) (k := (q : Nat)) (by first | assumption | omega)
     refine wl_v rfl rfl (ov_indexAddrN _ _ _ _ _ (q : Nat) rfl rfl es65 rfl (by first | assumption | omega | (simp only [List.length_take, List.length_drop, List.length_set]; omega))) ?_
     obtain ⟨cl39, _, hk38, hc37⟩ := Sx.C_cells ((Sx.row_reads h (i := 0) rfl).2) (z := ((0, 0) : Int × Int)) (k := (q : Nat)) (by first | assumption | omega)
     obtain ⟨_, _, rfl, rfl, rfl⟩ := hk38
     refine wl_v rfl rfl (ov_loadN _ [.int .i64 ((((pairsV (midX X Y) (midY X Y) ++ [(((midX X Y).length : Int), ((midY X Y).length : Int))])).getD (q : Nat) ((0, 0) : Int × Int)).1), .int .i64 ((((pairsV (midX X Y) (midY X Y) ++ [(((midX X Y).length : Int), ((midY X Y).length : Int))])).getD (q : Nat) ((0, 0) : Int × Int)).2)] rfl sh69 (by intro j u hu; rw [Deep.add_add]; exact (hc37 _ _ hu))) ?_
     refine wl_alloc _ h rfl rfl zo69 (fun b40 _ h => ?_)
     replace h : Sx.St _ _ (Sx.blk b40 [.int .i64 (0), .int .i64 (0)] 69 :: _) _ := h
     refine wl_storebN 0 [.int .i64 ((((pairsV (midX X Y) (midY X Y) ++ [(((midX X Y).length : Int), ((midY X Y).length : Int))])).getD (q : Nat) ((0, 0) : Int × Int)).1), .int .i64 ((((pairsV (midX X Y) (midY X Y) ++ [(((midX X Y).length : Int), ((midY X Y).length : Int))])).getD (q : Nat) ((0, 0) : Int × Int)).2)] [.int .i64 ((((pairsV (midX X Y) (midY X Y) ++ [(((midX X Y).length : Int), ((midY X Y).length : Int))])).getD (q : Nat) ((0, 0) : Int × Int)).1), .int .i64 ((((pairsV (midX X Y) (midY X Y) ++ [(((midX X Y).length : Int), ((midY X Y).length : Int))])).getD (q : Nat) ((0, 0) : Int × Int)).2)] h rfl rfl rfl rfl (by simp [Value.oneCell']) sh69 rfl rfl (fun _ h => ?_)
     refine wl_nil ?_
     refine qn_then ?_
     refine wc_seq ?_
     refine wc_seq ?_
     refine wc_region ?_
     refine wl_v rfl rfl (ov_indexAddrA ⟨b40, 0, none⟩ 0 ⟨b40, 0, none⟩ rfl rfl ar69 (by decide) rfl) ?_
     refine wl_v rfl rfl (ov_loadb 0 _ h rfl rfl sh3 rfl) ?_
     refine wl_v rfl rfl (ov_move _ rfl) ?_
     refine wl_v rfl rfl (ov_bin _ rfl rfl (binR_gtr)) ?_
     refine wl_v rfl rfl (ov_move _ rfl) ?_
     refine wl_split 129 rfl (fun c41 => ?_) (fun c41 => ?_)
     ·
      have hq0_ : (pairsV (midX X Y) (midY X Y) ++ [(((midX X Y).length : Int), ((midY X Y).length : Int))]).drop q = (pairsV (midX X Y) (midY X Y) ++ [(((midX X Y).length : Int), ((midY X Y).length : Int))]).getD q ((0, 0) : Int × Int) :: (pairsV (midX X Y) (midY X Y) ++ [(((midX X Y).length : Int), ((midY X Y).length : Int))]).drop (q + 1) := by rw [List.drop_eq_getElem_cons (by omega), List.getD_eq_getElem?_getD, List.getElem?_eq_getElem (by omega)]; rfl
      have hc0_ := hJ.2.1
      rw [hq0_] at hc0_
      obtain ⟨hc1_, hc2_, hc3_, hc4_, _⟩ := hc0_
      refine wl_skip rfl rfl ?_
      refine wl_skip rfl rfl ?_
      refine wl_skip rfl rfl ?_
      refine wl_skip rfl rfl ?_
      refine wl_v rfl rfl (ov_pick_true _ rfl rfl) ?_
      refine wl_nil ?_
      refine qn_then ?_
      refine wc_cond_true rfl ?_
      have hbo_ := hbo ((preV X Y) + j).toNat ((preV X Y) + ((pairsV (midX X Y) (midY X Y) ++ [(((midX X Y).length : Int), ((midY X Y).length : Int))]).getD q ((0, 0) : Int × Int)).2).toNat (by omega) (by omega)
      refine wc_draw (fun w => Sx.St w0 F0 ([Sx.blk b40 [.int .i64 ((((pairsV (midX X Y) (midY X Y) ++ [(((midX X Y).length : Int), ((midY X Y).length : Int))])).getD (q : Nat) ((0, 0) : Int × Int)).1), .int .i64 ((((pairsV (midX X Y) (midY X Y) ++ [(((midX X Y).length : Int), ((midY X Y).length : Int))])).getD (q : Nat) ((0, 0) : Int × Int)).2)] 69, Sx.row (Kd.pair (Kd.int .i64) (Kd.int .i64)) 69 (some ad36) (cp34) ((pairsV (midX X Y) (midY X Y) ++ [(((midX X Y).length : Int), ((midY X Y).length : Int))]))] ++ R) w) (by kernel_rfl) ?_
      replace h := st_drew h
      refine wa_tk 0 rfl rfl rfl (st_selT [true, true, false] h) (fun w_ hS => ov_move _ rfl) ?_
      refine wa_tk 1 rfl rfl rfl (st_selT [true, true, false] h) (fun w_ hS => ov_move _ rfl) ?_
      refine wa_tk 2 rfl rfl rfl (st_selT [true, true, false] h) (fun w_ hS => ov_move _ rfl) ?_
      refine wa_tk 3 rfl rfl rfl (st_selT [true, true, false] h) (fun w_ hS => ov_move _ rfl) ?_
      refine wa_tk 4 rfl rfl rfl (st_selT [true, true, false] h) (fun w_ hS => ov_bin _ rfl rfl (binR_add (r := ((preV X Y)) + i) (Sx.w64 (by omega)))) ?_
      obtain ⟨ad42, rfl⟩ := Sx.C_some ((Sx.ro_C hv h hCa)) (k := (((preV X Y)) + i : Int).toNat) (by first | assumption | omega)
      refine wa_tk 5 rfl rfl rfl (st_selT [true, true, false] h) (fun w_ hS => ov_indexAddrN _ _ _ _ _ (((preV X Y)) + i : Int).toNat rfl rfl es49 (by omega) (by first | assumption | omega | (simp only [List.length_take, List.length_drop, List.length_set]; omega))) ?_
      obtain ⟨cl45, _, hk44, hc43⟩ := Sx.C_cells (hCa) (z := (0 : Int)) (k := (((preV X Y)) + i : Int).toNat) (by first | assumption | omega)
      obtain rfl : cl45 = [.int .i64 _] := hk44
      refine wa_tk 6 rfl rfl rfl (st_selT [true, true, false] h) (fun w_ hS => ov_load1 _ _ rfl sh3 (Sx.ro_cell hv hS (hc43 0 _ rfl))) ?_
      refine wa_tk 7 rfl rfl rfl (st_selT [true, true, false] h) (fun w_ hS => ov_move _ rfl) ?_
      refine wa_tk 8 rfl rfl rfl (st_selT [true, true, false] h) (fun w_ hS => ov_move _ rfl) ?_
      refine wa_tk 9 rfl rfl rfl (st_selT [true, true, false] h) (fun w_ hS => ov_indexAddrA ⟨b40, 0, none⟩ 0 ⟨b40, 0, none⟩ rfl rfl ar69 (by decide) rfl) ?_
      refine wa_tk 10 rfl rfl rfl (st_selT [true, true, false] h) (fun w_ hS => ov_loadb 0 _ hS rfl rfl sh3 rfl) ?_
      refine wa_tk 11 rfl rfl rfl (st_selT [true, true, false] h) (fun w_ hS => ov_bin _ rfl rfl (binR_add (r := ((preV X Y)) + ((((pairsV (midX X Y) (midY X Y) ++ [(((midX X Y).length : Int), ((midY X Y).length : Int))])).getD (q : Nat) ((0, 0) : Int × Int)).1)) (Sx.w64 (by omega)))) ?_
      refine wa_tk 12 rfl rfl rfl (st_selT [true, true, false] h) (fun w_ hS => ov_indexAddrN _ _ _ _ _ (((preV X Y)) + ((((pairsV (midX X Y) (midY X Y) ++ [(((midX X Y).length : Int), ((midY X Y).length : Int))])).getD (q : Nat) ((0, 0) : Int × Int)).1) : Int).toNat rfl rfl es49 (by omega) (by first | assumption | omega | (simp only [List.length_take, List.length_drop, List.length_set]; omega))) ?_
      obtain ⟨cl48, _, hk47, hc46⟩ := Sx.C_cells (hCa) (z := (0 : Int)) (k := (((preV X Y)) + ((((pairsV (midX X Y) (midY X Y) ++ [(((midX X Y).length : Int), ((midY X Y).length : Int))])).getD (q : Nat) ((0, 0) : Int × Int)).1) : Int).toNat) (by first | assumption | omega)
      obtain rfl : cl48 = [.int .i64 _] := hk47
      refine wa_tk 13 rfl rfl rfl (st_selT [true, true, false] h) (fun w_ hS => ov_load1 _ _ rfl sh3 (Sx.ro_cell hv hS (hc46 0 _ rfl))) ?_
      refine wa_tk 14 rfl rfl rfl (st_selT [true, true, false] h) (fun w_ hS => ov_move _ rfl) ?_
      refine wa_tk 15 rfl rfl rfl (st_selT [true, true, false] h) (fun w_ hS => ov_move _ rfl) ?_
      refine wa_tk 16 rfl rfl rfl (st_selT [true, true, false] h) (fun w_ hS => ov_move _ rfl) ?_
      refine wa_tk 17 rfl rfl rfl (st_selT [true, true, false] h) (fun w_ hS => ov_move _ rfl) ?_
      refine wa_tk 18 rfl rfl rfl (st_selT [true, true, false] h) (fun w_ hS => ov_bin _ rfl rfl (binR_add (r := ((preV X Y)) + j) (Sx.w64 (by omega)))) ?_
      obtain ⟨ad49, rfl⟩ := Sx.C_some ((Sx.ro_C hv h hCb)) (k := (((preV X Y)) + j : Int).toNat) (by first | assumption | omega)
      refine wa_tk 19 rfl rfl rfl (st_selT [true, true, false] h) (fun w_ hS => ov_indexAddrN _ _ _ _ _ (((preV X Y)) + j : Int).toNat rfl rfl es49 (by omega) (by first | assumption | omega | (simp only [List.length_take, List.length_drop, List.length_set]; omega))) ?_
      obtain ⟨cl52, _, hk51, hc50⟩ := Sx.C_cells (hCb) (z := (0 : Int)) (k := (((preV X Y)) + j : Int).toNat) (by first | assumption | omega)
      obtain rfl : cl52 = [.int .i64 _] := hk51
      refine wa_tk 20 rfl rfl rfl (st_selT [true, true, false] h) (fun w_ hS => ov_load1 _ _ rfl sh3 (Sx.ro_cell hv hS (hc50 0 _ rfl))) ?_
      refine wa_tk 21 rfl rfl rfl (st_selT [true, true, false] h) (fun w_ hS => ov_move _ rfl) ?_
      refine wa_tk 22 rfl rfl rfl (st_selT [true, true, false] h) (fun w_ hS => ov_move _ rfl) ?_
      refine wa_tk 23 rfl rfl rfl (st_selT [true, true, false] h) (fun w_ hS => ov_indexAddrA ⟨b40, 0, none⟩ 1 ⟨b40, 1, none⟩ rfl rfl ar69 (by decide) rfl) ?_
      refine wa_tk 24 rfl rfl rfl (st_selT [true, true, false] h) (fun w_ hS => ov_loadb 0 _ hS rfl rfl sh3 rfl) ?_
      refine wa_tk 25 rfl rfl rfl (st_selT [true, true, false] h) (fun w_ hS => ov_bin _ rfl rfl (binR_add (r := ((preV X Y)) + ((((pairsV (midX X Y) (midY X Y) ++ [(((midX X Y).length : Int), ((midY X Y).length : Int))])).getD (q : Nat) ((0, 0) : Int × Int)).2)) (Sx.w64 (by omega)))) ?_
      refine wa_tk 26 rfl rfl rfl (st_selT [true, true, false] h) (fun w_ hS => ov_indexAddrN _ _ _ _ _ (((preV X Y)) + ((((pairsV (midX X Y) (midY X Y) ++ [(((midX X Y).length : Int), ((midY X Y).length : Int))])).getD (q : Nat) ((0, 0) : Int × Int)).2) : Int).toNat rfl rfl es49 (by omega) (by first | assumption | omega | (simp only [List.length_take, List.length_drop, List.length_set]; omega))) ?_
      obtain ⟨cl55, _, hk54, hc53⟩ := Sx.C_cells (hCb) (z := (0 : Int)) (k := (((preV X Y)) + ((((pairsV (midX X Y) (midY X Y) ++ [(((midX X Y).length : Int), ((midY X Y).length : Int))])).getD (q : Nat) ((0, 0) : Int × Int)).2) : Int).toNat) (by first | assumption | omega)
      obtain rfl : cl55 = [.int .i64 _] := hk54
      refine wa_tk 27 rfl rfl rfl (st_selT [true, true, false] h) (fun w_ hS => ov_load1 _ _ rfl sh3 (Sx.ro_cell hv hS (hc53 0 _ rfl))) ?_
      refine wa_tk 28 rfl rfl rfl (st_selT [true, true, false] h) (fun w_ hS => by exact ov_slices _ (((bys).getD (((preV X Y)) + j : Int).toNat (0 : Int) : Int).toNat) (((bys).getD (((preV X Y)) + ((((pairsV (midX X Y) (midY X Y) ++ [(((midX X Y).length : Int), ((midY X Y).length : Int))])).getD (q : Nat) ((0, 0) : Int × Int)).2) : Int).toNat (0 : Int) : Int).toNat) (by rfl) (by exact ⟨_, _, rfl, (by omega)⟩) (by exact ⟨_, _, rfl, (by omega)⟩) Try.underlying9 (by omega) (by omega)) ?_
      refine wa_tk 29 rfl rfl rfl (st_selT [true, true, false] h) (fun w_ hS => ov_build [(0, .int .i64 ((ax).getD (((preV X Y)) + i : Int).toNat (0 : Int))), (1, .int .i64 ((ax).getD (((preV X Y)) + ((((pairsV (midX X Y) (midY X Y) ++ [(((midX X Y).length : Int), ((midY X Y).length : Int))])).getD (q : Nat) ((0, 0) : Int × Int)).1) : Int).toNat (0 : Int))), (2, .string ((b).extract (((bys).getD (((preV X Y)) + j : Int).toNat (0 : Int) : Int).toNat) (((bys).getD (((preV X Y)) + ((((pairsV (midX X Y) (midY X Y) ++ [(((midX X Y).length : Int), ((midY X Y).length : Int))])).getD (q : Nat) ((0, 0) : Int × Int)).2) : Int).toNat (0 : Int) : Int).toNat)))] [.int .i64 ((ax).getD (((preV X Y)) + i : Int).toNat (0 : Int)), .int .i64 ((ax).getD (((preV X Y)) + ((((pairsV (midX X Y) (midY X Y) ++ [(((midX X Y).length : Int), ((midY X Y).length : Int))])).getD (q : Nat) ((0, 0) : Int × Int)).1) : Int).toNat (0 : Int)), .string ((b).extract (((bys).getD (((preV X Y)) + j : Int).toNat (0 : Int) : Int).toNat) (((bys).getD (((preV X Y)) + ((((pairsV (midX X Y) (midY X Y) ++ [(((midX X Y).length : Int), ((midY X Y).length : Int))])).getD (q : Nat) ((0, 0) : Int × Int)).2) : Int).toNat (0 : Int) : Int).toNat))] rfl rfl (by kernel_rfl)) ?_
      refine wa_one 30 rfl (by kernel_rfl) ?_
      refine wl_lit (d := k33) [(0, .agg #[.int .i64 ((ax).getD (((preV X Y)) + i : Int).toNat (0 : Int)), .int .i64 ((ax).getD (((preV X Y)) + ((((pairsV (midX X Y) (midY X Y) ++ [(((midX X Y).length : Int), ((midY X Y).length : Int))])).getD (q : Nat) ((0, 0) : Int × Int)).1) : Int).toNat (0 : Int)), .string ((b).extract (((bys).getD (((preV X Y)) + j : Int).toNat (0 : Int) : Int).toNat) (((bys).getD (((preV X Y)) + ((((pairsV (midX X Y) (midY X Y) ++ [(((midX X Y).length : Int), ((midY X Y).length : Int))])).getD (q : Nat) ((0, 0) : Int × Int)).2) : Int).toNat (0 : Int) : Int).toNat))])] _ [.int .i64 ((ax).getD (((preV X Y)) + i : Int).toNat (0 : Int)), .int .i64 ((ax).getD (((preV X Y)) + ((((pairsV (midX X Y) (midY X Y) ++ [(((midX X Y).length : Int), ((midY X Y).length : Int))])).getD (q : Nat) ((0, 0) : Int × Int)).1) : Int).toNat (0 : Int)), .string ((b).extract (((bys).getD (((preV X Y)) + j : Int).toNat (0 : Int) : Int).toNat) (((bys).getD (((preV X Y)) + ((((pairsV (midX X Y) (midY X Y) ++ [(((midX X Y).length : Int), ((midY X Y).length : Int))])).getD (q : Nat) ((0, 0) : Int × Int)).2) : Int).toNat (0 : Int) : Int).toNat))] ([(⟨(ax).getD (((preV X Y)) + i : Int).toNat (0 : Int), (ax).getD (((preV X Y)) + ((((pairsV (midX X Y) (midY X Y) ++ [(((midX X Y).length : Int), ((midY X Y).length : Int))])).getD (q : Nat) ((0, 0) : Int × Int)).1) : Int).toNat (0 : Int), (b).extract (((bys).getD (((preV X Y)) + j : Int).toNat (0 : Int) : Int).toNat) (((bys).getD (((preV X Y)) + ((((pairsV (midX X Y) (midY X Y) ++ [(((midX X Y).length : Int), ((midY X Y).length : Int))])).getD (q : Nat) ((0, 0) : Int × Int)).2) : Int).toNat (0 : Int) : Int).toNat)⟩ : S33)]) h rfl rfl rfl rfl Try.underlying22 infb33 rfl (by decide) (by kernel_rfl) rfl (fun _ _ _ => ((Reps.none _ _).snoc (k33_mkM _ _ _ ((⟨(ax).getD (((preV X Y)) + i : Int).toNat (0 : Int), (ax).getD (((preV X Y)) + ((((pairsV (midX X Y) (midY X Y) ++ [(((midX X Y).length : Int), ((midY X Y).length : Int))])).getD (q : Nat) ((0, 0) : Int × Int)).1) : Int).toNat (0 : Int), (b).extract (((bys).getD (((preV X Y)) + j : Int).toNat (0 : Int) : Int).toNat) (((bys).getD (((preV X Y)) + ((((pairsV (midX X Y) (midY X Y) ++ [(((midX X Y).length : Int), ((midY X Y).length : Int))])).getD (q : Nat) ((0, 0) : Int × Int)).2) : Int).toNat (0 : Int) : Int).toNat)⟩ : S33))) rfl)) (fun A56 cp57 _ h => ?_)
      refine wl_nil ?_
      refine qn_wa (st_selT [false, true, true, false] h) ?_
      refine wa_one 31 rfl (by kernel_rfl) ?_
      refine wl_append (d := k33) (L := L) 3 _ 32 _ _ _ ([(⟨(ax).getD (((preV X Y)) + i : Int).toNat (0 : Int), (ax).getD (((preV X Y)) + ((((pairsV (midX X Y) (midY X Y) ++ [(((midX X Y).length : Int), ((midY X Y).length : Int))])).getD (q : Nat) ((0, 0) : Int × Int)).1) : Int).toNat (0 : Int), (b).extract (((bys).getD (((preV X Y)) + j : Int).toNat (0 : Int) : Int).toNat) (((bys).getD (((preV X Y)) + ((((pairsV (midX X Y) (midY X Y) ++ [(((midX X Y).length : Int), ((midY X Y).length : Int))])).getD (q : Nat) ((0, 0) : Int × Int)).2) : Int).toNat (0 : Int) : Int).toNat)⟩ : S33)]) flat33 h rfl rfl rfl rfl rfl ((Sx.row_reads h (i := 0) rfl).2) Try.underlying22 inf33 rfl (by decide) (by decide) (by first | omega | (simp only [List.length_cons, List.length_nil, List.length_append]; omega)) (by first | rfl | simp) (fun A58 cp59 _ h => ?_)
      replace h := st_selT [false, true, true, true] h
      refine wl_nil ?_
      refine qn_wa (st_selT [true, true, false] h) ?_
      refine wa_tk 32 rfl rfl rfl (st_selT [true, true, false] h) (fun w_ hS => ov_assign _ rfl) ?_
      refine wa_done (by kernel_rfl) ?_
      refine qn_then ?_
      refine wc_draw (fun w => Sx.St w0 F0 ([Sx.blk b40 [.int .i64 ((((pairsV (midX X Y) (midY X Y) ++ [(((midX X Y).length : Int), ((midY X Y).length : Int))])).getD (q : Nat) ((0, 0) : Int × Int)).1), .int .i64 ((((pairsV (midX X Y) (midY X Y) ++ [(((midX X Y).length : Int), ((midY X Y).length : Int))])).getD (q : Nat) ((0, 0) : Int × Int)).2)] 69, Sx.row (Kd.pair (Kd.int .i64) (Kd.int .i64)) 69 (some ad36) (cp34) ((pairsV (midX X Y) (midY X Y) ++ [(((midX X Y).length : Int), ((midY X Y).length : Int))])), Sx.row k33 33 (A58) (cp59) (L ++ ([(⟨(ax).getD (((preV X Y)) + i : Int).toNat (0 : Int), (ax).getD (((preV X Y)) + ((((pairsV (midX X Y) (midY X Y) ++ [(((midX X Y).length : Int), ((midY X Y).length : Int))])).getD (q : Nat) ((0, 0) : Int × Int)).1) : Int).toNat (0 : Int), (b).extract (((bys).getD (((preV X Y)) + j : Int).toNat (0 : Int) : Int).toNat) (((bys).getD (((preV X Y)) + ((((pairsV (midX X Y) (midY X Y) ++ [(((midX X Y).length : Int), ((midY X Y).length : Int))])).getD (q : Nat) ((0, 0) : Int × Int)).2) : Int).toNat (0 : Int) : Int).toNat)⟩ : S33)]))] ++ R) w) (by kernel_rfl) ?_
      replace h := st_drew h
      refine wa_tk 0 rfl rfl rfl (st_selT [true, true, true] h) (fun w_ hS => ov_indexAddrA ⟨b40, 0, none⟩ 0 ⟨b40, 0, none⟩ rfl rfl ar69 (by decide) rfl) ?_
      refine wa_tk 1 rfl rfl rfl (st_selT [true, true, true] h) (fun w_ hS => ov_loadb 0 _ hS rfl rfl sh3 rfl) ?_
      refine wa_tk 2 rfl rfl rfl (st_selT [true, true, true] h) (fun w_ hS => ov_bin _ rfl rfl (binR_add (r := ((((pairsV (midX X Y) (midY X Y) ++ [(((midX X Y).length : Int), ((midY X Y).length : Int))])).getD (q : Nat) ((0, 0) : Int × Int)).1) + 1) (Sx.w64 (by omega)))) ?_
      refine wa_tk 3 rfl rfl rfl (st_selT [true, true, true] h) (fun w_ hS => ov_indexAddrA ⟨b40, 0, none⟩ 1 ⟨b40, 1, none⟩ rfl rfl ar69 (by decide) rfl) ?_
      refine wa_tk 4 rfl rfl rfl (st_selT [true, true, true] h) (fun w_ hS => ov_loadb 0 _ hS rfl rfl sh3 rfl) ?_
      refine wa_tk 5 rfl rfl rfl (st_selT [true, true, true] h) (fun w_ hS => ov_bin _ rfl rfl (binR_add (r := ((((pairsV (midX X Y) (midY X Y) ++ [(((midX X Y).length : Int), ((midY X Y).length : Int))])).getD (q : Nat) ((0, 0) : Int × Int)).2) + 1) (Sx.w64 (by omega)))) ?_
      refine wa_tk 6 rfl rfl rfl (st_selT [true, true, true] h) (fun w_ hS => ov_assign _ rfl) ?_
      refine wa_tk 7 rfl rfl rfl (st_selT [true, true, true] h) (fun w_ hS => ov_assign _ rfl) ?_
      refine wa_done (by kernel_rfl) ?_
      refine qn_block_normal ?_
      refine qn_then ?_
      refine wc_region ?_
      refine wl_v rfl rfl (ov_bin _ rfl rfl (binR_add (r := (((q : Nat) : Int)) + 1) (Sx.w64 (by omega)))) ?_
      refine wl_v rfl rfl (ov_move _ rfl) ?_
      refine wl_nil ?_
      replace h := st_front 2 h
      replace h := st_front 2 h
      replace h := st_selT [true, true, false] h
      have hq_ : (pairsV (midX X Y) (midY X Y) ++ [(((midX X Y).length : Int), ((midY X Y).length : Int))]).drop q = (pairsV (midX X Y) (midY X Y) ++ [(((midX X Y).length : Int), ((midY X Y).length : Int))]).getD q ((0, 0) : Int × Int) :: (pairsV (midX X Y) (midY X Y) ++ [(((midX X Y).length : Int), ((midY X Y).length : Int))]).drop (q + 1) := by rw [List.drop_eq_getElem_cons (by omega), List.getD_eq_getElem?_getD, List.getElem?_eq_getElem (by omega)]; rfl
      have hj1_ := hJ.2.1
      have hj2_ := hJ.2.2.1
      rw [hq_] at hj1_ hj2_
      simp only [editsV] at hj2_
      rw [if_pos (by omega)] at hj2_
      refine qn_next ((q + 1), (((((pairsV (midX X Y) (midY X Y) ++ [(((midX X Y).length : Int), ((midY X Y).length : Int))])).getD (q : Nat) ((0, 0) : Int × Int)).1) + 1), (((((pairsV (midX X Y) (midY X Y) ++ [(((midX X Y).length : Int), ((midY X Y).length : Int))])).getD (q : Nat) ((0, 0) : Int × Int)).2) + 1), some ad36, A58, cp59, (L ++ ([(⟨(ax).getD (((preV X Y)) + i : Int).toNat (0 : Int), (ax).getD (((preV X Y)) + ((((pairsV (midX X Y) (midY X Y) ++ [(((midX X Y).length : Int), ((midY X Y).length : Int))])).getD (q : Nat) ((0, 0) : Int × Int)).1) : Int).toNat (0 : Int), (b).extract (((bys).getD (((preV X Y)) + j : Int).toNat (0 : Int) : Int).toNat) (((bys).getD (((preV X Y)) + ((((pairsV (midX X Y) (midY X Y) ++ [(((midX X Y).length : Int), ((midY X Y).length : Int))])).getD (q : Nat) ((0, 0) : Int × Int)).2) : Int).toNat (0 : Int) : Int).toNat)⟩ : S33)]))) (by show (pairsV (midX X Y) (midY X Y) ++ [(((midX X Y).length : Int), ((midY X Y).length : Int))]).length - (q + 1) < (pairsV (midX X Y) (midY X Y) ++ [(((midX X Y).length : Int), ((midY X Y).length : Int))]).length - q; omega) ⟨(congrArg (fun z_ => some (Value.slice (some ad42) z_ (ca))) (show (ax.length : Nat) = ax.length by first | rfl | simp)), (congrArg (fun z_ => some (Value.slice (some ad49) z_ (cb))) (show (bys.length : Nat) = bys.length by first | rfl | simp)), rfl, rfl, (congrArg (fun z_ => some (Value.slice (A58) z_ (cp59))) (show ((L ++ ([(⟨(ax).getD (((preV X Y)) + i : Int).toNat (0 : Int), (ax).getD (((preV X Y)) + ((((pairsV (midX X Y) (midY X Y) ++ [(((midX X Y).length : Int), ((midY X Y).length : Int))])).getD (q : Nat) ((0, 0) : Int × Int)).1) : Int).toNat (0 : Int), (b).extract (((bys).getD (((preV X Y)) + j : Int).toNat (0 : Int) : Int).toNat) (((bys).getD (((preV X Y)) + ((((pairsV (midX X Y) (midY X Y) ++ [(((midX X Y).length : Int), ((midY X Y).length : Int))])).getD (q : Nat) ((0, 0) : Int × Int)).2) : Int).toNat (0 : Int) : Int).toNat)⟩ : S33)])).length : Nat) = ((L ++ ([(⟨(ax).getD (((preV X Y)) + i : Int).toNat (0 : Int), (ax).getD (((preV X Y)) + ((((pairsV (midX X Y) (midY X Y) ++ [(((midX X Y).length : Int), ((midY X Y).length : Int))])).getD (q : Nat) ((0, 0) : Int × Int)).1) : Int).toNat (0 : Int), (b).extract (((bys).getD (((preV X Y)) + j : Int).toNat (0 : Int) : Int).toNat) (((bys).getD (((preV X Y)) + ((((pairsV (midX X Y) (midY X Y) ++ [(((midX X Y).length : Int), ((midY X Y).length : Int))])).getD (q : Nat) ((0, 0) : Int × Int)).2) : Int).toNat (0 : Int) : Int).toNat)⟩ : S33)]))).length by first | rfl | simp)), (congrArg (fun z_ => some (Value.int .i64 z_)) (show (((((pairsV (midX X Y) (midY X Y) ++ [(((midX X Y).length : Int), ((midY X Y).length : Int))])).getD (q : Nat) ((0, 0) : Int × Int)).1) + 1 : Int) = (((((pairsV (midX X Y) (midY X Y) ++ [(((midX X Y).length : Int), ((midY X Y).length : Int))])).getD (q : Nat) ((0, 0) : Int × Int)).1) + 1) by omega)), (congrArg (fun z_ => some (Value.int .i64 z_)) (show (((((pairsV (midX X Y) (midY X Y) ++ [(((midX X Y).length : Int), ((midY X Y).length : Int))])).getD (q : Nat) ((0, 0) : Int × Int)).2) + 1 : Int) = (((((pairsV (midX X Y) (midY X Y) ++ [(((midX X Y).length : Int), ((midY X Y).length : Int))])).getD (q : Nat) ((0, 0) : Int × Int)).2) + 1) by omega)), rfl, rfl, (congrArg (fun z_ => some (Value.int .i64 z_)) (show ((((q : Nat) : Int)) + 1 : Int) = (((q + 1) : Nat) : Int) by omega)), trivial⟩ ?_
      show ((q + 1) ≤ (pairsV (midX X Y) (midY X Y) ++ [(((midX X Y).length : Int), ((midY X Y).length : Int))]).length ∧ Chain (midX X Y).length (midY X Y).length (((((pairsV (midX X Y) (midY X Y) ++ [(((midX X Y).length : Int), ((midY X Y).length : Int))])).getD (q : Nat) ((0, 0) : Int × Int)).1) + 1) (((((pairsV (midX X Y) (midY X Y) ++ [(((midX X Y).length : Int), ((midY X Y).length : Int))])).getD (q : Nat) ((0, 0) : Int × Int)).2) + 1) ((pairsV (midX X Y) (midY X Y) ++ [(((midX X Y).length : Int), ((midY X Y).length : Int))]).drop (q + 1)) ∧ (L ++ ([(⟨(ax).getD (((preV X Y)) + i : Int).toNat (0 : Int), (ax).getD (((preV X Y)) + ((((pairsV (midX X Y) (midY X Y) ++ [(((midX X Y).length : Int), ((midY X Y).length : Int))])).getD (q : Nat) ((0, 0) : Int × Int)).1) : Int).toNat (0 : Int), (b).extract (((bys).getD (((preV X Y)) + j : Int).toNat (0 : Int) : Int).toNat) (((bys).getD (((preV X Y)) + ((((pairsV (midX X Y) (midY X Y) ++ [(((midX X Y).length : Int), ((midY X Y).length : Int))])).getD (q : Nat) ((0, 0) : Int × Int)).2) : Int).toNat (0 : Int) : Int).toNat)⟩ : S33)])) ++ (editsV ax bys b (preV X Y) ((pairsV (midX X Y) (midY X Y) ++ [(((midX X Y).length : Int), ((midY X Y).length : Int))]).drop (q + 1)) (((((pairsV (midX X Y) (midY X Y) ++ [(((midX X Y).length : Int), ((midY X Y).length : Int))])).getD (q : Nat) ((0, 0) : Int × Int)).1) + 1) (((((pairsV (midX X Y) (midY X Y) ++ [(((midX X Y).length : Int), ((midY X Y).length : Int))])).getD (q : Nat) ((0, 0) : Int × Int)).2) + 1)) = betweenV X Y ax bys b ∧ 0 ≤ (((((pairsV (midX X Y) (midY X Y) ++ [(((midX X Y).length : Int), ((midY X Y).length : Int))])).getD (q : Nat) ((0, 0) : Int × Int)).1) + 1) ∧ 0 ≤ (((((pairsV (midX X Y) (midY X Y) ++ [(((midX X Y).length : Int), ((midY X Y).length : Int))])).getD (q : Nat) ((0, 0) : Int × Int)).2) + 1) ∧ ((L ++ ([(⟨(ax).getD (((preV X Y)) + i : Int).toNat (0 : Int), (ax).getD (((preV X Y)) + ((((pairsV (midX X Y) (midY X Y) ++ [(((midX X Y).length : Int), ((midY X Y).length : Int))])).getD (q : Nat) ((0, 0) : Int × Int)).1) : Int).toNat (0 : Int), (b).extract (((bys).getD (((preV X Y)) + j : Int).toNat (0 : Int) : Int).toNat) (((bys).getD (((preV X Y)) + ((((pairsV (midX X Y) (midY X Y) ++ [(((midX X Y).length : Int), ((midY X Y).length : Int))])).getD (q : Nat) ((0, 0) : Int × Int)).2) : Int).toNat (0 : Int) : Int).toNat)⟩ : S33)]))).length ≤ (q + 1)) ∧ _
      exact ⟨⟨by omega, hj1_.2.2.2.2, by rw [← List.append_assoc] at hj2_; exact hj2_, by omega, by omega, by simp only [List.length_append, List.length_cons, List.length_nil]; omega⟩, h⟩
     ·
      refine wl_v rfl rfl (ov_indexAddrA ⟨b40, 0, none⟩ 1 ⟨b40, 1, none⟩ rfl rfl ar69 (by decide) rfl) ?_
      refine wl_v rfl rfl (ov_loadb 0 _ h rfl rfl sh3 rfl) ?_
      refine wl_v rfl rfl (ov_move _ rfl) ?_
      refine wl_v rfl rfl (ov_bin _ rfl rfl (binR_gtr)) ?_
      refine wl_v rfl rfl (ov_pick_false _ rfl rfl) ?_
      refine wl_nil ?_
      refine qn_then ?_
      refine wc_cond (by rfl) (fun c60 => ?_) (fun c60 => ?_)
      ·
       have hq0_ : (pairsV (midX X Y) (midY X Y) ++ [(((midX X Y).length : Int), ((midY X Y).length : Int))]).drop q = (pairsV (midX X Y) (midY X Y) ++ [(((midX X Y).length : Int), ((midY X Y).length : Int))]).getD q ((0, 0) : Int × Int) :: (pairsV (midX X Y) (midY X Y) ++ [(((midX X Y).length : Int), ((midY X Y).length : Int))]).drop (q + 1) := by rw [List.drop_eq_getElem_cons (by omega), List.getD_eq_getElem?_getD, List.getElem?_eq_getElem (by omega)]; rfl
       have hc0_ := hJ.2.1
       rw [hq0_] at hc0_
       obtain ⟨hc1_, hc2_, hc3_, hc4_, _⟩ := hc0_
       have hbo_ := hbo ((preV X Y) + j).toNat ((preV X Y) + ((pairsV (midX X Y) (midY X Y) ++ [(((midX X Y).length : Int), ((midY X Y).length : Int))]).getD q ((0, 0) : Int × Int)).2).toNat (by omega) (by omega)
       refine wc_draw (fun w => Sx.St w0 F0 ([Sx.blk b40 [.int .i64 ((((pairsV (midX X Y) (midY X Y) ++ [(((midX X Y).length : Int), ((midY X Y).length : Int))])).getD (q : Nat) ((0, 0) : Int × Int)).1), .int .i64 ((((pairsV (midX X Y) (midY X Y) ++ [(((midX X Y).length : Int), ((midY X Y).length : Int))])).getD (q : Nat) ((0, 0) : Int × Int)).2)] 69, Sx.row (Kd.pair (Kd.int .i64) (Kd.int .i64)) 69 (some ad36) (cp34) ((pairsV (midX X Y) (midY X Y) ++ [(((midX X Y).length : Int), ((midY X Y).length : Int))]))] ++ R) w) (by kernel_rfl) ?_
       replace h := st_drew h
       refine wa_tk 0 rfl rfl rfl (st_selT [true, true, false] h) (fun w_ hS => ov_move _ rfl) ?_
       refine wa_tk 1 rfl rfl rfl (st_selT [true, true, false] h) (fun w_ hS => ov_move _ rfl) ?_
       refine wa_tk 2 rfl rfl rfl (st_selT [true, true, false] h) (fun w_ hS => ov_move _ rfl) ?_
       refine wa_tk 3 rfl rfl rfl (st_selT [true, true, false] h) (fun w_ hS => ov_move _ rfl) ?_
       refine wa_tk 4 rfl rfl rfl (st_selT [true, true, false] h) (fun w_ hS => ov_bin _ rfl rfl (binR_add (r := ((preV X Y)) + i) (Sx.w64 (by omega)))) ?_
       obtain ⟨ad61, rfl⟩ := Sx.C_some ((Sx.ro_C hv h hCa)) (k := (((preV X Y)) + i : Int).toNat) (by first | assumption | omega)
       refine wa_tk 5 rfl rfl rfl (st_selT [true, true, false] h) (fun w_ hS => ov_indexAddrN _ _ _ _ _ (((preV X Y)) + i : Int).toNat rfl rfl es49 (by omega) (by first | assumption | omega | (simp only [List.length_take, List.length_drop, List.length_set]; omega))) ?_
       obtain ⟨cl64, _, hk63, hc62⟩ := Sx.C_cells (hCa) (z := (0 : Int)) (k := (((preV X Y)) + i : Int).toNat) (by first | assumption | omega)
       obtain rfl : cl64 = [.int .i64 _] := hk63
       refine wa_tk 6 rfl rfl rfl (st_selT [true, true, false] h) (fun w_ hS => ov_load1 _ _ rfl sh3 (Sx.ro_cell hv hS (hc62 0 _ rfl))) ?_
       refine wa_tk 7 rfl rfl rfl (st_selT [true, true, false] h) (fun w_ hS => ov_move _ rfl) ?_
       refine wa_tk 8 rfl rfl rfl (st_selT [true, true, false] h) (fun w_ hS => ov_move _ rfl) ?_
       refine wa_tk 9 rfl rfl rfl (st_selT [true, true, false] h) (fun w_ hS => ov_indexAddrA ⟨b40, 0, none⟩ 0 ⟨b40, 0, none⟩ rfl rfl ar69 (by decide) rfl) ?_
       refine wa_tk 10 rfl rfl rfl (st_selT [true, true, false] h) (fun w_ hS => ov_loadb 0 _ hS rfl rfl sh3 rfl) ?_
       refine wa_tk 11 rfl rfl rfl (st_selT [true, true, false] h) (fun w_ hS => ov_bin _ rfl rfl (binR_add (r := ((preV X Y)) + ((((pairsV (midX X Y) (midY X Y) ++ [(((midX X Y).length : Int), ((midY X Y).length : Int))])).getD (q : Nat) ((0, 0) : Int × Int)).1)) (Sx.w64 (by omega)))) ?_
       refine wa_tk 12 rfl rfl rfl (st_selT [true, true, false] h) (fun w_ hS => ov_indexAddrN _ _ _ _ _ (((preV X Y)) + ((((pairsV (midX X Y) (midY X Y) ++ [(((midX X Y).length : Int), ((midY X Y).length : Int))])).getD (q : Nat) ((0, 0) : Int × Int)).1) : Int).toNat rfl rfl es49 (by omega) (by first | assumption | omega | (simp only [List.length_take, List.length_drop, List.length_set]; omega))) ?_
       obtain ⟨cl67, _, hk66, hc65⟩ := Sx.C_cells (hCa) (z := (0 : Int)) (k := (((preV X Y)) + ((((pairsV (midX X Y) (midY X Y) ++ [(((midX X Y).length : Int), ((midY X Y).length : Int))])).getD (q : Nat) ((0, 0) : Int × Int)).1) : Int).toNat) (by first | assumption | omega)
       obtain rfl : cl67 = [.int .i64 _] := hk66
       refine wa_tk 13 rfl rfl rfl (st_selT [true, true, false] h) (fun w_ hS => ov_load1 _ _ rfl sh3 (Sx.ro_cell hv hS (hc65 0 _ rfl))) ?_
       refine wa_tk 14 rfl rfl rfl (st_selT [true, true, false] h) (fun w_ hS => ov_move _ rfl) ?_
       refine wa_tk 15 rfl rfl rfl (st_selT [true, true, false] h) (fun w_ hS => ov_move _ rfl) ?_
       refine wa_tk 16 rfl rfl rfl (st_selT [true, true, false] h) (fun w_ hS => ov_move _ rfl) ?_
       refine wa_tk 17 rfl rfl rfl (st_selT [true, true, false] h) (fun w_ hS => ov_move _ rfl) ?_
       refine wa_tk 18 rfl rfl rfl (st_selT [true, true, false] h) (fun w_ hS => ov_bin _ rfl rfl (binR_add (r := ((preV X Y)) + j) (Sx.w64 (by omega)))) ?_
       obtain ⟨ad68, rfl⟩ := Sx.C_some ((Sx.ro_C hv h hCb)) (k := (((preV X Y)) + j : Int).toNat) (by first | assumption | omega)
       refine wa_tk 19 rfl rfl rfl (st_selT [true, true, false] h) (fun w_ hS => ov_indexAddrN _ _ _ _ _ (((preV X Y)) + j : Int).toNat rfl rfl es49 (by omega) (by first | assumption | omega | (simp only [List.length_take, List.length_drop, List.length_set]; omega))) ?_
       obtain ⟨cl71, _, hk70, hc69⟩ := Sx.C_cells (hCb) (z := (0 : Int)) (k := (((preV X Y)) + j : Int).toNat) (by first | assumption | omega)
       obtain rfl : cl71 = [.int .i64 _] := hk70
       refine wa_tk 20 rfl rfl rfl (st_selT [true, true, false] h) (fun w_ hS => ov_load1 _ _ rfl sh3 (Sx.ro_cell hv hS (hc69 0 _ rfl))) ?_
       refine wa_tk 21 rfl rfl rfl (st_selT [true, true, false] h) (fun w_ hS => ov_move _ rfl) ?_
       refine wa_tk 22 rfl rfl rfl (st_selT [true, true, false] h) (fun w_ hS => ov_move _ rfl) ?_
       refine wa_tk 23 rfl rfl rfl (st_selT [true, true, false] h) (fun w_ hS => ov_indexAddrA ⟨b40, 0, none⟩ 1 ⟨b40, 1, none⟩ rfl rfl ar69 (by decide) rfl) ?_
       refine wa_tk 24 rfl rfl rfl (st_selT [true, true, false] h) (fun w_ hS => ov_loadb 0 _ hS rfl rfl sh3 rfl) ?_
       refine wa_tk 25 rfl rfl rfl (st_selT [true, true, false] h) (fun w_ hS => ov_bin _ rfl rfl (binR_add (r := ((preV X Y)) + ((((pairsV (midX X Y) (midY X Y) ++ [(((midX X Y).length : Int), ((midY X Y).length : Int))])).getD (q : Nat) ((0, 0) : Int × Int)).2)) (Sx.w64 (by omega)))) ?_
       refine wa_tk 26 rfl rfl rfl (st_selT [true, true, false] h) (fun w_ hS => ov_indexAddrN _ _ _ _ _ (((preV X Y)) + ((((pairsV (midX X Y) (midY X Y) ++ [(((midX X Y).length : Int), ((midY X Y).length : Int))])).getD (q : Nat) ((0, 0) : Int × Int)).2) : Int).toNat rfl rfl es49 (by omega) (by first | assumption | omega | (simp only [List.length_take, List.length_drop, List.length_set]; omega))) ?_
       obtain ⟨cl74, _, hk73, hc72⟩ := Sx.C_cells (hCb) (z := (0 : Int)) (k := (((preV X Y)) + ((((pairsV (midX X Y) (midY X Y) ++ [(((midX X Y).length : Int), ((midY X Y).length : Int))])).getD (q : Nat) ((0, 0) : Int × Int)).2) : Int).toNat) (by first | assumption | omega)
       obtain rfl : cl74 = [.int .i64 _] := hk73
       refine wa_tk 27 rfl rfl rfl (st_selT [true, true, false] h) (fun w_ hS => ov_load1 _ _ rfl sh3 (Sx.ro_cell hv hS (hc72 0 _ rfl))) ?_
       refine wa_tk 28 rfl rfl rfl (st_selT [true, true, false] h) (fun w_ hS => by exact ov_slices _ (((bys).getD (((preV X Y)) + j : Int).toNat (0 : Int) : Int).toNat) (((bys).getD (((preV X Y)) + ((((pairsV (midX X Y) (midY X Y) ++ [(((midX X Y).length : Int), ((midY X Y).length : Int))])).getD (q : Nat) ((0, 0) : Int × Int)).2) : Int).toNat (0 : Int) : Int).toNat) (by rfl) (by exact ⟨_, _, rfl, (by omega)⟩) (by exact ⟨_, _, rfl, (by omega)⟩) Try.underlying9 (by omega) (by omega)) ?_
       refine wa_tk 29 rfl rfl rfl (st_selT [true, true, false] h) (fun w_ hS => ov_build [(0, .int .i64 ((ax).getD (((preV X Y)) + i : Int).toNat (0 : Int))), (1, .int .i64 ((ax).getD (((preV X Y)) + ((((pairsV (midX X Y) (midY X Y) ++ [(((midX X Y).length : Int), ((midY X Y).length : Int))])).getD (q : Nat) ((0, 0) : Int × Int)).1) : Int).toNat (0 : Int))), (2, .string ((b).extract (((bys).getD (((preV X Y)) + j : Int).toNat (0 : Int) : Int).toNat) (((bys).getD (((preV X Y)) + ((((pairsV (midX X Y) (midY X Y) ++ [(((midX X Y).length : Int), ((midY X Y).length : Int))])).getD (q : Nat) ((0, 0) : Int × Int)).2) : Int).toNat (0 : Int) : Int).toNat)))] [.int .i64 ((ax).getD (((preV X Y)) + i : Int).toNat (0 : Int)), .int .i64 ((ax).getD (((preV X Y)) + ((((pairsV (midX X Y) (midY X Y) ++ [(((midX X Y).length : Int), ((midY X Y).length : Int))])).getD (q : Nat) ((0, 0) : Int × Int)).1) : Int).toNat (0 : Int)), .string ((b).extract (((bys).getD (((preV X Y)) + j : Int).toNat (0 : Int) : Int).toNat) (((bys).getD (((preV X Y)) + ((((pairsV (midX X Y) (midY X Y) ++ [(((midX X Y).length : Int), ((midY X Y).length : Int))])).getD (q : Nat) ((0, 0) : Int × Int)).2) : Int).toNat (0 : Int) : Int).toNat))] rfl rfl (by kernel_rfl)) ?_
       refine wa_one 30 rfl (by kernel_rfl) ?_
       refine wl_lit (d := k33) [(0, .agg #[.int .i64 ((ax).getD (((preV X Y)) + i : Int).toNat (0 : Int)), .int .i64 ((ax).getD (((preV X Y)) + ((((pairsV (midX X Y) (midY X Y) ++ [(((midX X Y).length : Int), ((midY X Y).length : Int))])).getD (q : Nat) ((0, 0) : Int × Int)).1) : Int).toNat (0 : Int)), .string ((b).extract (((bys).getD (((preV X Y)) + j : Int).toNat (0 : Int) : Int).toNat) (((bys).getD (((preV X Y)) + ((((pairsV (midX X Y) (midY X Y) ++ [(((midX X Y).length : Int), ((midY X Y).length : Int))])).getD (q : Nat) ((0, 0) : Int × Int)).2) : Int).toNat (0 : Int) : Int).toNat))])] _ [.int .i64 ((ax).getD (((preV X Y)) + i : Int).toNat (0 : Int)), .int .i64 ((ax).getD (((preV X Y)) + ((((pairsV (midX X Y) (midY X Y) ++ [(((midX X Y).length : Int), ((midY X Y).length : Int))])).getD (q : Nat) ((0, 0) : Int × Int)).1) : Int).toNat (0 : Int)), .string ((b).extract (((bys).getD (((preV X Y)) + j : Int).toNat (0 : Int) : Int).toNat) (((bys).getD (((preV X Y)) + ((((pairsV (midX X Y) (midY X Y) ++ [(((midX X Y).length : Int), ((midY X Y).length : Int))])).getD (q : Nat) ((0, 0) : Int × Int)).2) : Int).toNat (0 : Int) : Int).toNat))] ([(⟨(ax).getD (((preV X Y)) + i : Int).toNat (0 : Int), (ax).getD (((preV X Y)) + ((((pairsV (midX X Y) (midY X Y) ++ [(((midX X Y).length : Int), ((midY X Y).length : Int))])).getD (q : Nat) ((0, 0) : Int × Int)).1) : Int).toNat (0 : Int), (b).extract (((bys).getD (((preV X Y)) + j : Int).toNat (0 : Int) : Int).toNat) (((bys).getD (((preV X Y)) + ((((pairsV (midX X Y) (midY X Y) ++ [(((midX X Y).length : Int), ((midY X Y).length : Int))])).getD (q : Nat) ((0, 0) : Int × Int)).2) : Int).toNat (0 : Int) : Int).toNat)⟩ : S33)]) h rfl rfl rfl rfl Try.underlying22 infb33 rfl (by decide) (by kernel_rfl) rfl (fun _ _ _ => ((Reps.none _ _).snoc (k33_mkM _ _ _ ((⟨(ax).getD (((preV X Y)) + i : Int).toNat (0 : Int), (ax).getD (((preV X Y)) + ((((pairsV (midX X Y) (midY X Y) ++ [(((midX X Y).length : Int), ((midY X Y).length : Int))])).getD (q : Nat) ((0, 0) : Int × Int)).1) : Int).toNat (0 : Int), (b).extract (((bys).getD (((preV X Y)) + j : Int).toNat (0 : Int) : Int).toNat) (((bys).getD (((preV X Y)) + ((((pairsV (midX X Y) (midY X Y) ++ [(((midX X Y).length : Int), ((midY X Y).length : Int))])).getD (q : Nat) ((0, 0) : Int × Int)).2) : Int).toNat (0 : Int) : Int).toNat)⟩ : S33))) rfl)) (fun A75 cp76 _ h => ?_)
       refine wl_nil ?_
       refine qn_wa (st_selT [false, true, true, false] h) ?_
       refine wa_one 31 rfl (by kernel_rfl) ?_
       refine wl_append (d := k33) (L := L) 3 _ 32 _ _ _ ([(⟨(ax).getD (((preV X Y)) + i : Int).toNat (0 : Int), (ax).getD (((preV X Y)) + ((((pairsV (midX X Y) (midY X Y) ++ [(((midX X Y).length : Int), ((midY X Y).length : Int))])).getD (q : Nat) ((0, 0) : Int × Int)).1) : Int).toNat (0 : Int), (b).extract (((bys).getD (((preV X Y)) + j : Int).toNat (0 : Int) : Int).toNat) (((bys).getD (((preV X Y)) + ((((pairsV (midX X Y) (midY X Y) ++ [(((midX X Y).length : Int), ((midY X Y).length : Int))])).getD (q : Nat) ((0, 0) : Int × Int)).2) : Int).toNat (0 : Int) : Int).toNat)⟩ : S33)]) flat33 h rfl rfl rfl rfl rfl ((Sx.row_reads h (i := 0) rfl).2) Try.underlying22 inf33 rfl (by decide) (by decide) (by first | omega | (simp only [List.length_cons, List.length_nil, List.length_append]; omega)) (by first | rfl | simp) (fun A77 cp78 _ h => ?_)
       replace h := st_selT [false, true, true, true] h
       refine wl_nil ?_
       refine qn_wa (st_selT [true, true, false] h) ?_
       refine wa_tk 32 rfl rfl rfl (st_selT [true, true, false] h) (fun w_ hS => ov_assign _ rfl) ?_
       refine wa_done (by kernel_rfl) ?_
       refine qn_then ?_
       refine wc_draw (fun w => Sx.St w0 F0 ([Sx.blk b40 [.int .i64 ((((pairsV (midX X Y) (midY X Y) ++ [(((midX X Y).length : Int), ((midY X Y).length : Int))])).getD (q : Nat) ((0, 0) : Int × Int)).1), .int .i64 ((((pairsV (midX X Y) (midY X Y) ++ [(((midX X Y).length : Int), ((midY X Y).length : Int))])).getD (q : Nat) ((0, 0) : Int × Int)).2)] 69, Sx.row (Kd.pair (Kd.int .i64) (Kd.int .i64)) 69 (some ad36) (cp34) ((pairsV (midX X Y) (midY X Y) ++ [(((midX X Y).length : Int), ((midY X Y).length : Int))])), Sx.row k33 33 (A77) (cp78) (L ++ ([(⟨(ax).getD (((preV X Y)) + i : Int).toNat (0 : Int), (ax).getD (((preV X Y)) + ((((pairsV (midX X Y) (midY X Y) ++ [(((midX X Y).length : Int), ((midY X Y).length : Int))])).getD (q : Nat) ((0, 0) : Int × Int)).1) : Int).toNat (0 : Int), (b).extract (((bys).getD (((preV X Y)) + j : Int).toNat (0 : Int) : Int).toNat) (((bys).getD (((preV X Y)) + ((((pairsV (midX X Y) (midY X Y) ++ [(((midX X Y).length : Int), ((midY X Y).length : Int))])).getD (q : Nat) ((0, 0) : Int × Int)).2) : Int).toNat (0 : Int) : Int).toNat)⟩ : S33)]))] ++ R) w) (by kernel_rfl) ?_
       replace h := st_drew h
       refine wa_tk 0 rfl rfl rfl (st_selT [true, true, true] h) (fun w_ hS => ov_indexAddrA ⟨b40, 0, none⟩ 0 ⟨b40, 0, none⟩ rfl rfl ar69 (by decide) rfl) ?_
       refine wa_tk 1 rfl rfl rfl (st_selT [true, true, true] h) (fun w_ hS => ov_loadb 0 _ hS rfl rfl sh3 rfl) ?_
       refine wa_tk 2 rfl rfl rfl (st_selT [true, true, true] h) (fun w_ hS => ov_bin _ rfl rfl (binR_add (r := ((((pairsV (midX X Y) (midY X Y) ++ [(((midX X Y).length : Int), ((midY X Y).length : Int))])).getD (q : Nat) ((0, 0) : Int × Int)).1) + 1) (Sx.w64 (by omega)))) ?_
       refine wa_tk 3 rfl rfl rfl (st_selT [true, true, true] h) (fun w_ hS => ov_indexAddrA ⟨b40, 0, none⟩ 1 ⟨b40, 1, none⟩ rfl rfl ar69 (by decide) rfl) ?_
       refine wa_tk 4 rfl rfl rfl (st_selT [true, true, true] h) (fun w_ hS => ov_loadb 0 _ hS rfl rfl sh3 rfl) ?_
       refine wa_tk 5 rfl rfl rfl (st_selT [true, true, true] h) (fun w_ hS => ov_bin _ rfl rfl (binR_add (r := ((((pairsV (midX X Y) (midY X Y) ++ [(((midX X Y).length : Int), ((midY X Y).length : Int))])).getD (q : Nat) ((0, 0) : Int × Int)).2) + 1) (Sx.w64 (by omega)))) ?_
       refine wa_tk 6 rfl rfl rfl (st_selT [true, true, true] h) (fun w_ hS => ov_assign _ rfl) ?_
       refine wa_tk 7 rfl rfl rfl (st_selT [true, true, true] h) (fun w_ hS => ov_assign _ rfl) ?_
       refine wa_done (by kernel_rfl) ?_
       refine qn_block_normal ?_
       refine qn_then ?_
       refine wc_region ?_
       refine wl_v rfl rfl (ov_bin _ rfl rfl (binR_add (r := (((q : Nat) : Int)) + 1) (Sx.w64 (by omega)))) ?_
       refine wl_v rfl rfl (ov_move _ rfl) ?_
       refine wl_nil ?_
       replace h := st_front 2 h
       replace h := st_front 2 h
       replace h := st_selT [true, true, false] h
       have hq_ : (pairsV (midX X Y) (midY X Y) ++ [(((midX X Y).length : Int), ((midY X Y).length : Int))]).drop q = (pairsV (midX X Y) (midY X Y) ++ [(((midX X Y).length : Int), ((midY X Y).length : Int))]).getD q ((0, 0) : Int × Int) :: (pairsV (midX X Y) (midY X Y) ++ [(((midX X Y).length : Int), ((midY X Y).length : Int))]).drop (q + 1) := by rw [List.drop_eq_getElem_cons (by omega), List.getD_eq_getElem?_getD, List.getElem?_eq_getElem (by omega)]; rfl
       have hj1_ := hJ.2.1
       have hj2_ := hJ.2.2.1
       rw [hq_] at hj1_ hj2_
       simp only [editsV] at hj2_
       rw [if_pos (by omega)] at hj2_
       refine qn_next ((q + 1), (((((pairsV (midX X Y) (midY X Y) ++ [(((midX X Y).length : Int), ((midY X Y).length : Int))])).getD (q : Nat) ((0, 0) : Int × Int)).1) + 1), (((((pairsV (midX X Y) (midY X Y) ++ [(((midX X Y).length : Int), ((midY X Y).length : Int))])).getD (q : Nat) ((0, 0) : Int × Int)).2) + 1), some ad36, A77, cp78, (L ++ ([(⟨(ax).getD (((preV X Y)) + i : Int).toNat (0 : Int), (ax).getD (((preV X Y)) + ((((pairsV (midX X Y) (midY X Y) ++ [(((midX X Y).length : Int), ((midY X Y).length : Int))])).getD (q : Nat) ((0, 0) : Int × Int)).1) : Int).toNat (0 : Int), (b).extract (((bys).getD (((preV X Y)) + j : Int).toNat (0 : Int) : Int).toNat) (((bys).getD (((preV X Y)) + ((((pairsV (midX X Y) (midY X Y) ++ [(((midX X Y).length : Int), ((midY X Y).length : Int))])).getD (q : Nat) ((0, 0) : Int × Int)).2) : Int).toNat (0 : Int) : Int).toNat)⟩ : S33)]))) (by show (pairsV (midX X Y) (midY X Y) ++ [(((midX X Y).length : Int), ((midY X Y).length : Int))]).length - (q + 1) < (pairsV (midX X Y) (midY X Y) ++ [(((midX X Y).length : Int), ((midY X Y).length : Int))]).length - q; omega) ⟨(congrArg (fun z_ => some (Value.slice (some ad61) z_ (ca))) (show (ax.length : Nat) = ax.length by first | rfl | simp)), (congrArg (fun z_ => some (Value.slice (some ad68) z_ (cb))) (show (bys.length : Nat) = bys.length by first | rfl | simp)), rfl, rfl, (congrArg (fun z_ => some (Value.slice (A77) z_ (cp78))) (show ((L ++ ([(⟨(ax).getD (((preV X Y)) + i : Int).toNat (0 : Int), (ax).getD (((preV X Y)) + ((((pairsV (midX X Y) (midY X Y) ++ [(((midX X Y).length : Int), ((midY X Y).length : Int))])).getD (q : Nat) ((0, 0) : Int × Int)).1) : Int).toNat (0 : Int), (b).extract (((bys).getD (((preV X Y)) + j : Int).toNat (0 : Int) : Int).toNat) (((bys).getD (((preV X Y)) + ((((pairsV (midX X Y) (midY X Y) ++ [(((midX X Y).length : Int), ((midY X Y).length : Int))])).getD (q : Nat) ((0, 0) : Int × Int)).2) : Int).toNat (0 : Int) : Int).toNat)⟩ : S33)])).length : Nat) = ((L ++ ([(⟨(ax).getD (((preV X Y)) + i : Int).toNat (0 : Int), (ax).getD (((preV X Y)) + ((((pairsV (midX X Y) (midY X Y) ++ [(((midX X Y).length : Int), ((midY X Y).length : Int))])).getD (q : Nat) ((0, 0) : Int × Int)).1) : Int).toNat (0 : Int), (b).extract (((bys).getD (((preV X Y)) + j : Int).toNat (0 : Int) : Int).toNat) (((bys).getD (((preV X Y)) + ((((pairsV (midX X Y) (midY X Y) ++ [(((midX X Y).length : Int), ((midY X Y).length : Int))])).getD (q : Nat) ((0, 0) : Int × Int)).2) : Int).toNat (0 : Int) : Int).toNat)⟩ : S33)]))).length by first | rfl | simp)), (congrArg (fun z_ => some (Value.int .i64 z_)) (show (((((pairsV (midX X Y) (midY X Y) ++ [(((midX X Y).length : Int), ((midY X Y).length : Int))])).getD (q : Nat) ((0, 0) : Int × Int)).1) + 1 : Int) = (((((pairsV (midX X Y) (midY X Y) ++ [(((midX X Y).length : Int), ((midY X Y).length : Int))])).getD (q : Nat) ((0, 0) : Int × Int)).1) + 1) by omega)), (congrArg (fun z_ => some (Value.int .i64 z_)) (show (((((pairsV (midX X Y) (midY X Y) ++ [(((midX X Y).length : Int), ((midY X Y).length : Int))])).getD (q : Nat) ((0, 0) : Int × Int)).2) + 1 : Int) = (((((pairsV (midX X Y) (midY X Y) ++ [(((midX X Y).length : Int), ((midY X Y).length : Int))])).getD (q : Nat) ((0, 0) : Int × Int)).2) + 1) by omega)), rfl, rfl, (congrArg (fun z_ => some (Value.int .i64 z_)) (show ((((q : Nat) : Int)) + 1 : Int) = (((q + 1) : Nat) : Int) by omega)), trivial⟩ ?_
       show ((q + 1) ≤ (pairsV (midX X Y) (midY X Y) ++ [(((midX X Y).length : Int), ((midY X Y).length : Int))]).length ∧ Chain (midX X Y).length (midY X Y).length (((((pairsV (midX X Y) (midY X Y) ++ [(((midX X Y).length : Int), ((midY X Y).length : Int))])).getD (q : Nat) ((0, 0) : Int × Int)).1) + 1) (((((pairsV (midX X Y) (midY X Y) ++ [(((midX X Y).length : Int), ((midY X Y).length : Int))])).getD (q : Nat) ((0, 0) : Int × Int)).2) + 1) ((pairsV (midX X Y) (midY X Y) ++ [(((midX X Y).length : Int), ((midY X Y).length : Int))]).drop (q + 1)) ∧ (L ++ ([(⟨(ax).getD (((preV X Y)) + i : Int).toNat (0 : Int), (ax).getD (((preV X Y)) + ((((pairsV (midX X Y) (midY X Y) ++ [(((midX X Y).length : Int), ((midY X Y).length : Int))])).getD (q : Nat) ((0, 0) : Int × Int)).1) : Int).toNat (0 : Int), (b).extract (((bys).getD (((preV X Y)) + j : Int).toNat (0 : Int) : Int).toNat) (((bys).getD (((preV X Y)) + ((((pairsV (midX X Y) (midY X Y) ++ [(((midX X Y).length : Int), ((midY X Y).length : Int))])).getD (q : Nat) ((0, 0) : Int × Int)).2) : Int).toNat (0 : Int) : Int).toNat)⟩ : S33)])) ++ (editsV ax bys b (preV X Y) ((pairsV (midX X Y) (midY X Y) ++ [(((midX X Y).length : Int), ((midY X Y).length : Int))]).drop (q + 1)) (((((pairsV (midX X Y) (midY X Y) ++ [(((midX X Y).length : Int), ((midY X Y).length : Int))])).getD (q : Nat) ((0, 0) : Int × Int)).1) + 1) (((((pairsV (midX X Y) (midY X Y) ++ [(((midX X Y).length : Int), ((midY X Y).length : Int))])).getD (q : Nat) ((0, 0) : Int × Int)).2) + 1)) = betweenV X Y ax bys b ∧ 0 ≤ (((((pairsV (midX X Y) (midY X Y) ++ [(((midX X Y).length : Int), ((midY X Y).length : Int))])).getD (q : Nat) ((0, 0) : Int × Int)).1) + 1) ∧ 0 ≤ (((((pairsV (midX X Y) (midY X Y) ++ [(((midX X Y).length : Int), ((midY X Y).length : Int))])).getD (q : Nat) ((0, 0) : Int × Int)).2) + 1) ∧ ((L ++ ([(⟨(ax).getD (((preV X Y)) + i : Int).toNat (0 : Int), (ax).getD (((preV X Y)) + ((((pairsV (midX X Y) (midY X Y) ++ [(((midX X Y).length : Int), ((midY X Y).length : Int))])).getD (q : Nat) ((0, 0) : Int × Int)).1) : Int).toNat (0 : Int), (b).extract (((bys).getD (((preV X Y)) + j : Int).toNat (0 : Int) : Int).toNat) (((bys).getD (((preV X Y)) + ((((pairsV (midX X Y) (midY X Y) ++ [(((midX X Y).length : Int), ((midY X Y).length : Int))])).getD (q : Nat) ((0, 0) : Int × Int)).2) : Int).toNat (0 : Int) : Int).toNat)⟩ : S33)]))).length ≤ (q + 1)) ∧ _
       exact ⟨⟨by omega, hj1_.2.2.2.2, by rw [← List.append_assoc] at hj2_; exact hj2_, by omega, by omega, by simp only [List.length_append, List.length_cons, List.length_nil]; omega⟩, h⟩
      ·
       refine wc_skip ?_
       refine qn_then ?_
       refine wc_draw (fun w => Sx.St w0 F0 ([Sx.blk b40 [.int .i64 ((((pairsV (midX X Y) (midY X Y) ++ [(((midX X Y).length : Int), ((midY X Y).length : Int))])).getD (q : Nat) ((0, 0) : Int × Int)).1), .int .i64 ((((pairsV (midX X Y) (midY X Y) ++ [(((midX X Y).length : Int), ((midY X Y).length : Int))])).getD (q : Nat) ((0, 0) : Int × Int)).2)] 69, Sx.row (Kd.pair (Kd.int .i64) (Kd.int .i64)) 69 (some ad36) (cp34) ((pairsV (midX X Y) (midY X Y) ++ [(((midX X Y).length : Int), ((midY X Y).length : Int))])), Sx.row k33 33 (Ae) (ce) (L)] ++ R) w) (by kernel_rfl) ?_
       replace h := st_drew h
       refine wa_tk 0 rfl rfl rfl (st_selT [true, true, true] h) (fun w_ hS => ov_indexAddrA ⟨b40, 0, none⟩ 0 ⟨b40, 0, none⟩ rfl rfl ar69 (by decide) rfl) ?_
       refine wa_tk 1 rfl rfl rfl (st_selT [true, true, true] h) (fun w_ hS => ov_loadb 0 _ hS rfl rfl sh3 rfl) ?_
       refine wa_tk 2 rfl rfl rfl (st_selT [true, true, true] h) (fun w_ hS => ov_bin _ rfl rfl (binR_add (r := ((((pairsV (midX X Y) (midY X Y) ++ [(((midX X Y).length : Int), ((midY X Y).length : Int))])).getD (q : Nat) ((0, 0) : Int × Int)).1) + 1) (Sx.w64 (by omega)))) ?_
       refine wa_tk 3 rfl rfl rfl (st_selT [true, true, true] h) (fun w_ hS => ov_indexAddrA ⟨b40, 0, none⟩ 1 ⟨b40, 1, none⟩ rfl rfl ar69 (by decide) rfl) ?_
       refine wa_tk 4 rfl rfl rfl (st_selT [true, true, true] h) (fun w_ hS => ov_loadb 0 _ hS rfl rfl sh3 rfl) ?_
       refine wa_tk 5 rfl rfl rfl (st_selT [true, true, true] h) (fun w_ hS => ov_bin _ rfl rfl (binR_add (r := ((((pairsV (midX X Y) (midY X Y) ++ [(((midX X Y).length : Int), ((midY X Y).length : Int))])).getD (q : Nat) ((0, 0) : Int × Int)).2) + 1) (Sx.w64 (by omega)))) ?_
       refine wa_tk 6 rfl rfl rfl (st_selT [true, true, true] h) (fun w_ hS => ov_assign _ rfl) ?_
       refine wa_tk 7 rfl rfl rfl (st_selT [true, true, true] h) (fun w_ hS => ov_assign _ rfl) ?_
       refine wa_done (by kernel_rfl) ?_
       refine qn_block_normal ?_
       refine qn_then ?_
       refine wc_region ?_
       refine wl_v rfl rfl (ov_bin _ rfl rfl (binR_add (r := (((q : Nat) : Int)) + 1) (Sx.w64 (by omega)))) ?_
       refine wl_v rfl rfl (ov_move _ rfl) ?_
       refine wl_nil ?_
       replace h := st_front 2 h
       replace h := st_front 2 h
       replace h := st_selT [true, true, false] h
       have hq_ : (pairsV (midX X Y) (midY X Y) ++ [(((midX X Y).length : Int), ((midY X Y).length : Int))]).drop q = (pairsV (midX X Y) (midY X Y) ++ [(((midX X Y).length : Int), ((midY X Y).length : Int))]).getD q ((0, 0) : Int × Int) :: (pairsV (midX X Y) (midY X Y) ++ [(((midX X Y).length : Int), ((midY X Y).length : Int))]).drop (q + 1) := by rw [List.drop_eq_getElem_cons (by omega), List.getD_eq_getElem?_getD, List.getElem?_eq_getElem (by omega)]; rfl
       have hj1_ := hJ.2.1
       have hj2_ := hJ.2.2.1
       rw [hq_] at hj1_ hj2_
       simp only [editsV] at hj2_
       rw [if_neg (by omega), List.nil_append] at hj2_
       refine qn_next ((q + 1), (((((pairsV (midX X Y) (midY X Y) ++ [(((midX X Y).length : Int), ((midY X Y).length : Int))])).getD (q : Nat) ((0, 0) : Int × Int)).1) + 1), (((((pairsV (midX X Y) (midY X Y) ++ [(((midX X Y).length : Int), ((midY X Y).length : Int))])).getD (q : Nat) ((0, 0) : Int × Int)).2) + 1), some ad36, Ae, ce, (L)) (by show (pairsV (midX X Y) (midY X Y) ++ [(((midX X Y).length : Int), ((midY X Y).length : Int))]).length - (q + 1) < (pairsV (midX X Y) (midY X Y) ++ [(((midX X Y).length : Int), ((midY X Y).length : Int))]).length - q; omega) ⟨rfl, rfl, rfl, rfl, (congrArg (fun z_ => some (Value.slice (Ae) z_ (ce))) (show ((L).length : Nat) = ((L)).length by first | rfl | simp)), (congrArg (fun z_ => some (Value.int .i64 z_)) (show (((((pairsV (midX X Y) (midY X Y) ++ [(((midX X Y).length : Int), ((midY X Y).length : Int))])).getD (q : Nat) ((0, 0) : Int × Int)).1) + 1 : Int) = (((((pairsV (midX X Y) (midY X Y) ++ [(((midX X Y).length : Int), ((midY X Y).length : Int))])).getD (q : Nat) ((0, 0) : Int × Int)).1) + 1) by omega)), (congrArg (fun z_ => some (Value.int .i64 z_)) (show (((((pairsV (midX X Y) (midY X Y) ++ [(((midX X Y).length : Int), ((midY X Y).length : Int))])).getD (q : Nat) ((0, 0) : Int × Int)).2) + 1 : Int) = (((((pairsV (midX X Y) (midY X Y) ++ [(((midX X Y).length : Int), ((midY X Y).length : Int))])).getD (q : Nat) ((0, 0) : Int × Int)).2) + 1) by omega)), rfl, rfl, (congrArg (fun z_ => some (Value.int .i64 z_)) (show ((((q : Nat) : Int)) + 1 : Int) = (((q + 1) : Nat) : Int) by omega)), trivial⟩ ?_
       show ((q + 1) ≤ (pairsV (midX X Y) (midY X Y) ++ [(((midX X Y).length : Int), ((midY X Y).length : Int))]).length ∧ Chain (midX X Y).length (midY X Y).length (((((pairsV (midX X Y) (midY X Y) ++ [(((midX X Y).length : Int), ((midY X Y).length : Int))])).getD (q : Nat) ((0, 0) : Int × Int)).1) + 1) (((((pairsV (midX X Y) (midY X Y) ++ [(((midX X Y).length : Int), ((midY X Y).length : Int))])).getD (q : Nat) ((0, 0) : Int × Int)).2) + 1) ((pairsV (midX X Y) (midY X Y) ++ [(((midX X Y).length : Int), ((midY X Y).length : Int))]).drop (q + 1)) ∧ (L) ++ (editsV ax bys b (preV X Y) ((pairsV (midX X Y) (midY X Y) ++ [(((midX X Y).length : Int), ((midY X Y).length : Int))]).drop (q + 1)) (((((pairsV (midX X Y) (midY X Y) ++ [(((midX X Y).length : Int), ((midY X Y).length : Int))])).getD (q : Nat) ((0, 0) : Int × Int)).1) + 1) (((((pairsV (midX X Y) (midY X Y) ++ [(((midX X Y).length : Int), ((midY X Y).length : Int))])).getD (q : Nat) ((0, 0) : Int × Int)).2) + 1)) = betweenV X Y ax bys b ∧ 0 ≤ (((((pairsV (midX X Y) (midY X Y) ++ [(((midX X Y).length : Int), ((midY X Y).length : Int))])).getD (q : Nat) ((0, 0) : Int × Int)).1) + 1) ∧ 0 ≤ (((((pairsV (midX X Y) (midY X Y) ++ [(((midX X Y).length : Int), ((midY X Y).length : Int))])).getD (q : Nat) ((0, 0) : Int × Int)).2) + 1) ∧ ((L)).length ≤ (q + 1)) ∧ _
       exact ⟨⟨by omega, hj1_.2.2.2.2, by exact hj2_, by omega, by omega, by omega⟩, h⟩
    ·
     refine wc_exit ?_
     refine qn_then_exit ?_
     refine qn_then_exit ?_
     refine qn_block_exit ?_
     refine qn_then ?_
     refine wc_seq ?_
     refine wc_region ?_
     refine wl_v rfl rfl (ov_move _ rfl) ?_
     refine wl_v rfl rfl (ov_assign _ rfl) ?_
     refine wl_nil ?_
     refine qn_then ?_
     refine wc_ret ?_
     have hq1_ : (pairsV (midX X Y) (midY X Y) ++ [(((midX X Y).length : Int), ((midY X Y).length : Int))]).drop q = [] := List.drop_eq_nil_of_le (by omega)
     have hL_ : L = betweenV X Y ax bys b := by
       have hj_ := hJ.2.2.1
       rw [hq1_] at hj_
       simpa only [editsV, List.append_nil] using hj_
     have e_ : L = (betweenV X Y ax bys b) := by exact hL_
     replace h := st_cast (congrArg (fun z_ => ([Sx.row (Kd.pair (Kd.int .i64) (Kd.int .i64)) 69 (Ap) (cp34) ((pairsV (midX X Y) (midY X Y) ++ [(((midX X Y).length : Int), ((midY X Y).length : Int))])), Sx.row k33 33 (Ae) (ce) (z_)] ++ R)) e_) h
     clear e_
     replace h := st_front 1 h
     replace h := st_selT [true, false] h
     refine qn_ret [_] ⟨rfl, trivial⟩ ?_
     exact ⟨Ae, ce, by rw [hL_]; rfl, h⟩
   ·
    refine wc_skip ?_
    refine qn_then ?_
    refine wc_seq ?_
    refine wc_draw (fun w => Sx.St w0 F0 ([Sx.blk b29 [.slice (A24) ((midX X Y).length) (cX - (((preV X Y) : Int).toNat)), .slice (A27) ((midY X Y).length) (cY - (((preV X Y) : Int).toNat)), .slice (Af) (Fs.length) (cf)] 64, Sx.row Far.kF 49 (Af) (cf) (Fs), Far.lib (Far.AllF Fs)] ++ R) w) (by kernel_rfl) ?_
    replace h := st_drew h
    refine wa_tk 0 rfl rfl rfl (st_selT [true, true, true] h) (fun w_ hS => ov_move _ rfl) ?_
    refine wa_tk 1 rfl rfl rfl (st_selT [true, true, true] h) (fun w_ hS => ov_move _ rfl) ?_
    refine wa_tk 2 rfl rfl rfl (st_selT [true, true, true] h) (fun w_ hS => ov_nilCheck _ rfl) ?_
    refine wa_tk 3 rfl rfl rfl (st_selT [true, true, true] h) (fun w_ hS => ov_fieldAddr _ ⟨b29, 0, none⟩ _ rfl fo64_0 rfl) ?_
    refine wa_tk 4 rfl rfl rfl (st_selT [true, true, true] h) (fun w_ hS => ov_loadb 0 _ hS rfl rfl sh52 rfl) ?_
    refine wa_tk 5 rfl rfl rfl (st_selT [true, true, true] h) (fun w_ hS => ov_len _ _ _ _ _ rfl es52) ?_
    refine wa_tk 6 rfl rfl rfl (st_selT [true, true, true] h) (fun w_ hS => ov_move _ rfl) ?_
    refine wa_tk 7 rfl rfl rfl (st_selT [true, true, true] h) (fun w_ hS => ov_nilCheck _ rfl) ?_
    refine wa_tk 8 rfl rfl rfl (st_selT [true, true, true] h) (fun w_ hS => ov_fieldAddr _ ⟨b29, 1, none⟩ _ rfl fo64_1 rfl) ?_
    refine wa_tk 9 rfl rfl rfl (st_selT [true, true, true] h) (fun w_ hS => ov_loadb 0 _ hS rfl rfl sh52 rfl) ?_
    refine wa_tk 10 rfl rfl rfl (st_selT [true, true, true] h) (fun w_ hS => ov_len _ _ _ _ _ rfl es52) ?_
    refine wa_tk 11 rfl rfl rfl (st_selT [true, true, true] h) (fun w_ hS => ov_build [(0, .int .i64 ((((midX X Y).length : Nat) : Int))), (1, .int .i64 ((((midY X Y).length : Nat) : Int)))] [.int .i64 ((((midX X Y).length : Nat) : Int)), .int .i64 ((((midY X Y).length : Nat) : Int))] rfl rfl (by kernel_rfl)) ?_
    refine wa_one 12 rfl (by kernel_rfl) ?_
    refine wl_lit (d := (Kd.pair (Kd.int .i64) (Kd.int .i64))) [(0, .agg #[.int .i64 ((((midX X Y).length : Nat) : Int)), .int .i64 ((((midY X Y).length : Nat) : Int))])] _ [.int .i64 ((((midX X Y).length : Nat) : Int)), .int .i64 ((((midY X Y).length : Nat) : Int))] ([(((((midX X Y).length : Nat) : Int), (((midY X Y).length : Nat) : Int)) : Int × Int)]) h rfl rfl rfl rfl Try.underlying65 infb69 rfl (by decide) (by kernel_rfl) rfl (fun _ _ _ => ((Reps.none _ _).snoc ((fun p_ => (⟨[.int .i64 p_.1], [.int .i64 p_.2], rfl, rfl, rfl⟩ : (Kd.pair (Kd.int .i64) (Kd.int .i64)).M _ _ _ p_ [.int .i64 p_.1, .int .i64 p_.2])) ((((((midX X Y).length : Nat) : Int), (((midY X Y).length : Nat) : Int)) : Int × Int))) rfl)) (fun A79 cp80 _ h => ?_)
    refine wl_nil ?_
    refine qn_wa (st_selT [false, true, true, true] h) ?_
    refine wa_one 13 rfl (by kernel_rfl) ?_
    replace h := st_nilrow (Kd.pair (Kd.int .i64) (Kd.int .i64)) 69 h
    refine wl_append (d := (Kd.pair (Kd.int .i64) (Kd.int .i64))) (L := []) 0 _ 16 _ _ _ ([(((((midX X Y).length : Nat) : Int), (((midY X Y).length : Nat) : Int)) : Int × Int)]) (Sx.flat_pair (Sx.flat_int _) (Sx.flat_int _)) h rfl rfl rfl rfl rfl ((Sx.row_reads h (i := 1) rfl).2) Try.underlying65 inf69 rfl (by decide) (by decide) (by first | omega | (simp only [List.length_cons, List.length_nil, List.length_append]; omega)) (by first | rfl | simp) (fun A81 cp82 _ h => ?_)
    replace h := st_selT [true, false, true, true, true] h
    refine wl_nil ?_
    refine qn_wa (st_selT [false, true, true, true] h) ?_
    refine wa_tk 14 rfl rfl rfl (st_selT [false, true, true, true] h) (fun w_ hS => ov_assign _ rfl) ?_
    refine wa_done (by kernel_rfl) ?_
    refine qn_then ?_
    refine wc_seq ?_
    refine wc_region ?_
    refine wl_v rfl rfl (ov_assign _ rfl) ?_
    refine wl_nil ?_
    refine qn_then ?_
    refine wc_seq ?_
    refine wc_region ?_
    refine wl_v rfl rfl (ov_assign _ rfl) ?_
    refine wl_v rfl rfl (ov_assign _ rfl) ?_
    refine wl_nil ?_
    refine qn_then ?_
    refine wc_seq ?_
    refine wc_seq ?_
    refine wc_region ?_
    refine wl_v rfl rfl (ov_move _ rfl) ?_
    refine wl_v rfl rfl (ov_len _ _ _ _ _ rfl es65) ?_
    refine wl_v rfl rfl (ov_move _ rfl) ?_
    refine wl_nil ?_
    refine qn_then ?_
    refine wc_block ?_
    have hno_ : pairsV (midX X Y) (midY X Y) = [] := pairs_not (D := D) (F := Fs.map (·.1)) (by rw [show ok = false from by assumption] at hrp_; exact hrp_)
    have e_ : ([]) ++ ([(((((midX X Y).length : Nat) : Int), (((midY X Y).length : Nat) : Int)) : Int × Int)]) = (pairsV (midX X Y) (midY X Y) ++ [(((midX X Y).length : Int), ((midY X Y).length : Int))]) := by rw [hno_]
    replace h := st_cast (congrArg (fun z_ => ([Sx.row (Kd.pair (Kd.int .i64) (Kd.int .i64)) 69 (A81) (cp82) (z_), Sx.blk b29 [.slice (A24) ((midX X Y).length) (cX - (((preV X Y) : Int).toNat)), .slice (A27) ((midY X Y).length) (cY - (((preV X Y) : Int).toNat)), .slice (Af) (Fs.length) (cf)] 64, Sx.row Far.kF 49 (Af) (cf) (Fs), Far.lib (Far.AllF Fs)] ++ R)) e_) h
    clear e_
    have hch_ := pairs_chain (midX X Y) (midY X Y)
    replace h := st_nilrow k33 33 h
    replace h := st_front 1 h
    replace h := st_selT [true, true, false, false, false] h
    refine wc_loop (fun (x_ : Nat × Int × Int × (Option Addr) × (Option Addr) × Nat × (List Edit)) => [(2, .slice (Aa) (ax.length) (ca)), (3, .slice (Ab) (bys.length) (cb)), (4, .string (b)), (11, .int .i64 ((preV X Y))), (17, .slice (x_.2.2.2.2.1) ((x_.2.2.2.2.2.2).length) (x_.2.2.2.2.2.1)), (18, .int .i64 (x_.2.1)), (19, .int .i64 (x_.2.2.1)), (119, .slice (x_.2.2.2.1) ((pairsV (midX X Y) (midY X Y) ++ [(((midX X Y).length : Int), ((midY X Y).length : Int))]).length) (cp82)), (120, .int .i64 ((((pairsV (midX X Y) (midY X Y) ++ [(((midX X Y).length : Int), ((midY X Y).length : Int))]).length : Nat) : Int))), (121, .int .i64 (((x_.1 : Nat) : Int)))]) (fun (x_ : Nat × Int × Int × (Option Addr) × (Option Addr) × Nat × (List Edit)) (w : World) => (x_.1 ≤ (pairsV (midX X Y) (midY X Y) ++ [(((midX X Y).length : Int), ((midY X Y).length : Int))]).length ∧ Chain (midX X Y).length (midY X Y).length x_.2.1 x_.2.2.1 ((pairsV (midX X Y) (midY X Y) ++ [(((midX X Y).length : Int), ((midY X Y).length : Int))]).drop x_.1) ∧ x_.2.2.2.2.2.2 ++ (editsV ax bys b (preV X Y) ((pairsV (midX X Y) (midY X Y) ++ [(((midX X Y).length : Int), ((midY X Y).length : Int))]).drop x_.1) x_.2.1 x_.2.2.1) = betweenV X Y ax bys b ∧ 0 ≤ x_.2.1 ∧ 0 ≤ x_.2.2.1 ∧ (x_.2.2.2.2.2.2).length ≤ x_.1) ∧ Sx.St w0 F0 ([Sx.row (Kd.pair (Kd.int .i64) (Kd.int .i64)) 69 (x_.2.2.2.1) (cp82) ((pairsV (midX X Y) (midY X Y) ++ [(((midX X Y).length : Int), ((midY X Y).length : Int))])), Sx.row k33 33 (x_.2.2.2.2.1) (x_.2.2.2.2.2.1) (x_.2.2.2.2.2.2)] ++ R) w) (fun (x_ : Nat × Int × Int × (Option Addr) × (Option Addr) × Nat × (List Edit)) => (pairsV (midX X Y) (midY X Y) ++ [(((midX X Y).length : Int), ((midY X Y).length : Int))]).length - x_.1) (0, 0, 0, A81, none, 0, []) ?_ ?_ ?_
    · exact ⟨rfl, rfl, rfl, rfl, (congrArg (fun z_ => some (Value.slice (none) z_ (0))) (show (0 : Nat) = ([]).length by first | rfl | simp)), rfl, rfl, (congrArg (fun z_ => some (Value.slice (A81) z_ (cp82))) (by rw [hno_])), (congrArg (fun z_ => some (Value.int .i64 z_)) (show ((((([]) ++ ([(((((midX X Y).length : Nat) : Int), (((midY X Y).length : Nat) : Int)) : Int × Int)])).length : Nat) : Int) : Int) = (((pairsV (midX X Y) (midY X Y) ++ [(((midX X Y).length : Int), ((midY X Y).length : Int))]).length : Nat) : Int) by rw [hno_])), (congrArg (fun z_ => some (Value.int .i64 z_)) (show (0 : Int) = ((0 : Nat) : Int) by omega)), trivial⟩
    · exact ⟨⟨Nat.zero_le _, hch_, rfl, Int.le_refl _, Int.le_refl _, Nat.le_refl _⟩, h⟩
    rintro ⟨q, i, j, Ap, Ae, ce, L⟩ w h
    obtain ⟨hJ, h⟩ := h
    replace hJ : q ≤ (pairsV (midX X Y) (midY X Y) ++ [(((midX X Y).length : Int), ((midY X Y).length : Int))]).length ∧ Chain (midX X Y).length (midY X Y).length i j ((pairsV (midX X Y) (midY X Y) ++ [(((midX X Y).length : Int), ((midY X Y).length : Int))]).drop q) ∧ L ++ (editsV ax bys b (preV X Y) ((pairsV (midX X Y) (midY X Y) ++ [(((midX X Y).length : Int), ((midY X Y).length : Int))]).drop q) i j) = betweenV X Y ax bys b ∧ 0 ≤ i ∧ 0 ≤ j ∧ (L).length ≤ q := hJ
    replace h : Sx.St w0 F0 ([Sx.row (Kd.pair (Kd.int .i64) (Kd.int .i64)) 69 (Ap) (cp82) ((pairsV (midX X Y) (midY X Y) ++ [(((midX X Y).length : Int), ((midY X Y).length : Int))])), Sx.row k33 33 (Ae) (ce) (L)] ++ R) w := h
    show Sx.WC _ _ _ _ [(2, .slice (Aa) (ax.length) (ca)), (3, .slice (Ab) (bys.length) (cb)), (4, .string (b)), (11, .int .i64 ((preV X Y))), (17, .slice (Ae) ((L).length) (ce)), (18, .int .i64 (i)), (19, .int .i64 (j)), (119, .slice (Ap) ((pairsV (midX X Y) (midY X Y) ++ [(((midX X Y).length : Int), ((midY X Y).length : Int))]).length) (cp82)), (120, .int .i64 ((((pairsV (midX X Y) (midY X Y) ++ [(((midX X Y).length : Int), ((midY X Y).length : Int))]).length : Nat) : Int))), (121, .int .i64 (((q : Nat) : Int)))] _
    refine wc_seq ?_
    refine wc_region ?_
    refine wl_v rfl rfl (ov_bin _ rfl rfl (binR_lss)) ?_
    refine wl_nil ?_
    refine qn_then ?_
    refine wc_seq ?_
    refine wc_cond (by rfl) (fun c83 => ?_) (fun c83 => ?_)
    ·
     have hq0_ : (pairsV (midX X Y) (midY X Y) ++ [(((midX X Y).length : Int), ((midY X Y).length : Int))]).drop q = (pairsV (midX X Y) (midY X Y) ++ [(((midX X Y).length : Int), ((midY X Y).length : Int))]).getD q ((0, 0) : Int × Int) :: (pairsV (midX X Y) (midY X Y) ++ [(((midX X Y).length : Int), ((midY X Y).length : Int))]).drop (q + 1) := by rw [List.drop_eq_getElem_cons (by omega), List.getD_eq_getElem?_getD, List.getElem?_eq_getElem (by omega)]; rfl
     have hc0_ := hJ.2.1
     rw [hq0_] at hc0_
     obtain ⟨hc1_, hc2_, hc3_, hc4_, _⟩ := hc0_
     refine wc_skip ?_
     refine qn_then ?_
     refine wc_seq ?_
     refine wc_block ?_
     refine wc_seq ?_
     refine wc_region ?_
     obtain ⟨ad84, rfl⟩ := Sx.C_some ((Sx.row_reads h (i := 0) rfl).2) (k := (q : Nat)) (by first | assumption | omega)
     refine wl_v rfl rfl (ov_indexAddrN _ _ _ _ _ (q : Nat) rfl rfl es65 rfl (by first | assumption | omega | (simp only [List.length_take, List.length_drop, List.length_set]; omega))) ?_
     obtain ⟨cl87, _, hk86, hc85⟩ := Sx.C_cells ((Sx.row_reads h (i := 0) rfl).2) (z := ((0, 0) : Int × Int)) (k := (q : Nat)) (by first | assumption | omega)
     obtain ⟨_, _, rfl, rfl, rfl⟩ := hk86
     refine wl_v rfl rfl (ov_loadN _ [.int .i64 ((((pairsV (midX X Y) (midY X Y) ++ [(((midX X Y).length : Int), ((midY X Y).length : Int))])).getD (q : Nat) ((0, 0) : Int × Int)).1), .int .i64 ((((pairsV (midX X Y) (midY X Y) ++ [(((midX X Y).length : Int), ((midY X Y).length : Int))])).getD (q : Nat) ((0, 0) : Int × Int)).2)] rfl sh69 (by intro j u hu; rw [Deep.add_add]; exact (hc85 _ _ hu))) ?_
     refine wl_alloc _ h rfl rfl zo69 (fun b88 _ h => ?_)
     replace h : Sx.St _ _ (Sx.blk b88 [.int .i64 (0), .int .i64 (0)] 69 :: _) _ := h
     refine wl_storebN 0 [.int .i64 ((((pairsV (midX X Y) (midY X Y) ++ [(((midX X Y).length : Int), ((midY X Y).length : Int))])).getD (q : Nat) ((0, 0) : Int × Int)).1), .int .i64 ((((pairsV (midX X Y) (midY X Y) ++ [(((midX X Y).length : Int), ((midY X Y).length : Int))])).getD (q : Nat) ((0, 0) : Int × Int)).2)] [.int .i64 ((((pairsV (midX X Y) (midY X Y) ++ [(((midX X Y).length : Int), ((midY X Y).length : Int))])).getD (q : Nat) ((0, 0) : Int × Int)).1), .int .i64 ((((pairsV (midX X Y) (midY X Y) ++ [(((midX X Y).length : Int), ((midY X Y).length : Int))])).getD (q : Nat) ((0, 0) : Int × Int)).2)] h rfl rfl rfl rfl (by simp [Value.oneCell']) sh69 rfl rfl (fun _ h => ?_)
     refine wl_nil ?_
     refine qn_then ?_
     refine wc_seq ?_
     refine wc_seq ?_
     refine wc_region ?_
     refine wl_v rfl rfl (ov_indexAddrA ⟨b88, 0, none⟩ 0 ⟨b88, 0, none⟩ rfl rfl ar69 (by decide) rfl) ?_
     refine wl_v rfl rfl (ov_loadb 0 _ h rfl rfl sh3 rfl) ?_
     refine wl_v rfl rfl (ov_move _ rfl) ?_
     refine wl_v rfl rfl (ov_bin _ rfl rfl (binR_gtr)) ?_
     refine wl_v rfl rfl (ov_move _ rfl) ?_
     refine wl_split 129 rfl (fun c89 => ?_) (fun c89 => ?_)
     ·
      have hq0_ : (pairsV (midX X Y) (midY X Y) ++ [(((midX X Y).length : Int), ((midY X Y).length : Int))]).drop q = (pairsV (midX X Y) (midY X Y) ++ [(((midX X Y).length : Int), ((midY X Y).length : Int))]).getD q ((0, 0) : Int × Int) :: (pairsV (midX X Y) (midY X Y) ++ [(((midX X Y).length : Int), ((midY X Y).length : Int))]).drop (q + 1) := by rw [List.drop_eq_getElem_cons (by omega), List.getD_eq_getElem?_getD, List.getElem?_eq_getElem (by omega)]; rfl
      have hc0_ := hJ.2.1
      rw [hq0_] at hc0_
      obtain ⟨hc1_, hc2_, hc3_, hc4_, _⟩ := hc0_
      refine wl_skip rfl rfl ?_
      refine wl_skip rfl rfl ?_
      refine wl_skip rfl rfl ?_
      refine wl_skip rfl rfl ?_
      refine wl_v rfl rfl (ov_pick_true _ rfl rfl) ?_
      refine wl_nil ?_
      refine qn_then ?_
      refine wc_cond_true rfl ?_
      have hbo_ := hbo ((preV X Y) + j).toNat ((preV X Y) + ((pairsV (midX X Y) (midY X Y) ++ [(((midX X Y).length : Int), ((midY X Y).length : Int))]).getD q ((0, 0) : Int × Int)).2).toNat (by omega) (by omega)
      refine wc_draw (fun w => Sx.St w0 F0 ([Sx.blk b88 [.int .i64 ((((pairsV (midX X Y) (midY X Y) ++ [(((midX X Y).length : Int), ((midY X Y).length : Int))])).getD (q : Nat) ((0, 0) : Int × Int)).1), .int .i64 ((((pairsV (midX X Y) (midY X Y) ++ [(((midX X Y).length : Int), ((midY X Y).length : Int))])).getD (q : Nat) ((0, 0) : Int × Int)).2)] 69, Sx.row (Kd.pair (Kd.int .i64) (Kd.int .i64)) 69 (some ad84) (cp82) ((pairsV (midX X Y) (midY X Y) ++ [(((midX X Y).length : Int), ((midY X Y).length : Int))]))] ++ R) w) (by kernel_rfl) ?_
      replace h := st_drew h
      refine wa_tk 0 rfl rfl rfl (st_selT [true, true, false] h) (fun w_ hS => ov_move _ rfl) ?_
      refine wa_tk 1 rfl rfl rfl (st_selT [true, true, false] h) (fun w_ hS => ov_move _ rfl) ?_
      refine wa_tk 2 rfl rfl rfl (st_selT [true, true, false] h) (fun w_ hS => ov_move _ rfl) ?_
      refine wa_tk 3 rfl rfl rfl (st_selT [true, true, false] h) (fun w_ hS => ov_move _ rfl) ?_
      refine wa_tk 4 rfl rfl rfl (st_selT [true, true, false] h) (fun w_ hS => ov_bin _ rfl rfl (binR_add (r := ((preV X Y)) + i) (Sx.w64 (by omega)))) ?_
      obtain ⟨ad90, rfl⟩ := Sx.C_some ((Sx.ro_C hv h hCa)) (k := (((preV X Y)) + i : Int).toNat) (by first | assumption | omega)
      refine wa_tk 5 rfl rfl rfl (st_selT [true, true, false] h) (fun w_ hS => ov_indexAddrN _ _ _ _ _ (((preV X Y)) + i : Int).toNat rfl rfl es49 (by omega) (by first | assumption | omega | (simp only [List.length_take, List.length_drop, List.length_set]; omega))) ?_
      obtain ⟨cl93, _, hk92, hc91⟩ := Sx.C_cells (hCa) (z := (0 : Int)) (k := (((preV X Y)) + i : Int).toNat) (by first | assumption | omega)
      obtain rfl : cl93 = [.int .i64 _] := hk92
      refine wa_tk 6 rfl rfl rfl (st_selT [true, true, false] h) (fun w_ hS => ov_load1 _ _ rfl sh3 (Sx.ro_cell hv hS (hc91 0 _ rfl))) ?_
      refine wa_tk 7 rfl rfl rfl (st_selT [true, true, false] h) (fun w_ hS => ov_move _ rfl) ?_
      refine wa_tk 8 rfl rfl rfl (st_selT [true, true, false] h) (fun w_ hS => ov_move _ rfl) ?_
      refine wa_tk 9 rfl rfl rfl (st_selT [true, true, false] h) (fun w_ hS => ov_indexAddrA ⟨b88, 0, none⟩ 0 ⟨b88, 0, none⟩ rfl rfl ar69 (by decide) rfl) ?_
      refine wa_tk 10 rfl rfl rfl (st_selT [true, true, false] h) (fun w_ hS => ov_loadb 0 _ hS rfl rfl sh3 rfl) ?_
      refine wa_tk 11 rfl rfl rfl (st_selT [true, true, false] h) (fun w_ hS => ov_bin _ rfl rfl (binR_add (r := ((preV X Y)) + ((((pairsV (midX X Y) (midY X Y) ++ [(((midX X Y).length : Int), ((midY X Y).length : Int))])).getD (q : Nat) ((0, 0) : Int × Int)).1)) (Sx.w64 (by omega)))) ?_
      refine wa_tk 12 rfl rfl rfl (st_selT [true, true, false] h) (fun w_ hS => ov_indexAddrN _ _ _ _ _ (((preV X Y)) + ((((pairsV (midX X Y) (midY X Y) ++ [(((midX X Y).length : Int), ((midY X Y).length : Int))])).getD (q : Nat) ((0, 0) : Int × Int)).1) : Int).toNat rfl rfl es49 (by omega) (by first | assumption | omega | (simp only [List.length_take, List.length_drop, List.length_set]; omega))) ?_
      obtain ⟨cl96, _, hk95, hc94⟩ := Sx.C_cells (hCa) (z := (0 : Int)) (k := (((preV X Y)) + ((((pairsV (midX X Y) (midY X Y) ++ [(((midX X Y).length : Int), ((midY X Y).length : Int))])).getD (q : Nat) ((0, 0) : Int × Int)).1) : Int).toNat) (by first | assumption | omega)
      obtain rfl : cl96 = [.int .i64 _] := hk95
      refine wa_tk 13 rfl rfl rfl (st_selT [true, true, false] h) (fun w_ hS => ov_load1 _ _ rfl sh3 (Sx.ro_cell hv hS (hc94 0 _ rfl))) ?_
      refine wa_tk 14 rfl rfl rfl (st_selT [true, true, false] h) (fun w_ hS => ov_move _ rfl) ?_
      refine wa_tk 15 rfl rfl rfl (st_selT [true, true, false] h) (fun w_ hS => ov_move _ rfl) ?_
      refine wa_tk 16 rfl rfl rfl (st_selT [true, true, false] h) (fun w_ hS => ov_move _ rfl) ?_
      refine wa_tk 17 rfl rfl rfl (st_selT [true, true, false] h) (fun w_ hS => ov_move _ rfl) ?_
      refine wa_tk 18 rfl rfl rfl (st_selT [true, true, false] h) (fun w_ hS => ov_bin _ rfl rfl (binR_add (r := ((preV X Y)) + j) (Sx.w64 (by omega)))) ?_
      obtain ⟨ad97, rfl⟩ := Sx.C_some ((Sx.ro_C hv h hCb)) (k := (((preV X Y)) + j : Int).toNat) (by first | assumption | omega)
      refine wa_tk 19 rfl rfl rfl (st_selT [true, true, false] h) (fun w_ hS => ov_indexAddrN _ _ _ _ _ (((preV X Y)) + j : Int).toNat rfl rfl es49 (by omega) (by first | assumption | omega | (simp only [List.length_take, List.length_drop, List.length_set]; omega))) ?_
      obtain ⟨cl100, _, hk99, hc98⟩ := Sx.C_cells (hCb) (z := (0 : Int)) (k := (((preV X Y)) + j : Int).toNat) (by first | assumption | omega)
      obtain rfl : cl100 = [.int .i64 _] := hk99
      refine wa_tk 20 rfl rfl rfl (st_selT [true, true, false] h) (fun w_ hS => ov_load1 _ _ rfl sh3 (Sx.ro_cell hv hS (hc98 0 _ rfl))) ?_
      refine wa_tk 21 rfl rfl rfl (st_selT [true, true, false] h) (fun w_ hS => ov_move _ rfl) ?_
      refine wa_tk 22 rfl rfl rfl (st_selT [true, true, false] h) (fun w_ hS => ov_move _ rfl) ?_
      refine wa_tk 23 rfl rfl rfl (st_selT [true, true, false] h) (fun w_ hS => ov_indexAddrA ⟨b88, 0, none⟩ 1 ⟨b88, 1, none⟩ rfl rfl ar69 (by decide) rfl) ?_
      refine wa_tk 24 rfl rfl rfl (st_selT [true, true, false] h) (fun w_ hS => ov_loadb 0 _ hS rfl rfl sh3 rfl) ?_
      refine wa_tk 25 rfl rfl rfl (st_selT [true, true, false] h) (fun w_ hS => ov_bin _ rfl rfl (binR_add (r := ((preV X Y)) + ((((pairsV (midX X Y) (midY X Y) ++ [(((midX X Y).length : Int), ((midY X Y).length : Int))])).getD (q : Nat) ((0, 0) : Int × Int)).2)) (Sx.w64 (by omega)))) ?_
      refine wa_tk 26 rfl rfl rfl (st_selT [true, true, false] h) (fun w_ hS => ov_indexAddrN _ _ _ _ _ (((preV X Y)) + ((((pairsV (midX X Y) (midY X Y) ++ [(((midX X Y).length : Int), ((midY X Y).length : Int))])).getD (q : Nat) ((0, 0) : Int × Int)).2) : Int).toNat rfl rfl es49 (by omega) (by first | assumption | omega | (simp only [List.length_take, List.length_drop, List.length_set]; omega))) ?_
      obtain ⟨cl103, _, hk102, hc101⟩ := Sx.C_cells (hCb) (z := (0 : Int)) (k := (((preV X Y)) + ((((pairsV (midX X Y) (midY X Y) ++ [(((midX X Y).length : Int), ((midY X Y).length : Int))])).getD (q : Nat) ((0, 0) : Int × Int)).2) : Int).toNat) (by first | assumption | omega)
      obtain rfl : cl103 = [.int .i64 _] := hk102
      refine wa_tk 27 rfl rfl rfl (st_selT [true, true, false] h) (fun w_ hS => ov_load1 _ _ rfl sh3 (Sx.ro_cell hv hS (hc101 0 _ rfl))) ?_
      refine wa_tk 28 rfl rfl rfl (st_selT [true, true, false] h) (fun w_ hS => by exact ov_slices _ (((bys).getD (((preV X Y)) + j : Int).toNat (0 : Int) : Int).toNat) (((bys).getD (((preV X Y)) + ((((pairsV (midX X Y) (midY X Y) ++ [(((midX X Y).length : Int), ((midY X Y).length : Int))])).getD (q : Nat) ((0, 0) : Int × Int)).2) : Int).toNat (0 : Int) : Int).toNat) (by rfl) (by exact ⟨_, _, rfl, (by omega)⟩) (by exact ⟨_, _, rfl, (by omega)⟩) Try.underlying9 (by omega) (by omega)) ?_
      refine wa_tk 29 rfl rfl rfl (st_selT [true, true, false] h) (fun w_ hS => ov_build [(0, .int .i64 ((ax).getD (((preV X Y)) + i : Int).toNat (0 : Int))), (1, .int .i64 ((ax).getD (((preV X Y)) + ((((pairsV (midX X Y) (midY X Y) ++ [(((midX X Y).length : Int), ((midY X Y).length : Int))])).getD (q : Nat) ((0, 0) : Int × Int)).1) : Int).toNat (0 : Int))), (2, .string ((b).extract (((bys).getD (((preV X Y)) + j : Int).toNat (0 : Int) : Int).toNat) (((bys).getD (((preV X Y)) + ((((pairsV (midX X Y) (midY X Y) ++ [(((midX X Y).length : Int), ((midY X Y).length : Int))])).getD (q : Nat) ((0, 0) : Int × Int)).2) : Int).toNat (0 : Int) : Int).toNat)))] [.int .i64 ((ax).getD (((preV X Y)) + i : Int).toNat (0 : Int)), .int .i64 ((ax).getD (((preV X Y)) + ((((pairsV (midX X Y) (midY X Y) ++ [(((midX X Y).length : Int), ((midY X Y).length : Int))])).getD (q : Nat) ((0, 0) : Int × Int)).1) : Int).toNat (0 : Int)), .string ((b).extract (((bys).getD (((preV X Y)) + j : Int).toNat (0 : Int) : Int).toNat) (((bys).getD (((preV X Y)) + ((((pairsV (midX X Y) (midY X Y) ++ [(((midX X Y).length : Int), ((midY X Y).length : Int))])).getD (q : Nat) ((0, 0) : Int × Int)).2) : Int).toNat (0 : Int) : Int).toNat))] rfl rfl (by kernel_rfl)) ?_
      refine wa_one 30 rfl (by kernel_rfl) ?_
      refine wl_lit (d := k33) [(0, .agg #[.int .i64 ((ax).getD (((preV X Y)) + i : Int).toNat (0 : Int)), .int .i64 ((ax).getD (((preV X Y)) + ((((pairsV (midX X Y) (midY X Y) ++ [(((midX X Y).length : Int), ((midY X Y).length : Int))])).getD (q : Nat) ((0, 0) : Int × Int)).1) : Int).toNat (0 : Int)), .string ((b).extract (((bys).getD (((preV X Y)) + j : Int).toNat (0 : Int) : Int).toNat) (((bys).getD (((preV X Y)) + ((((pairsV (midX X Y) (midY X Y) ++ [(((midX X Y).length : Int), ((midY X Y).length : Int))])).getD (q : Nat) ((0, 0) : Int × Int)).2) : Int).toNat (0 : Int) : Int).toNat))])] _ [.int .i64 ((ax).getD (((preV X Y)) + i : Int).toNat (0 : Int)), .int .i64 ((ax).getD (((preV X Y)) + ((((pairsV (midX X Y) (midY X Y) ++ [(((midX X Y).length : Int), ((midY X Y).length : Int))])).getD (q : Nat) ((0, 0) : Int × Int)).1) : Int).toNat (0 : Int)), .string ((b).extract (((bys).getD (((preV X Y)) + j : Int).toNat (0 : Int) : Int).toNat) (((bys).getD (((preV X Y)) + ((((pairsV (midX X Y) (midY X Y) ++ [(((midX X Y).length : Int), ((midY X Y).length : Int))])).getD (q : Nat) ((0, 0) : Int × Int)).2) : Int).toNat (0 : Int) : Int).toNat))] ([(⟨(ax).getD (((preV X Y)) + i : Int).toNat (0 : Int), (ax).getD (((preV X Y)) + ((((pairsV (midX X Y) (midY X Y) ++ [(((midX X Y).length : Int), ((midY X Y).length : Int))])).getD (q : Nat) ((0, 0) : Int × Int)).1) : Int).toNat (0 : Int), (b).extract (((bys).getD (((preV X Y)) + j : Int).toNat (0 : Int) : Int).toNat) (((bys).getD (((preV X Y)) + ((((pairsV (midX X Y) (midY X Y) ++ [(((midX X Y).length : Int), ((midY X Y).length : Int))])).getD (q : Nat) ((0, 0) : Int × Int)).2) : Int).toNat (0 : Int) : Int).toNat)⟩ : S33)]) h rfl rfl rfl rfl Try.underlying22 infb33 rfl (by decide) (by kernel_rfl) rfl (fun _ _ _ => ((Reps.none _ _).snoc (k33_mkM _ _ _ ((⟨(ax).getD (((preV X Y)) + i : Int).toNat (0 : Int), (ax).getD (((preV X Y)) + ((((pairsV (midX X Y) (midY X Y) ++ [(((midX X Y).length : Int), ((midY X Y).length : Int))])).getD (q : Nat) ((0, 0) : Int × Int)).1) : Int).toNat (0 : Int), (b).extract (((bys).getD (((preV X Y)) + j : Int).toNat (0 : Int) : Int).toNat) (((bys).getD (((preV X Y)) + ((((pairsV (midX X Y) (midY X Y) ++ [(((midX X Y).length : Int), ((midY X Y).length : Int))])).getD (q : Nat) ((0, 0) : Int × Int)).2) : Int).toNat (0 : Int) : Int).toNat)⟩ : S33))) rfl)) (fun A104 cp105 _ h => ?_)
      refine wl_nil ?_
      refine qn_wa (st_selT [false, true, true, false] h) ?_
      refine wa_one 31 rfl (by kernel_rfl) ?_
      refine wl_append (d := k33) (L := L) 3 _ 32 _ _ _ ([(⟨(ax).getD (((preV X Y)) + i : Int).toNat (0 : Int), (ax).getD (((preV X Y)) + ((((pairsV (midX X Y) (midY X Y) ++ [(((midX X Y).length : Int), ((midY X Y).length : Int))])).getD (q : Nat) ((0, 0) : Int × Int)).1) : Int).toNat (0 : Int), (b).extract (((bys).getD (((preV X Y)) + j : Int).toNat (0 : Int) : Int).toNat) (((bys).getD (((preV X Y)) + ((((pairsV (midX X Y) (midY X Y) ++ [(((midX X Y).length : Int), ((midY X Y).length : Int))])).getD (q : Nat) ((0, 0) : Int × Int)).2) : Int).toNat (0 : Int) : Int).toNat)⟩ : S33)]) flat33 h rfl rfl rfl rfl rfl ((Sx.row_reads h (i := 0) rfl).2) Try.underlying22 inf33 rfl (by decide) (by decide) (by first | omega | (simp only [List.length_cons, List.length_nil, List.length_append]; omega)) (by first | rfl | simp) (fun A106 cp107 _ h => ?_)
      replace h := st_selT [false, true, true, true] h
      refine wl_nil ?_
      refine qn_wa (st_selT [true, true, false] h) ?_
      refine wa_tk 32 rfl rfl rfl (st_selT [true, true, false] h) (fun w_ hS => ov_assign _ rfl) ?_
      refine wa_done (by kernel_rfl) ?_
      refine qn_then ?_
      refine wc_draw (fun w => Sx.St w0 F0 ([Sx.blk b88 [.int .i64 ((((pairsV (midX X Y) (midY X Y) ++ [(((midX X Y).length : Int), ((midY X Y).length : Int))])).getD (q : Nat) ((0, 0) : Int × Int)).1), .int .i64 ((((pairsV (midX X Y) (midY X Y) ++ [(((midX X Y).length : Int), ((midY X Y).length : Int))])).getD (q : Nat) ((0, 0) : Int × Int)).2)] 69, Sx.row (Kd.pair (Kd.int .i64) (Kd.int .i64)) 69 (some ad84) (cp82) ((pairsV (midX X Y) (midY X Y) ++ [(((midX X Y).length : Int), ((midY X Y).length : Int))])), Sx.row k33 33 (A106) (cp107) (L ++ ([(⟨(ax).getD (((preV X Y)) + i : Int).toNat (0 : Int), (ax).getD (((preV X Y)) + ((((pairsV (midX X Y) (midY X Y) ++ [(((midX X Y).length : Int), ((midY X Y).length : Int))])).getD (q : Nat) ((0, 0) : Int × Int)).1) : Int).toNat (0 : Int), (b).extract (((bys).getD (((preV X Y)) + j : Int).toNat (0 : Int) : Int).toNat) (((bys).getD (((preV X Y)) + ((((pairsV (midX X Y) (midY X Y) ++ [(((midX X Y).length : Int), ((midY X Y).length : Int))])).getD (q : Nat) ((0, 0) : Int × Int)).2) : Int).toNat (0 : Int) : Int).toNat)⟩ : S33)]))] ++ R) w) (by kernel_rfl) ?_
      replace h := st_drew h
      refine wa_tk 0 rfl rfl rfl (st_selT [true, true, true] h) (fun w_ hS => ov_indexAddrA ⟨b88, 0, none⟩ 0 ⟨b88, 0, none⟩ rfl rfl ar69 (by decide) rfl) ?_
      refine wa_tk 1 rfl rfl rfl (st_selT [true, true, true] h) (fun w_ hS => ov_loadb 0 _ hS rfl rfl sh3 rfl) ?_
      refine wa_tk 2 rfl rfl rfl (st_selT [true, true, true] h) (fun w_ hS => ov_bin _ rfl rfl (binR_add (r := ((((pairsV (midX X Y) (midY X Y) ++ [(((midX X Y).length : Int), ((midY X Y).length : Int))])).getD (q : Nat) ((0, 0) : Int × Int)).1) + 1) (Sx.w64 (by omega)))) ?_
      refine wa_tk 3 rfl rfl rfl (st_selT [true, true, true] h) (fun w_ hS => ov_indexAddrA ⟨b88, 0, none⟩ 1 ⟨b88, 1, none⟩ rfl rfl ar69 (by decide) rfl) ?_
      refine wa_tk 4 rfl rfl rfl (st_selT [true, true, true] h) (fun w_ hS => ov_loadb 0 _ hS rfl rfl sh3 rfl) ?_
      refine wa_tk 5 rfl rfl rfl (st_selT [true, true, true] h) (fun w_ hS => ov_bin _ rfl rfl (binR_add (r := ((((pairsV (midX X Y) (midY X Y) ++ [(((midX X Y).length : Int), ((midY X Y).length : Int))])).getD (q : Nat) ((0, 0) : Int × Int)).2) + 1) (Sx.w64 (by omega)))) ?_
      refine wa_tk 6 rfl rfl rfl (st_selT [true, true, true] h) (fun w_ hS => ov_assign _ rfl) ?_
      refine wa_tk 7 rfl rfl rfl (st_selT [true, true, true] h) (fun w_ hS => ov_assign _ rfl) ?_
      refine wa_done (by kernel_rfl) ?_
      refine qn_block_normal ?_
      refine qn_then ?_
      refine wc_region ?_
      refine wl_v rfl rfl (ov_bin _ rfl rfl (binR_add (r := (((q : Nat) : Int)) + 1) (Sx.w64 (by omega)))) ?_
      refine wl_v rfl rfl (ov_move _ rfl) ?_
      refine wl_nil ?_
      replace h := st_front 2 h
      replace h := st_front 2 h
      replace h := st_selT [true, true, false] h
      have hq_ : (pairsV (midX X Y) (midY X Y) ++ [(((midX X Y).length : Int), ((midY X Y).length : Int))]).drop q = (pairsV (midX X Y) (midY X Y) ++ [(((midX X Y).length : Int), ((midY X Y).length : Int))]).getD q ((0, 0) : Int × Int) :: (pairsV (midX X Y) (midY X Y) ++ [(((midX X Y).length : Int), ((midY X Y).length : Int))]).drop (q + 1) := by rw [List.drop_eq_getElem_cons (by omega), List.getD_eq_getElem?_getD, List.getElem?_eq_getElem (by omega)]; rfl
      have hj1_ := hJ.2.1
      have hj2_ := hJ.2.2.1
      rw [hq_] at hj1_ hj2_
      simp only [editsV] at hj2_
      rw [if_pos (by omega)] at hj2_
      refine qn_next ((q + 1), (((((pairsV (midX X Y) (midY X Y) ++ [(((midX X Y).length : Int), ((midY X Y).length : Int))])).getD (q : Nat) ((0, 0) : Int × Int)).1) + 1), (((((pairsV (midX X Y) (midY X Y) ++ [(((midX X Y).length : Int), ((midY X Y).length : Int))])).getD (q : Nat) ((0, 0) : Int × Int)).2) + 1), some ad84, A106, cp107, (L ++ ([(⟨(ax).getD (((preV X Y)) + i : Int).toNat (0 : Int), (ax).getD (((preV X Y)) + ((((pairsV (midX X Y) (midY X Y) ++ [(((midX X Y).length : Int), ((midY X Y).length : Int))])).getD (q : Nat) ((0, 0) : Int × Int)).1) : Int).toNat (0 : Int), (b).extract (((bys).getD (((preV X Y)) + j : Int).toNat (0 : Int) : Int).toNat) (((bys).getD (((preV X Y)) + ((((pairsV (midX X Y) (midY X Y) ++ [(((midX X Y).length : Int), ((midY X Y).length : Int))])).getD (q : Nat) ((0, 0) : Int × Int)).2) : Int).toNat (0 : Int) : Int).toNat)⟩ : S33)]))) (by show (pairsV (midX X Y) (midY X Y) ++ [(((midX X Y).length : Int), ((midY X Y).length : Int))]).length - (q + 1) < (pairsV (midX X Y) (midY X Y) ++ [(((midX X Y).length : Int), ((midY X Y).length : Int))]).length - q; omega) ⟨(congrArg (fun z_ => some (Value.slice (some ad90) z_ (ca))) (show (ax.length : Nat) = ax.length by first | rfl | simp)), (congrArg (fun z_ => some (Value.slice (some ad97) z_ (cb))) (show (bys.length : Nat) = bys.length by first | rfl | simp)), rfl, rfl, (congrArg (fun z_ => some (Value.slice (A106) z_ (cp107))) (show ((L ++ ([(⟨(ax).getD (((preV X Y)) + i : Int).toNat (0 : Int), (ax).getD (((preV X Y)) + ((((pairsV (midX X Y) (midY X Y) ++ [(((midX X Y).length : Int), ((midY X Y).length : Int))])).getD (q : Nat) ((0, 0) : Int × Int)).1) : Int).toNat (0 : Int), (b).extract (((bys).getD (((preV X Y)) + j : Int).toNat (0 : Int) : Int).toNat) (((bys).getD (((preV X Y)) + ((((pairsV (midX X Y) (midY X Y) ++ [(((midX X Y).length : Int), ((midY X Y).length : Int))])).getD (q : Nat) ((0, 0) : Int × Int)).2) : Int).toNat (0 : Int) : Int).toNat)⟩ : S33)])).length : Nat) = ((L ++ ([(⟨(ax).getD (((preV X Y)) + i : Int).toNat (0 : Int), (ax).getD (((preV X Y)) + ((((pairsV (midX X Y) (midY X Y) ++ [(((midX X Y).length : Int), ((midY X Y).length : Int))])).getD (q : Nat) ((0, 0) : Int × Int)).1) : Int).toNat (0 : Int), (b).extract (((bys).getD (((preV X Y)) + j : Int).toNat (0 : Int) : Int).toNat) (((bys).getD (((preV X Y)) + ((((pairsV (midX X Y) (midY X Y) ++ [(((midX X Y).length : Int), ((midY X Y).length : Int))])).getD (q : Nat) ((0, 0) : Int × Int)).2) : Int).toNat (0 : Int) : Int).toNat)⟩ : S33)]))).length by first | rfl | simp)), (congrArg (fun z_ => some (Value.int .i64 z_)) (show (((((pairsV (midX X Y) (midY X Y) ++ [(((midX X Y).length : Int), ((midY X Y).length : Int))])).getD (q : Nat) ((0, 0) : Int × Int)).1) + 1 : Int) = (((((pairsV (midX X Y) (midY X Y) ++ [(((midX X Y).length : Int), ((midY X Y).length : Int))])).getD (q : Nat) ((0, 0) : Int × Int)).1) + 1) by omega)), (congrArg (fun z_ => some (Value.int .i64 z_)) (show (((((pairsV (midX X Y) (midY X Y) ++ [(((midX X Y).length : Int), ((midY X Y).length : Int))])).getD (q : Nat) ((0, 0) : Int × Int)).2) + 1 : Int) = (((((pairsV (midX X Y) (midY X Y) ++ [(((midX X Y).length : Int), ((midY X Y).length : Int))])).getD (q : Nat) ((0, 0) : Int × Int)).2) + 1) by omega)), rfl, rfl, (congrArg (fun z_ => some (Value.int .i64 z_)) (show ((((q : Nat) : Int)) + 1 : Int) = (((q + 1) : Nat) : Int) by omega)), trivial⟩ ?_
      show ((q + 1) ≤ (pairsV (midX X Y) (midY X Y) ++ [(((midX X Y).length : Int), ((midY X Y).length : Int))]).length ∧ Chain (midX X Y).length (midY X Y).length (((((pairsV (midX X Y) (midY X Y) ++ [(((midX X Y).length : Int), ((midY X Y).length : Int))])).getD (q : Nat) ((0, 0) : Int × Int)).1) + 1) (((((pairsV (midX X Y) (midY X Y) ++ [(((midX X Y).length : Int), ((midY X Y).length : Int))])).getD (q : Nat) ((0, 0) : Int × Int)).2) + 1) ((pairsV (midX X Y) (midY X Y) ++ [(((midX X Y).length : Int), ((midY X Y).length : Int))]).drop (q + 1)) ∧ (L ++ ([(⟨(ax).getD (((preV X Y)) + i : Int).toNat (0 : Int), (ax).getD (((preV X Y)) + ((((pairsV (midX X Y) (midY X Y) ++ [(((midX X Y).length : Int), ((midY X Y).length : Int))])).getD (q : Nat) ((0, 0) : Int × Int)).1) : Int).toNat (0 : Int), (b).extract (((bys).getD (((preV X Y)) + j : Int).toNat (0 : Int) : Int).toNat) (((bys).getD (((preV X Y)) + ((((pairsV (midX X Y) (midY X Y) ++ [(((midX X Y).length : Int), ((midY X Y).length : Int))])).getD (q : Nat) ((0, 0) : Int × Int)).2) : Int).toNat (0 : Int) : Int).toNat)⟩ : S33)])) ++ (editsV ax bys b (preV X Y) ((pairsV (midX X Y) (midY X Y) ++ [(((midX X Y).length : Int), ((midY X Y).length : Int))]).drop (q + 1)) (((((pairsV (midX X Y) (midY X Y) ++ [(((midX X Y).length : Int), ((midY X Y).length : Int))])).getD (q : Nat) ((0, 0) : Int × Int)).1) + 1) (((((pairsV (midX X Y) (midY X Y) ++ [(((midX X Y).length : Int), ((midY X Y).length : Int))])).getD (q : Nat) ((0, 0) : Int × Int)).2) + 1)) = betweenV X Y ax bys b ∧ 0 ≤ (((((pairsV (midX X Y) (midY X Y) ++ [(((midX X Y).length : Int), ((midY X Y).length : Int))])).getD (q : Nat) ((0, 0) : Int × Int)).1) + 1) ∧ 0 ≤ (((((pairsV (midX X Y) (midY X Y) ++ [(((midX X Y).length : Int), ((midY X Y).length : Int))])).getD (q : Nat) ((0, 0) : Int × Int)).2) + 1) ∧ ((L ++ ([(⟨(ax).getD (((preV X Y)) + i : Int).toNat (0 : Int), (ax).getD (((preV X Y)) + ((((pairsV (midX X Y) (midY X Y) ++ [(((midX X Y).length : Int), ((midY X Y).length : Int))])).getD (q : Nat) ((0, 0) : Int × Int)).1) : Int).toNat (0 : Int), (b).extract (((bys).getD (((preV X Y)) + j : Int).toNat (0 : Int) : Int).toNat) (((bys).getD (((preV X Y)) + ((((pairsV (midX X Y) (midY X Y) ++ [(((midX X Y).length : Int), ((midY X Y).length : Int))])).getD (q : Nat) ((0, 0) : Int × Int)).2) : Int).toNat (0 : Int) : Int).toNat)⟩ : S33)]))).length ≤ (q + 1)) ∧ _
      exact ⟨⟨by omega, hj1_.2.2.2.2, by rw [← List.append_assoc] at hj2_; exact hj2_, by omega, by omega, by simp only [List.length_append, List.length_cons, List.length_nil]; omega⟩, h⟩
     ·
      refine wl_v rfl rfl (ov_indexAddrA ⟨b88, 0, none⟩ 1 ⟨b88, 1, none⟩ rfl rfl ar69 (by decide) rfl) ?_
      refine wl_v rfl rfl (ov_loadb 0 _ h rfl rfl sh3 rfl) ?_
      refine wl_v rfl rfl (ov_move _ rfl) ?_
      refine wl_v rfl rfl (ov_bin _ rfl rfl (binR_gtr)) ?_
      refine wl_v rfl rfl (ov_pick_false _ rfl rfl) ?_
      refine wl_nil ?_
      refine qn_then ?_
      refine wc_cond (by rfl) (fun c108 => ?_) (fun c108 => ?_)
      ·
       have hq0_ : (pairsV (midX X Y) (midY X Y) ++ [(((midX X Y).length : Int), ((midY X Y).length : Int))]).drop q = (pairsV (midX X Y) (midY X Y) ++ [(((midX X Y).length : Int), ((midY X Y).length : Int))]).getD q ((0, 0) : Int × Int) :: (pairsV (midX X Y) (midY X Y) ++ [(((midX X Y).length : Int), ((midY X Y).length : Int))]).drop (q + 1) := by rw [List.drop_eq_getElem_cons (by omega), List.getD_eq_getElem?_getD, List.getElem?_eq_getElem (by omega)]; rfl
       have hc0_ := hJ.2.1
       rw [hq0_] at hc0_
       obtain ⟨hc1_, hc2_, hc3_, hc4_, _⟩ := hc0_
       have hbo_ := hbo ((preV X Y) + j).toNat ((preV X Y) + ((pairsV (midX X Y) (midY X Y) ++ [(((midX X Y).length : Int), ((midY X Y).length : Int))]).getD q ((0, 0) : Int × Int)).2).toNat (by omega) (by omega)
       refine wc_draw (fun w => Sx.St w0 F0 ([Sx.blk b88 [.int .i64 ((((pairsV (midX X Y) (midY X Y) ++ [(((midX X Y).length : Int), ((midY X Y).length : Int))])).getD (q : Nat) ((0, 0) : Int × Int)).1), .int .i64 ((((pairsV (midX X Y) (midY X Y) ++ [(((midX X Y).length : Int), ((midY X Y).length : Int))])).getD (q : Nat) ((0, 0) : Int × Int)).2)] 69, Sx.row (Kd.pair (Kd.int .i64) (Kd.int .i64)) 69 (some ad84) (cp82) ((pairsV (midX X Y) (midY X Y) ++ [(((midX X Y).length : Int), ((midY X Y).length : Int))]))] ++ R) w) (by kernel_rfl) ?_
       replace h := st_drew h
       refine wa_tk 0 rfl rfl rfl (st_selT [true, true, false] h) (fun w_ hS => ov_move _ rfl) ?_
       refine wa_tk 1 rfl rfl rfl (st_selT [true, true, false] h) (fun w_ hS => ov_move _ rfl) ?_
       refine wa_tk 2 rfl rfl rfl (st_selT [true, true, false] h) (fun w_ hS => ov_move _ rfl) ?_
       refine wa_tk 3 rfl rfl rfl (st_selT [true, true, false] h) (fun w_ hS => ov_move _ rfl) ?_
       refine wa_tk 4 rfl rfl rfl (st_selT [true, true, false] h) (fun w_ hS => ov_bin _ rfl rfl (binR_add (r := ((preV X Y)) + i) (Sx.w64 (by omega)))) ?_
       obtain ⟨ad109, rfl⟩ := Sx.C_some ((Sx.ro_C hv h hCa)) (k := (((preV X Y)) + i : Int).toNat) (by first | assumption | omega)
       refine wa_tk 5 rfl rfl rfl (st_selT [true, true, false] h) (fun w_ hS => ov_indexAddrN _ _ _ _ _ (((preV X Y)) + i : Int).toNat rfl rfl es49 (by omega) (by first | assumption | omega | (simp only [List.length_take, List.length_drop, List.length_set]; omega))) ?_
       obtain ⟨cl112, _, hk111, hc110⟩ := Sx.C_cells (hCa) (z := (0 : Int)) (k := (((preV X Y)) + i : Int).toNat) (by first | assumption | omega)
       obtain rfl : cl112 = [.int .i64 _] := hk111
       refine wa_tk 6 rfl rfl rfl (st_selT [true, true, false] h) (fun w_ hS => ov_load1 _ _ rfl sh3 (Sx.ro_cell hv hS (hc110 0 _ rfl))) ?_
       refine wa_tk 7 rfl rfl rfl (st_selT [true, true, false] h) (fun w_ hS => ov_move _ rfl) ?_
       refine wa_tk 8 rfl rfl rfl (st_selT [true, true, false] h) (fun w_ hS => ov_move _ rfl) ?_
       refine wa_tk 9 rfl rfl rfl (st_selT [true, true, false] h) (fun w_ hS => ov_indexAddrA ⟨b88, 0, none⟩ 0 ⟨b88, 0, none⟩ rfl rfl ar69 (by decide) rfl) ?_
       refine wa_tk 10 rfl rfl rfl (st_selT [true, true, false] h) (fun w_ hS => ov_loadb 0 _ hS rfl rfl sh3 rfl) ?_
       refine wa_tk 11 rfl rfl rfl (st_selT [true, true, false] h) (fun w_ hS => ov_bin _ rfl rfl (binR_add (r := ((preV X Y)) + ((((pairsV (midX X Y) (midY X Y) ++ [(((midX X Y).length : Int), ((midY X Y).length : Int))])).getD (q : Nat) ((0, 0) : Int × Int)).1)) (Sx.w64 (by omega)))) ?_
       refine wa_tk 12 rfl rfl rfl (st_selT [true, true, false] h) (fun w_ hS => ov_indexAddrN _ _ _ _ _ (((preV X Y)) + ((((pairsV (midX X Y) (midY X Y) ++ [(((midX X Y).length : Int), ((midY X Y).length : Int))])).getD (q : Nat) ((0, 0) : Int × Int)).1) : Int).toNat rfl rfl es49 (by omega) (by first | assumption | omega | (simp only [List.length_take, List.length_drop, List.length_set]; omega))) ?_
       obtain ⟨cl115, _, hk114, hc113⟩ := Sx.C_cells (hCa) (z := (0 : Int)) (k := (((preV X Y)) + ((((pairsV (midX X Y) (midY X Y) ++ [(((midX X Y).length : Int), ((midY X Y).length : Int))])).getD (q : Nat) ((0, 0) : Int × Int)).1) : Int).toNat) (by first | assumption | omega)
       obtain rfl : cl115 = [.int .i64 _] := hk114
       refine wa_tk 13 rfl rfl rfl (st_selT [true, true, false] h) (fun w_ hS => ov_load1 _ _ rfl sh3 (Sx.ro_cell hv hS (hc113 0 _ rfl))) ?_
       refine wa_tk 14 rfl rfl rfl (st_selT [true, true, false] h) (fun w_ hS => ov_move _ rfl) ?_
       refine wa_tk 15 rfl rfl rfl (st_selT [true, true, false] h) (fun w_ hS => ov_move _ rfl) ?_
       refine wa_tk 16 rfl rfl rfl (st_selT [true, true, false] h) (fun w_ hS => ov_move _ rfl) ?_
       refine wa_tk 17 rfl rfl rfl (st_selT [true, true, false] h) (fun w_ hS => ov_move _ rfl) ?_
       refine wa_tk 18 rfl rfl rfl (st_selT [true, true, false] h) (fun w_ hS => ov_bin _ rfl rfl (binR_add (r := ((preV X Y)) + j) (Sx.w64 (by omega)))) ?_
       obtain ⟨ad116, rfl⟩ := Sx.C_some ((Sx.ro_C hv h hCb)) (k := (((preV X Y)) + j : Int).toNat) (by first | assumption | omega)
       refine wa_tk 19 rfl rfl rfl (st_selT [true, true, false] h) (fun w_ hS => ov_indexAddrN _ _ _ _ _ (((preV X Y)) + j : Int).toNat rfl rfl es49 (by omega) (by first | assumption | omega | (simp only [List.length_take, List.length_drop, List.length_set]; omega))) ?_
       obtain ⟨cl119, _, hk118, hc117⟩ := Sx.C_cells (hCb) (z := (0 : Int)) (k := (((preV X Y)) + j : Int).toNat) (by first | assumption | omega)
       obtain rfl : cl119 = [.int .i64 _] := hk118
       refine wa_tk 20 rfl rfl rfl (st_selT [true, true, false] h) (fun w_ hS => ov_load1 _ _ rfl sh3 (Sx.ro_cell hv hS (hc117 0 _ rfl))) ?_
       refine wa_tk 21 rfl rfl rfl (st_selT [true, true, false] h) (fun w_ hS => ov_move _ rfl) ?_
       refine wa_tk 22 rfl rfl rfl (st_selT [true, true, false] h) (fun w_ hS => ov_move _ rfl) ?_
       refine wa_tk 23 rfl rfl rfl (st_selT [true, true, false] h) (fun w_ hS => ov_indexAddrA ⟨b88, 0, none⟩ 1 ⟨b88, 1, none⟩ rfl rfl ar69 (by decide) rfl) ?_
       refine wa_tk 24 rfl rfl rfl (st_selT [true, true, false] h) (fun w_ hS => ov_loadb 0 _ hS rfl rfl sh3 rfl) ?_
       refine wa_tk 25 rfl rfl rfl (st_selT [true, true, false] h) (fun w_ hS => ov_bin _ rfl rfl (binR_add (r := ((preV X Y)) + ((((pairsV (midX X Y) (midY X Y) ++ [(((midX X Y).length : Int), ((midY X Y).length : Int))])).getD (q : Nat) ((0, 0) : Int × Int)).2)) (Sx.w64 (by omega)))) ?_
       refine wa_tk 26 rfl rfl rfl (st_selT [true, true, false] h) (fun w_ hS => ov_indexAddrN _ _ _ _ _ (((preV X Y)) + ((((pairsV (midX X Y) (midY X Y) ++ [(((midX X Y).length : Int), ((midY X Y).length : Int))])).getD (q : Nat) ((0, 0) : Int × Int)).2) : Int).toNat rfl rfl es49 (by omega) (by first | assumption | omega | (simp only [List.length_take, List.length_drop, List.length_set]; omega))) ?_
       obtain ⟨cl122, _, hk121, hc120⟩ := Sx.C_cells (hCb) (z := (0 : Int)) (k := (((preV X Y)) + ((((pairsV (midX X Y) (midY X Y) ++ [(((midX X Y).length : Int), ((midY X Y).length : Int))])).getD (q : Nat) ((0, 0) : Int × Int)).2) : Int).toNat) (by first | assumption | omega)
       obtain rfl : cl122 = [.int .i64 _] := hk121
       refine wa_tk 27 rfl rfl rfl (st_selT [true, true, false] h) (fun w_ hS => ov_load1 _ _ rfl sh3 (Sx.ro_cell hv hS (hc120 0 _ rfl))) ?_
       refine wa_tk 28 rfl rfl rfl (st_selT [true, true, false] h) (fun w_ hS => by exact ov_slices _ (((bys).getD (((preV X Y)) + j : Int).toNat (0 : Int) : Int).toNat) (((bys).getD (((preV X Y)) + ((((pairsV (midX X Y) (midY X Y) ++ [(((midX X Y).length : Int), ((midY X Y).length : Int))])).getD (q : Nat) ((0, 0) : Int × Int)).2) : Int).toNat (0 : Int) : Int).toNat) (by rfl) (by exact ⟨_, _, rfl, (by omega)⟩) (by exact ⟨_, _, rfl, (by omega)⟩) Try.underlying9 (by omega) (by omega)) ?_
       refine wa_tk 29 rfl rfl rfl (st_selT [true, true, false] h) (fun w_ hS => ov_build [(0, .int .i64 ((ax).getD (((preV X Y)) + i : Int).toNat (0 : Int))), (1, .int .i64 ((ax).getD (((preV X Y)) + ((((pairsV (midX X Y) (midY X Y) ++ [(((midX X Y).length : Int), ((midY X Y).length : Int))])).getD (q : Nat) ((0, 0) : Int × Int)).1) : Int).toNat (0 : Int))), (2, .string ((b).extract (((bys).getD (((preV X Y)) + j : Int).toNat (0 : Int) : Int).toNat) (((bys).getD (((preV X Y)) + ((((pairsV (midX X Y) (midY X Y) ++ [(((midX X Y).length : Int), ((midY X Y).length : Int))])).getD (q : Nat) ((0, 0) : Int × Int)).2) : Int).toNat (0 : Int) : Int).toNat)))] [.int .i64 ((ax).getD (((preV X Y)) + i : Int).toNat (0 : Int)), .int .i64 ((ax).getD (((preV X Y)) + ((((pairsV (midX X Y) (midY X Y) ++ [(((midX X Y).length : Int), ((midY X Y).length : Int))])).getD (q : Nat) ((0, 0) : Int × Int)).1) : Int).toNat (0 : Int)), .string ((b).extract (((bys).getD (((preV X Y)) + j : Int).toNat (0 : Int) : Int).toNat) (((bys).getD (((preV X Y)) + ((((pairsV (midX X Y) (midY X Y) ++ [(((midX X Y).length : Int), ((midY X Y).length : Int))])).getD (q : Nat) ((0, 0) : Int × Int)).2) : Int).toNat (0 : Int) : Int).toNat))] rfl rfl (by kernel_rfl)) ?_
       refine wa_one 30 rfl (by kernel_rfl) ?_
       refine wl_lit (d := k33) [(0, .agg #[.int .i64 ((ax).getD (((preV X Y)) + i : Int).toNat (0 : Int)), .int .i64 ((ax).getD (((preV X Y)) + ((((pairsV (midX X Y) (midY X Y) ++ [(((midX X Y).length : Int), ((midY X Y).length : Int))])).getD (q : Nat) ((0, 0) : Int × Int)).1) : Int).toNat (0 : Int)), .string ((b).extract (((bys).getD (((preV X Y)) + j : Int).toNat (0 : Int) : Int).toNat) (((bys).getD (((preV X Y)) + ((((pairsV (midX X Y) (midY X Y) ++ [(((midX X Y).length : Int), ((midY X Y).length : Int))])).getD (q : Nat) ((0, 0) : Int × Int)).2) : Int).toNat (0 : Int) : Int).toNat))])] _ [.int .i64 ((ax).getD (((preV X Y)) + i : Int).toNat (0 : Int)), .int .i64 ((ax).getD (((preV X Y)) + ((((pairsV (midX X Y) (midY X Y) ++ [(((midX X Y).length : Int), ((midY X Y).length : Int))])).getD (q : Nat) ((0, 0) : Int × Int)).1) : Int).toNat (0 : Int)), .string ((b).extract (((bys).getD (((preV X Y)) + j : Int).toNat (0 : Int) : Int).toNat) (((bys).getD (((preV X Y)) + ((((pairsV (midX X Y) (midY X Y) ++ [(((midX X Y).length : Int), ((midY X Y).length : Int))])).getD (q : Nat) ((0, 0) : Int × Int)).2) : Int).toNat (0 : Int) : Int).toNat))] ([(⟨(ax).getD (((preV X Y)) + i : Int).toNat (0 : Int), (ax).getD (((preV X Y)) + ((((pairsV (midX X Y) (midY X Y) ++ [(((midX X Y).length : Int), ((midY X Y).length : Int))])).getD (q : Nat) ((0, 0) : Int × Int)).1) : Int).toNat (0 : Int), (b).extract (((bys).getD (((preV X Y)) + j : Int).toNat (0 : Int) : Int).toNat) (((bys).getD (((preV X Y)) + ((((pairsV (midX X Y) (midY X Y) ++ [(((midX X Y).length : Int), ((midY X Y).length : Int))])).getD (q : Nat) ((0, 0) : Int × Int)).2) : Int).toNat (0 : Int) : Int).toNat)⟩ : S33)]) h rfl rfl rfl rfl Try.underlying22 infb33 rfl (by decide) (by kernel_rfl) rfl (fun _ _ _ => ((Reps.none _ _).snoc (k33_mkM _ _ _ ((⟨(ax).getD (((preV X Y)) + i : Int).toNat (0 : Int), (ax).getD (((preV X Y)) + ((((pairsV (midX X Y) (midY X Y) ++ [(((midX X Y).length : Int), ((midY X Y).length : Int))])).getD (q : Nat) ((0, 0) : Int × Int)).1) : Int).toNat (0 : Int), (b).extract (((bys).getD (((preV X Y)) + j : Int).toNat (0 : Int) : Int).toNat) (((bys).getD (((preV X Y)) + ((((pairsV (midX X Y) (midY X Y) ++ [(((midX X Y).length : Int), ((midY X Y).length : Int))])).getD (q : Nat) ((0, 0) : Int × Int)).2) : Int).toNat (0 : Int) : Int).toNat)⟩ : S33))) rfl)) (fun A123 cp124 _ h => ?_)
       refine wl_nil ?_
       refine qn_wa (st_selT [false, true, true, false] h) ?_
       refine wa_one 31 rfl (by kernel_rfl) ?_
       refine wl_append (d := k33) (L := L) 3 _ 32 _ _ _ ([(⟨(ax).getD (((preV X Y)) + i : Int).toNat (0 : Int), (ax).getD (((preV X Y)) + ((((pairsV (midX X Y) (midY X Y) ++ [(((midX X Y).length : Int), ((midY X Y).length : Int))])).getD (q : Nat) ((0, 0) : Int × Int)).1) : Int).toNat (0 : Int), (b).extract (((bys).getD (((preV X Y)) + j : Int).toNat (0 : Int) : Int).toNat) (((bys).getD (((preV X Y)) + ((((pairsV (midX X Y) (midY X Y) ++ [(((midX X Y).length : Int), ((midY X Y).length : Int))])).getD (q : Nat) ((0, 0) : Int × Int)).2) : Int).toNat (0 : Int) : Int).toNat)⟩ : S33)]) flat33 h rfl rfl rfl rfl rfl ((Sx.row_reads h (i := 0) rfl).2) Try.underlying22 inf33 rfl (by decide) (by decide) (by first | omega | (simp only [List.length_cons, List.length_nil, List.length_append]; omega)) (by first | rfl | simp) (fun A125 cp126 _ h => ?_)
       replace h := st_selT [false, true, true, true] h
       refine wl_nil ?_
       refine qn_wa (st_selT [true, true, false] h) ?_
       refine wa_tk 32 rfl rfl rfl (st_selT [true, true, false] h) (fun w_ hS => ov_assign _ rfl) ?_
       refine wa_done (by kernel_rfl) ?_
       refine qn_then ?_
       refine wc_draw (fun w => Sx.St w0 F0 ([Sx.blk b88 [.int .i64 ((((pairsV (midX X Y) (midY X Y) ++ [(((midX X Y).length : Int), ((midY X Y).length : Int))])).getD (q : Nat) ((0, 0) : Int × Int)).1), .int .i64 ((((pairsV (midX X Y) (midY X Y) ++ [(((midX X Y).length : Int), ((midY X Y).length : Int))])).getD (q : Nat) ((0, 0) : Int × Int)).2)] 69, Sx.row (Kd.pair (Kd.int .i64) (Kd.int .i64)) 69 (some ad84) (cp82) ((pairsV (midX X Y) (midY X Y) ++ [(((midX X Y).length : Int), ((midY X Y).length : Int))])), Sx.row k33 33 (A125) (cp126) (L ++ ([(⟨(ax).getD (((preV X Y)) + i : Int).toNat (0 : Int), (ax).getD (((preV X Y)) + ((((pairsV (midX X Y) (midY X Y) ++ [(((midX X Y).length : Int), ((midY X Y).length : Int))])).getD (q : Nat) ((0, 0) : Int × Int)).1) : Int).toNat (0 : Int), (b).extract (((bys).getD (((preV X Y)) + j : Int).toNat (0 : Int) : Int).toNat) (((bys).getD (((preV X Y)) + ((((pairsV (midX X Y) (midY X Y) ++ [(((midX X Y).length : Int), ((midY X Y).length : Int))])).getD (q : Nat) ((0, 0) : Int × Int)).2) : Int).toNat (0 : Int) : Int).toNat)⟩ : S33)]))] ++ R) w) (by kernel_rfl) ?_
       replace h := st_drew h
       refine wa_tk 0 rfl rfl rfl (st_selT [true, true, true] h) (fun w_ hS => ov_indexAddrA ⟨b88, 0, none⟩ 0 ⟨b88, 0, none⟩ rfl rfl ar69 (by decide) rfl) ?_
       refine wa_tk 1 rfl rfl rfl (st_selT [true, true, true] h) (fun w_ hS => ov_loadb 0 _ hS rfl rfl sh3 rfl) ?_
       refine wa_tk 2 rfl rfl rfl (st_selT [true, true, true] h) (fun w_ hS => ov_bin _ rfl rfl (binR_add (r := ((((pairsV (midX X Y) (midY X Y) ++ [(((midX X Y).length : Int), ((midY X Y).length : Int))])).getD (q : Nat) ((0, 0) : Int × Int)).1) + 1) (Sx.w64 (by omega)))) ?_
       refine wa_tk 3 rfl rfl rfl (st_selT [true, true, true] h) (fun w_ hS => ov_indexAddrA ⟨b88, 0, none⟩ 1 ⟨b88, 1, none⟩ rfl rfl ar69 (by decide) rfl) ?_
       refine wa_tk 4 rfl rfl rfl (st_selT [true, true, true] h) (fun w_ hS => ov_loadb 0 _ hS rfl rfl sh3 rfl) ?_
       refine wa_tk 5 rfl rfl rfl (st_selT [true, true, true] h) (fun w_ hS => ov_bin _ rfl rfl (binR_add (r := ((((pairsV (midX X Y) (midY X Y) ++ [(((midX X Y).length : Int), ((midY X Y).length : Int))])).getD (q : Nat) ((0, 0) : Int × Int)).2) + 1) (Sx.w64 (by omega)))) ?_
       refine wa_tk 6 rfl rfl rfl (st_selT [true, true, true] h) (fun w_ hS => ov_assign _ rfl) ?_
       refine wa_tk 7 rfl rfl rfl (st_selT [true, true, true] h) (fun w_ hS => ov_assign _ rfl) ?_
       refine wa_done (by kernel_rfl) ?_
       refine qn_block_normal ?_
       refine qn_then ?_
       refine wc_region ?_
       refine wl_v rfl rfl (ov_bin _ rfl rfl (binR_add (r := (((q : Nat) : Int)) + 1) (Sx.w64 (by omega)))) ?_
       refine wl_v rfl rfl (ov_move _ rfl) ?_
       refine wl_nil ?_
       replace h := st_front 2 h
       replace h := st_front 2 h
       replace h := st_selT [true, true, false] h
       have hq_ : (pairsV (midX X Y) (midY X Y) ++ [(((midX X Y).length : Int), ((midY X Y).length : Int))]).drop q = (pairsV (midX X Y) (midY X Y) ++ [(((midX X Y).length : Int), ((midY X Y).length : Int))]).getD q ((0, 0) : Int × Int) :: (pairsV (midX X Y) (midY X Y) ++ [(((midX X Y).length : Int), ((midY X Y).length : Int))]).drop (q + 1) := by rw [List.drop_eq_getElem_cons (by omega), List.getD_eq_getElem?_getD, List.getElem?_eq_getElem (by omega)]; rfl
       have hj1_ := hJ.2.1
       have hj2_ := hJ.2.2.1
       rw [hq_] at hj1_ hj2_
       simp only [editsV] at hj2_
       rw [if_pos (by omega)] at hj2_
       refine qn_next ((q + 1), (((((pairsV (midX X Y) (midY X Y) ++ [(((midX X Y).length : Int), ((midY X Y).length : Int))])).getD (q : Nat) ((0, 0) : Int × Int)).1) + 1), (((((pairsV (midX X Y) (midY X Y) ++ [(((midX X Y).length : Int), ((midY X Y).length : Int))])).getD (q : Nat) ((0, 0) : Int × Int)).2) + 1), some ad84, A125, cp126, (L ++ ([(⟨(ax).getD (((preV X Y)) + i : Int).toNat (0 : Int), (ax).getD (((preV X Y)) + ((((pairsV (midX X Y) (midY X Y) ++ [(((midX X Y).length : Int), ((midY X Y).length : Int))])).getD (q : Nat) ((0, 0) : Int × Int)).1) : Int).toNat (0 : Int), (b).extract (((bys).getD (((preV X Y)) + j : Int).toNat (0 : Int) : Int).toNat) (((bys).getD (((preV X Y)) + ((((pairsV (midX X Y) (midY X Y) ++ [(((midX X Y).length : Int), ((midY X Y).length : Int))])).getD (q : Nat) ((0, 0) : Int × Int)).2) : Int).toNat (0 : Int) : Int).toNat)⟩ : S33)]))) (by show (pairsV (midX X Y) (midY X Y) ++ [(((midX X Y).length : Int), ((midY X Y).length : Int))]).length - (q + 1) < (pairsV (midX X Y) (midY X Y) ++ [(((midX X Y).length : Int), ((midY X Y).length : Int))]).length - q; omega) ⟨(congrArg (fun z_ => some (Value.slice (some ad109) z_ (ca))) (show (ax.length : Nat) = ax.length by first | rfl | simp)), (congrArg (fun z_ => some (Value.slice (some ad116) z_ (cb))) (show (bys.length : Nat) = bys.length by first | rfl | simp)), rfl, rfl, (congrArg (fun z_ => some (Value.slice (A125) z_ (cp126))) (show ((L ++ ([(⟨(ax).getD (((preV X Y)) + i : Int).toNat (0 : Int), (ax).getD (((preV X Y)) + ((((pairsV (midX X Y) (midY X Y) ++ [(((midX X Y).length : Int), ((midY X Y).length : Int))])).getD (q : Nat) ((0, 0) : Int × Int)).1) : Int).toNat (0 : Int), (b).extract (((bys).getD (((preV X Y)) + j : Int).toNat (0 : Int) : Int).toNat) (((bys).getD (((preV X Y)) + ((((pairsV (midX X Y) (midY X Y) ++ [(((midX X Y).length : Int), ((midY X Y).length : Int))])).getD (q : Nat) ((0, 0) : Int × Int)).2) : Int).toNat (0 : Int) : Int).toNat)⟩ : S33)])).length : Nat) = ((L ++ ([(⟨(ax).getD (((preV X Y)) + i : Int).toNat (0 : Int), (ax).getD (((preV X Y)) + ((((pairsV (midX X Y) (midY X Y) ++ [(((midX X Y).length : Int), ((midY X Y).length : Int))])).getD (q : Nat) ((0, 0) : Int × Int)).1) : Int).toNat (0 : Int), (b).extract (((bys).getD (((preV X Y)) + j : Int).toNat (0 : Int) : Int).toNat) (((bys).getD (((preV X Y)) + ((((pairsV (midX X Y) (midY X Y) ++ [(((midX X Y).length : Int), ((midY X Y).length : Int))])).getD (q : Nat) ((0, 0) : Int × Int)).2) : Int).toNat (0 : Int) : Int).toNat)⟩ : S33)]))).length by first | rfl | simp)), (congrArg (fun z_ => some (Value.int .i64 z_)) (show (((((pairsV (midX X Y) (midY X Y) ++ [(((midX X Y).length : Int), ((midY X Y).length : Int))])).getD (q : Nat) ((0, 0) : Int × Int)).1) + 1 : Int) = (((((pairsV (midX X Y) (midY X Y) ++ [(((midX X Y).length : Int), ((midY X Y).length : Int))])).getD (q : Nat) ((0, 0) : Int × Int)).1) + 1) by omega)), (congrArg (fun z_ => some (Value.int .i64 z_)) (show (((((pairsV (midX X Y) (midY X Y) ++ [(((midX X Y).length : Int), ((midY X Y).length : Int))])).getD (q : Nat) ((0, 0) : Int × Int)).2) + 1 : Int) = (((((pairsV (midX X Y) (midY X Y) ++ [(((midX X Y).length : Int), ((midY X Y).length : Int))])).getD (q : Nat) ((0, 0) : Int × Int)).2) + 1) by omega)), rfl, rfl, (congrArg (fun z_ => some (Value.int .i64 z_)) (show ((((q : Nat) : Int)) + 1 : Int) = (((q + 1) : Nat) : Int) by omega)), trivial⟩ ?_
       show ((q + 1) ≤ (pairsV (midX X Y) (midY X Y) ++ [(((midX X Y).length : Int), ((midY X Y).length : Int))]).length ∧ Chain (midX X Y).length (midY X Y).length (((((pairsV (midX X Y) (midY X Y) ++ [(((midX X Y).length : Int), ((midY X Y).length : Int))])).getD (q : Nat) ((0, 0) : Int × Int)).1) + 1) (((((pairsV (midX X Y) (midY X Y) ++ [(((midX X Y).length : Int), ((midY X Y).length : Int))])).getD (q : Nat) ((0, 0) : Int × Int)).2) + 1) ((pairsV (midX X Y) (midY X Y) ++ [(((midX X Y).length : Int), ((midY X Y).length : Int))]).drop (q + 1)) ∧ (L ++ ([(⟨(ax).getD (((preV X Y)) + i : Int).toNat (0 : Int), (ax).getD (((preV X Y)) + ((((pairsV (midX X Y) (midY X Y) ++ [(((midX X Y).length : Int), ((midY X Y).length : Int))])).getD (q : Nat) ((0, 0) : Int × Int)).1) : Int).toNat (0 : Int), (b).extract (((bys).getD (((preV X Y)) + j : Int).toNat (0 : Int) : Int).toNat) (((bys).getD (((preV X Y)) + ((((pairsV (midX X Y) (midY X Y) ++ [(((midX X Y).length : Int), ((midY X Y).length : Int))])).getD (q : Nat) ((0, 0) : Int × Int)).2) : Int).toNat (0 : Int) : Int).toNat)⟩ : S33)])) ++ (editsV ax bys b (preV X Y) ((pairsV (midX X Y) (midY X Y) ++ [(((midX X Y).length : Int), ((midY X Y).length : Int))]).drop (q + 1)) (((((pairsV (midX X Y) (midY X Y) ++ [(((midX X Y).length : Int), ((midY X Y).length : Int))])).getD (q : Nat) ((0, 0) : Int × Int)).1) + 1) (((((pairsV (midX X Y) (midY X Y) ++ [(((midX X Y).length : Int), ((midY X Y).length : Int))])).getD (q : Nat) ((0, 0) : Int × Int)).2) + 1)) = betweenV X Y ax bys b ∧ 0 ≤ (((((pairsV (midX X Y) (midY X Y) ++ [(((midX X Y).length : Int), ((midY X Y).length : Int))])).getD (q : Nat) ((0, 0) : Int × Int)).1) + 1) ∧ 0 ≤ (((((pairsV (midX X Y) (midY X Y) ++ [(((midX X Y).length : Int), ((midY X Y).length : Int))])).getD (q : Nat) ((0, 0) : Int × Int)).2) + 1) ∧ ((L ++ ([(⟨(ax).getD (((preV X Y)) + i : Int).toNat (0 : Int), (ax).getD (((preV X Y)) + ((((pairsV (midX X Y) (midY X Y) ++ [(((midX X Y).length : Int), ((midY X Y).length : Int))])).getD (q : Nat) ((0, 0) : Int × Int)).1) : Int).toNat (0 : Int), (b).extract (((bys).getD (((preV X Y)) + j : Int).toNat (0 : Int) : Int).toNat) (((bys).getD (((preV X Y)) + ((((pairsV (midX X Y) (midY X Y) ++ [(((midX X Y).length : Int), ((midY X Y).length : Int))])).getD (q : Nat) ((0, 0) : Int × Int)).2) : Int).toNat (0 : Int) : Int).toNat)⟩ : S33)]))).length ≤ (q + 1)) ∧ _
       exact ⟨⟨by omega, hj1_.2.2.2.2, by rw [← List.append_assoc] at hj2_; exact hj2_, by omega, by omega, by simp only [List.length_append, List.length_cons, List.length_nil]; omega⟩, h⟩
      ·
       refine wc_skip ?_
       refine qn_then ?_
       refine wc_draw (fun w => Sx.St w0 F0 ([Sx.blk b88 [.int .i64 ((((pairsV (midX X Y) (midY X Y) ++ [(((midX X Y).length : Int), ((midY X Y).length : Int))])).getD (q : Nat) ((0, 0) : Int × Int)).1), .int .i64 ((((pairsV (midX X Y) (midY X Y) ++ [(((midX X Y).length : Int), ((midY X Y).length : Int))])).getD (q : Nat) ((0, 0) : Int × Int)).2)] 69, Sx.row (Kd.pair (Kd.int .i64) (Kd.int .i64)) 69 (some ad84) (cp82) ((pairsV (midX X Y) (midY X Y) ++ [(((midX X Y).length : Int), ((midY X Y).length : Int))])), Sx.row k33 33 (Ae) (ce) (L)] ++ R) w) (by kernel_rfl) ?_
       replace h := st_drew h
       refine wa_tk 0 rfl rfl rfl (st_selT [true, true, true] h) (fun w_ hS => ov_indexAddrA ⟨b88, 0, none⟩ 0 ⟨b88, 0, none⟩ rfl rfl ar69 (by decide) rfl) ?_
       refine wa_tk 1 rfl rfl rfl (st_selT [true, true, true] h) (fun w_ hS => ov_loadb 0 _ hS rfl rfl sh3 rfl) ?_
       refine wa_tk 2 rfl rfl rfl (st_selT [true, true, true] h) (fun w_ hS => ov_bin _ rfl rfl (binR_add (r := ((((pairsV (midX X Y) (midY X Y) ++ [(((midX X Y).length : Int), ((midY X Y).length : Int))])).getD (q : Nat) ((0, 0) : Int × Int)).1) + 1) (Sx.w64 (by omega)))) ?_
       refine wa_tk 3 rfl rfl rfl (st_selT [true, true, true] h) (fun w_ hS => ov_indexAddrA ⟨b88, 0, none⟩ 1 ⟨b88, 1, none⟩ rfl rfl ar69 (by decide) rfl) ?_
       refine wa_tk 4 rfl rfl rfl (st_selT [true, true, true] h) (fun w_ hS => ov_loadb 0 _ hS rfl rfl sh3 rfl) ?_
       refine wa_tk 5 rfl rfl rfl (st_selT [true, true, true] h) (fun w_ hS => ov_bin _ rfl rfl (binR_add (r := ((((pairsV (midX X Y) (midY X Y) ++ [(((midX X Y).length : Int), ((midY X Y).length : Int))])).getD (q : Nat) ((0, 0) : Int × Int)).2) + 1) (Sx.w64 (by omega)))) ?_
       refine wa_tk 6 rfl rfl rfl (st_selT [true, true, true] h) (fun w_ hS => ov_assign _ rfl) ?_
       refine wa_tk 7 rfl rfl rfl (st_selT [true, true, true] h) (fun w_ hS => ov_assign _ rfl) ?_
       refine wa_done (by kernel_rfl) ?_
       refine qn_block_normal ?_
       refine qn_then ?_
       refine wc_region ?_
       refine wl_v rfl rfl (ov_bin _ rfl rfl (binR_add (r := (((q : Nat) : Int)) + 1) (Sx.w64 (by omega)))) ?_
       refine wl_v rfl rfl (ov_move _ rfl) ?_
       refine wl_nil ?_
       replace h := st_front 2 h
       replace h := st_front 2 h
       replace h := st_selT [true, true, false] h
       have hq_ : (pairsV (midX X Y) (midY X Y) ++ [(((midX X Y).length : Int), ((midY X Y).length : Int))]).drop q = (pairsV (midX X Y) (midY X Y) ++ [(((midX X Y).length : Int), ((midY X Y).length : Int))]).getD q ((0, 0) : Int × Int) :: (pairsV (midX X Y) (midY X Y) ++ [(((midX X Y).length : Int), ((midY X Y).length : Int))]).drop (q + 1) := by rw [List.drop_eq_getElem_cons (by omega), List.getD_eq_getElem?_getD, List.getElem?_eq_getElem (by omega)]; rfl
       have hj1_ := hJ.2.1
       have hj2_ := hJ.2.2.1
       rw [hq_] at hj1_ hj2_
       simp only [editsV] at hj2_
       rw [if_neg (by omega), List.nil_append] at hj2_
       refine qn_next ((q + 1), (((((pairsV (midX X Y) (midY X Y) ++ [(((midX X Y).length : Int), ((midY X Y).length : Int))])).getD (q : Nat) ((0, 0) : Int × Int)).1) + 1), (((((pairsV (midX X Y) (midY X Y) ++ [(((midX X Y).length : Int), ((midY X Y).length : Int))])).getD (q : Nat) ((0, 0) : Int × Int)).2) + 1), some ad84, Ae, ce, (L)) (by show (pairsV (midX X Y) (midY X Y) ++ [(((midX X Y).length : Int), ((midY X Y).length : Int))]).length - (q + 1) < (pairsV (midX X Y) (midY X Y) ++ [(((midX X Y).length : Int), ((midY X Y).length : Int))]).length - q; omega) ⟨rfl, rfl, rfl, rfl, (congrArg (fun z_ => some (Value.slice (Ae) z_ (ce))) (show ((L).length : Nat) = ((L)).length by first | rfl | simp)), (congrArg (fun z_ => some (Value.int .i64 z_)) (show (((((pairsV (midX X Y) (midY X Y) ++ [(((midX X Y).length : Int), ((midY X Y).length : Int))])).getD (q : Nat) ((0, 0) : Int × Int)).1) + 1 : Int) = (((((pairsV (midX X Y) (midY X Y) ++ [(((midX X Y).length : Int), ((midY X Y).length : Int))])).getD (q : Nat) ((0, 0) : Int × Int)).1) + 1) by omega)), (congrArg (fun z_ => some (Value.int .i64 z_)) (show (((((pairsV (midX X Y) (midY X Y) ++ [(((midX X Y).length : Int), ((midY X Y).length : Int))])).getD (q : Nat) ((0, 0) : Int × Int)).2) + 1 : Int) = (((((pairsV (midX X Y) (midY X Y) ++ [(((midX X Y).length : Int), ((midY X Y).length : Int))])).getD (q : Nat) ((0, 0) : Int × Int)).2) + 1) by omega)), rfl, rfl, (congrArg (fun z_ => some (Value.int .i64 z_)) (show ((((q : Nat) : Int)) + 1 : Int) = (((q + 1) : Nat) : Int) by omega)), trivial⟩ ?_
       show ((q + 1) ≤ (pairsV (midX X Y) (midY X Y) ++ [(((midX X Y).length : Int), ((midY X Y).length : Int))]).length ∧ Chain (midX X Y).length (midY X Y).length (((((pairsV (midX X Y) (midY X Y) ++ [(((midX X Y).length : Int), ((midY X Y).length : Int))])).getD (q : Nat) ((0, 0) : Int × Int)).1) + 1) (((((pairsV (midX X Y) (midY X Y) ++ [(((midX X Y).length : Int), ((midY X Y).length : Int))])).getD (q : Nat) ((0, 0) : Int × Int)).2) + 1) ((pairsV (midX X Y) (midY X Y) ++ [(((midX X Y).length : Int), ((midY X Y).length : Int))]).drop (q + 1)) ∧ (L) ++ (editsV ax bys b (preV X Y) ((pairsV (midX X Y) (midY X Y) ++ [(((midX X Y).length : Int), ((midY X Y).length : Int))]).drop (q + 1)) (((((pairsV (midX X Y) (midY X Y) ++ [(((midX X Y).length : Int), ((midY X Y).length : Int))])).getD (q : Nat) ((0, 0) : Int × Int)).1) + 1) (((((pairsV (midX X Y) (midY X Y) ++ [(((midX X Y).length : Int), ((midY X Y).length : Int))])).getD (q : Nat) ((0, 0) : Int × Int)).2) + 1)) = betweenV X Y ax bys b ∧ 0 ≤ (((((pairsV (midX X Y) (midY X Y) ++ [(((midX X Y).length : Int), ((midY X Y).length : Int))])).getD (q : Nat) ((0, 0) : Int × Int)).1) + 1) ∧ 0 ≤ (((((pairsV (midX X Y) (midY X Y) ++ [(((midX X Y).length : Int), ((midY X Y).length : Int))])).getD (q : Nat) ((0, 0) : Int × Int)).2) + 1) ∧ ((L)).length ≤ (q + 1)) ∧ _
       exact ⟨⟨by omega, hj1_.2.2.2.2, by exact hj2_, by omega, by omega, by omega⟩, h⟩
    ·
     refine wc_exit ?_
     refine qn_then_exit ?_
     refine qn_then_exit ?_
     refine qn_block_exit ?_
     refine qn_then ?_
     refine wc_seq ?_
     refine wc_region ?_
     refine wl_v rfl rfl (ov_move _ rfl) ?_
     refine wl_v rfl rfl (ov_assign _ rfl) ?_
     refine wl_nil ?_
     refine qn_then ?_
     refine wc_ret ?_
     have hq1_ : (pairsV (midX X Y) (midY X Y) ++ [(((midX X Y).length : Int), ((midY X Y).length : Int))]).drop q = [] := List.drop_eq_nil_of_le (by omega)
     have hL_ : L = betweenV X Y ax bys b := by
       have hj_ := hJ.2.2.1
       rw [hq1_] at hj_
       simpa only [editsV, List.append_nil] using hj_
     have e_ : L = (betweenV X Y ax bys b) := by exact hL_
     replace h := st_cast (congrArg (fun z_ => ([Sx.row (Kd.pair (Kd.int .i64) (Kd.int .i64)) 69 (Ap) (cp82) ((pairsV (midX X Y) (midY X Y) ++ [(((midX X Y).length : Int), ((midY X Y).length : Int))])), Sx.row k33 33 (Ae) (ce) (z_)] ++ R)) e_) h
     clear e_
     replace h := st_front 1 h
     replace h := st_selT [true, false] h
     refine qn_ret [_] ⟨rfl, trivial⟩ ?_
     exact ⟨Ae, ce, by rw [hL_]; rfl, h⟩
set_option maxHeartbeats 4000000 in
set_option maxRecDepth 100000 in
theorem Diff_calls {w0 w : World} {F0 : Nat → Prop} {R : List Sx.HP} (a b : ByteArray) (ha : a.size ≤ 100000) (hb : b.size ≤ 100000) (h : Sx.St w0 F0 ([] ++ R) w) : Calls Try.prog 21 #[.string (a), .string (b)] w (fun e w1 => ∃ Ae ce, e = .returned (.slice Ae (diffV a b).length ce) ∧ Sx.St w0 F0 ([Sx.row k33 33 (Ae) (ce) (diffV a b)] ++ R) w1) := by
 refine Sx.calls_fn (vs := [.string (a), .string (b)]) Try.func21 rfl Try.ntmps21 rfl ?_
 refine wc_seq ?_
 refine wc_region ?_
 refine wl_v rfl rfl (ov_assign _ rfl) ?_
 refine wl_nil ?_
 refine qn_then ?_
 refine wc_seq ?_
 refine wc_region ?_
 refine wl_v rfl rfl (ov_move _ rfl) ?_
 refine wl_call _ rfl rfl rfl ent32 (L.letters_calls (R := [] ++ R) (a) (by omega) h) ?_
 rintro e_ w_ ⟨Az1, cz1, Bz1, dz1, rfl, h⟩
 refine ⟨_, rfl, ?_⟩
 replace h : Sx.St w0 F0 ([Sx.row (Kd.int .i32) 21 (Az1) (cz1) ((lettersV (a))), Sx.row (Kd.int .i64) 3 (Bz1) (dz1) ((atsV (a)))] ++ R) _ := h
 refine wl_v rfl rfl (ov_move _ rfl) ?_
 refine wl_v rfl rfl (ov_extract [.slice (Az1) ((lettersV (a)).length) (cz1), .slice (Bz1) ((atsV (a)).length) (dz1)] _ rfl rfl) ?_
 refine wl_v rfl rfl (ov_extract [.slice (Az1) ((lettersV (a)).length) (cz1), .slice (Bz1) ((atsV (a)).length) (dz1)] _ rfl rfl) ?_
 refine wl_v rfl rfl (ov_assign _ rfl) ?_
 refine wl_v rfl rfl (ov_assign _ rfl) ?_
 refine wl_nil ?_
 refine qn_then ?_
 refine wc_seq ?_
 refine wc_region ?_
 refine wl_v rfl rfl (ov_move _ rfl) ?_
 refine wl_call _ rfl rfl rfl ent32 (L.letters_calls (R := [Sx.row (Kd.int .i32) 21 (Az1) (cz1) ((lettersV (a))), Sx.row (Kd.int .i64) 3 (Bz1) (dz1) ((atsV (a)))] ++ R) (b) (by omega) h) ?_
 rintro e_ w_ ⟨Az2, cz2, Bz2, dz2, rfl, h⟩
 refine ⟨_, rfl, ?_⟩
 replace h : Sx.St w0 F0 ([Sx.row (Kd.int .i32) 21 (Az2) (cz2) ((lettersV (b))), Sx.row (Kd.int .i64) 3 (Bz2) (dz2) ((atsV (b))), Sx.row (Kd.int .i32) 21 (Az1) (cz1) ((lettersV (a))), Sx.row (Kd.int .i64) 3 (Bz1) (dz1) ((atsV (a)))] ++ R) _ := h
 refine wl_v rfl rfl (ov_move _ rfl) ?_
 refine wl_v rfl rfl (ov_extract [.slice (Az2) ((lettersV (b)).length) (cz2), .slice (Bz2) ((atsV (b)).length) (dz2)] _ rfl rfl) ?_
 refine wl_v rfl rfl (ov_extract [.slice (Az2) ((lettersV (b)).length) (cz2), .slice (Bz2) ((atsV (b)).length) (dz2)] _ rfl rfl) ?_
 refine wl_v rfl rfl (ov_assign _ rfl) ?_
 refine wl_v rfl rfl (ov_assign _ rfl) ?_
 refine wl_nil ?_
 refine qn_then ?_
 refine wc_seq ?_
 refine wc_region ?_
 refine wl_v rfl rfl (ov_move _ rfl) ?_
 refine wl_v rfl rfl (ov_move _ rfl) ?_
 refine wl_v rfl rfl (ov_move _ rfl) ?_
 refine wl_v rfl rfl (ov_move _ rfl) ?_
 refine wl_v rfl rfl (ov_move _ rfl) ?_
 have hr1_ := Sx.row_reads h (i := 2) rfl
 have hr2_ := Sx.row_reads h (i := 0) rfl
 have hr3_ := Sx.row_reads h (i := 3) rfl
 have hr4_ := Sx.row_reads h (i := 1) rfl
 have hll1_ := letters_le (a)
 have hll2_ := letters_le (b)
 refine wl_call _ rfl rfl rfl ent33 (between_calls (v0 := w_) (w0 := w_) (F0 := fun _ => False) (R := []) (lettersV (a)) Az1 cz1 (lettersV (b)) Az2 cz2 (atsV (a)) Bz1 dz1 (atsV (b)) Bz2 dz2 (b) (Sx.ro_self w_) hr1_.1 hr1_.2 hr2_.1 hr2_.2 hr3_.1 hr3_.2 hr4_.1 hr4_.2 (by omega) (by omega) (ats_len _) (ats_len _) (ats_ok _) (by omega) (st_start w_)) ?_
 rintro e_ w_ ⟨Ae, ce, rfl, h2_⟩
 refine ⟨_, rfl, ?_⟩
 replace h := st_rebase h h2_
 replace h : Sx.St w0 F0 ([Sx.row k33 33 (Ae) (ce) ((diffV (a) (b))), Sx.row (Kd.int .i32) 21 (Az2) (cz2) ((lettersV (b))), Sx.row (Kd.int .i64) 3 (Bz2) (dz2) ((atsV (b))), Sx.row (Kd.int .i32) 21 (Az1) (cz1) ((lettersV (a))), Sx.row (Kd.int .i64) 3 (Bz1) (dz1) ((atsV (a)))] ++ R) _ := h
 refine wl_v rfl rfl (ov_assign _ rfl) ?_
 refine wl_nil ?_
 refine qn_then ?_
 refine wc_ret ?_
 replace h := st_selT [true, false, false, false, false] h
 refine qn_ret [_] ⟨rfl, trivial⟩ ?_
 exact ⟨Ae, ce, rfl, h⟩
end Go.Proofs.Ytbakllppgekmoaa.D
