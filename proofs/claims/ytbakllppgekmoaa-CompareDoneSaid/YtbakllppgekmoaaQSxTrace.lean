/- Pruned by wip/prune.py. -/
import Derived.Test.YtbakllppgekmoaaProg
import Derived.Test.YtbakllppgekmoaaQSxGlue
import Derived.Test.YtbakllppgekmoaaQSxKinds
import Derived.Test.YtbakllppgekmoaaQFarLib
namespace Go.Proofs.Ytbakllppgekmoaa.T
open Go Go.RowKit Go.Proofs.YtbakllppgekmoaaW.PrintWords Go.Proofs.Ytbakllppgekmoaa.Kinds Go.Proofs.Ytbakllppgekmoaa.Cmp Go.Proofs.Ytbakllppgekmoaa.Sx 
set_option linter.unusedVariables false
set_option linter.unusedSimpArgs false
theorem fo64_0 : Sx.fieldOff Try.prog 64 0 = some 0 := by kernel_rfl
theorem sh52 : Sx.shapeOf Try.prog 52 = some (false, 1) := by kernel_rfl
theorem es52 : Sx.elemSz Try.prog 52 = some (21, 1) := by kernel_rfl
theorem fo64_1 : Sx.fieldOff Try.prog 64 1 = some 1 := by kernel_rfl
theorem sh21 : Sx.shapeOf Try.prog 21 = some (false, 1) := by kernel_rfl
theorem fo64_2 : Sx.fieldOff Try.prog 64 2 = some 2 := by kernel_rfl
theorem sh62 : Sx.shapeOf Try.prog 62 = some (false, 1) := by kernel_rfl
theorem es62 : Sx.elemSz Try.prog 62 = some (49, 1) := by kernel_rfl
theorem sh49 : Sx.shapeOf Try.prog 49 = some (false, 1) := by kernel_rfl
theorem es49 : Sx.elemSz Try.prog 49 = some (3, 1) := by kernel_rfl
theorem sh3 : Sx.shapeOf Try.prog 3 = some (false, 1) := by kernel_rfl
theorem inf3 : (Try.prog.info? 3).map (fun i => (i.zero, i.size, i.bytes)) = some (some (.int .i64 (0)), 1, 8) := by kernel_rfl
theorem ent44 : Sx.Ent Try.prog 44 := ⟨Try.f44, Try.func44, by kernel_rfl, by kernel_rfl⟩
theorem szf3 : (Try.prog.info? 3).map (·.size) = some 1 := by kernel_rfl
theorem ent45 : Sx.Ent Try.prog 45 := ⟨Try.f45, Try.func45, by kernel_rfl, by kernel_rfl⟩
theorem infb49 : (Try.prog.info? 49).map (fun i => (i.zero, i.size)) = some (some (.slice (none) (0) (0)), 1) := by kernel_rfl
theorem inf49 : (Try.prog.info? 49).map (fun i => (i.zero, i.size, i.bytes)) = some (some (.slice (none) (0) (0)), 1, 24) := by kernel_rfl
theorem infb69 : (Try.prog.info? 69).map (fun i => (i.zero, i.size)) = some (some (.agg #[.int .i64 (0), .int .i64 (0)]), 2) := by kernel_rfl
theorem inf69 : (Try.prog.info? 69).map (fun i => (i.zero, i.size, i.bytes)) = some (some (.agg #[.int .i64 (0), .int .i64 (0)]), 2, 16) := by kernel_rfl
theorem es65 : Sx.elemSz Try.prog 65 = some (69, 2) := by kernel_rfl
theorem sh69 : Sx.shapeOf Try.prog 69 = some (true, 2) := by kernel_rfl
theorem szf69 : (Try.prog.info? 69).map (·.size) = some 2 := by kernel_rfl
set_option maxHeartbeats 4000000 in
set_option maxRecDepth 100000 in
theorem slide_calls {w0 w : World} {F0 : Nat → Prop} {R : List Sx.HP} {v0 : World} (g : Nat) (A : List Int) (Aa : Option Addr) (ca : Nat) (B : List Int) (Ab : Option Addr) (cb : Nat) (Af : Option Addr) (cf : Nat) (Fs : List Far.FR) (x y : Int) (hv : Sx.RO v0 w0 F0) (hla : A.length ≤ ca) (hlb : B.length ≤ cb) (hCa : (Kd.int .i32).C v0 Aa A.length A) (hCb : (Kd.int .i32).C v0 Ab B.length B) (hA1 : A.length ≤ 100000) (hB1 : B.length ≤ 100000) (hx0 : 0 ≤ x) (hx1 : x ≤ A.length) (hy0 : 0 ≤ y) (hy1 : y ≤ B.length) (h : Sx.St w0 F0 ([Sx.blk g [.slice (Aa) (A.length) (ca), .slice (Ab) (B.length) (cb), .slice (Af) (Fs.length) (cf)] 64, Sx.row Far.kF 49 (Af) (cf) (Fs), Far.lib (Far.AllF Fs)] ++ R) w) : Calls Try.prog 45 #[.pointer (some ⟨g, 0, none⟩), .int .i64 (x), .int .i64 (y)] w (fun e w1 => e = .returned (.int .i64 (slideV A B x y)) ∧ Sx.St w0 F0 ([Sx.blk g [.slice (Aa) (A.length) (ca), .slice (Ab) (B.length) (cb), .slice (Af) (Fs.length) (cf)] 64, Sx.row Far.kF 49 (Af) (cf) (Fs), Far.lib (Far.AllF Fs)] ++ R) w1) := by
 refine Sx.calls_fn (vs := [.pointer (some ⟨g, 0, none⟩), .int .i64 (x), .int .i64 (y)]) Try.func45 rfl Try.ntmps45 rfl ?_
 refine wc_seq ?_
 refine wc_region ?_
 refine wl_v rfl rfl (ov_assign _ rfl) ?_
 refine wl_nil ?_
 refine qn_then ?_
 refine wc_seq ?_
 refine wc_block ?_
 replace h := st_front 2 h
 replace h := st_front 2 h
 replace h := st_front 2 h
 refine wc_loop (fun (x_ : Nat × Int × Int) => [(0, .pointer (some ⟨g, 0, none⟩)), (1, .int .i64 (x_.2.1)), (2, .int .i64 (x_.2.2))]) (fun (x_ : Nat × Int × Int) (w : World) => (0 ≤ x_.2.1 ∧ x_.2.1 ≤ A.length ∧ 0 ≤ x_.2.2 ∧ x_.2.2 ≤ B.length ∧ (A.length : Int) < x_.2.1 + ((x_.1 : Nat) : Int) ∧ slideN A B x_.1 x_.2.1 x_.2.2 = slideV A B x y) ∧ Sx.St w0 F0 ([Sx.blk g [.slice (Aa) (A.length) (ca), .slice (Ab) (B.length) (cb), .slice (Af) (Fs.length) (cf)] 64, Sx.row Far.kF 49 (Af) (cf) (Fs), Far.lib (Far.AllF Fs)] ++ R) w) (fun (x_ : Nat × Int × Int) => x_.1) ((A.length + 1), x, y) ?_ ?_ ?_
 · exact ⟨rfl, rfl, rfl, trivial⟩
 · exact ⟨⟨hx0, hx1, hy0, hy1, by show (A.length : Int) < x + ((A.length + 1 : Nat) : Int); omega, rfl⟩, h⟩
 rintro ⟨m, x1, y1⟩ w h
 obtain ⟨hJ, h⟩ := h
 replace hJ : 0 ≤ x1 ∧ x1 ≤ A.length ∧ 0 ≤ y1 ∧ y1 ≤ B.length ∧ (A.length : Int) < x1 + ((m : Nat) : Int) ∧ slideN A B m x1 y1 = slideV A B x y := hJ
 replace h : Sx.St w0 F0 ([Sx.blk g [.slice (Aa) (A.length) (ca), .slice (Ab) (B.length) (cb), .slice (Af) (Fs.length) (cf)] 64, Sx.row Far.kF 49 (Af) (cf) (Fs), Far.lib (Far.AllF Fs)] ++ R) w := h
 show Sx.WC _ _ _ _ [(0, .pointer (some ⟨g, 0, none⟩)), (1, .int .i64 (x1)), (2, .int .i64 (y1))] _
 refine wc_seq ?_
 refine wc_seq ?_
 refine wc_draw (fun w => Sx.St w0 F0 ([Sx.blk g [.slice (Aa) (A.length) (ca), .slice (Ab) (B.length) (cb), .slice (Af) (Fs.length) (cf)] 64, Sx.row Far.kF 49 (Af) (cf) (Fs), Far.lib (Far.AllF Fs)] ++ R) w) (by kernel_rfl) ?_
 replace h := st_drew h
 refine wa_tk 0 rfl rfl rfl (st_selT [true, true, true] h) (fun w_ hS => ov_move _ rfl) ?_
 refine wa_tk 1 rfl rfl rfl (st_selT [true, true, true] h) (fun w_ hS => ov_move _ rfl) ?_
 refine wa_tk 2 rfl rfl rfl (st_selT [true, true, true] h) (fun w_ hS => ov_nilCheck _ rfl) ?_
 refine wa_tk 3 rfl rfl rfl (st_selT [true, true, true] h) (fun w_ hS => ov_fieldAddr _ ⟨g, 0, none⟩ _ rfl fo64_0 rfl) ?_
 refine wa_tk 4 rfl rfl rfl (st_selT [true, true, true] h) (fun w_ hS => ov_loadb 0 _ hS rfl rfl sh52 rfl) ?_
 refine wa_tk 5 rfl rfl rfl (st_selT [true, true, true] h) (fun w_ hS => ov_len _ _ _ _ _ rfl es52) ?_
 refine wa_tk 6 rfl rfl rfl (st_selT [true, true, true] h) (fun w_ hS => ov_bin _ rfl rfl (binR_lss)) ?_
 refine wa_tk 7 rfl rfl rfl (st_selT [true, true, true] h) (fun w_ hS => ov_move _ rfl) ?_
 refine wa_split 14 rfl (fun c1 => ?_) (fun c1 => ?_)
 ·
  refine wa_tk 8 rfl rfl rfl (st_selT [true, true, true] h) (fun w_ hS => ov_move _ rfl) ?_
  refine wa_tk 9 rfl rfl rfl (st_selT [true, true, true] h) (fun w_ hS => ov_move _ rfl) ?_
  refine wa_tk 10 rfl rfl rfl (st_selT [true, true, true] h) (fun w_ hS => ov_nilCheck _ rfl) ?_
  refine wa_tk 11 rfl rfl rfl (st_selT [true, true, true] h) (fun w_ hS => ov_fieldAddr _ ⟨g, 1, none⟩ _ rfl fo64_1 rfl) ?_
  refine wa_tk 12 rfl rfl rfl (st_selT [true, true, true] h) (fun w_ hS => ov_loadb 0 _ hS rfl rfl sh52 rfl) ?_
  refine wa_tk 13 rfl rfl rfl (st_selT [true, true, true] h) (fun w_ hS => ov_len _ _ _ _ _ rfl es52) ?_
  refine wa_tk 14 rfl rfl rfl (st_selT [true, true, true] h) (fun w_ hS => ov_bin _ rfl rfl (binR_lss)) ?_
  refine wa_tk 15 rfl rfl rfl (st_selT [true, true, true] h) (fun w_ hS => ov_pick_true _ rfl rfl) ?_
  refine wa_tk 16 rfl rfl rfl (st_selT [true, true, true] h) (fun w_ hS => ov_move _ rfl) ?_
  refine wa_split 23 rfl (fun c2 => ?_) (fun c2 => ?_)
  ·
   refine wa_tk 17 rfl rfl rfl (st_selT [true, true, true] h) (fun w_ hS => ov_move _ rfl) ?_
   refine wa_tk 18 rfl rfl rfl (st_selT [true, true, true] h) (fun w_ hS => ov_nilCheck _ rfl) ?_
   refine wa_tk 19 rfl rfl rfl (st_selT [true, true, true] h) (fun w_ hS => ov_fieldAddr _ ⟨g, 0, none⟩ _ rfl fo64_0 rfl) ?_
   refine wa_tk 20 rfl rfl rfl (st_selT [true, true, true] h) (fun w_ hS => ov_loadb 0 _ hS rfl rfl sh52 rfl) ?_
   refine wa_tk 21 rfl rfl rfl (st_selT [true, true, true] h) (fun w_ hS => ov_move _ rfl) ?_
   obtain ⟨ad3, rfl⟩ := Sx.C_some ((Sx.ro_C hv h hCa)) (k := (x1 : Int).toNat) (by first | assumption | omega)
   refine wa_tk 22 rfl rfl rfl (st_selT [true, true, true] h) (fun w_ hS => ov_indexAddrN _ _ _ _ _ (x1 : Int).toNat rfl rfl es52 (by omega) (by first | assumption | omega | (simp only [List.length_take, List.length_drop, List.length_set]; omega))) ?_
   obtain ⟨cl6, _, hk5, hc4⟩ := Sx.C_cells (hCa) (z := (0 : Int)) (k := (x1 : Int).toNat) (by first | assumption | omega)
   obtain rfl : cl6 = [.int .i32 _] := hk5
   refine wa_tk 23 rfl rfl rfl (st_selT [true, true, true] h) (fun w_ hS => ov_load1 _ _ rfl sh21 (Sx.ro_cell hv hS (hc4 0 _ rfl))) ?_
   refine wa_tk 24 rfl rfl rfl (st_selT [true, true, true] h) (fun w_ hS => ov_move _ rfl) ?_
   refine wa_tk 25 rfl rfl rfl (st_selT [true, true, true] h) (fun w_ hS => ov_nilCheck _ rfl) ?_
   refine wa_tk 26 rfl rfl rfl (st_selT [true, true, true] h) (fun w_ hS => ov_fieldAddr _ ⟨g, 1, none⟩ _ rfl fo64_1 rfl) ?_
   refine wa_tk 27 rfl rfl rfl (st_selT [true, true, true] h) (fun w_ hS => ov_loadb 0 _ hS rfl rfl sh52 rfl) ?_
   refine wa_tk 28 rfl rfl rfl (st_selT [true, true, true] h) (fun w_ hS => ov_move _ rfl) ?_
   obtain ⟨ad7, rfl⟩ := Sx.C_some ((Sx.ro_C hv h hCb)) (k := (y1 : Int).toNat) (by first | assumption | omega)
   refine wa_tk 29 rfl rfl rfl (st_selT [true, true, true] h) (fun w_ hS => ov_indexAddrN _ _ _ _ _ (y1 : Int).toNat rfl rfl es52 (by omega) (by first | assumption | omega | (simp only [List.length_take, List.length_drop, List.length_set]; omega))) ?_
   obtain ⟨cl10, _, hk9, hc8⟩ := Sx.C_cells (hCb) (z := (0 : Int)) (k := (y1 : Int).toNat) (by first | assumption | omega)
   obtain rfl : cl10 = [.int .i32 _] := hk9
   refine wa_tk 30 rfl rfl rfl (st_selT [true, true, true] h) (fun w_ hS => ov_load1 _ _ rfl sh21 (Sx.ro_cell hv hS (hc8 0 _ rfl))) ?_
   refine wa_tk 31 rfl rfl rfl (st_selT [true, true, true] h) (fun w_ hS => ov_bin _ rfl rfl (binR_eql)) ?_
   refine wa_tk 32 rfl rfl rfl (st_selT [true, true, true] h) (fun w_ hS => ov_pick_true _ rfl rfl) ?_
   refine wa_done (by kernel_rfl) ?_
   refine qn_then ?_
   refine wc_cond (by rfl) (fun c11 => ?_) (fun c11 => ?_)
   ·
    refine wc_skip ?_
    refine qn_then ?_
    refine wc_block ?_
    refine wc_region ?_
    refine wl_v rfl rfl (ov_move _ rfl) ?_
    refine wl_v rfl rfl (ov_bin _ rfl rfl (binR_add (r := x1 + 1) (Sx.w64 (by omega)))) ?_
    refine wl_v rfl rfl (ov_move _ rfl) ?_
    refine wl_v rfl rfl (ov_bin _ rfl rfl (binR_add (r := y1 + 1) (Sx.w64 (by omega)))) ?_
    refine wl_v rfl rfl (ov_assign _ rfl) ?_
    refine wl_v rfl rfl (ov_assign _ rfl) ?_
    refine wl_nil ?_
    refine qn_block_normal ?_
    replace h := st_front 2 h
    replace h := st_front 2 h
    replace h := st_front 2 h
    refine qn_next ((m - 1), (x1 + 1), (y1 + 1)) (by show (m - 1) < m; omega) ⟨rfl, (congrArg (fun z_ => some (Value.int .i64 z_)) (show (x1 + 1 : Int) = (x1 + 1) by omega)), (congrArg (fun z_ => some (Value.int .i64 z_)) (show (y1 + 1 : Int) = (y1 + 1) by omega)), trivial⟩ ?_
    show (0 ≤ (x1 + 1) ∧ (x1 + 1) ≤ A.length ∧ 0 ≤ (y1 + 1) ∧ (y1 + 1) ≤ B.length ∧ (A.length : Int) < (x1 + 1) + (((m - 1) : Nat) : Int) ∧ slideN A B (m - 1) (x1 + 1) (y1 + 1) = slideV A B x y) ∧ _
    obtain ⟨m, rfl⟩ : ∃ q_, m = q_ + 1 := ⟨m - 1, by omega⟩
    have hs_ := hJ.2.2.2.2.2
    simp only [slideN] at hs_
    rw [if_pos ⟨by omega, by omega, by assumption⟩] at hs_
    exact ⟨⟨by omega, by omega, by omega, by omega, by omega, hs_⟩, h⟩
   ·
    refine wc_exit ?_
    refine qn_then_exit ?_
    refine qn_then_exit ?_
    refine qn_block_exit ?_
    refine qn_then ?_
    refine wc_seq ?_
    refine wc_region ?_
    refine wl_v rfl rfl (ov_move _ rfl) ?_
    refine wl_v rfl rfl (ov_assign _ rfl) ?_
    refine wl_nil ?_
    refine qn_then ?_
    refine wc_ret ?_
    replace h := st_front 2 h
    replace h := st_front 2 h
    replace h := st_front 2 h
    refine qn_ret [_] ⟨rfl, trivial⟩ ?_
    have hs_ : x1 = slideV A B x y := by
      rw [← hJ.2.2.2.2.2]
      cases m with
      | zero => rfl
      | succ m => simp only [slideN]; rw [if_neg (by first | omega | (rintro ⟨_, _, hz_⟩; contradiction))]
    exact ⟨by show Ending.returned (Value.int .i64 x1) = _; rw [hs_], h⟩
  ·
   refine wa_sk 17 rfl rfl rfl (st_selT [true, true, true] h) ?_
   refine wa_sk 18 rfl rfl rfl (st_selT [true, true, true] h) ?_
   refine wa_sk 19 rfl rfl rfl (st_selT [true, true, true] h) ?_
   refine wa_sk 20 rfl rfl rfl (st_selT [true, true, true] h) ?_
   refine wa_sk 21 rfl rfl rfl (st_selT [true, true, true] h) ?_
   refine wa_sk 22 rfl rfl rfl (st_selT [true, true, true] h) ?_
   refine wa_sk 23 rfl rfl rfl (st_selT [true, true, true] h) ?_
   refine wa_sk 24 rfl rfl rfl (st_selT [true, true, true] h) ?_
   refine wa_sk 25 rfl rfl rfl (st_selT [true, true, true] h) ?_
   refine wa_sk 26 rfl rfl rfl (st_selT [true, true, true] h) ?_
   refine wa_sk 27 rfl rfl rfl (st_selT [true, true, true] h) ?_
   refine wa_sk 28 rfl rfl rfl (st_selT [true, true, true] h) ?_
   refine wa_sk 29 rfl rfl rfl (st_selT [true, true, true] h) ?_
   refine wa_sk 30 rfl rfl rfl (st_selT [true, true, true] h) ?_
   refine wa_sk 31 rfl rfl rfl (st_selT [true, true, true] h) ?_
   refine wa_tk 32 rfl rfl rfl (st_selT [true, true, true] h) (fun w_ hS => ov_pick_false _ rfl rfl) ?_
   refine wa_done (by kernel_rfl) ?_
   refine qn_then ?_
   refine wc_cond_false rfl ?_
   refine wc_exit ?_
   refine qn_then_exit ?_
   refine qn_then_exit ?_
   refine qn_block_exit ?_
   refine qn_then ?_
   refine wc_seq ?_
   refine wc_region ?_
   refine wl_v rfl rfl (ov_move _ rfl) ?_
   refine wl_v rfl rfl (ov_assign _ rfl) ?_
   refine wl_nil ?_
   refine qn_then ?_
   refine wc_ret ?_
   replace h := st_front 2 h
   replace h := st_front 2 h
   replace h := st_front 2 h
   refine qn_ret [_] ⟨rfl, trivial⟩ ?_
   have hs_ : x1 = slideV A B x y := by
     rw [← hJ.2.2.2.2.2]
     cases m with
     | zero => rfl
     | succ m => simp only [slideN]; rw [if_neg (by first | omega | (rintro ⟨_, _, hz_⟩; contradiction))]
   exact ⟨by show Ending.returned (Value.int .i64 x1) = _; rw [hs_], h⟩
 ·
  refine wa_sk 8 rfl rfl rfl (st_selT [true, true, true] h) ?_
  refine wa_sk 9 rfl rfl rfl (st_selT [true, true, true] h) ?_
  refine wa_sk 10 rfl rfl rfl (st_selT [true, true, true] h) ?_
  refine wa_sk 11 rfl rfl rfl (st_selT [true, true, true] h) ?_
  refine wa_sk 12 rfl rfl rfl (st_selT [true, true, true] h) ?_
  refine wa_sk 13 rfl rfl rfl (st_selT [true, true, true] h) ?_
  refine wa_sk 14 rfl rfl rfl (st_selT [true, true, true] h) ?_
  refine wa_tk 15 rfl rfl rfl (st_selT [true, true, true] h) (fun w_ hS => ov_pick_false _ rfl rfl) ?_
  refine wa_tk 16 rfl rfl rfl (st_selT [true, true, true] h) (fun w_ hS => ov_move _ rfl) ?_
  refine wa_sk 17 rfl rfl rfl (st_selT [true, true, true] h) ?_
  refine wa_sk 18 rfl rfl rfl (st_selT [true, true, true] h) ?_
  refine wa_sk 19 rfl rfl rfl (st_selT [true, true, true] h) ?_
  refine wa_sk 20 rfl rfl rfl (st_selT [true, true, true] h) ?_
  refine wa_sk 21 rfl rfl rfl (st_selT [true, true, true] h) ?_
  refine wa_sk 22 rfl rfl rfl (st_selT [true, true, true] h) ?_
  refine wa_sk 23 rfl rfl rfl (st_selT [true, true, true] h) ?_
  refine wa_sk 24 rfl rfl rfl (st_selT [true, true, true] h) ?_
  refine wa_sk 25 rfl rfl rfl (st_selT [true, true, true] h) ?_
  refine wa_sk 26 rfl rfl rfl (st_selT [true, true, true] h) ?_
  refine wa_sk 27 rfl rfl rfl (st_selT [true, true, true] h) ?_
  refine wa_sk 28 rfl rfl rfl (st_selT [true, true, true] h) ?_
  refine wa_sk 29 rfl rfl rfl (st_selT [true, true, true] h) ?_
  refine wa_sk 30 rfl rfl rfl (st_selT [true, true, true] h) ?_
  refine wa_sk 31 rfl rfl rfl (st_selT [true, true, true] h) ?_
  refine wa_tk 32 rfl rfl rfl (st_selT [true, true, true] h) (fun w_ hS => ov_pick_false _ rfl rfl) ?_
  refine wa_done (by kernel_rfl) ?_
  refine qn_then ?_
  refine wc_cond_false rfl ?_
  refine wc_exit ?_
  refine qn_then_exit ?_
  refine qn_then_exit ?_
  refine qn_block_exit ?_
  refine qn_then ?_
  refine wc_seq ?_
  refine wc_region ?_
  refine wl_v rfl rfl (ov_move _ rfl) ?_
  refine wl_v rfl rfl (ov_assign _ rfl) ?_
  refine wl_nil ?_
  refine qn_then ?_
  refine wc_ret ?_
  replace h := st_front 2 h
  replace h := st_front 2 h
  replace h := st_front 2 h
  refine qn_ret [_] ⟨rfl, trivial⟩ ?_
  have hs_ : x1 = slideV A B x y := by
    rw [← hJ.2.2.2.2.2]
    cases m with
    | zero => rfl
    | succ m => simp only [slideN]; rw [if_neg (by first | omega | (rintro ⟨_, _, hz_⟩; contradiction))]
  exact ⟨by show Ending.returned (Value.int .i64 x1) = _; rw [hs_], h⟩
set_option maxHeartbeats 4000000 in
set_option maxRecDepth 100000 in
theorem start_calls {w0 w : World} {F0 : Nat → Prop} {R : List Sx.HP} {v0 : World} (g : Nat) (A : List Int) (Aa : Option Addr) (ca : Nat) (B : List Int) (Ab : Option Addr) (cb : Nat) (Af : Option Addr) (cf : Nat) (Fs : List Far.FR) (F : List (List Int)) (d k : Int) (hv : Sx.RO v0 w0 F0) (hla : A.length ≤ ca) (hlb : B.length ≤ cb) (hCa : (Kd.int .i32).C v0 Aa A.length A) (hCb : (Kd.int .i32).C v0 Ab B.length B) (hA1 : A.length ≤ 100000) (hB1 : B.length ≤ 100000) (hd0 : 0 ≤ d) (hdl : d ≤ Fs.length) (hd9 : d ≤ 90000) (hk0 : -d ≤ k) (hk1 : k ≤ d) (hpar : (k + d) % 2 = 0) (hFo : ∀ i : Nat, (i : Int) < d → (F.getD i []).length = 2 * i + 1 ∧ ∀ j : Nat, (F.getD i []).getD j 0 = -1073741824 ∨ (0 ≤ (F.getD i []).getD j 0 ∧ (F.getD i []).getD j 0 ≤ A.length)) (hFF : Fs.map (·.1) = F) (h : Sx.St w0 F0 ([Sx.blk g [.slice (Aa) (A.length) (ca), .slice (Ab) (B.length) (cb), .slice (Af) (Fs.length) (cf)] 64, Sx.row Far.kF 49 (Af) (cf) (Fs), Far.lib (Far.AllF Fs)] ++ R) w) : Calls Try.prog 44 #[.pointer (some ⟨g, 0, none⟩), .int .i64 (d), .int .i64 (k)] w (fun e w1 => e = .returned (.int .i64 (startV F d k)) ∧ Sx.St w0 F0 ([Sx.blk g [.slice (Aa) (A.length) (ca), .slice (Ab) (B.length) (cb), .slice (Af) (Fs.length) (cf)] 64, Sx.row Far.kF 49 (Af) (cf) (Fs), Far.lib (Far.AllF Fs)] ++ R) w1) := by
 refine Sx.calls_fn (vs := [.pointer (some ⟨g, 0, none⟩), .int .i64 (d), .int .i64 (k)]) Try.func44 rfl Try.ntmps44 rfl ?_
 refine wc_seq ?_
 refine wc_region ?_
 refine wl_v rfl rfl (ov_assign _ rfl) ?_
 refine wl_nil ?_
 refine qn_then ?_
 refine wc_seq ?_
 refine wc_seq ?_
 refine wc_region ?_
 refine wl_v rfl rfl (ov_move _ rfl) ?_
 refine wl_v rfl rfl (ov_bin _ rfl rfl (binR_eql)) ?_
 refine wl_nil ?_
 refine qn_then ?_
 refine wc_cond (by rfl) (fun c1 => ?_) (fun c1 => ?_)
 ·
  refine wc_seq ?_
  refine wc_region ?_
  refine wl_v rfl rfl (ov_assign _ rfl) ?_
  refine wl_nil ?_
  refine qn_then ?_
  refine wc_ret ?_
  refine qn_then_ret ?_
  replace h := st_front 2 h
  replace h := st_front 2 h
  replace h := st_front 2 h
  refine qn_ret [_] ⟨rfl, trivial⟩ ?_
  have e_ : startV F d k = 0 := by
    unfold startV
    rw [if_pos (by omega)]
  exact ⟨by rw [e_]; rfl, h⟩
 ·
  refine wc_skip ?_
  refine qn_then ?_
  refine wc_seq ?_
  refine wc_region ?_
  refine wl_v rfl rfl (ov_move _ rfl) ?_
  refine wl_v rfl rfl (ov_nilCheck _ rfl) ?_
  refine wl_v rfl rfl (ov_fieldAddr _ ⟨g, 2, none⟩ _ rfl fo64_2 rfl) ?_
  refine wl_v rfl rfl (ov_loadb 0 _ h rfl rfl sh62 rfl) ?_
  refine wl_v rfl rfl (ov_move _ rfl) ?_
  refine wl_v rfl rfl (ov_bin _ rfl rfl (binR_sub (r := d - 1) (Sx.w64 (by omega)))) ?_
  obtain ⟨ad2, rfl⟩ := Sx.C_some ((Sx.row_reads h (i := 1) rfl).2) (k := (d - 1 : Int).toNat) (by first | assumption | omega)
  refine wl_v rfl rfl (ov_indexAddrN _ _ _ _ _ (d - 1 : Int).toNat rfl rfl es62 (by omega) (by first | assumption | omega | (simp only [List.length_take, List.length_drop, List.length_set]; omega))) ?_
  obtain ⟨cl5, _, hk4, hc3⟩ := Sx.C_cells ((Sx.row_reads h (i := 1) rfl).2) (z := Far.zF) (k := (d - 1 : Int).toNat) (by first | assumption | omega)
  obtain rfl := Far.kF_open hk4
  refine wl_v rfl rfl (ov_load1 _ _ rfl sh49 ((hc3 0 _ rfl))) ?_
  refine wl_v rfl rfl (ov_assign _ rfl) ?_
  refine wl_nil ?_
  refine qn_then ?_
  refine wc_seq ?_
  have hmem_ : (Fs).getD (d - 1 : Int).toNat Far.zF ∈ Fs := Far.getD_mem (by omega)
  have hnw_ := Far.far_n h (i := 2) rfl hmem_
  obtain ⟨W6, hW_⟩ : ∃ z_, z_ = ((Fs).getD (d - 1 : Int).toNat Far.zF).1 := ⟨_, rfl⟩
  obtain ⟨Aw7, hAw_⟩ : ∃ z_, z_ = ((Fs).getD (d - 1 : Int).toNat Far.zF).2.A := ⟨_, rfl⟩
  rw [← hW_] at hnw_
  rw [← hAw_, hnw_]
  have hWF_ : W6 = F.getD (d - 1).toNat [] := by rw [hW_, ← hFF]; exact Far.getD_fst Fs _
  have hfo_ := hFo (d - 1).toNat (by omega)
  rw [← hWF_] at hfo_
  have hv1_ := hfo_.2 (k - 1 + d - 1).toNat
  have hv2_ := hfo_.2 (k + 1 + d - 1).toNat
  have hwl_ := hfo_.1
  refine wc_region ?_
  refine wl_v rfl rfl (ov_move _ rfl) ?_
  refine wl_v rfl rfl (ov_bin _ rfl rfl (binR_sub (r := k - 1) (Sx.w64 (by omega)))) ?_
  refine wl_v rfl rfl (ov_move _ rfl) ?_
  refine wl_v rfl rfl (ov_bin _ rfl rfl (binR_add (r := (k - 1) + d) (Sx.w64 (by omega)))) ?_
  refine wl_v rfl rfl (ov_bin _ rfl rfl (binR_sub (r := ((k - 1) + d) - 1) (Sx.w64 (by omega)))) ?_
  refine wl_v rfl rfl (ov_assign _ rfl) ?_
  refine wl_nil ?_
  refine qn_then ?_
  refine wc_seq ?_
  refine wc_region ?_
  refine wl_v rfl rfl (ov_move _ rfl) ?_
  refine wl_v rfl rfl (ov_bin _ rfl rfl (binR_add (r := k + 1) (Sx.w64 (by omega)))) ?_
  refine wl_v rfl rfl (ov_move _ rfl) ?_
  refine wl_v rfl rfl (ov_bin _ rfl rfl (binR_add (r := (k + 1) + d) (Sx.w64 (by omega)))) ?_
  refine wl_v rfl rfl (ov_bin _ rfl rfl (binR_sub (r := ((k + 1) + d) - 1) (Sx.w64 (by omega)))) ?_
  refine wl_v rfl rfl (ov_assign _ rfl) ?_
  refine wl_nil ?_
  refine qn_then ?_
  refine wc_seq ?_
  refine wc_block ?_
  refine wc_seq ?_
  refine wc_region ?_
  refine wl_v rfl rfl (ov_move _ rfl) ?_
  refine wl_v rfl rfl (ov_move _ rfl) ?_
  refine wl_v rfl rfl (ov_neg _ _ (0 - d) rfl (Sx.w64 (by omega))) ?_
  refine wl_v rfl rfl (ov_bin _ rfl rfl (binR_eql)) ?_
  refine wl_v rfl rfl (ov_assign _ rfl) ?_
  refine wl_nil ?_
  refine qn_then ?_
  refine wc_cond (by rfl) (fun c8 => ?_) (fun c8 => ?_)
  ·
   refine wc_seq ?_
   refine wc_region ?_
   refine wl_v rfl rfl (ov_move _ rfl) ?_
   refine wl_v rfl rfl (ov_move _ rfl) ?_
   obtain ⟨ad9, rfl⟩ := Sx.C_some ((Far.far_get h (i := 2) rfl hmem_ hAw_ hW_)) (k := (((k + 1) + d) - 1 : Int).toNat) (by first | assumption | omega)
   refine wl_v rfl rfl (ov_indexAddrN _ _ _ _ _ (((k + 1) + d) - 1 : Int).toNat rfl rfl es49 (by omega) (by first | assumption | omega | (simp only [List.length_take, List.length_drop, List.length_set]; omega))) ?_
   obtain ⟨cl12, _, hk11, hc10⟩ := Sx.C_cells ((Far.far_get h (i := 2) rfl hmem_ hAw_ hW_)) (z := (0 : Int)) (k := (((k + 1) + d) - 1 : Int).toNat) (by first | assumption | omega)
   obtain rfl : cl12 = [.int .i64 _] := hk11
   refine wl_v rfl rfl (ov_load1 _ _ rfl sh3 ((hc10 0 _ rfl))) ?_
   refine wl_v rfl rfl (ov_assign _ rfl) ?_
   refine wl_nil ?_
   refine qn_then ?_
   refine wc_ret ?_
   refine qn_block_ret ?_
   refine qn_then_ret ?_
   replace h := st_front 2 h
   replace h := st_front 2 h
   replace h := st_front 2 h
   refine qn_ret [_] ⟨rfl, trivial⟩ ?_
   have e_ : startV F d k = (W6).getD (((k + 1) + d) - 1 : Int).toNat (0 : Int) := by
     unfold startV rdI
     rw [← hWF_]
     repeat' split
     all_goals first | rfl | (exfalso; omega) | omega
   exact ⟨by rw [e_]; rfl, h⟩
  ·
   refine wc_seq ?_
   refine wc_region ?_
   refine wl_v rfl rfl (ov_move _ rfl) ?_
   refine wl_v rfl rfl (ov_move _ rfl) ?_
   refine wl_v rfl rfl (ov_bin _ rfl rfl (binR_eql)) ?_
   refine wl_v rfl rfl (ov_assign _ rfl) ?_
   refine wl_nil ?_
   refine qn_then ?_
   refine wc_cond (by rfl) (fun c13 => ?_) (fun c13 => ?_)
   ·
    refine wc_seq ?_
    refine wc_region ?_
    refine wl_v rfl rfl (ov_move _ rfl) ?_
    refine wl_v rfl rfl (ov_move _ rfl) ?_
    obtain ⟨ad14, rfl⟩ := Sx.C_some ((Far.far_get h (i := 2) rfl hmem_ hAw_ hW_)) (k := (((k - 1) + d) - 1 : Int).toNat) (by first | assumption | omega)
    refine wl_v rfl rfl (ov_indexAddrN _ _ _ _ _ (((k - 1) + d) - 1 : Int).toNat rfl rfl es49 (by omega) (by first | assumption | omega | (simp only [List.length_take, List.length_drop, List.length_set]; omega))) ?_
    obtain ⟨cl17, _, hk16, hc15⟩ := Sx.C_cells ((Far.far_get h (i := 2) rfl hmem_ hAw_ hW_)) (z := (0 : Int)) (k := (((k - 1) + d) - 1 : Int).toNat) (by first | assumption | omega)
    obtain rfl : cl17 = [.int .i64 _] := hk16
    refine wl_v rfl rfl (ov_load1 _ _ rfl sh3 ((hc15 0 _ rfl))) ?_
    refine wl_v rfl rfl (ov_bin _ rfl rfl (binR_add (r := ((W6).getD (((k - 1) + d) - 1 : Int).toNat (0 : Int)) + 1) (Sx.w64 (by omega)))) ?_
    refine wl_v rfl rfl (ov_assign _ rfl) ?_
    refine wl_nil ?_
    refine qn_then ?_
    refine wc_ret ?_
    refine qn_block_ret ?_
    refine qn_then_ret ?_
    replace h := st_front 2 h
    replace h := st_front 2 h
    replace h := st_front 2 h
    refine qn_ret [_] ⟨rfl, trivial⟩ ?_
    have e_ : startV F d k = ((W6).getD (((k - 1) + d) - 1 : Int).toNat (0 : Int)) + 1 := by
      unfold startV rdI
      rw [← hWF_]
      repeat' split
      all_goals first | rfl | (exfalso; omega) | omega
    exact ⟨by rw [e_]; rfl, h⟩
   ·
    refine wc_seq ?_
    refine wc_draw (fun w => Sx.St w0 F0 ([Sx.blk g [.slice (Aa) (A.length) (ca), .slice (Ab) (B.length) (cb), .slice (some ad2) (Fs.length) (cf)] 64, Sx.row Far.kF 49 (some ad2) (cf) (Fs), Far.lib (Far.AllF Fs)] ++ R) w) (by kernel_rfl) ?_
    replace h := st_drew h
    refine wa_tk 0 rfl rfl rfl (st_selT [true, true, true] h) (fun w_ hS => ov_move _ rfl) ?_
    refine wa_tk 1 rfl rfl rfl (st_selT [true, true, true] h) (fun w_ hS => ov_move _ rfl) ?_
    obtain ⟨ad18, rfl⟩ := Sx.C_some ((Far.far_get h (i := 2) rfl hmem_ hAw_ hW_)) (k := (((k - 1) + d) - 1 : Int).toNat) (by first | assumption | omega)
    refine wa_tk 2 rfl rfl rfl (st_selT [true, true, true] h) (fun w_ hS => ov_indexAddrN _ _ _ _ _ (((k - 1) + d) - 1 : Int).toNat rfl rfl es49 (by omega) (by first | assumption | omega | (simp only [List.length_take, List.length_drop, List.length_set]; omega))) ?_
    refine wa_tk 3 rfl rfl rfl (st_selT [true, true, true] h) (fun w_ hS => by
        obtain ⟨cl21, _, hk20, hc19⟩ := Sx.C_cells ((Far.far_get hS (i := 2) rfl hmem_ hAw_ hW_)) (z := (0 : Int)) (k := (((k - 1) + d) - 1 : Int).toNat) (by first | assumption | omega)
        obtain rfl : cl21 = [.int .i64 _] := hk20
        exact ov_load1 _ _ rfl sh3 ((hc19 0 _ rfl))) ?_
    refine wa_tk 4 rfl rfl rfl (st_selT [true, true, true] h) (fun w_ hS => ov_move _ rfl) ?_
    refine wa_tk 5 rfl rfl rfl (st_selT [true, true, true] h) (fun w_ hS => ov_move _ rfl) ?_
    refine wa_tk 6 rfl rfl rfl (st_selT [true, true, true] h) (fun w_ hS => ov_indexAddrN _ _ _ _ _ (((k + 1) + d) - 1 : Int).toNat rfl rfl es49 (by omega) (by first | assumption | omega | (simp only [List.length_take, List.length_drop, List.length_set]; omega))) ?_
    refine wa_tk 7 rfl rfl rfl (st_selT [true, true, true] h) (fun w_ hS => by
        obtain ⟨cl24, _, hk23, hc22⟩ := Sx.C_cells ((Far.far_get hS (i := 2) rfl hmem_ hAw_ hW_)) (z := (0 : Int)) (k := (((k + 1) + d) - 1 : Int).toNat) (by first | assumption | omega)
        obtain rfl : cl24 = [.int .i64 _] := hk23
        exact ov_load1 _ _ rfl sh3 ((hc22 0 _ rfl))) ?_
    refine wa_tk 8 rfl rfl rfl (st_selT [true, true, true] h) (fun w_ hS => ov_bin _ rfl rfl (binR_lss)) ?_
    refine wa_tk 9 rfl rfl rfl (st_selT [true, true, true] h) (fun w_ hS => ov_assign _ rfl) ?_
    refine wa_done (by kernel_rfl) ?_
    refine qn_then ?_
    refine wc_cond (by rfl) (fun c25 => ?_) (fun c25 => ?_)
    ·
     refine wc_seq ?_
     refine wc_region ?_
     refine wl_v rfl rfl (ov_move _ rfl) ?_
     refine wl_v rfl rfl (ov_move _ rfl) ?_
     refine wl_v rfl rfl (ov_indexAddrN _ _ _ _ _ (((k + 1) + d) - 1 : Int).toNat rfl rfl es49 (by omega) (by first | assumption | omega | (simp only [List.length_take, List.length_drop, List.length_set]; omega))) ?_
     obtain ⟨cl28, _, hk27, hc26⟩ := Sx.C_cells ((Far.far_get h (i := 2) rfl hmem_ hAw_ hW_)) (z := (0 : Int)) (k := (((k + 1) + d) - 1 : Int).toNat) (by first | assumption | omega)
     obtain rfl : cl28 = [.int .i64 _] := hk27
     refine wl_v rfl rfl (ov_load1 _ _ rfl sh3 ((hc26 0 _ rfl))) ?_
     refine wl_v rfl rfl (ov_assign _ rfl) ?_
     refine wl_nil ?_
     refine qn_then ?_
     refine wc_ret ?_
     refine qn_block_ret ?_
     refine qn_then_ret ?_
     replace h := st_front 2 h
     replace h := st_front 2 h
     replace h := st_front 2 h
     refine qn_ret [_] ⟨rfl, trivial⟩ ?_
     have e_ : startV F d k = (W6).getD (((k + 1) + d) - 1 : Int).toNat (0 : Int) := by
       unfold startV rdI
       rw [← hWF_]
       repeat' split
       all_goals first | rfl | (exfalso; omega) | omega
     exact ⟨by rw [e_]; rfl, h⟩
    ·
     refine wc_skip ?_
     refine qn_block_normal ?_
     refine qn_then ?_
     refine wc_seq ?_
     refine wc_region ?_
     refine wl_v rfl rfl (ov_move _ rfl) ?_
     refine wl_v rfl rfl (ov_move _ rfl) ?_
     refine wl_v rfl rfl (ov_indexAddrN _ _ _ _ _ (((k - 1) + d) - 1 : Int).toNat rfl rfl es49 (by omega) (by first | assumption | omega | (simp only [List.length_take, List.length_drop, List.length_set]; omega))) ?_
     obtain ⟨cl31, _, hk30, hc29⟩ := Sx.C_cells ((Far.far_get h (i := 2) rfl hmem_ hAw_ hW_)) (z := (0 : Int)) (k := (((k - 1) + d) - 1 : Int).toNat) (by first | assumption | omega)
     obtain rfl : cl31 = [.int .i64 _] := hk30
     refine wl_v rfl rfl (ov_load1 _ _ rfl sh3 ((hc29 0 _ rfl))) ?_
     refine wl_v rfl rfl (ov_bin _ rfl rfl (binR_add (r := ((W6).getD (((k - 1) + d) - 1 : Int).toNat (0 : Int)) + 1) (Sx.w64 (by omega)))) ?_
     refine wl_v rfl rfl (ov_assign _ rfl) ?_
     refine wl_nil ?_
     refine qn_then ?_
     refine wc_ret ?_
     replace h := st_front 2 h
     replace h := st_front 2 h
     replace h := st_front 2 h
     refine qn_ret [_] ⟨rfl, trivial⟩ ?_
     have e_ : startV F d k = ((W6).getD (((k - 1) + d) - 1 : Int).toNat (0 : Int)) + 1 := by
       unfold startV rdI
       rw [← hWF_]
       repeat' split
       all_goals first | rfl | (exfalso; omega) | omega
     exact ⟨by rw [e_]; rfl, h⟩
set_option maxHeartbeats 4000000 in
set_option maxRecDepth 100000 in
theorem run_calls {w0 w : World} {F0 : Nat → Prop} {R : List Sx.HP} {v0 : World} (g : Nat) (A : List Int) (Aa : Option Addr) (ca : Nat) (B : List Int) (Ab : Option Addr) (cb : Nat) (most : Int) (hv : Sx.RO v0 w0 F0) (hla : A.length ≤ ca) (hlb : B.length ≤ cb) (hCa : (Kd.int .i32).C v0 Aa A.length A) (hCb : (Kd.int .i32).C v0 Ab B.length B) (hA1 : A.length ≤ 100000) (hB1 : B.length ≤ 100000) (hm0 : 0 ≤ most) (hm1 : most ≤ 2000) (h : Sx.St w0 F0 ([Sx.blk g [.slice (Aa) (A.length) (ca), .slice (Ab) (B.length) (cb), .slice (none) (0) (0)] 64] ++ R) w) : Calls Try.prog 37 #[.pointer (some ⟨g, 0, none⟩), .int .i64 (most)] w (fun e w1 => ∃ (D : Nat) (ok : Bool) (Fs : List Far.FR) (Af : Option Addr) (cf : Nat), e = .returned (.tuple #[.int .i64 (D : Int), .bool ok]) ∧ RunPost A B most D ok (Fs.map (·.1)) ∧ Sx.St w0 F0 ([Sx.blk g [.slice (Aa) (A.length) (ca), .slice (Ab) (B.length) (cb), .slice (Af) (Fs.length) (cf)] 64, Sx.row Far.kF 49 (Af) (cf) (Fs), Far.lib (Far.AllF Fs)] ++ R) w1) := by
 refine Sx.calls_fn (vs := [.pointer (some ⟨g, 0, none⟩), .int .i64 (most)]) Try.func37 rfl Try.ntmps37 rfl ?_
 refine wc_seq ?_
 refine wc_region ?_
 refine wl_v rfl rfl (ov_assign _ rfl) ?_
 refine wl_v rfl rfl (ov_assign _ rfl) ?_
 refine wl_nil ?_
 refine qn_then ?_
 refine wc_seq ?_
 refine wc_seq ?_
 refine wc_region ?_
 refine wl_v rfl rfl (ov_assign _ rfl) ?_
 refine wl_nil ?_
 refine qn_then ?_
 refine wc_block ?_
 replace h := st_nilrow Far.kF 49 h
 replace h := st_front 1 (Far.lib_nil h)
 replace h := st_front 1 h
 replace h := st_front 1 h
 replace h := st_front 2 h
 refine wc_loop (fun (x_ : Nat × (Option Addr) × Nat × (List Far.FR)) => [(0, .pointer (some ⟨g, 0, none⟩)), (1, .int .i64 (most)), (6, .int .i64 ((x_.1 : Int)))]) (fun (x_ : Nat × (Option Addr) × Nat × (List Far.FR)) (w : World) => ((x_.2.2.2).map (·.1) = farV A B x_.1 ∧ ((x_.1 : Nat) : Int) ≤ most + 1 ∧ ∀ d2, d2 < x_.1 → ¬ FoundAt A B d2) ∧ Sx.St w0 F0 ([Sx.blk g [.slice (Aa) (A.length) (ca), .slice (Ab) (B.length) (cb), .slice (x_.2.1) (x_.2.2.2.length) (x_.2.2.1)] 64, Sx.row Far.kF 49 (x_.2.1) (x_.2.2.1) (x_.2.2.2), Far.lib (Far.AllF x_.2.2.2)] ++ R) w) (fun (x_ : Nat × (Option Addr) × Nat × (List Far.FR)) => most.toNat + 1 - x_.1) (0, none, 0, []) ?_ ?_ ?_
 · exact ⟨rfl, rfl, (congrArg (fun z_ => some (Value.int .i64 z_)) (show (0 : Int) = (0 : Int) by omega)), trivial⟩
 · exact ⟨⟨rfl, by show ((0 : Nat) : Int) ≤ most + 1; omega, fun d2_ hd2_ => absurd hd2_ (Nat.not_lt_zero _)⟩, h⟩
 rintro ⟨d, Af, cf, Fs⟩ w h
 obtain ⟨hJ, h⟩ := h
 replace hJ : (Fs).map (·.1) = farV A B d ∧ ((d : Nat) : Int) ≤ most + 1 ∧ ∀ d2, d2 < d → ¬ FoundAt A B d2 := hJ
 replace h : Sx.St w0 F0 ([Sx.blk g [.slice (Aa) (A.length) (ca), .slice (Ab) (B.length) (cb), .slice (Af) (Fs.length) (cf)] 64, Sx.row Far.kF 49 (Af) (cf) (Fs), Far.lib (Far.AllF Fs)] ++ R) w := h
 show Sx.WC _ _ _ _ [(0, .pointer (some ⟨g, 0, none⟩)), (1, .int .i64 (most)), (6, .int .i64 ((d : Int)))] _
 have hJo := hJ
 have hFl_ : Fs.length = d := by rw [← List.length_map (·.1), hJ.1, far_len]
 refine wc_seq ?_
 refine wc_seq ?_
 refine wc_region ?_
 refine wl_v rfl rfl (ov_move _ rfl) ?_
 refine wl_v rfl rfl (ov_move _ rfl) ?_
 refine wl_v rfl rfl (ov_bin _ rfl rfl (binR_leq)) ?_
 refine wl_nil ?_
 refine qn_then ?_
 refine wc_cond (by rfl) (fun c1 => ?_) (fun c1 => ?_)
 ·
  refine wc_skip ?_
  refine qn_then ?_
  refine wc_seq ?_
  refine wc_block ?_
  refine wc_seq ?_
  refine wc_region ?_
  refine wl_v rfl rfl (ov_move _ rfl) ?_
  refine wl_v rfl rfl (ov_bin _ rfl rfl (binR_mul (r := 2 * ((d : Int))) (Sx.w64 (by omega)))) ?_
  refine wl_v rfl rfl (ov_bin _ rfl rfl (binR_add (r := (2 * ((d : Int))) + 1) (Sx.w64 (by omega)))) ?_
  refine wl_make (d := (Kd.int .i64)) _ 8 (0 : Int) ((2 * ((d : Int))) + 1) h rfl rfl rfl rfl Try.underlying49 inf3 rfl (by decide) (by decide) (fun _ _ _ => (Sx.mkInt .i64 ((0 : Int)))) (by omega) (by omega) (fun A2 cp3 _ h => ?_)
  refine wl_v rfl rfl (ov_assign _ rfl) ?_
  refine wl_nil ?_
  refine qn_then ?_
  refine wc_seq ?_
  refine wc_seq ?_
  refine wc_region ?_
  refine wl_v rfl rfl (ov_move _ rfl) ?_
  refine wl_v rfl rfl (ov_neg _ _ (0 - ((d : Int))) rfl (Sx.w64 (by omega))) ?_
  refine wl_v rfl rfl (ov_assign _ rfl) ?_
  refine wl_nil ?_
  refine qn_then ?_
  refine wc_block ?_
  have e_ : List.replicate ((2 * ((d : Int))) + 1 : Int).toNat (0 : Int) = (rowP A B (farV A B d) d 0) := by first | (rw [rowP_zero]; done) | (rw [rowP_zero]; congr 1; done) | (rw [rowP_zero]; congr 1; omega)
  replace h := st_cast (congrArg (fun z_ => ([Sx.row (Kd.int .i64) 3 (A2) (cp3) (z_), Sx.blk g [.slice (Aa) (A.length) (ca), .slice (Ab) (B.length) (cb), .slice (Af) (Fs.length) (cf)] 64, Sx.row Far.kF 49 (Af) (cf) (Fs), Far.lib (Far.AllF Fs)] ++ R)) e_) h
  clear e_
  replace h := st_front 3 h
  replace h := st_front 3 h
  replace h := st_front 3 h
  refine wc_loop (fun (x_ : Nat × (Option Addr)) => [(0, .pointer (some ⟨g, 0, none⟩)), (1, .int .i64 (most)), (6, .int .i64 ((d : Int))), (7, .slice (x_.2) (((rowP A B (farV A B d) d x_.1)).length) (cp3)), (8, .int .i64 ((2 * ((x_.1 : Nat) : Int) - (d : Int))))]) (fun (x_ : Nat × (Option Addr)) (w : World) => (x_.1 ≤ d + 1 ∧ ∀ j2, j2 < x_.1 → ¬ FoundK A B d j2) ∧ Sx.St w0 F0 ([Sx.blk g [.slice (Aa) (A.length) (ca), .slice (Ab) (B.length) (cb), .slice (Af) (Fs.length) (cf)] 64, Sx.row Far.kF 49 (Af) (cf) (Fs), Far.lib (Far.AllF Fs), Sx.row (Kd.int .i64) 3 (x_.2) (cp3) ((rowP A B (farV A B d) d x_.1))] ++ R) w) (fun (x_ : Nat × (Option Addr)) => d + 1 - x_.1) (0, A2) ?_ ?_ ?_
  · exact ⟨rfl, rfl, rfl, (congrArg (fun z_ => some (Value.slice (A2) z_ (cp3))) (by rw [rowP_len, List.length_replicate] <;> omega)), (congrArg (fun z_ => some (Value.int .i64 z_)) (show (0 - ((d : Int)) : Int) = (2 * ((0 : Nat) : Int) - (d : Int)) by omega)), trivial⟩
  · exact ⟨⟨Nat.zero_le _, fun j2_ hj2_ => absurd hj2_ (Nat.not_lt_zero _)⟩, h⟩
  rintro ⟨j, Aw⟩ w h
  obtain ⟨hJ, h⟩ := h
  replace hJ : j ≤ d + 1 ∧ ∀ j2, j2 < j → ¬ FoundK A B d j2 := hJ
  replace h : Sx.St w0 F0 ([Sx.blk g [.slice (Aa) (A.length) (ca), .slice (Ab) (B.length) (cb), .slice (Af) (Fs.length) (cf)] 64, Sx.row Far.kF 49 (Af) (cf) (Fs), Far.lib (Far.AllF Fs), Sx.row (Kd.int .i64) 3 (Aw) (cp3) ((rowP A B (farV A B d) d j))] ++ R) w := h
  show Sx.WC _ _ _ _ [(0, .pointer (some ⟨g, 0, none⟩)), (1, .int .i64 (most)), (6, .int .i64 ((d : Int))), (7, .slice (Aw) (((rowP A B (farV A B d) d j)).length) (cp3)), (8, .int .i64 ((2 * ((j : Nat) : Int) - (d : Int))))] _
  have hrl_ : ((rowP A B (farV A B d) d j)).length = 2 * d + 1 := rowP_len ..
  refine wc_seq ?_
  refine wc_seq ?_
  refine wc_region ?_
  refine wl_v rfl rfl (ov_move _ rfl) ?_
  refine wl_v rfl rfl (ov_move _ rfl) ?_
  refine wl_v rfl rfl (ov_bin _ rfl rfl (binR_leq)) ?_
  refine wl_nil ?_
  refine qn_then ?_
  refine wc_cond (by rfl) (fun c4 => ?_) (fun c4 => ?_)
  ·
   refine wc_skip ?_
   refine qn_then ?_
   refine wc_seq ?_
   refine wc_block ?_
   refine wc_seq ?_
   refine wc_region ?_
   refine wl_v rfl rfl (ov_move _ rfl) ?_
   refine wl_v rfl rfl (ov_move _ rfl) ?_
   refine wl_v rfl rfl (ov_move _ rfl) ?_
   replace h := st_front 2 h
   replace h := st_front 2 h
   replace h := st_front 2 h
   refine wl_call _ rfl rfl rfl ent44 (start_calls (R := [Sx.row (Kd.int .i64) 3 (Aw) (cp3) ((rowP A B (farV A B d) d j))] ++ R) g A (Aa) ca B (Ab) cb (Af) (cf) (Fs) (farV A B d) ((d : Int)) ((2 * ((j : Nat) : Int) - (d : Int))) hv hla hlb hCa hCb hA1 hB1 (by omega) (by omega) (by omega) (by omega) (by omega) (by omega) (fun i hi => far_ok A B d (by omega) i (by rw [far_len]; omega)) hJo.1 h) ?_
   rintro e_ w_ ⟨rfl, h⟩
   refine ⟨_, rfl, ?_⟩
   have hsv_ := start_val (k := (2 * ((j : Nat) : Int) - (d : Int))) (far_ok A B d (by omega)) (show d ≤ (farV A B d).length by rw [far_len]; exact Nat.le_refl _) (by omega)
   refine wl_v rfl rfl (ov_assign _ rfl) ?_
   refine wl_nil ?_
   refine qn_then ?_
   refine wc_seq ?_
   refine wc_seq ?_
   refine wc_region ?_
   refine wl_v rfl rfl (ov_move _ rfl) ?_
   refine wl_v rfl rfl (ov_move _ rfl) ?_
   refine wl_v rfl rfl (ov_nilCheck _ rfl) ?_
   refine wl_v rfl rfl (ov_fieldAddr _ ⟨g, 0, none⟩ _ rfl fo64_0 rfl) ?_
   refine wl_v rfl rfl (ov_loadb 0 _ h rfl rfl sh52 rfl) ?_
   refine wl_v rfl rfl (ov_len _ _ _ _ _ rfl es52) ?_
   refine wl_v rfl rfl (ov_bin _ rfl rfl (binR_gtr)) ?_
   refine wl_v rfl rfl (ov_move _ rfl) ?_
   refine wl_split 37 rfl (fun c5 => ?_) (fun c5 => ?_)
   ·
    refine wl_skip rfl rfl ?_
    refine wl_skip rfl rfl ?_
    refine wl_skip rfl rfl ?_
    refine wl_skip rfl rfl ?_
    refine wl_skip rfl rfl ?_
    refine wl_skip rfl rfl ?_
    refine wl_skip rfl rfl ?_
    refine wl_skip rfl rfl ?_
    refine wl_skip rfl rfl ?_
    refine wl_v rfl rfl (ov_pick_true _ rfl rfl) ?_
    refine wl_v rfl rfl (ov_move _ rfl) ?_
    refine wl_skip rfl rfl ?_
    refine wl_skip rfl rfl ?_
    refine wl_skip rfl rfl ?_
    refine wl_skip rfl rfl ?_
    refine wl_v rfl rfl (ov_pick_true _ rfl rfl) ?_
    refine wl_nil ?_
    refine qn_then ?_
    refine wc_cond_true rfl ?_
    refine wc_seq ?_
    refine wc_region ?_
    refine wl_v rfl rfl (ov_move _ rfl) ?_
    refine wl_v rfl rfl (ov_move _ rfl) ?_
    refine wl_v rfl rfl (ov_move _ rfl) ?_
    refine wl_v rfl rfl (ov_bin _ rfl rfl (binR_add (r := ((2 * ((j : Nat) : Int) - (d : Int))) + ((d : Int))) (Sx.w64 (by omega)))) ?_
    obtain ⟨ad6, rfl⟩ := Sx.C_some ((Sx.row_reads h (i := 3) rfl).2) (k := (((2 * ((j : Nat) : Int) - (d : Int))) + ((d : Int)) : Int).toNat) (by first | assumption | omega)
    refine wl_v rfl rfl (ov_indexAddrN _ _ _ _ _ (((2 * ((j : Nat) : Int) - (d : Int))) + ((d : Int)) : Int).toNat rfl rfl es49 (by omega) (by first | assumption | omega | (simp only [List.length_take, List.length_drop, List.length_set]; omega))) ?_
    refine wl_storeeN 3 (((2 * ((j : Nat) : Int) - (d : Int))) + ((d : Int)) : Int).toNat 0 (.int .i64 (-1073741824)) [.int .i64 (-1073741824)] (0 : Int) (-1073741824) h rfl rfl rfl (by first | rfl | simp) rfl rfl (by simp [Value.oneCell']) szf3 (by first | assumption | omega | (simp only [List.length_set]; omega)) (Nat.le_of_ble_eq_true rfl) (by intro cl hcl hM; obtain ⟨_, _, _, hM⟩ := hM; obtain rfl : cl = [.int .i64 _] := hM; intro _ _ _; exact (Sx.mkInt .i64 (-1073741824))) (fun _ h => ?_)
    refine wl_nil ?_
    refine qn_then ?_
    refine wc_exit ?_
    refine qn_then_exit ?_
    refine qn_block_exit ?_
    refine qn_then ?_
    refine wc_region ?_
    refine wl_v rfl rfl (ov_move _ rfl) ?_
    refine wl_v rfl rfl (ov_bin _ rfl rfl (binR_add (r := ((2 * ((j : Nat) : Int) - (d : Int))) + 2) (Sx.w64 (by omega)))) ?_
    refine wl_v rfl rfl (ov_assign _ rfl) ?_
    refine wl_nil ?_
    have hcell_ : cellV A B (farV A B d) (d : Int) (2 * (j : Int) - (d : Int)) = -1073741824 := by
      unfold cellV
      rw [if_pos (by omega)]
    have e_ : ((rowP A B (farV A B d) d j)).set (((2 * ((j : Nat) : Int) - (d : Int))) + ((d : Int)) : Int).toNat (-1073741824) = (rowP A B (farV A B d) d (j + 1)) := by first | (rw [← rowP_set A B (farV A B d) d j (by omega), hcell_, show ((2 * (j : Int) - (d : Int)) + (d : Int)).toNat = 2 * j by omega]; done) | (rw [← rowP_set A B (farV A B d) d j (by omega), hcell_]; congr 1; omega)
    replace h := st_cast (congrArg (fun z_ => ([Sx.blk g [.slice (Aa) (A.length) (ca), .slice (Ab) (B.length) (cb), .slice (Af) (Fs.length) (cf)] 64, Sx.row Far.kF 49 (Af) (cf) (Fs), Far.lib (Far.AllF Fs), Sx.row (Kd.int .i64) 3 (some ad6) (cp3) (z_)] ++ R)) e_) h
    clear e_
    replace h := st_front 3 h
    replace h := st_front 3 h
    replace h := st_front 3 h
    replace h := st_front 3 h
    refine qn_next ((j + 1), some ad6) (by show d + 1 - (j + 1) < d + 1 - j; omega) ⟨rfl, rfl, rfl, (congrArg (fun z_ => some (Value.slice (some ad6) z_ (cp3))) (by simp only [rowP_len, List.length_set])), (congrArg (fun z_ => some (Value.int .i64 z_)) (show (((2 * ((j : Nat) : Int) - (d : Int))) + 2 : Int) = (2 * (((j + 1) : Nat) : Int) - (d : Int)) by omega)), trivial⟩ ?_
    show ((j + 1) ≤ d + 1 ∧ ∀ j2, j2 < (j + 1) → ¬ FoundK A B d j2) ∧ _
    exact ⟨⟨by omega, fun j2_ hj2_ => by
      rcases Nat.lt_succ_iff_lt_or_eq.1 hj2_ with z_ | rfl
      · exact hJ.2 j2_ z_
      · unfold FoundK; rw [hcell_]; omega⟩, h⟩
   ·
    refine wl_v rfl rfl (ov_move _ rfl) ?_
    refine wl_v rfl rfl (ov_move _ rfl) ?_
    refine wl_v rfl rfl (ov_bin _ rfl rfl (binR_sub (r := (startV (farV A B d) ((d : Int)) ((2 * ((j : Nat) : Int) - (d : Int)))) - ((2 * ((j : Nat) : Int) - (d : Int)))) (Sx.w64 (by omega)))) ?_
    refine wl_v rfl rfl (ov_move _ rfl) ?_
    refine wl_v rfl rfl (ov_nilCheck _ rfl) ?_
    refine wl_v rfl rfl (ov_fieldAddr _ ⟨g, 1, none⟩ _ rfl fo64_1 rfl) ?_
    refine wl_v rfl rfl (ov_loadb 0 _ h rfl rfl sh52 rfl) ?_
    refine wl_v rfl rfl (ov_len _ _ _ _ _ rfl es52) ?_
    refine wl_v rfl rfl (ov_bin _ rfl rfl (binR_gtr)) ?_
    refine wl_v rfl rfl (ov_pick_false _ rfl rfl) ?_
    refine wl_v rfl rfl (ov_move _ rfl) ?_
    refine wl_split 48 rfl (fun c7 => ?_) (fun c7 => ?_)
    ·
     refine wl_skip rfl rfl ?_
     refine wl_skip rfl rfl ?_
     refine wl_skip rfl rfl ?_
     refine wl_skip rfl rfl ?_
     refine wl_v rfl rfl (ov_pick_true _ rfl rfl) ?_
     refine wl_nil ?_
     refine qn_then ?_
     refine wc_cond_true rfl ?_
     refine wc_seq ?_
     refine wc_region ?_
     refine wl_v rfl rfl (ov_move _ rfl) ?_
     refine wl_v rfl rfl (ov_move _ rfl) ?_
     refine wl_v rfl rfl (ov_move _ rfl) ?_
     refine wl_v rfl rfl (ov_bin _ rfl rfl (binR_add (r := ((2 * ((j : Nat) : Int) - (d : Int))) + ((d : Int))) (Sx.w64 (by omega)))) ?_
     obtain ⟨ad8, rfl⟩ := Sx.C_some ((Sx.row_reads h (i := 3) rfl).2) (k := (((2 * ((j : Nat) : Int) - (d : Int))) + ((d : Int)) : Int).toNat) (by first | assumption | omega)
     refine wl_v rfl rfl (ov_indexAddrN _ _ _ _ _ (((2 * ((j : Nat) : Int) - (d : Int))) + ((d : Int)) : Int).toNat rfl rfl es49 (by omega) (by first | assumption | omega | (simp only [List.length_take, List.length_drop, List.length_set]; omega))) ?_
     refine wl_storeeN 3 (((2 * ((j : Nat) : Int) - (d : Int))) + ((d : Int)) : Int).toNat 0 (.int .i64 (-1073741824)) [.int .i64 (-1073741824)] (0 : Int) (-1073741824) h rfl rfl rfl (by first | rfl | simp) rfl rfl (by simp [Value.oneCell']) szf3 (by first | assumption | omega | (simp only [List.length_set]; omega)) (Nat.le_of_ble_eq_true rfl) (by intro cl hcl hM; obtain ⟨_, _, _, hM⟩ := hM; obtain rfl : cl = [.int .i64 _] := hM; intro _ _ _; exact (Sx.mkInt .i64 (-1073741824))) (fun _ h => ?_)
     refine wl_nil ?_
     refine qn_then ?_
     refine wc_exit ?_
     refine qn_then_exit ?_
     refine qn_block_exit ?_
     refine qn_then ?_
     refine wc_region ?_
     refine wl_v rfl rfl (ov_move _ rfl) ?_
     refine wl_v rfl rfl (ov_bin _ rfl rfl (binR_add (r := ((2 * ((j : Nat) : Int) - (d : Int))) + 2) (Sx.w64 (by omega)))) ?_
     refine wl_v rfl rfl (ov_assign _ rfl) ?_
     refine wl_nil ?_
     have hcell_ : cellV A B (farV A B d) (d : Int) (2 * (j : Int) - (d : Int)) = -1073741824 := by
       unfold cellV
       rw [if_pos (by omega)]
     have e_ : ((rowP A B (farV A B d) d j)).set (((2 * ((j : Nat) : Int) - (d : Int))) + ((d : Int)) : Int).toNat (-1073741824) = (rowP A B (farV A B d) d (j + 1)) := by first | (rw [← rowP_set A B (farV A B d) d j (by omega), hcell_, show ((2 * (j : Int) - (d : Int)) + (d : Int)).toNat = 2 * j by omega]; done) | (rw [← rowP_set A B (farV A B d) d j (by omega), hcell_]; congr 1; omega)
     replace h := st_cast (congrArg (fun z_ => ([Sx.blk g [.slice (Aa) (A.length) (ca), .slice (Ab) (B.length) (cb), .slice (Af) (Fs.length) (cf)] 64, Sx.row Far.kF 49 (Af) (cf) (Fs), Far.lib (Far.AllF Fs), Sx.row (Kd.int .i64) 3 (some ad8) (cp3) (z_)] ++ R)) e_) h
     clear e_
     replace h := st_front 3 h
     replace h := st_front 3 h
     replace h := st_front 3 h
     replace h := st_front 3 h
     refine qn_next ((j + 1), some ad8) (by show d + 1 - (j + 1) < d + 1 - j; omega) ⟨rfl, rfl, rfl, (congrArg (fun z_ => some (Value.slice (some ad8) z_ (cp3))) (by simp only [rowP_len, List.length_set])), (congrArg (fun z_ => some (Value.int .i64 z_)) (show (((2 * ((j : Nat) : Int) - (d : Int))) + 2 : Int) = (2 * (((j + 1) : Nat) : Int) - (d : Int)) by omega)), trivial⟩ ?_
     show ((j + 1) ≤ d + 1 ∧ ∀ j2, j2 < (j + 1) → ¬ FoundK A B d j2) ∧ _
     exact ⟨⟨by omega, fun j2_ hj2_ => by
       rcases Nat.lt_succ_iff_lt_or_eq.1 hj2_ with z_ | rfl
       · exact hJ.2 j2_ z_
       · unfold FoundK; rw [hcell_]; omega⟩, h⟩
    ·
     refine wl_v rfl rfl (ov_move _ rfl) ?_
     refine wl_v rfl rfl (ov_move _ rfl) ?_
     refine wl_v rfl rfl (ov_bin _ rfl rfl (binR_sub (r := (startV (farV A B d) ((d : Int)) ((2 * ((j : Nat) : Int) - (d : Int)))) - ((2 * ((j : Nat) : Int) - (d : Int)))) (Sx.w64 (by omega)))) ?_
     refine wl_v rfl rfl (ov_bin _ rfl rfl (binR_lss)) ?_
     refine wl_v rfl rfl (ov_pick_false _ rfl rfl) ?_
     refine wl_nil ?_
     refine qn_then ?_
     refine wc_cond (by rfl) (fun c9 => ?_) (fun c9 => ?_)
     ·
      refine wc_seq ?_
      refine wc_region ?_
      refine wl_v rfl rfl (ov_move _ rfl) ?_
      refine wl_v rfl rfl (ov_move _ rfl) ?_
      refine wl_v rfl rfl (ov_move _ rfl) ?_
      refine wl_v rfl rfl (ov_bin _ rfl rfl (binR_add (r := ((2 * ((j : Nat) : Int) - (d : Int))) + ((d : Int))) (Sx.w64 (by omega)))) ?_
      obtain ⟨ad10, rfl⟩ := Sx.C_some ((Sx.row_reads h (i := 3) rfl).2) (k := (((2 * ((j : Nat) : Int) - (d : Int))) + ((d : Int)) : Int).toNat) (by first | assumption | omega)
      refine wl_v rfl rfl (ov_indexAddrN _ _ _ _ _ (((2 * ((j : Nat) : Int) - (d : Int))) + ((d : Int)) : Int).toNat rfl rfl es49 (by omega) (by first | assumption | omega | (simp only [List.length_take, List.length_drop, List.length_set]; omega))) ?_
      refine wl_storeeN 3 (((2 * ((j : Nat) : Int) - (d : Int))) + ((d : Int)) : Int).toNat 0 (.int .i64 (-1073741824)) [.int .i64 (-1073741824)] (0 : Int) (-1073741824) h rfl rfl rfl (by first | rfl | simp) rfl rfl (by simp [Value.oneCell']) szf3 (by first | assumption | omega | (simp only [List.length_set]; omega)) (Nat.le_of_ble_eq_true rfl) (by intro cl hcl hM; obtain ⟨_, _, _, hM⟩ := hM; obtain rfl : cl = [.int .i64 _] := hM; intro _ _ _; exact (Sx.mkInt .i64 (-1073741824))) (fun _ h => ?_)
      refine wl_nil ?_
      refine qn_then ?_
      refine wc_exit ?_
      refine qn_then_exit ?_
      refine qn_block_exit ?_
      refine qn_then ?_
      refine wc_region ?_
      refine wl_v rfl rfl (ov_move _ rfl) ?_
      refine wl_v rfl rfl (ov_bin _ rfl rfl (binR_add (r := ((2 * ((j : Nat) : Int) - (d : Int))) + 2) (Sx.w64 (by omega)))) ?_
      refine wl_v rfl rfl (ov_assign _ rfl) ?_
      refine wl_nil ?_
      have hcell_ : cellV A B (farV A B d) (d : Int) (2 * (j : Int) - (d : Int)) = -1073741824 := by
        unfold cellV
        rw [if_pos (by omega)]
      have e_ : ((rowP A B (farV A B d) d j)).set (((2 * ((j : Nat) : Int) - (d : Int))) + ((d : Int)) : Int).toNat (-1073741824) = (rowP A B (farV A B d) d (j + 1)) := by first | (rw [← rowP_set A B (farV A B d) d j (by omega), hcell_, show ((2 * (j : Int) - (d : Int)) + (d : Int)).toNat = 2 * j by omega]; done) | (rw [← rowP_set A B (farV A B d) d j (by omega), hcell_]; congr 1; omega)
      replace h := st_cast (congrArg (fun z_ => ([Sx.blk g [.slice (Aa) (A.length) (ca), .slice (Ab) (B.length) (cb), .slice (Af) (Fs.length) (cf)] 64, Sx.row Far.kF 49 (Af) (cf) (Fs), Far.lib (Far.AllF Fs), Sx.row (Kd.int .i64) 3 (some ad10) (cp3) (z_)] ++ R)) e_) h
      clear e_
      replace h := st_front 3 h
      replace h := st_front 3 h
      replace h := st_front 3 h
      replace h := st_front 3 h
      refine qn_next ((j + 1), some ad10) (by show d + 1 - (j + 1) < d + 1 - j; omega) ⟨rfl, rfl, rfl, (congrArg (fun z_ => some (Value.slice (some ad10) z_ (cp3))) (by simp only [rowP_len, List.length_set])), (congrArg (fun z_ => some (Value.int .i64 z_)) (show (((2 * ((j : Nat) : Int) - (d : Int))) + 2 : Int) = (2 * (((j + 1) : Nat) : Int) - (d : Int)) by omega)), trivial⟩ ?_
      show ((j + 1) ≤ d + 1 ∧ ∀ j2, j2 < (j + 1) → ¬ FoundK A B d j2) ∧ _
      exact ⟨⟨by omega, fun j2_ hj2_ => by
        rcases Nat.lt_succ_iff_lt_or_eq.1 hj2_ with z_ | rfl
        · exact hJ.2 j2_ z_
        · unfold FoundK; rw [hcell_]; omega⟩, h⟩
     ·
      refine wc_skip ?_
      refine qn_then ?_
      refine wc_seq ?_
      refine wc_region ?_
      refine wl_v rfl rfl (ov_move _ rfl) ?_
      refine wl_v rfl rfl (ov_move _ rfl) ?_
      refine wl_v rfl rfl (ov_move _ rfl) ?_
      refine wl_v rfl rfl (ov_bin _ rfl rfl (binR_add (r := ((2 * ((j : Nat) : Int) - (d : Int))) + ((d : Int))) (Sx.w64 (by omega)))) ?_
      refine wl_v rfl rfl (ov_move _ rfl) ?_
      refine wl_v rfl rfl (ov_move _ rfl) ?_
      refine wl_v rfl rfl (ov_move _ rfl) ?_
      refine wl_v rfl rfl (ov_move _ rfl) ?_
      refine wl_v rfl rfl (ov_bin _ rfl rfl (binR_sub (r := (startV (farV A B d) ((d : Int)) ((2 * ((j : Nat) : Int) - (d : Int)))) - ((2 * ((j : Nat) : Int) - (d : Int)))) (Sx.w64 (by omega)))) ?_
      replace h := st_front 2 h
      replace h := st_front 2 h
      replace h := st_front 2 h
      refine wl_call _ rfl rfl rfl ent45 (slide_calls (R := [Sx.row (Kd.int .i64) 3 (Aw) (cp3) ((rowP A B (farV A B d) d j))] ++ R) g A (Aa) ca B (Ab) cb (Af) (cf) (Fs) (startV (farV A B d) ((d : Int)) ((2 * ((j : Nat) : Int) - (d : Int)))) ((startV (farV A B d) ((d : Int)) ((2 * ((j : Nat) : Int) - (d : Int)))) - ((2 * ((j : Nat) : Int) - (d : Int)))) hv hla hlb hCa hCb hA1 hB1 (by omega) (by omega) (by omega) (by omega) h) ?_
      rintro e_ w_ ⟨rfl, h⟩
      refine ⟨_, rfl, ?_⟩
      obtain ⟨ad11, rfl⟩ := Sx.C_some ((Sx.row_reads h (i := 3) rfl).2) (k := (((2 * ((j : Nat) : Int) - (d : Int))) + ((d : Int)) : Int).toNat) (by first | assumption | omega)
      refine wl_v rfl rfl (ov_indexAddrN _ _ _ _ _ (((2 * ((j : Nat) : Int) - (d : Int))) + ((d : Int)) : Int).toNat rfl rfl es49 (by omega) (by first | assumption | omega | (simp only [List.length_take, List.length_drop, List.length_set]; omega))) ?_
      refine wl_storeeN 3 (((2 * ((j : Nat) : Int) - (d : Int))) + ((d : Int)) : Int).toNat 0 (.int .i64 (slideV A B (startV (farV A B d) ((d : Int)) ((2 * ((j : Nat) : Int) - (d : Int)))) ((startV (farV A B d) ((d : Int)) ((2 * ((j : Nat) : Int) - (d : Int)))) - ((2 * ((j : Nat) : Int) - (d : Int)))))) [.int .i64 (slideV A B (startV (farV A B d) ((d : Int)) ((2 * ((j : Nat) : Int) - (d : Int)))) ((startV (farV A B d) ((d : Int)) ((2 * ((j : Nat) : Int) - (d : Int)))) - ((2 * ((j : Nat) : Int) - (d : Int)))))] (0 : Int) (slideV A B (startV (farV A B d) ((d : Int)) ((2 * ((j : Nat) : Int) - (d : Int)))) ((startV (farV A B d) ((d : Int)) ((2 * ((j : Nat) : Int) - (d : Int)))) - ((2 * ((j : Nat) : Int) - (d : Int))))) h rfl rfl rfl (by first | rfl | simp) rfl rfl (by simp [Value.oneCell']) szf3 (by first | assumption | omega | (simp only [List.length_set]; omega)) (Nat.le_of_ble_eq_true rfl) (by intro cl hcl hM; obtain ⟨_, _, _, hM⟩ := hM; obtain rfl : cl = [.int .i64 _] := hM; intro _ _ _; exact (Sx.mkInt .i64 (slideV A B (startV (farV A B d) ((d : Int)) ((2 * ((j : Nat) : Int) - (d : Int)))) ((startV (farV A B d) ((d : Int)) ((2 * ((j : Nat) : Int) - (d : Int)))) - ((2 * ((j : Nat) : Int) - (d : Int))))))) (fun _ h => ?_)
      refine wl_nil ?_
      refine qn_then ?_
      refine wc_seq ?_
      have hcell_ : cellV A B (farV A B d) (d : Int) (2 * (j : Int) - (d : Int)) = slideV A B (startV (farV A B d) (d : Int) (2 * (j : Int) - (d : Int))) (startV (farV A B d) (d : Int) (2 * (j : Int) - (d : Int)) - (2 * (j : Int) - (d : Int))) := by
        unfold cellV
        rw [if_neg (by omega)]
      have e_ : ((rowP A B (farV A B d) d j)).set (((2 * ((j : Nat) : Int) - (d : Int))) + ((d : Int)) : Int).toNat (slideV A B (startV (farV A B d) ((d : Int)) ((2 * ((j : Nat) : Int) - (d : Int)))) ((startV (farV A B d) ((d : Int)) ((2 * ((j : Nat) : Int) - (d : Int)))) - ((2 * ((j : Nat) : Int) - (d : Int))))) = (rowP A B (farV A B d) d (j + 1)) := by first | (rw [← rowP_set A B (farV A B d) d j (by omega), hcell_, show ((2 * (j : Int) - (d : Int)) + (d : Int)).toNat = 2 * j by omega]; done) | (rw [← rowP_set A B (farV A B d) d j (by omega), hcell_]; congr 1; omega)
      replace h := st_cast (congrArg (fun z_ => ([Sx.blk g [.slice (Aa) (A.length) (ca), .slice (Ab) (B.length) (cb), .slice (Af) (Fs.length) (cf)] 64, Sx.row Far.kF 49 (Af) (cf) (Fs), Far.lib (Far.AllF Fs), Sx.row (Kd.int .i64) 3 (some ad11) (cp3) (z_)] ++ R)) e_) h
      clear e_
      rw [show ((rowP A B (farV A B d) d j)).length = ((rowP A B (farV A B d) d (j + 1))).length by rw [rowP_len, rowP_len]]
      have hrd_ : (rowP A B (farV A B d) d (j + 1)).getD ((2 * (j : Int) - (d : Int)) + (d : Int)).toNat 0 = cellV A B (farV A B d) (d : Int) (2 * (j : Int) - (d : Int)) := by
        rw [show ((2 * (j : Int) - (d : Int)) + (d : Int)).toNat = 2 * j by omega, rowP_at _ _ _ _ _ _ (by omega), if_pos ⟨by omega, by omega⟩]
        congr 1
      have hrl2_ : (rowP A B (farV A B d) d (j + 1)).length = 2 * d + 1 := rowP_len ..
      have hcv_ := cell_val (A := A) (B := B) (d := d) (k := (2 * (j : Int) - (d : Int))) (far_ok A B d (by omega)) (by rw [far_len]; exact Nat.le_refl _) (by omega)
      refine wc_draw (fun w => Sx.St w0 F0 ([Sx.blk g [.slice (Aa) (A.length) (ca), .slice (Ab) (B.length) (cb), .slice (Af) (Fs.length) (cf)] 64, Sx.row Far.kF 49 (Af) (cf) (Fs), Far.lib (Far.AllF Fs), Sx.row (Kd.int .i64) 3 (some ad11) (cp3) ((rowP A B (farV A B d) d (j + 1)))] ++ R) w) (by kernel_rfl) ?_
      replace h := st_drew h
      refine wa_tk 0 rfl rfl rfl (st_selT [true, true, true, true] h) (fun w_ hS => ov_move _ rfl) ?_
      refine wa_tk 1 rfl rfl rfl (st_selT [true, true, true, true] h) (fun w_ hS => ov_move _ rfl) ?_
      refine wa_tk 2 rfl rfl rfl (st_selT [true, true, true, true] h) (fun w_ hS => ov_move _ rfl) ?_
      refine wa_tk 3 rfl rfl rfl (st_selT [true, true, true, true] h) (fun w_ hS => ov_bin _ rfl rfl (binR_add (r := ((2 * ((j : Nat) : Int) - (d : Int))) + ((d : Int))) (Sx.w64 (by omega)))) ?_
      refine wa_tk 4 rfl rfl rfl (st_selT [true, true, true, true] h) (fun w_ hS => ov_indexAddrN _ _ _ _ _ (((2 * ((j : Nat) : Int) - (d : Int))) + ((d : Int)) : Int).toNat rfl rfl es49 (by omega) (by first | assumption | omega | (simp only [List.length_take, List.length_drop, List.length_set]; omega))) ?_
      refine wa_tk 5 rfl rfl rfl (st_selT [true, true, true, true] h) (fun w_ hS => by
          obtain ⟨cl14, _, hk13, hc12⟩ := Sx.C_cells ((Sx.row_reads hS (i := 3) rfl).2) (z := (0 : Int)) (k := (((2 * ((j : Nat) : Int) - (d : Int))) + ((d : Int)) : Int).toNat) (by first | assumption | omega)
          obtain rfl : cl14 = [.int .i64 _] := hk13
          exact ov_load1 _ _ rfl sh3 ((hc12 0 _ rfl))) ?_
      refine wa_tk 6 rfl rfl rfl (st_selT [true, true, true, true] h) (fun w_ hS => ov_move _ rfl) ?_
      refine wa_tk 7 rfl rfl rfl (st_selT [true, true, true, true] h) (fun w_ hS => ov_nilCheck _ rfl) ?_
      refine wa_tk 8 rfl rfl rfl (st_selT [true, true, true, true] h) (fun w_ hS => ov_fieldAddr _ ⟨g, 0, none⟩ _ rfl fo64_0 rfl) ?_
      refine wa_tk 9 rfl rfl rfl (st_selT [true, true, true, true] h) (fun w_ hS => ov_loadb 0 _ hS rfl rfl sh52 rfl) ?_
      refine wa_tk 10 rfl rfl rfl (st_selT [true, true, true, true] h) (fun w_ hS => ov_len _ _ _ _ _ rfl es52) ?_
      refine wa_tk 11 rfl rfl rfl (st_selT [true, true, true, true] h) (fun w_ hS => ov_bin _ rfl rfl (binR_geq)) ?_
      refine wa_tk 12 rfl rfl rfl (st_selT [true, true, true, true] h) (fun w_ hS => ov_move _ rfl) ?_
      refine wa_split 82 rfl (fun c15 => ?_) (fun c15 => ?_)
      ·
       refine wa_tk 13 rfl rfl rfl (st_selT [true, true, true, true] h) (fun w_ hS => ov_move _ rfl) ?_
       refine wa_tk 14 rfl rfl rfl (st_selT [true, true, true, true] h) (fun w_ hS => ov_move _ rfl) ?_
       refine wa_tk 15 rfl rfl rfl (st_selT [true, true, true, true] h) (fun w_ hS => ov_move _ rfl) ?_
       refine wa_tk 16 rfl rfl rfl (st_selT [true, true, true, true] h) (fun w_ hS => ov_bin _ rfl rfl (binR_add (r := ((2 * ((j : Nat) : Int) - (d : Int))) + ((d : Int))) (Sx.w64 (by omega)))) ?_
       refine wa_tk 17 rfl rfl rfl (st_selT [true, true, true, true] h) (fun w_ hS => ov_indexAddrN _ _ _ _ _ (((2 * ((j : Nat) : Int) - (d : Int))) + ((d : Int)) : Int).toNat rfl rfl es49 (by omega) (by first | assumption | omega | (simp only [List.length_take, List.length_drop, List.length_set]; omega))) ?_
       refine wa_tk 18 rfl rfl rfl (st_selT [true, true, true, true] h) (fun w_ hS => by
           obtain ⟨cl18, _, hk17, hc16⟩ := Sx.C_cells ((Sx.row_reads hS (i := 3) rfl).2) (z := (0 : Int)) (k := (((2 * ((j : Nat) : Int) - (d : Int))) + ((d : Int)) : Int).toNat) (by first | assumption | omega)
           obtain rfl : cl18 = [.int .i64 _] := hk17
           exact ov_load1 _ _ rfl sh3 ((hc16 0 _ rfl))) ?_
       refine wa_tk 19 rfl rfl rfl (st_selT [true, true, true, true] h) (fun w_ hS => ov_move _ rfl) ?_
       refine wa_tk 20 rfl rfl rfl (st_selT [true, true, true, true] h) (fun w_ hS => ov_bin _ rfl rfl (binR_sub (r := (((rowP A B (farV A B d) d (j + 1))).getD (((2 * ((j : Nat) : Int) - (d : Int))) + ((d : Int)) : Int).toNat (0 : Int)) - ((2 * ((j : Nat) : Int) - (d : Int)))) (Sx.w64 (by omega)))) ?_
       refine wa_tk 21 rfl rfl rfl (st_selT [true, true, true, true] h) (fun w_ hS => ov_move _ rfl) ?_
       refine wa_tk 22 rfl rfl rfl (st_selT [true, true, true, true] h) (fun w_ hS => ov_nilCheck _ rfl) ?_
       refine wa_tk 23 rfl rfl rfl (st_selT [true, true, true, true] h) (fun w_ hS => ov_fieldAddr _ ⟨g, 1, none⟩ _ rfl fo64_1 rfl) ?_
       refine wa_tk 24 rfl rfl rfl (st_selT [true, true, true, true] h) (fun w_ hS => ov_loadb 0 _ hS rfl rfl sh52 rfl) ?_
       refine wa_tk 25 rfl rfl rfl (st_selT [true, true, true, true] h) (fun w_ hS => ov_len _ _ _ _ _ rfl es52) ?_
       refine wa_tk 26 rfl rfl rfl (st_selT [true, true, true, true] h) (fun w_ hS => ov_bin _ rfl rfl (binR_geq)) ?_
       refine wa_tk 27 rfl rfl rfl (st_selT [true, true, true, true] h) (fun w_ hS => ov_pick_true _ rfl rfl) ?_
       refine wa_done (by kernel_rfl) ?_
       refine qn_then ?_
       refine wc_cond (by rfl) (fun c19 => ?_) (fun c19 => ?_)
       ·
        refine wc_seq ?_
        refine wc_region ?_
        refine wl_v rfl rfl (ov_move _ rfl) ?_
        refine wl_v rfl rfl (ov_move _ rfl) ?_
        refine wl_v rfl rfl (ov_nilCheck _ rfl) ?_
        refine wl_v rfl rfl (ov_fieldAddr _ ⟨g, 2, none⟩ _ rfl fo64_2 rfl) ?_
        refine wl_v rfl rfl (ov_loadb 0 _ h rfl rfl sh62 rfl) ?_
        refine wl_v rfl rfl (ov_move _ rfl) ?_
        refine wl_lit (d := Far.kF) [(0, .slice (some ad11) (((rowP A B (farV A B d) d (j + 1))).length) (cp3))] _ [.slice (some ad11) (((rowP A B (farV A B d) d (j + 1))).length) (cp3)] ([(((rowP A B (farV A B d) d (j + 1)), (⟨some ad11, ((rowP A B (farV A B d) d (j + 1))).length, cp3⟩ : Far.Hd)) : Far.FR)]) h rfl rfl rfl rfl Try.underlying62 infb49 rfl (by decide) (by kernel_rfl) rfl (fun _ _ _ => ((Reps.none _ _).snoc (Far.kF_mkM _ _ _ ((((rowP A B (farV A B d) d (j + 1)), (⟨some ad11, ((rowP A B (farV A B d) d (j + 1))).length, cp3⟩ : Far.Hd)) : Far.FR))) rfl)) (fun A20 cp21 _ h => ?_)
        refine wl_append (d := Far.kF) (L := Fs) 2 _ 24 _ _ _ ([(((rowP A B (farV A B d) d (j + 1)), (⟨some ad11, ((rowP A B (farV A B d) d (j + 1))).length, cp3⟩ : Far.Hd)) : Far.FR)]) Far.flatF h rfl rfl rfl rfl rfl ((Sx.row_reads h (i := 0) rfl).2) Try.underlying62 inf49 rfl (by decide) (by decide) (by first | omega | (simp only [List.length_cons, List.length_nil, List.length_append, List.length_set]; omega)) (by first | rfl | simp) (fun A22 cp23 _ h => ?_)
        replace h := st_selT [false, true, true, true, true] h
        refine wl_v rfl rfl (ov_nilCheck _ rfl) ?_
        refine wl_v rfl rfl (ov_fieldAddr _ ⟨g, 2, none⟩ _ rfl fo64_2 rfl) ?_
        refine wl_storeb 0 _ [.slice (Aa) (A.length) (ca), .slice (Ab) (B.length) (cb), .slice (A22) ((Fs ++ ([(((rowP A B (farV A B d) d (j + 1)), (⟨some ad11, ((rowP A B (farV A B d) d (j + 1))).length, cp3⟩ : Far.Hd)) : Far.FR)])).length) (cp23)] h rfl rfl rfl rfl rfl rfl sh62 rfl rfl (fun _ h => ?_)
        refine wl_nil ?_
        refine qn_then ?_
        refine wc_seq ?_
        refine wc_region ?_
        refine wl_v rfl rfl (ov_move _ rfl) ?_
        refine wl_v rfl rfl (ov_assign _ rfl) ?_
        refine wl_v rfl rfl (ov_assign _ rfl) ?_
        refine wl_nil ?_
        refine qn_then ?_
        refine wc_ret ?_
        refine qn_block_ret ?_
        refine qn_then_ret ?_
        refine qn_then_ret ?_
        refine qn_block_ret ?_
        refine qn_then_ret ?_
        refine qn_block_ret ?_
        refine qn_then_ret ?_
        refine qn_then_ret ?_
        refine qn_block_ret ?_
        refine qn_then_ret ?_
        replace h := st_front 2 h
        replace h := st_front 3 h
        replace h := Far.close_far h
        replace h : Sx.St w0 F0 ([Far.lib (Far.AllF (Fs ++ ([(((rowP A B (farV A B d) d (j + 1)), (⟨some ad11, ((rowP A B (farV A B d) d (j + 1))).length, cp3⟩ : Far.Hd)) : Far.FR)]))), Sx.blk g [.slice (Aa) (A.length) (ca), .slice (Ab) (B.length) (cb), .slice (A22) ((Fs ++ ([(((rowP A B (farV A B d) d (j + 1)), (⟨some ad11, ((rowP A B (farV A B d) d (j + 1))).length, cp3⟩ : Far.Hd)) : Far.FR)])).length) (cp23)] 64, Sx.row Far.kF 49 (A22) (cp23) (Fs ++ ([(((rowP A B (farV A B d) d (j + 1)), (⟨some ad11, ((rowP A B (farV A B d) d (j + 1))).length, cp3⟩ : Far.Hd)) : Far.FR)]))] ++ R) _ := h
        replace h := st_front 2 h
        replace h := st_front 2 h
        refine qn_ret [_, _] ⟨rfl, rfl, trivial⟩ ?_
        exact ⟨d, true, (Fs ++ ([(((rowP A B (farV A B d) d (j + 1)), (⟨some ad11, ((rowP A B (farV A B d) d (j + 1))).length, cp3⟩ : Far.Hd)) : Far.FR)])), A22, cp23, rfl, .inl ⟨rfl, by omega, ⟨_, by rw [List.map_append, hJo.1]; rfl⟩, ⟨j, by omega, by unfold FoundK; omega⟩, hJo.2.2⟩, h⟩
       ·
        refine wc_skip ?_
        refine qn_block_normal ?_
        refine qn_then ?_
        refine wc_region ?_
        refine wl_v rfl rfl (ov_move _ rfl) ?_
        refine wl_v rfl rfl (ov_bin _ rfl rfl (binR_add (r := ((2 * ((j : Nat) : Int) - (d : Int))) + 2) (Sx.w64 (by omega)))) ?_
        refine wl_v rfl rfl (ov_assign _ rfl) ?_
        refine wl_nil ?_
        replace h := st_front 3 h
        replace h := st_front 3 h
        replace h := st_front 3 h
        replace h := st_front 3 h
        refine qn_next ((j + 1), some ad11) (by show d + 1 - (j + 1) < d + 1 - j; omega) ⟨rfl, rfl, rfl, (congrArg (fun z_ => some (Value.slice (some ad11) z_ (cp3))) (by simp only [rowP_len, List.length_set])), (congrArg (fun z_ => some (Value.int .i64 z_)) (show (((2 * ((j : Nat) : Int) - (d : Int))) + 2 : Int) = (2 * (((j + 1) : Nat) : Int) - (d : Int)) by omega)), trivial⟩ ?_
        show ((j + 1) ≤ d + 1 ∧ ∀ j2, j2 < (j + 1) → ¬ FoundK A B d j2) ∧ _
        exact ⟨⟨by omega, fun j2_ hj2_ => by
          rcases Nat.lt_succ_iff_lt_or_eq.1 hj2_ with z_ | rfl
          · exact hJ.2 j2_ z_
          · unfold FoundK; rw [hcell_]; omega⟩, h⟩
      ·
       refine wa_sk 13 rfl rfl rfl (st_selT [true, true, true, true] h) ?_
       refine wa_sk 14 rfl rfl rfl (st_selT [true, true, true, true] h) ?_
       refine wa_sk 15 rfl rfl rfl (st_selT [true, true, true, true] h) ?_
       refine wa_sk 16 rfl rfl rfl (st_selT [true, true, true, true] h) ?_
       refine wa_sk 17 rfl rfl rfl (st_selT [true, true, true, true] h) ?_
       refine wa_sk 18 rfl rfl rfl (st_selT [true, true, true, true] h) ?_
       refine wa_sk 19 rfl rfl rfl (st_selT [true, true, true, true] h) ?_
       refine wa_sk 20 rfl rfl rfl (st_selT [true, true, true, true] h) ?_
       refine wa_sk 21 rfl rfl rfl (st_selT [true, true, true, true] h) ?_
       refine wa_sk 22 rfl rfl rfl (st_selT [true, true, true, true] h) ?_
       refine wa_sk 23 rfl rfl rfl (st_selT [true, true, true, true] h) ?_
       refine wa_sk 24 rfl rfl rfl (st_selT [true, true, true, true] h) ?_
       refine wa_sk 25 rfl rfl rfl (st_selT [true, true, true, true] h) ?_
       refine wa_sk 26 rfl rfl rfl (st_selT [true, true, true, true] h) ?_
       refine wa_tk 27 rfl rfl rfl (st_selT [true, true, true, true] h) (fun w_ hS => ov_pick_false _ rfl rfl) ?_
       refine wa_done (by kernel_rfl) ?_
       refine qn_then ?_
       refine wc_cond_false rfl ?_
       refine wc_skip ?_
       refine qn_block_normal ?_
       refine qn_then ?_
       refine wc_region ?_
       refine wl_v rfl rfl (ov_move _ rfl) ?_
       refine wl_v rfl rfl (ov_bin _ rfl rfl (binR_add (r := ((2 * ((j : Nat) : Int) - (d : Int))) + 2) (Sx.w64 (by omega)))) ?_
       refine wl_v rfl rfl (ov_assign _ rfl) ?_
       refine wl_nil ?_
       replace h := st_front 3 h
       replace h := st_front 3 h
       replace h := st_front 3 h
       replace h := st_front 3 h
       refine qn_next ((j + 1), some ad11) (by show d + 1 - (j + 1) < d + 1 - j; omega) ⟨rfl, rfl, rfl, (congrArg (fun z_ => some (Value.slice (some ad11) z_ (cp3))) (by simp only [rowP_len, List.length_set])), (congrArg (fun z_ => some (Value.int .i64 z_)) (show (((2 * ((j : Nat) : Int) - (d : Int))) + 2 : Int) = (2 * (((j + 1) : Nat) : Int) - (d : Int)) by omega)), trivial⟩ ?_
       show ((j + 1) ≤ d + 1 ∧ ∀ j2, j2 < (j + 1) → ¬ FoundK A B d j2) ∧ _
       exact ⟨⟨by omega, fun j2_ hj2_ => by
         rcases Nat.lt_succ_iff_lt_or_eq.1 hj2_ with z_ | rfl
         · exact hJ.2 j2_ z_
         · unfold FoundK; rw [hcell_]; omega⟩, h⟩
  ·
   refine wc_exit ?_
   refine qn_then_exit ?_
   refine qn_then_exit ?_
   refine qn_block_exit ?_
   refine qn_then ?_
   refine wc_region ?_
   refine wl_v rfl rfl (ov_move _ rfl) ?_
   refine wl_v rfl rfl (ov_move _ rfl) ?_
   refine wl_v rfl rfl (ov_nilCheck _ rfl) ?_
   refine wl_v rfl rfl (ov_fieldAddr _ ⟨g, 2, none⟩ _ rfl fo64_2 rfl) ?_
   refine wl_v rfl rfl (ov_loadb 0 _ h rfl rfl sh62 rfl) ?_
   refine wl_v rfl rfl (ov_move _ rfl) ?_
   refine wl_lit (d := Far.kF) [(0, .slice (Aw) (((rowP A B (farV A B d) d j)).length) (cp3))] _ [.slice (Aw) (((rowP A B (farV A B d) d j)).length) (cp3)] ([(((rowP A B (farV A B d) d j), (⟨Aw, ((rowP A B (farV A B d) d j)).length, cp3⟩ : Far.Hd)) : Far.FR)]) h rfl rfl rfl rfl Try.underlying62 infb49 rfl (by decide) (by kernel_rfl) rfl (fun _ _ _ => ((Reps.none _ _).snoc (Far.kF_mkM _ _ _ ((((rowP A B (farV A B d) d j), (⟨Aw, ((rowP A B (farV A B d) d j)).length, cp3⟩ : Far.Hd)) : Far.FR))) rfl)) (fun A24 cp25 _ h => ?_)
   refine wl_append (d := Far.kF) (L := Fs) 2 _ 24 _ _ _ ([(((rowP A B (farV A B d) d j), (⟨Aw, ((rowP A B (farV A B d) d j)).length, cp3⟩ : Far.Hd)) : Far.FR)]) Far.flatF h rfl rfl rfl rfl rfl ((Sx.row_reads h (i := 0) rfl).2) Try.underlying62 inf49 rfl (by decide) (by decide) (by first | omega | (simp only [List.length_cons, List.length_nil, List.length_append, List.length_set]; omega)) (by first | rfl | simp) (fun A26 cp27 _ h => ?_)
   replace h := st_selT [false, true, true, true, true] h
   refine wl_v rfl rfl (ov_nilCheck _ rfl) ?_
   refine wl_v rfl rfl (ov_fieldAddr _ ⟨g, 2, none⟩ _ rfl fo64_2 rfl) ?_
   refine wl_storeb 0 _ [.slice (Aa) (A.length) (ca), .slice (Ab) (B.length) (cb), .slice (A26) ((Fs ++ ([(((rowP A B (farV A B d) d j), (⟨Aw, ((rowP A B (farV A B d) d j)).length, cp3⟩ : Far.Hd)) : Far.FR)])).length) (cp27)] h rfl rfl rfl rfl rfl rfl sh62 rfl rfl (fun _ h => ?_)
   refine wl_nil ?_
   refine qn_block_normal ?_
   refine qn_then ?_
   refine wc_region ?_
   refine wl_v rfl rfl (ov_move _ rfl) ?_
   refine wl_v rfl rfl (ov_bin _ rfl rfl (binR_add (r := ((d : Int)) + 1) (Sx.w64 (by omega)))) ?_
   refine wl_v rfl rfl (ov_assign _ rfl) ?_
   refine wl_nil ?_
   replace h := st_front 2 h
   replace h := st_front 3 h
   replace h := Far.close_far h
   replace h : Sx.St w0 F0 ([Far.lib (Far.AllF (Fs ++ ([(((rowP A B (farV A B d) d j), (⟨Aw, ((rowP A B (farV A B d) d j)).length, cp3⟩ : Far.Hd)) : Far.FR)]))), Sx.blk g [.slice (Aa) (A.length) (ca), .slice (Ab) (B.length) (cb), .slice (A26) ((Fs ++ ([(((rowP A B (farV A B d) d j), (⟨Aw, ((rowP A B (farV A B d) d j)).length, cp3⟩ : Far.Hd)) : Far.FR)])).length) (cp27)] 64, Sx.row Far.kF 49 (A26) (cp27) (Fs ++ ([(((rowP A B (farV A B d) d j), (⟨Aw, ((rowP A B (farV A B d) d j)).length, cp3⟩ : Far.Hd)) : Far.FR)]))] ++ R) _ := h
   replace h := st_front 2 h
   replace h := st_front 2 h
   refine qn_next ((d + 1), A26, cp27, (Fs ++ ([(((rowP A B (farV A B d) d j), (⟨Aw, ((rowP A B (farV A B d) d j)).length, cp3⟩ : Far.Hd)) : Far.FR)]))) (by show most.toNat + 1 - (d + 1) < most.toNat + 1 - d; omega) ⟨rfl, rfl, (congrArg (fun z_ => some (Value.int .i64 z_)) (show (((d : Int)) + 1 : Int) = ((d + 1) : Int) by omega)), trivial⟩ ?_
   show (((Fs ++ ([(((rowP A B (farV A B d) d j), (⟨Aw, ((rowP A B (farV A B d) d j)).length, cp3⟩ : Far.Hd)) : Far.FR)]))).map (·.1) = farV A B (d + 1) ∧ (((d + 1) : Nat) : Int) ≤ most + 1 ∧ ∀ d2, d2 < (d + 1) → ¬ FoundAt A B d2) ∧ _
   have hjd_ : j = d + 1 := by omega
   exact ⟨⟨by rw [List.map_append, hJo.1, hjd_]; rfl, by omega, fun d2_ hd2_ => by
     rcases Nat.lt_succ_iff_lt_or_eq.1 hd2_ with z_ | rfl
     · exact hJo.2.2 d2_ z_
     · rintro ⟨j_, hj_, hf_⟩; exact hJ.2 j_ (by omega) hf_⟩, h⟩
 ·
  refine wc_exit ?_
  refine qn_then_exit ?_
  refine qn_then_exit ?_
  refine qn_block_exit ?_
  refine qn_then ?_
  refine wc_seq ?_
  refine wc_region ?_
  refine wl_v rfl rfl (ov_assign _ rfl) ?_
  refine wl_v rfl rfl (ov_assign _ rfl) ?_
  refine wl_nil ?_
  refine qn_then ?_
  refine wc_ret ?_
  replace h := st_front 2 h
  replace h := st_front 2 h
  replace h := st_front 2 h
  refine qn_ret [_, _] ⟨rfl, rfl, trivial⟩ ?_
  exact ⟨0, false, Fs, Af, cf, rfl, .inr ⟨rfl, rfl, fun d2_ hd2_ => hJ.2.2 d2_ (by omega)⟩, h⟩
set_option maxHeartbeats 4000000 in
set_option maxRecDepth 100000 in
theorem kept_calls {w0 w : World} {F0 : Nat → Prop} {R : List Sx.HP} {v0 : World} (g : Nat) (A : List Int) (Aa : Option Addr) (ca : Nat) (B : List Int) (Ab : Option Addr) (cb : Nat) (Af : Option Addr) (cf : Nat) (Fs : List Far.FR) (D : Nat) (F : List (List Int)) (p : List Int) (hv : Sx.RO v0 w0 F0) (hla : A.length ≤ ca) (hlb : B.length ≤ cb) (hCa : (Kd.int .i32).C v0 Aa A.length A) (hCb : (Kd.int .i32).C v0 Ab B.length B) (hA1 : A.length ≤ 100000) (hB1 : B.length ≤ 100000) (hFD : F = farV A B D ++ [p]) (hFF : Fs.map (·.1) = F) (hD : D ≤ 90000) (hfd : FoundAt A B D) (h : Sx.St w0 F0 ([Sx.blk g [.slice (Aa) (A.length) (ca), .slice (Ab) (B.length) (cb), .slice (Af) (Fs.length) (cf)] 64, Sx.row Far.kF 49 (Af) (cf) (Fs), Far.lib (Far.AllF Fs)] ++ R) w) : Calls Try.prog 38 #[.pointer (some ⟨g, 0, none⟩), .int .i64 (((D : Nat) : Int))] w (fun e w1 => ∃ (Ao : Option Addr) (co : Nat), e = .returned (.slice Ao ((keptB F D (A.length : Int) ((A.length : Int) - (B.length : Int)))).reverse.length co) ∧ Sx.St w0 F0 ([Sx.blk g [.slice (Aa) (A.length) (ca), .slice (Ab) (B.length) (cb), .slice (Af) (Fs.length) (cf)] 64, Sx.row Far.kF 49 (Af) (cf) (Fs), Far.lib (Far.AllF Fs), Sx.row (Kd.pair (Kd.int .i64) (Kd.int .i64)) 69 (Ao) (co) (((keptB F D (A.length : Int) ((A.length : Int) - (B.length : Int)))).reverse)] ++ R) w1) := by
 refine Sx.calls_fn (vs := [.pointer (some ⟨g, 0, none⟩), .int .i64 (((D : Nat) : Int))]) Try.func38 rfl Try.ntmps38 rfl ?_
 refine wc_seq ?_
 refine wc_region ?_
 refine wl_v rfl rfl (ov_assign _ rfl) ?_
 refine wl_nil ?_
 refine qn_then ?_
 refine wc_seq ?_
 refine wc_region ?_
 refine wl_v rfl rfl (ov_assign _ rfl) ?_
 refine wl_nil ?_
 refine qn_then ?_
 refine wc_seq ?_
 refine wc_draw (fun w => Sx.St w0 F0 ([Sx.blk g [.slice (Aa) (A.length) (ca), .slice (Ab) (B.length) (cb), .slice (Af) (Fs.length) (cf)] 64, Sx.row Far.kF 49 (Af) (cf) (Fs), Far.lib (Far.AllF Fs)] ++ R) w) (by kernel_rfl) ?_
 replace h := st_drew h
 refine wa_tk 0 rfl rfl rfl (st_selT [true, true, true] h) (fun w_ hS => ov_move _ rfl) ?_
 refine wa_tk 1 rfl rfl rfl (st_selT [true, true, true] h) (fun w_ hS => ov_nilCheck _ rfl) ?_
 refine wa_tk 2 rfl rfl rfl (st_selT [true, true, true] h) (fun w_ hS => ov_fieldAddr _ ⟨g, 0, none⟩ _ rfl fo64_0 rfl) ?_
 refine wa_tk 3 rfl rfl rfl (st_selT [true, true, true] h) (fun w_ hS => ov_loadb 0 _ hS rfl rfl sh52 rfl) ?_
 refine wa_tk 4 rfl rfl rfl (st_selT [true, true, true] h) (fun w_ hS => ov_len _ _ _ _ _ rfl es52) ?_
 refine wa_tk 5 rfl rfl rfl (st_selT [true, true, true] h) (fun w_ hS => ov_move _ rfl) ?_
 refine wa_tk 6 rfl rfl rfl (st_selT [true, true, true] h) (fun w_ hS => ov_nilCheck _ rfl) ?_
 refine wa_tk 7 rfl rfl rfl (st_selT [true, true, true] h) (fun w_ hS => ov_fieldAddr _ ⟨g, 0, none⟩ _ rfl fo64_0 rfl) ?_
 refine wa_tk 8 rfl rfl rfl (st_selT [true, true, true] h) (fun w_ hS => ov_loadb 0 _ hS rfl rfl sh52 rfl) ?_
 refine wa_tk 9 rfl rfl rfl (st_selT [true, true, true] h) (fun w_ hS => ov_len _ _ _ _ _ rfl es52) ?_
 refine wa_tk 10 rfl rfl rfl (st_selT [true, true, true] h) (fun w_ hS => ov_move _ rfl) ?_
 refine wa_tk 11 rfl rfl rfl (st_selT [true, true, true] h) (fun w_ hS => ov_nilCheck _ rfl) ?_
 refine wa_tk 12 rfl rfl rfl (st_selT [true, true, true] h) (fun w_ hS => ov_fieldAddr _ ⟨g, 1, none⟩ _ rfl fo64_1 rfl) ?_
 refine wa_tk 13 rfl rfl rfl (st_selT [true, true, true] h) (fun w_ hS => ov_loadb 0 _ hS rfl rfl sh52 rfl) ?_
 refine wa_tk 14 rfl rfl rfl (st_selT [true, true, true] h) (fun w_ hS => ov_len _ _ _ _ _ rfl es52) ?_
 refine wa_tk 15 rfl rfl rfl (st_selT [true, true, true] h) (fun w_ hS => ov_bin _ rfl rfl (binR_sub (r := (((A.length : Nat) : Int)) - (((B.length : Nat) : Int))) (Sx.w64 (by omega)))) ?_
 refine wa_tk 16 rfl rfl rfl (st_selT [true, true, true] h) (fun w_ hS => ov_assign _ rfl) ?_
 refine wa_tk 17 rfl rfl rfl (st_selT [true, true, true] h) (fun w_ hS => ov_assign _ rfl) ?_
 refine wa_done (by kernel_rfl) ?_
 refine qn_then ?_
 refine wc_seq ?_
 refine wc_block ?_
 replace h := st_nilrow (Kd.pair (Kd.int .i64) (Kd.int .i64)) 69 h
 replace h := st_front 3 h
 replace h := st_front 3 h
 replace h := st_front 3 h
 refine wc_loop (fun (x_ : Nat × Int × Int × (Option Addr) × Nat × (List (Int × Int))) => [(0, .pointer (some ⟨g, 0, none⟩)), (1, .int .i64 (((x_.1 : Nat) : Int))), (5, .slice (x_.2.2.2.1) ((x_.2.2.2.2.2).length) (x_.2.2.2.2.1)), (6, .int .i64 (x_.2.1)), (7, .int .i64 (x_.2.2.1))]) (fun (x_ : Nat × Int × Int × (Option Addr) × Nat × (List (Int × Int))) (w : World) => (KInv A B x_.1 x_.2.1 x_.2.2.1 ∧ x_.1 ≤ D ∧ x_.2.2.2.2.2 ++ keptB F x_.1 x_.2.1 x_.2.2.1 = (keptB F D (A.length : Int) ((A.length : Int) - (B.length : Int))) ∧ ((x_.2.2.2.2.2).length : Int) + x_.2.1 ≤ A.length) ∧ Sx.St w0 F0 ([Sx.blk g [.slice (Aa) (A.length) (ca), .slice (Ab) (B.length) (cb), .slice (Af) (Fs.length) (cf)] 64, Sx.row Far.kF 49 (Af) (cf) (Fs), Far.lib (Far.AllF Fs), Sx.row (Kd.pair (Kd.int .i64) (Kd.int .i64)) 69 (x_.2.2.2.1) (x_.2.2.2.2.1) (x_.2.2.2.2.2)] ++ R) w) (fun (x_ : Nat × Int × Int × (Option Addr) × Nat × (List (Int × Int))) => x_.1) (D, (A.length : Int), ((A.length : Int) - (B.length : Int)), none, 0, []) ?_ ?_ ?_
 · exact ⟨rfl, rfl, (congrArg (fun z_ => some (Value.slice (none) z_ (0))) (show (0 : Nat) = ([]).length by first | rfl | simp)), (congrArg (fun z_ => some (Value.int .i64 z_)) (show (((A.length : Nat) : Int) : Int) = (A.length : Int) by omega)), (congrArg (fun z_ => some (Value.int .i64 z_)) (show ((((A.length : Nat) : Int)) - (((B.length : Nat) : Int)) : Int) = ((A.length : Int) - (B.length : Int)) by omega)), trivial⟩
 · exact ⟨⟨kinv_top (by omega) hfd, Nat.le_refl _, rfl, by show ((0 : Nat) : Int) + (A.length : Int) ≤ A.length; omega⟩, h⟩
 rintro ⟨d, x, k, Ao, co, L⟩ w h
 obtain ⟨hJ, h⟩ := h
 replace hJ : KInv A B d x k ∧ d ≤ D ∧ L ++ keptB F d x k = (keptB F D (A.length : Int) ((A.length : Int) - (B.length : Int))) ∧ ((L).length : Int) + x ≤ A.length := hJ
 replace h : Sx.St w0 F0 ([Sx.blk g [.slice (Aa) (A.length) (ca), .slice (Ab) (B.length) (cb), .slice (Af) (Fs.length) (cf)] 64, Sx.row Far.kF 49 (Af) (cf) (Fs), Far.lib (Far.AllF Fs), Sx.row (Kd.pair (Kd.int .i64) (Kd.int .i64)) 69 (Ao) (co) (L)] ++ R) w := h
 show Sx.WC _ _ _ _ [(0, .pointer (some ⟨g, 0, none⟩)), (1, .int .i64 (((d : Nat) : Int))), (5, .slice (Ao) ((L).length) (co)), (6, .int .i64 (x)), (7, .int .i64 (k))] _
 have hJo := hJ
 have hk1_ := hJ.1.lo
 have hk2_ := hJ.1.hi
 have hk3_ := hJ.1.par
 have hk4_ := kinv_at hFD hD hJ.2.1 hJ.1
 have hFl_ : Fs.length = D + 1 := by rw [← List.length_map (·.1), hFF, hFD, List.length_append, far_len]; rfl
 refine wc_seq ?_
 refine wc_seq ?_
 refine wc_region ?_
 refine wl_v rfl rfl (ov_move _ rfl) ?_
 refine wl_v rfl rfl (ov_bin _ rfl rfl (binR_geq)) ?_
 refine wl_nil ?_
 refine qn_then ?_
 refine wc_cond (by rfl) (fun c1 => ?_) (fun c1 => ?_)
 ·
  refine wc_skip ?_
  refine qn_then ?_
  refine wc_seq ?_
  refine wc_block ?_
  refine wc_seq ?_
  refine wc_region ?_
  refine wl_v rfl rfl (ov_move _ rfl) ?_
  refine wl_v rfl rfl (ov_move _ rfl) ?_
  refine wl_v rfl rfl (ov_move _ rfl) ?_
  replace h := st_front 2 h
  replace h := st_front 2 h
  replace h := st_front 2 h
  refine wl_call _ rfl rfl rfl ent44 (start_calls (R := [Sx.row (Kd.pair (Kd.int .i64) (Kd.int .i64)) 69 (Ao) (co) (L)] ++ R) g A (Aa) ca B (Ab) cb (Af) (cf) (Fs) F (((d : Nat) : Int)) (k) hv hla hlb hCa hCb hA1 hB1 (by omega) (by omega) (by omega) (by omega) (by omega) (by omega) (fun i hi => far_okp hFD hD i (by omega)) hFF h) ?_
  rintro e_ w_ ⟨rfl, h⟩
  refine ⟨_, rfl, ?_⟩
  refine wl_v rfl rfl (ov_assign _ rfl) ?_
  refine wl_nil ?_
  refine qn_then ?_
  refine wc_seq ?_
  refine wc_block ?_
  replace h := st_front 3 h
  replace h := st_front 3 h
  replace h := st_front 3 h
  replace h := st_front 3 h
  refine wc_loop (fun (x_ : Nat × (Option Addr) × Nat × (List (Int × Int))) => [(0, .pointer (some ⟨g, 0, none⟩)), (1, .int .i64 (((d : Nat) : Int))), (5, .slice (x_.2.1) ((x_.2.2.2).length) (x_.2.2.1)), (6, .int .i64 (((startV F (d : Int) k) + ((x_.1 : Nat) : Int)))), (7, .int .i64 (k)), (8, .int .i64 ((startV F (d : Int) k)))]) (fun (x_ : Nat × (Option Addr) × Nat × (List (Int × Int))) (w : World) => (x_.2.2.2 ++ (dnV k (startV F (d : Int) k) x_.1 ++ restV F d k) = (keptB F D (A.length : Int) ((A.length : Int) - (B.length : Int))) ∧ ((x_.2.2.2).length : Int) + ((startV F (d : Int) k) + ((x_.1 : Nat) : Int)) ≤ A.length) ∧ Sx.St w0 F0 ([Sx.blk g [.slice (Aa) (A.length) (ca), .slice (Ab) (B.length) (cb), .slice (Af) (Fs.length) (cf)] 64, Sx.row Far.kF 49 (Af) (cf) (Fs), Far.lib (Far.AllF Fs), Sx.row (Kd.pair (Kd.int .i64) (Kd.int .i64)) 69 (x_.2.1) (x_.2.2.1) (x_.2.2.2)] ++ R) w) (fun (x_ : Nat × (Option Addr) × Nat × (List (Int × Int))) => x_.1) ((x - (startV F (d : Int) k)).toNat, Ao, co, L) ?_ ?_ ?_
  · exact ⟨rfl, rfl, rfl, (congrArg (fun z_ => some (Value.int .i64 z_)) (show (x : Int) = ((startV F (d : Int) k) + (((x - (startV F (d : Int) k)).toNat : Nat) : Int)) by omega)), rfl, (congrArg (fun z_ => some (Value.int .i64 z_)) (show (startV F (((d : Nat) : Int)) (k) : Int) = (startV F (d : Int) k) by omega)), trivial⟩
  · exact ⟨⟨by rw [← keptB_eq]; exact hJo.2.2.1, by show ((L.length : Nat) : Int) + ((startV F (d : Int) k) + (((x - (startV F (d : Int) k)).toNat : Nat) : Int)) ≤ A.length; omega⟩, h⟩
  rintro ⟨n, Ao, co, L⟩ w h
  obtain ⟨hJ, h⟩ := h
  replace hJ : L ++ (dnV k (startV F (d : Int) k) n ++ restV F d k) = (keptB F D (A.length : Int) ((A.length : Int) - (B.length : Int))) ∧ ((L).length : Int) + ((startV F (d : Int) k) + ((n : Nat) : Int)) ≤ A.length := hJ
  replace h : Sx.St w0 F0 ([Sx.blk g [.slice (Aa) (A.length) (ca), .slice (Ab) (B.length) (cb), .slice (Af) (Fs.length) (cf)] 64, Sx.row Far.kF 49 (Af) (cf) (Fs), Far.lib (Far.AllF Fs), Sx.row (Kd.pair (Kd.int .i64) (Kd.int .i64)) 69 (Ao) (co) (L)] ++ R) w := h
  show Sx.WC _ _ _ _ [(0, .pointer (some ⟨g, 0, none⟩)), (1, .int .i64 (((d : Nat) : Int))), (5, .slice (Ao) ((L).length) (co)), (6, .int .i64 (((startV F (d : Int) k) + ((n : Nat) : Int)))), (7, .int .i64 (k)), (8, .int .i64 ((startV F (d : Int) k)))] _
  refine wc_seq ?_
  refine wc_seq ?_
  refine wc_region ?_
  refine wl_v rfl rfl (ov_move _ rfl) ?_
  refine wl_v rfl rfl (ov_move _ rfl) ?_
  refine wl_v rfl rfl (ov_bin _ rfl rfl (binR_gtr)) ?_
  refine wl_nil ?_
  refine qn_then ?_
  refine wc_cond (by rfl) (fun c2 => ?_) (fun c2 => ?_)
  ·
   refine wc_skip ?_
   refine qn_then ?_
   refine wc_block ?_
   refine wc_seq ?_
   refine wc_region ?_
   refine wl_v rfl rfl (ov_move _ rfl) ?_
   refine wl_v rfl rfl (ov_bin _ rfl rfl (binR_sub (r := (((startV F (d : Int) k) + ((n : Nat) : Int))) - 1) (Sx.w64 (by omega)))) ?_
   refine wl_v rfl rfl (ov_assign _ rfl) ?_
   refine wl_nil ?_
   refine qn_then ?_
   refine wc_region ?_
   refine wl_v rfl rfl (ov_move _ rfl) ?_
   refine wl_v rfl rfl (ov_move _ rfl) ?_
   refine wl_v rfl rfl (ov_move _ rfl) ?_
   refine wl_v rfl rfl (ov_move _ rfl) ?_
   refine wl_v rfl rfl (ov_bin _ rfl rfl (binR_sub (r := ((((startV F (d : Int) k) + ((n : Nat) : Int))) - 1) - k) (Sx.w64 (by omega)))) ?_
   refine wl_v rfl rfl (ov_build [(0, .int .i64 ((((startV F (d : Int) k) + ((n : Nat) : Int))) - 1)), (1, .int .i64 (((((startV F (d : Int) k) + ((n : Nat) : Int))) - 1) - k))] [.int .i64 ((((startV F (d : Int) k) + ((n : Nat) : Int))) - 1), .int .i64 (((((startV F (d : Int) k) + ((n : Nat) : Int))) - 1) - k)] rfl rfl (by kernel_rfl)) ?_
   refine wl_lit (d := (Kd.pair (Kd.int .i64) (Kd.int .i64))) [(0, .agg #[.int .i64 ((((startV F (d : Int) k) + ((n : Nat) : Int))) - 1), .int .i64 (((((startV F (d : Int) k) + ((n : Nat) : Int))) - 1) - k)])] _ [.int .i64 ((((startV F (d : Int) k) + ((n : Nat) : Int))) - 1), .int .i64 (((((startV F (d : Int) k) + ((n : Nat) : Int))) - 1) - k)] ([(((((startV F (d : Int) k) + ((n : Nat) : Int))) - 1, ((((startV F (d : Int) k) + ((n : Nat) : Int))) - 1) - k) : Int × Int)]) h rfl rfl rfl rfl Try.underlying65 infb69 rfl (by decide) (by kernel_rfl) rfl (fun _ _ _ => ((Reps.none _ _).snoc ((fun p_ => (⟨[.int .i64 p_.1], [.int .i64 p_.2], rfl, rfl, rfl⟩ : (Kd.pair (Kd.int .i64) (Kd.int .i64)).M _ _ _ p_ [.int .i64 p_.1, .int .i64 p_.2])) ((((((startV F (d : Int) k) + ((n : Nat) : Int))) - 1, ((((startV F (d : Int) k) + ((n : Nat) : Int))) - 1) - k) : Int × Int))) rfl)) (fun A3 cp4 _ h => ?_)
   refine wl_append (d := (Kd.pair (Kd.int .i64) (Kd.int .i64))) (L := L) 4 _ 16 _ _ _ ([(((((startV F (d : Int) k) + ((n : Nat) : Int))) - 1, ((((startV F (d : Int) k) + ((n : Nat) : Int))) - 1) - k) : Int × Int)]) (Sx.flat_pair (Sx.flat_int _) (Sx.flat_int _)) h rfl rfl rfl rfl rfl ((Sx.row_reads h (i := 0) rfl).2) Try.underlying65 inf69 rfl (by decide) (by decide) (by first | omega | (simp only [List.length_cons, List.length_nil, List.length_append]; omega)) (by first | rfl | simp) (fun A5 cp6 _ h => ?_)
   replace h := st_selT [false, true, true, true, true] h
   refine wl_v rfl rfl (ov_assign _ rfl) ?_
   refine wl_nil ?_
   refine qn_block_normal ?_
   replace h := st_front 3 h
   replace h := st_front 3 h
   replace h := st_front 3 h
   replace h := st_front 3 h
   have hn_ : n = (n - 1) + 1 := by omega
   have hj_ := hJ.1
   rw [hn_] at hj_
   simp only [dnV] at hj_
   have hxe_ : (startV F (d : Int) k) + ((n : Nat) : Int) - 1 = (startV F (d : Int) k) + ((n - 1 : Nat) : Int) := by omega
   refine qn_next ((n - 1), A5, cp6, (L ++ ([(((((startV F (d : Int) k) + ((n : Nat) : Int))) - 1, ((((startV F (d : Int) k) + ((n : Nat) : Int))) - 1) - k) : Int × Int)]))) (by show (n - 1) < n; omega) ⟨rfl, rfl, (congrArg (fun z_ => some (Value.slice (A5) z_ (cp6))) (show ((L ++ ([(((((startV F (d : Int) k) + ((n : Nat) : Int))) - 1, ((((startV F (d : Int) k) + ((n : Nat) : Int))) - 1) - k) : Int × Int)])).length : Nat) = ((L ++ ([(((((startV F (d : Int) k) + ((n : Nat) : Int))) - 1, ((((startV F (d : Int) k) + ((n : Nat) : Int))) - 1) - k) : Int × Int)]))).length by first | rfl | simp)), (congrArg (fun z_ => some (Value.int .i64 z_)) (show ((((startV F (d : Int) k) + ((n : Nat) : Int))) - 1 : Int) = ((startV F (d : Int) k) + (((n - 1) : Nat) : Int)) by omega)), rfl, rfl, trivial⟩ ?_
   show ((L ++ ([(((((startV F (d : Int) k) + ((n : Nat) : Int))) - 1, ((((startV F (d : Int) k) + ((n : Nat) : Int))) - 1) - k) : Int × Int)])) ++ (dnV k (startV F (d : Int) k) (n - 1) ++ restV F d k) = (keptB F D (A.length : Int) ((A.length : Int) - (B.length : Int))) ∧ (((L ++ ([(((((startV F (d : Int) k) + ((n : Nat) : Int))) - 1, ((((startV F (d : Int) k) + ((n : Nat) : Int))) - 1) - k) : Int × Int)]))).length : Int) + ((startV F (d : Int) k) + (((n - 1) : Nat) : Int)) ≤ A.length) ∧ _
   exact ⟨⟨by rw [hxe_, List.append_assoc]; exact hj_, by simp only [List.length_append, List.length_cons, List.length_nil]; omega⟩, h⟩
  ·
   refine wc_exit ?_
   refine qn_then_exit ?_
   refine qn_then_exit ?_
   refine qn_block_exit ?_
   refine qn_then ?_
   refine wc_seq ?_
   refine wc_seq ?_
   refine wc_region ?_
   refine wl_v rfl rfl (ov_move _ rfl) ?_
   refine wl_v rfl rfl (ov_bin _ rfl rfl (binR_eql)) ?_
   refine wl_nil ?_
   refine qn_then ?_
   refine wc_cond (by rfl) (fun c7 => ?_) (fun c7 => ?_)
   ·
    refine wc_exit ?_
    refine qn_then_exit ?_
    refine qn_block_other (by decide) ?_
    refine qn_then_exit ?_
    refine qn_then_exit ?_
    refine qn_block_exit ?_
    refine qn_then ?_
    refine wc_seq ?_
    refine wc_seq ?_
    refine wc_region ?_
    refine wl_v rfl rfl (ov_move _ rfl) ?_
    refine wl_v rfl rfl (ov_len _ _ _ _ _ rfl es65) ?_
    refine wl_v rfl rfl (ov_bin _ rfl rfl (binR_sub (r := ((((L).length : Nat) : Int)) - 1) (Sx.w64 (by omega)))) ?_
    refine wl_v rfl rfl (ov_assign _ rfl) ?_
    refine wl_v rfl rfl (ov_assign _ rfl) ?_
    refine wl_nil ?_
    refine qn_then ?_
    refine wc_block ?_
    have hLT_ : L = (keptB F D (A.length : Int) ((A.length : Int) - (B.length : Int))) := by
      have hn0_ : n = 0 := by omega
      have hd0_ : d = 0 := by omega
      have hj_ := hJ.1
      rw [hn0_, hd0_] at hj_
      simpa only [dnV, restV, List.nil_append, List.append_nil] using hj_
    have hLl_ : ((keptB F D (A.length : Int) ((A.length : Int) - (B.length : Int)))).length = L.length := by rw [hLT_]
    have e_ : L = (revP ((0, 0) : Int × Int) (keptB F D (A.length : Int) ((A.length : Int) - (B.length : Int))) 0) := by rw [hLT_, revP_zero]
    replace h := st_cast (congrArg (fun z_ => ([Sx.blk g [.slice (Aa) (A.length) (ca), .slice (Ab) (B.length) (cb), .slice (Af) (Fs.length) (cf)] 64, Sx.row Far.kF 49 (Af) (cf) (Fs), Far.lib (Far.AllF Fs), Sx.row (Kd.pair (Kd.int .i64) (Kd.int .i64)) 69 (Ao) (co) (z_)] ++ R)) e_) h
    clear e_
    replace h := st_front 3 h
    replace h := st_front 3 h
    replace h := st_front 3 h
    replace h := st_front 3 h
    refine wc_loop (fun (x_ : Nat × (Option Addr)) => [(5, .slice (x_.2) (((revP ((0, 0) : Int × Int) (keptB F D (A.length : Int) ((A.length : Int) - (B.length : Int))) x_.1)).length) (co)), (12, .int .i64 ((x_.1 : Int))), (13, .int .i64 ((((((keptB F D (A.length : Int) ((A.length : Int) - (B.length : Int)))).length : Nat) : Int) - 1 - ((x_.1 : Nat) : Int))))]) (fun (x_ : Nat × (Option Addr)) (w : World) => (x_.1 ≤ ((keptB F D (A.length : Int) ((A.length : Int) - (B.length : Int)))).length) ∧ Sx.St w0 F0 ([Sx.blk g [.slice (Aa) (A.length) (ca), .slice (Ab) (B.length) (cb), .slice (Af) (Fs.length) (cf)] 64, Sx.row Far.kF 49 (Af) (cf) (Fs), Far.lib (Far.AllF Fs), Sx.row (Kd.pair (Kd.int .i64) (Kd.int .i64)) 69 (x_.2) (co) ((revP ((0, 0) : Int × Int) (keptB F D (A.length : Int) ((A.length : Int) - (B.length : Int))) x_.1))] ++ R) w) (fun (x_ : Nat × (Option Addr)) => ((keptB F D (A.length : Int) ((A.length : Int) - (B.length : Int)))).length - x_.1) (0, Ao) ?_ ?_ ?_
    · exact ⟨(congrArg (fun z_ => some (Value.slice (Ao) z_ (co))) (by rw [revP_len, hLl_])), (congrArg (fun z_ => some (Value.int .i64 z_)) (show (0 : Int) = (0 : Int) by omega)), (congrArg (fun z_ => some (Value.int .i64 z_)) (show (((((L).length : Nat) : Int)) - 1 : Int) = (((((keptB F D (A.length : Int) ((A.length : Int) - (B.length : Int)))).length : Nat) : Int) - 1 - ((0 : Nat) : Int)) by omega)), trivial⟩
    · exact ⟨Nat.zero_le _, h⟩
    rintro ⟨i, Ao⟩ w h
    obtain ⟨hJ, h⟩ := h
    replace hJ : i ≤ ((keptB F D (A.length : Int) ((A.length : Int) - (B.length : Int)))).length := hJ
    replace h : Sx.St w0 F0 ([Sx.blk g [.slice (Aa) (A.length) (ca), .slice (Ab) (B.length) (cb), .slice (Af) (Fs.length) (cf)] 64, Sx.row Far.kF 49 (Af) (cf) (Fs), Far.lib (Far.AllF Fs), Sx.row (Kd.pair (Kd.int .i64) (Kd.int .i64)) 69 (Ao) (co) ((revP ((0, 0) : Int × Int) (keptB F D (A.length : Int) ((A.length : Int) - (B.length : Int))) i))] ++ R) w := h
    show Sx.WC _ _ _ _ [(5, .slice (Ao) (((revP ((0, 0) : Int × Int) (keptB F D (A.length : Int) ((A.length : Int) - (B.length : Int))) i)).length) (co)), (12, .int .i64 ((i : Int))), (13, .int .i64 ((((((keptB F D (A.length : Int) ((A.length : Int) - (B.length : Int)))).length : Nat) : Int) - 1 - ((i : Nat) : Int))))] _
    have hrl_ : ((revP ((0, 0) : Int × Int) (keptB F D (A.length : Int) ((A.length : Int) - (B.length : Int))) i)).length = ((keptB F D (A.length : Int) ((A.length : Int) - (B.length : Int)))).length := revP_len ..
    refine wc_seq ?_
    refine wc_seq ?_
    refine wc_region ?_
    refine wl_v rfl rfl (ov_move _ rfl) ?_
    refine wl_v rfl rfl (ov_move _ rfl) ?_
    refine wl_v rfl rfl (ov_bin _ rfl rfl (binR_lss)) ?_
    refine wl_nil ?_
    refine qn_then ?_
    refine wc_cond (by rfl) (fun c8 => ?_) (fun c8 => ?_)
    ·
     refine wc_skip ?_
     refine qn_then ?_
     refine wc_seq ?_
     refine wc_block ?_
     obtain ⟨ad9, rfl⟩ := Sx.C_some ((Sx.row_reads h (i := 3) rfl).2) (k := i) (by first | assumption | omega)
     refine wc_draw (fun w => Sx.St w0 F0 ([Sx.blk g [.slice (Aa) (A.length) (ca), .slice (Ab) (B.length) (cb), .slice (Af) (Fs.length) (cf)] 64, Sx.row Far.kF 49 (Af) (cf) (Fs), Far.lib (Far.AllF Fs)] ++ R) w) (by kernel_rfl) ?_
     replace h := st_drew h
     refine wa_tk 0 rfl rfl rfl (st_selT [true, true, true, false] h) (fun w_ hS => ov_move _ rfl) ?_
     refine wa_tk 1 rfl rfl rfl (st_selT [true, true, true, false] h) (fun w_ hS => ov_move _ rfl) ?_
     refine wa_tk 2 rfl rfl rfl (st_selT [true, true, true, false] h) (fun w_ hS => ov_move _ rfl) ?_
     refine wa_tk 3 rfl rfl rfl (st_selT [true, true, true, false] h) (fun w_ hS => ov_move _ rfl) ?_
     refine wa_tk 4 rfl rfl rfl (st_selT [true, true, true, false] h) (fun w_ hS => ov_move _ rfl) ?_
     refine wa_tk 5 rfl rfl rfl (st_selT [true, true, true, false] h) (fun w_ hS => ov_move _ rfl) ?_
     refine wa_tk 6 rfl rfl rfl (st_selT [true, true, true, false] h) (fun w_ hS => ov_indexAddrN _ _ _ _ _ ((((((keptB F D (A.length : Int) ((A.length : Int) - (B.length : Int)))).length : Nat) : Int) - 1 - ((i : Nat) : Int)) : Int).toNat rfl rfl es65 (by omega) (by first | assumption | omega | (simp only [List.length_take, List.length_drop, List.length_set]; omega))) ?_
     refine wa_tk 8 rfl rfl rfl (st_selT [true, true, true, false] h) (fun w_ hS => ov_move _ rfl) ?_
     refine wa_tk 9 rfl rfl rfl (st_selT [true, true, true, false] h) (fun w_ hS => ov_move _ rfl) ?_
     refine wa_tk 10 rfl rfl rfl (st_selT [true, true, true, false] h) (fun w_ hS => ov_indexAddrN _ _ _ _ _ i rfl rfl es65 rfl (by first | assumption | omega | (simp only [List.length_take, List.length_drop, List.length_set]; omega))) ?_
     refine wa_two 7 11 rfl rfl (by kernel_rfl) ?_ ?_
     ·
      obtain ⟨cl27, _, hk26, hc25⟩ := Sx.C_cells ((Sx.row_reads h (i := 3) rfl).2) (z := ((0, 0) : Int × Int)) (k := ((((((keptB F D (A.length : Int) ((A.length : Int) - (B.length : Int)))).length : Nat) : Int) - 1 - ((i : Nat) : Int)) : Int).toNat) (by first | assumption | omega)
      obtain ⟨_, _, rfl, rfl, rfl⟩ := hk26
      refine wl_v rfl rfl (ov_loadN _ [.int .i64 ((((revP ((0, 0) : Int × Int) (keptB F D (A.length : Int) ((A.length : Int) - (B.length : Int))) i)).getD ((((((keptB F D (A.length : Int) ((A.length : Int) - (B.length : Int)))).length : Nat) : Int) - 1 - ((i : Nat) : Int)) : Int).toNat ((0, 0) : Int × Int)).1), .int .i64 ((((revP ((0, 0) : Int × Int) (keptB F D (A.length : Int) ((A.length : Int) - (B.length : Int))) i)).getD ((((((keptB F D (A.length : Int) ((A.length : Int) - (B.length : Int)))).length : Nat) : Int) - 1 - ((i : Nat) : Int)) : Int).toNat ((0, 0) : Int × Int)).2)] rfl sh69 (by intro j u hu; rw [Deep.add_add]; exact (hc25 _ _ hu))) ?_
      refine wl_nil ?_
      refine qn_wa (st_selT [true, true, true, false] h) ?_
      refine wa_one 11 rfl (by kernel_rfl) ?_
      obtain ⟨cl33, _, hk32, hc31⟩ := Sx.C_cells ((Sx.row_reads h (i := 3) rfl).2) (z := ((0, 0) : Int × Int)) (k := i) (by first | assumption | omega)
      obtain ⟨_, _, rfl, rfl, rfl⟩ := hk32
      refine wl_v rfl rfl (ov_loadN _ [.int .i64 ((((revP ((0, 0) : Int × Int) (keptB F D (A.length : Int) ((A.length : Int) - (B.length : Int))) i)).getD i ((0, 0) : Int × Int)).1), .int .i64 ((((revP ((0, 0) : Int × Int) (keptB F D (A.length : Int) ((A.length : Int) - (B.length : Int))) i)).getD i ((0, 0) : Int × Int)).2)] rfl sh69 (by intro j u hu; rw [Deep.add_add]; exact (hc31 _ _ hu))) ?_
      refine wl_nil ?_
      refine qn_wa (st_selT [true, true, true, false] h) ?_
      refine wa_tk 12 rfl rfl rfl (st_selT [true, true, true, false] h) (fun w_ hS => ov_indexAddrN _ _ _ _ _ i rfl rfl es65 rfl (by first | assumption | omega | (simp only [List.length_take, List.length_drop, List.length_set]; omega))) ?_
      refine wa_one 13 rfl (by kernel_rfl) ?_
      refine wl_storeeN 3 i 0 (.agg #[.int .i64 ((((revP ((0, 0) : Int × Int) (keptB F D (A.length : Int) ((A.length : Int) - (B.length : Int))) i)).getD ((((((keptB F D (A.length : Int) ((A.length : Int) - (B.length : Int)))).length : Nat) : Int) - 1 - ((i : Nat) : Int)) : Int).toNat ((0, 0) : Int × Int)).1), .int .i64 ((((revP ((0, 0) : Int × Int) (keptB F D (A.length : Int) ((A.length : Int) - (B.length : Int))) i)).getD ((((((keptB F D (A.length : Int) ((A.length : Int) - (B.length : Int)))).length : Nat) : Int) - 1 - ((i : Nat) : Int)) : Int).toNat ((0, 0) : Int × Int)).2)]) [.int .i64 ((((revP ((0, 0) : Int × Int) (keptB F D (A.length : Int) ((A.length : Int) - (B.length : Int))) i)).getD ((((((keptB F D (A.length : Int) ((A.length : Int) - (B.length : Int)))).length : Nat) : Int) - 1 - ((i : Nat) : Int)) : Int).toNat ((0, 0) : Int × Int)).1), .int .i64 ((((revP ((0, 0) : Int × Int) (keptB F D (A.length : Int) ((A.length : Int) - (B.length : Int))) i)).getD ((((((keptB F D (A.length : Int) ((A.length : Int) - (B.length : Int)))).length : Nat) : Int) - 1 - ((i : Nat) : Int)) : Int).toNat ((0, 0) : Int × Int)).2)] ((0, 0) : Int × Int) ((((((revP ((0, 0) : Int × Int) (keptB F D (A.length : Int) ((A.length : Int) - (B.length : Int))) i)).getD ((((((keptB F D (A.length : Int) ((A.length : Int) - (B.length : Int)))).length : Nat) : Int) - 1 - ((i : Nat) : Int)) : Int).toNat ((0, 0) : Int × Int)).1, (((revP ((0, 0) : Int × Int) (keptB F D (A.length : Int) ((A.length : Int) - (B.length : Int))) i)).getD ((((((keptB F D (A.length : Int) ((A.length : Int) - (B.length : Int)))).length : Nat) : Int) - 1 - ((i : Nat) : Int)) : Int).toNat ((0, 0) : Int × Int)).2) : Int × Int)) h rfl rfl rfl (by first | rfl | simp) rfl rfl (by simp [Value.oneCell']) szf69 (by first | assumption | omega | (simp only [List.length_set]; omega)) (Nat.le_of_ble_eq_true rfl) (by intro cl hcl hM; obtain ⟨_, _, _, hM⟩ := hM; obtain ⟨_, _, rfl, rfl, rfl⟩ := hM; intro _ _ _; exact (fun p_ => (⟨[.int .i64 p_.1], [.int .i64 p_.2], rfl, rfl, rfl⟩ : (Kd.pair (Kd.int .i64) (Kd.int .i64)).M _ _ _ p_ [.int .i64 p_.1, .int .i64 p_.2])) ((((((revP ((0, 0) : Int × Int) (keptB F D (A.length : Int) ((A.length : Int) - (B.length : Int))) i)).getD ((((((keptB F D (A.length : Int) ((A.length : Int) - (B.length : Int)))).length : Nat) : Int) - 1 - ((i : Nat) : Int)) : Int).toNat ((0, 0) : Int × Int)).1, (((revP ((0, 0) : Int × Int) (keptB F D (A.length : Int) ((A.length : Int) - (B.length : Int))) i)).getD ((((((keptB F D (A.length : Int) ((A.length : Int) - (B.length : Int)))).length : Nat) : Int) - 1 - ((i : Nat) : Int)) : Int).toNat ((0, 0) : Int × Int)).2) : Int × Int))) (fun _ h => ?_)
      refine wl_nil ?_
      refine qn_wa (st_selT [true, true, true, false] h) ?_
      refine wa_tk 14 rfl rfl rfl (st_selT [true, true, true, false] h) (fun w_ hS => ov_indexAddrN _ _ _ _ _ ((((((keptB F D (A.length : Int) ((A.length : Int) - (B.length : Int)))).length : Nat) : Int) - 1 - ((i : Nat) : Int)) : Int).toNat rfl rfl es65 (by omega) (by first | assumption | omega | (simp only [List.length_take, List.length_drop, List.length_set]; omega))) ?_
      refine wa_one 15 rfl (by kernel_rfl) ?_
      refine wl_storeeN 3 ((((((keptB F D (A.length : Int) ((A.length : Int) - (B.length : Int)))).length : Nat) : Int) - 1 - ((i : Nat) : Int)) : Int).toNat 0 (.agg #[.int .i64 ((((revP ((0, 0) : Int × Int) (keptB F D (A.length : Int) ((A.length : Int) - (B.length : Int))) i)).getD i ((0, 0) : Int × Int)).1), .int .i64 ((((revP ((0, 0) : Int × Int) (keptB F D (A.length : Int) ((A.length : Int) - (B.length : Int))) i)).getD i ((0, 0) : Int × Int)).2)]) [.int .i64 ((((revP ((0, 0) : Int × Int) (keptB F D (A.length : Int) ((A.length : Int) - (B.length : Int))) i)).getD i ((0, 0) : Int × Int)).1), .int .i64 ((((revP ((0, 0) : Int × Int) (keptB F D (A.length : Int) ((A.length : Int) - (B.length : Int))) i)).getD i ((0, 0) : Int × Int)).2)] ((0, 0) : Int × Int) ((((((revP ((0, 0) : Int × Int) (keptB F D (A.length : Int) ((A.length : Int) - (B.length : Int))) i)).getD i ((0, 0) : Int × Int)).1, (((revP ((0, 0) : Int × Int) (keptB F D (A.length : Int) ((A.length : Int) - (B.length : Int))) i)).getD i ((0, 0) : Int × Int)).2) : Int × Int)) h rfl rfl rfl (by first | rfl | simp) rfl rfl (by simp [Value.oneCell']) szf69 (by first | assumption | omega | (simp only [List.length_set]; omega)) (Nat.le_of_ble_eq_true rfl) (by intro cl hcl hM; obtain ⟨_, _, _, hM⟩ := hM; obtain ⟨_, _, rfl, rfl, rfl⟩ := hM; intro _ _ _; exact (fun p_ => (⟨[.int .i64 p_.1], [.int .i64 p_.2], rfl, rfl, rfl⟩ : (Kd.pair (Kd.int .i64) (Kd.int .i64)).M _ _ _ p_ [.int .i64 p_.1, .int .i64 p_.2])) ((((((revP ((0, 0) : Int × Int) (keptB F D (A.length : Int) ((A.length : Int) - (B.length : Int))) i)).getD i ((0, 0) : Int × Int)).1, (((revP ((0, 0) : Int × Int) (keptB F D (A.length : Int) ((A.length : Int) - (B.length : Int))) i)).getD i ((0, 0) : Int × Int)).2) : Int × Int))) (fun _ h => ?_)
      refine wl_nil ?_
      refine qn_wa (st_selT [true, true, true, false] h) ?_
      refine wa_done (by kernel_rfl) ?_
      refine qn_block_normal ?_
      refine qn_then ?_
      refine wc_region ?_
      refine wl_v rfl rfl (ov_move _ rfl) ?_
      refine wl_v rfl rfl (ov_bin _ rfl rfl (binR_add (r := ((i : Int)) + 1) (Sx.w64 (by omega)))) ?_
      refine wl_v rfl rfl (ov_move _ rfl) ?_
      refine wl_v rfl rfl (ov_bin _ rfl rfl (binR_sub (r := ((((((keptB F D (A.length : Int) ((A.length : Int) - (B.length : Int)))).length : Nat) : Int) - 1 - ((i : Nat) : Int))) - 1) (Sx.w64 (by omega)))) ?_
      refine wl_v rfl rfl (ov_assign _ rfl) ?_
      refine wl_v rfl rfl (ov_assign _ rfl) ?_
      refine wl_nil ?_
      have e_ : (((revP ((0, 0) : Int × Int) (keptB F D (A.length : Int) ((A.length : Int) - (B.length : Int))) i)).set i ((((((revP ((0, 0) : Int × Int) (keptB F D (A.length : Int) ((A.length : Int) - (B.length : Int))) i)).getD ((((((keptB F D (A.length : Int) ((A.length : Int) - (B.length : Int)))).length : Nat) : Int) - 1 - ((i : Nat) : Int)) : Int).toNat ((0, 0) : Int × Int)).1, (((revP ((0, 0) : Int × Int) (keptB F D (A.length : Int) ((A.length : Int) - (B.length : Int))) i)).getD ((((((keptB F D (A.length : Int) ((A.length : Int) - (B.length : Int)))).length : Nat) : Int) - 1 - ((i : Nat) : Int)) : Int).toNat ((0, 0) : Int × Int)).2) : Int × Int))).set ((((((keptB F D (A.length : Int) ((A.length : Int) - (B.length : Int)))).length : Nat) : Int) - 1 - ((i : Nat) : Int)) : Int).toNat ((((((revP ((0, 0) : Int × Int) (keptB F D (A.length : Int) ((A.length : Int) - (B.length : Int))) i)).getD i ((0, 0) : Int × Int)).1, (((revP ((0, 0) : Int × Int) (keptB F D (A.length : Int) ((A.length : Int) - (B.length : Int))) i)).getD i ((0, 0) : Int × Int)).2) : Int × Int)) = (revP ((0, 0) : Int × Int) (keptB F D (A.length : Int) ((A.length : Int) - (B.length : Int))) (i + 1)) := by exact revP_step ((0, 0) : Int × Int) (keptB F D (A.length : Int) ((A.length : Int) - (B.length : Int))) i (((((keptB F D (A.length : Int) ((A.length : Int) - (B.length : Int)))).length : Nat) : Int) - 1 - (i : Int)).toNat (by omega) (by omega)
      replace h := st_cast (congrArg (fun z_ => ([Sx.blk g [.slice (Aa) (A.length) (ca), .slice (Ab) (B.length) (cb), .slice (Af) (Fs.length) (cf)] 64, Sx.row Far.kF 49 (Af) (cf) (Fs), Far.lib (Far.AllF Fs), Sx.row (Kd.pair (Kd.int .i64) (Kd.int .i64)) 69 (some ad9) (co) (z_)] ++ R)) e_) h
      clear e_
      replace h := st_front 3 h
      replace h := st_front 3 h
      replace h := st_front 3 h
      replace h := st_front 3 h
      refine qn_next ((i + 1), some ad9) (by show ((keptB F D (A.length : Int) ((A.length : Int) - (B.length : Int)))).length - (i + 1) < ((keptB F D (A.length : Int) ((A.length : Int) - (B.length : Int)))).length - i; omega) ⟨(congrArg (fun z_ => some (Value.slice (some ad9) z_ (co))) (by simp only [revP_len, List.length_set])), (congrArg (fun z_ => some (Value.int .i64 z_)) (show (((i : Int)) + 1 : Int) = ((i + 1) : Int) by omega)), (congrArg (fun z_ => some (Value.int .i64 z_)) (show (((((((keptB F D (A.length : Int) ((A.length : Int) - (B.length : Int)))).length : Nat) : Int) - 1 - ((i : Nat) : Int))) - 1 : Int) = (((((keptB F D (A.length : Int) ((A.length : Int) - (B.length : Int)))).length : Nat) : Int) - 1 - (((i + 1) : Nat) : Int)) by omega)), trivial⟩ ?_
      show ((i + 1) ≤ ((keptB F D (A.length : Int) ((A.length : Int) - (B.length : Int)))).length) ∧ _
      exact ⟨by omega, h⟩
     ·
      obtain ⟨cl36, _, hk35, hc34⟩ := Sx.C_cells ((Sx.row_reads h (i := 3) rfl).2) (z := ((0, 0) : Int × Int)) (k := i) (by first | assumption | omega)
      obtain ⟨_, _, rfl, rfl, rfl⟩ := hk35
      refine wl_v rfl rfl (ov_loadN _ [.int .i64 ((((revP ((0, 0) : Int × Int) (keptB F D (A.length : Int) ((A.length : Int) - (B.length : Int))) i)).getD i ((0, 0) : Int × Int)).1), .int .i64 ((((revP ((0, 0) : Int × Int) (keptB F D (A.length : Int) ((A.length : Int) - (B.length : Int))) i)).getD i ((0, 0) : Int × Int)).2)] rfl sh69 (by intro j u hu; rw [Deep.add_add]; exact (hc34 _ _ hu))) ?_
      refine wl_nil ?_
      refine qn_wa (st_selT [true, true, true, false] h) ?_
      refine wa_one 7 rfl (by kernel_rfl) ?_
      obtain ⟨cl42, _, hk41, hc40⟩ := Sx.C_cells ((Sx.row_reads h (i := 3) rfl).2) (z := ((0, 0) : Int × Int)) (k := ((((((keptB F D (A.length : Int) ((A.length : Int) - (B.length : Int)))).length : Nat) : Int) - 1 - ((i : Nat) : Int)) : Int).toNat) (by first | assumption | omega)
      obtain ⟨_, _, rfl, rfl, rfl⟩ := hk41
      refine wl_v rfl rfl (ov_loadN _ [.int .i64 ((((revP ((0, 0) : Int × Int) (keptB F D (A.length : Int) ((A.length : Int) - (B.length : Int))) i)).getD ((((((keptB F D (A.length : Int) ((A.length : Int) - (B.length : Int)))).length : Nat) : Int) - 1 - ((i : Nat) : Int)) : Int).toNat ((0, 0) : Int × Int)).1), .int .i64 ((((revP ((0, 0) : Int × Int) (keptB F D (A.length : Int) ((A.length : Int) - (B.length : Int))) i)).getD ((((((keptB F D (A.length : Int) ((A.length : Int) - (B.length : Int)))).length : Nat) : Int) - 1 - ((i : Nat) : Int)) : Int).toNat ((0, 0) : Int × Int)).2)] rfl sh69 (by intro j u hu; rw [Deep.add_add]; exact (hc40 _ _ hu))) ?_
      refine wl_nil ?_
      refine qn_wa (st_selT [true, true, true, false] h) ?_
      refine wa_tk 12 rfl rfl rfl (st_selT [true, true, true, false] h) (fun w_ hS => ov_indexAddrN _ _ _ _ _ i rfl rfl es65 rfl (by first | assumption | omega | (simp only [List.length_take, List.length_drop, List.length_set]; omega))) ?_
      refine wa_one 13 rfl (by kernel_rfl) ?_
      refine wl_storeeN 3 i 0 (.agg #[.int .i64 ((((revP ((0, 0) : Int × Int) (keptB F D (A.length : Int) ((A.length : Int) - (B.length : Int))) i)).getD ((((((keptB F D (A.length : Int) ((A.length : Int) - (B.length : Int)))).length : Nat) : Int) - 1 - ((i : Nat) : Int)) : Int).toNat ((0, 0) : Int × Int)).1), .int .i64 ((((revP ((0, 0) : Int × Int) (keptB F D (A.length : Int) ((A.length : Int) - (B.length : Int))) i)).getD ((((((keptB F D (A.length : Int) ((A.length : Int) - (B.length : Int)))).length : Nat) : Int) - 1 - ((i : Nat) : Int)) : Int).toNat ((0, 0) : Int × Int)).2)]) [.int .i64 ((((revP ((0, 0) : Int × Int) (keptB F D (A.length : Int) ((A.length : Int) - (B.length : Int))) i)).getD ((((((keptB F D (A.length : Int) ((A.length : Int) - (B.length : Int)))).length : Nat) : Int) - 1 - ((i : Nat) : Int)) : Int).toNat ((0, 0) : Int × Int)).1), .int .i64 ((((revP ((0, 0) : Int × Int) (keptB F D (A.length : Int) ((A.length : Int) - (B.length : Int))) i)).getD ((((((keptB F D (A.length : Int) ((A.length : Int) - (B.length : Int)))).length : Nat) : Int) - 1 - ((i : Nat) : Int)) : Int).toNat ((0, 0) : Int × Int)).2)] ((0, 0) : Int × Int) ((((((revP ((0, 0) : Int × Int) (keptB F D (A.length : Int) ((A.length : Int) - (B.length : Int))) i)).getD ((((((keptB F D (A.length : Int) ((A.length : Int) - (B.length : Int)))).length : Nat) : Int) - 1 - ((i : Nat) : Int)) : Int).toNat ((0, 0) : Int × Int)).1, (((revP ((0, 0) : Int × Int) (keptB F D (A.length : Int) ((A.length : Int) - (B.length : Int))) i)).getD ((((((keptB F D (A.length : Int) ((A.length : Int) - (B.length : Int)))).length : Nat) : Int) - 1 - ((i : Nat) : Int)) : Int).toNat ((0, 0) : Int × Int)).2) : Int × Int)) h rfl rfl rfl (by first | rfl | simp) rfl rfl (by simp [Value.oneCell']) szf69 (by first | assumption | omega | (simp only [List.length_set]; omega)) (Nat.le_of_ble_eq_true rfl) (by intro cl hcl hM; obtain ⟨_, _, _, hM⟩ := hM; obtain ⟨_, _, rfl, rfl, rfl⟩ := hM; intro _ _ _; exact (fun p_ => (⟨[.int .i64 p_.1], [.int .i64 p_.2], rfl, rfl, rfl⟩ : (Kd.pair (Kd.int .i64) (Kd.int .i64)).M _ _ _ p_ [.int .i64 p_.1, .int .i64 p_.2])) ((((((revP ((0, 0) : Int × Int) (keptB F D (A.length : Int) ((A.length : Int) - (B.length : Int))) i)).getD ((((((keptB F D (A.length : Int) ((A.length : Int) - (B.length : Int)))).length : Nat) : Int) - 1 - ((i : Nat) : Int)) : Int).toNat ((0, 0) : Int × Int)).1, (((revP ((0, 0) : Int × Int) (keptB F D (A.length : Int) ((A.length : Int) - (B.length : Int))) i)).getD ((((((keptB F D (A.length : Int) ((A.length : Int) - (B.length : Int)))).length : Nat) : Int) - 1 - ((i : Nat) : Int)) : Int).toNat ((0, 0) : Int × Int)).2) : Int × Int))) (fun _ h => ?_)
      refine wl_nil ?_
      refine qn_wa (st_selT [true, true, true, false] h) ?_
      refine wa_tk 14 rfl rfl rfl (st_selT [true, true, true, false] h) (fun w_ hS => ov_indexAddrN _ _ _ _ _ ((((((keptB F D (A.length : Int) ((A.length : Int) - (B.length : Int)))).length : Nat) : Int) - 1 - ((i : Nat) : Int)) : Int).toNat rfl rfl es65 (by omega) (by first | assumption | omega | (simp only [List.length_take, List.length_drop, List.length_set]; omega))) ?_
      refine wa_one 15 rfl (by kernel_rfl) ?_
      refine wl_storeeN 3 ((((((keptB F D (A.length : Int) ((A.length : Int) - (B.length : Int)))).length : Nat) : Int) - 1 - ((i : Nat) : Int)) : Int).toNat 0 (.agg #[.int .i64 ((((revP ((0, 0) : Int × Int) (keptB F D (A.length : Int) ((A.length : Int) - (B.length : Int))) i)).getD i ((0, 0) : Int × Int)).1), .int .i64 ((((revP ((0, 0) : Int × Int) (keptB F D (A.length : Int) ((A.length : Int) - (B.length : Int))) i)).getD i ((0, 0) : Int × Int)).2)]) [.int .i64 ((((revP ((0, 0) : Int × Int) (keptB F D (A.length : Int) ((A.length : Int) - (B.length : Int))) i)).getD i ((0, 0) : Int × Int)).1), .int .i64 ((((revP ((0, 0) : Int × Int) (keptB F D (A.length : Int) ((A.length : Int) - (B.length : Int))) i)).getD i ((0, 0) : Int × Int)).2)] ((0, 0) : Int × Int) ((((((revP ((0, 0) : Int × Int) (keptB F D (A.length : Int) ((A.length : Int) - (B.length : Int))) i)).getD i ((0, 0) : Int × Int)).1, (((revP ((0, 0) : Int × Int) (keptB F D (A.length : Int) ((A.length : Int) - (B.length : Int))) i)).getD i ((0, 0) : Int × Int)).2) : Int × Int)) h rfl rfl rfl (by first | rfl | simp) rfl rfl (by simp [Value.oneCell']) szf69 (by first | assumption | omega | (simp only [List.length_set]; omega)) (Nat.le_of_ble_eq_true rfl) (by intro cl hcl hM; obtain ⟨_, _, _, hM⟩ := hM; obtain ⟨_, _, rfl, rfl, rfl⟩ := hM; intro _ _ _; exact (fun p_ => (⟨[.int .i64 p_.1], [.int .i64 p_.2], rfl, rfl, rfl⟩ : (Kd.pair (Kd.int .i64) (Kd.int .i64)).M _ _ _ p_ [.int .i64 p_.1, .int .i64 p_.2])) ((((((revP ((0, 0) : Int × Int) (keptB F D (A.length : Int) ((A.length : Int) - (B.length : Int))) i)).getD i ((0, 0) : Int × Int)).1, (((revP ((0, 0) : Int × Int) (keptB F D (A.length : Int) ((A.length : Int) - (B.length : Int))) i)).getD i ((0, 0) : Int × Int)).2) : Int × Int))) (fun _ h => ?_)
      refine wl_nil ?_
      refine qn_wa (st_selT [true, true, true, false] h) ?_
      refine wa_done (by kernel_rfl) ?_
      refine qn_block_normal ?_
      refine qn_then ?_
      refine wc_region ?_
      refine wl_v rfl rfl (ov_move _ rfl) ?_
      refine wl_v rfl rfl (ov_bin _ rfl rfl (binR_add (r := ((i : Int)) + 1) (Sx.w64 (by omega)))) ?_
      refine wl_v rfl rfl (ov_move _ rfl) ?_
      refine wl_v rfl rfl (ov_bin _ rfl rfl (binR_sub (r := ((((((keptB F D (A.length : Int) ((A.length : Int) - (B.length : Int)))).length : Nat) : Int) - 1 - ((i : Nat) : Int))) - 1) (Sx.w64 (by omega)))) ?_
      refine wl_v rfl rfl (ov_assign _ rfl) ?_
      refine wl_v rfl rfl (ov_assign _ rfl) ?_
      refine wl_nil ?_
      have e_ : (((revP ((0, 0) : Int × Int) (keptB F D (A.length : Int) ((A.length : Int) - (B.length : Int))) i)).set i ((((((revP ((0, 0) : Int × Int) (keptB F D (A.length : Int) ((A.length : Int) - (B.length : Int))) i)).getD ((((((keptB F D (A.length : Int) ((A.length : Int) - (B.length : Int)))).length : Nat) : Int) - 1 - ((i : Nat) : Int)) : Int).toNat ((0, 0) : Int × Int)).1, (((revP ((0, 0) : Int × Int) (keptB F D (A.length : Int) ((A.length : Int) - (B.length : Int))) i)).getD ((((((keptB F D (A.length : Int) ((A.length : Int) - (B.length : Int)))).length : Nat) : Int) - 1 - ((i : Nat) : Int)) : Int).toNat ((0, 0) : Int × Int)).2) : Int × Int))).set ((((((keptB F D (A.length : Int) ((A.length : Int) - (B.length : Int)))).length : Nat) : Int) - 1 - ((i : Nat) : Int)) : Int).toNat ((((((revP ((0, 0) : Int × Int) (keptB F D (A.length : Int) ((A.length : Int) - (B.length : Int))) i)).getD i ((0, 0) : Int × Int)).1, (((revP ((0, 0) : Int × Int) (keptB F D (A.length : Int) ((A.length : Int) - (B.length : Int))) i)).getD i ((0, 0) : Int × Int)).2) : Int × Int)) = (revP ((0, 0) : Int × Int) (keptB F D (A.length : Int) ((A.length : Int) - (B.length : Int))) (i + 1)) := by exact revP_step ((0, 0) : Int × Int) (keptB F D (A.length : Int) ((A.length : Int) - (B.length : Int))) i (((((keptB F D (A.length : Int) ((A.length : Int) - (B.length : Int)))).length : Nat) : Int) - 1 - (i : Int)).toNat (by omega) (by omega)
      replace h := st_cast (congrArg (fun z_ => ([Sx.blk g [.slice (Aa) (A.length) (ca), .slice (Ab) (B.length) (cb), .slice (Af) (Fs.length) (cf)] 64, Sx.row Far.kF 49 (Af) (cf) (Fs), Far.lib (Far.AllF Fs), Sx.row (Kd.pair (Kd.int .i64) (Kd.int .i64)) 69 (some ad9) (co) (z_)] ++ R)) e_) h
      clear e_
      replace h := st_front 3 h
      replace h := st_front 3 h
      replace h := st_front 3 h
      replace h := st_front 3 h
      refine qn_next ((i + 1), some ad9) (by show ((keptB F D (A.length : Int) ((A.length : Int) - (B.length : Int)))).length - (i + 1) < ((keptB F D (A.length : Int) ((A.length : Int) - (B.length : Int)))).length - i; omega) ⟨(congrArg (fun z_ => some (Value.slice (some ad9) z_ (co))) (by simp only [revP_len, List.length_set])), (congrArg (fun z_ => some (Value.int .i64 z_)) (show (((i : Int)) + 1 : Int) = ((i + 1) : Int) by omega)), (congrArg (fun z_ => some (Value.int .i64 z_)) (show (((((((keptB F D (A.length : Int) ((A.length : Int) - (B.length : Int)))).length : Nat) : Int) - 1 - ((i : Nat) : Int))) - 1 : Int) = (((((keptB F D (A.length : Int) ((A.length : Int) - (B.length : Int)))).length : Nat) : Int) - 1 - (((i + 1) : Nat) : Int)) by omega)), trivial⟩ ?_
      show ((i + 1) ≤ ((keptB F D (A.length : Int) ((A.length : Int) - (B.length : Int)))).length) ∧ _
      exact ⟨by omega, h⟩
    ·
     refine wc_exit ?_
     refine qn_then_exit ?_
     refine qn_then_exit ?_
     refine qn_block_exit ?_
     refine qn_then ?_
     refine wc_seq ?_
     refine wc_region ?_
     refine wl_v rfl rfl (ov_move _ rfl) ?_
     refine wl_v rfl rfl (ov_assign _ rfl) ?_
     refine wl_nil ?_
     refine qn_then ?_
     refine wc_ret ?_
     have e_ : (revP ((0, 0) : Int × Int) (keptB F D (A.length : Int) ((A.length : Int) - (B.length : Int))) i) = ((keptB F D (A.length : Int) ((A.length : Int) - (B.length : Int)))).reverse := by exact revP_end _ _ _ (by omega)
     replace h := st_cast (congrArg (fun z_ => ([Sx.blk g [.slice (Aa) (A.length) (ca), .slice (Ab) (B.length) (cb), .slice (Af) (Fs.length) (cf)] 64, Sx.row Far.kF 49 (Af) (cf) (Fs), Far.lib (Far.AllF Fs), Sx.row (Kd.pair (Kd.int .i64) (Kd.int .i64)) 69 (Ao) (co) (z_)] ++ R)) e_) h
     clear e_
     replace h := st_front 3 h
     replace h := st_front 3 h
     replace h := st_front 3 h
     replace h := st_front 3 h
     refine qn_ret [_] ⟨rfl, trivial⟩ ?_
     exact ⟨Ao, co, by show Ending.returned (Value.slice _ ((revP ((0, 0) : Int × Int) (keptB F D (A.length : Int) ((A.length : Int) - (B.length : Int))) i)).length _) = Ending.returned (Value.slice _ ((keptB F D (A.length : Int) ((A.length : Int) - (B.length : Int)))).reverse.length _); rw [hrl_, List.length_reverse], h⟩
   ·
    refine wc_skip ?_
    refine qn_then ?_
    refine wc_seq ?_
    refine wc_region ?_
    refine wl_v rfl rfl (ov_move _ rfl) ?_
    refine wl_v rfl rfl (ov_nilCheck _ rfl) ?_
    refine wl_v rfl rfl (ov_fieldAddr _ ⟨g, 2, none⟩ _ rfl fo64_2 rfl) ?_
    refine wl_v rfl rfl (ov_loadb 0 _ h rfl rfl sh62 rfl) ?_
    refine wl_v rfl rfl (ov_move _ rfl) ?_
    refine wl_v rfl rfl (ov_bin _ rfl rfl (binR_sub (r := (((d : Nat) : Int)) - 1) (Sx.w64 (by omega)))) ?_
    obtain ⟨ad43, rfl⟩ := Sx.C_some ((Sx.row_reads h (i := 1) rfl).2) (k := (((d : Nat)) - 1)) (by first | assumption | omega)
    refine wl_v rfl rfl (ov_indexAddrN _ _ _ _ _ (((d : Nat)) - 1) rfl rfl es62 (by omega) (by first | assumption | omega | (simp only [List.length_take, List.length_drop, List.length_set]; omega))) ?_
    obtain ⟨cl46, _, hk45, hc44⟩ := Sx.C_cells ((Sx.row_reads h (i := 1) rfl).2) (z := Far.zF) (k := (((d : Nat)) - 1)) (by first | assumption | omega)
    obtain rfl := Far.kF_open hk45
    refine wl_v rfl rfl (ov_load1 _ _ rfl sh49 ((hc44 0 _ rfl))) ?_
    refine wl_v rfl rfl (ov_assign _ rfl) ?_
    refine wl_nil ?_
    refine qn_then ?_
    refine wc_seq ?_
    have hmem_ : (Fs).getD (((d : Nat)) - 1) Far.zF ∈ Fs := Far.getD_mem (by omega)
    have hnw_ := Far.far_n h (i := 2) rfl hmem_
    obtain ⟨W47, hW_⟩ : ∃ z_, z_ = ((Fs).getD (((d : Nat)) - 1) Far.zF).1 := ⟨_, rfl⟩
    obtain ⟨Aw48, hAw_⟩ : ∃ z_, z_ = ((Fs).getD (((d : Nat)) - 1) Far.zF).2.A := ⟨_, rfl⟩
    rw [← hW_] at hnw_
    rw [← hAw_, hnw_]
    have hWF_ : W47 = F.getD ((d : Int) - 1).toNat [] := by rw [hW_, ← hFF, show ((d : Int) - 1).toNat = d - 1 by omega]; exact Far.getD_fst Fs _
    have hfo_ := far_okp hFD hD ((d : Int) - 1).toNat (by omega)
    rw [← hWF_] at hfo_
    have hwl_ := hfo_.1
    have hv1_ := hfo_.2 (k - 1 + (d : Int) - 1).toNat
    have hv2_ := hfo_.2 (k + 1 + (d : Int) - 1).toNat
    refine wc_region ?_
    refine wl_v rfl rfl (ov_move _ rfl) ?_
    refine wl_v rfl rfl (ov_bin _ rfl rfl (binR_sub (r := k - 1) (Sx.w64 (by omega)))) ?_
    refine wl_v rfl rfl (ov_move _ rfl) ?_
    refine wl_v rfl rfl (ov_bin _ rfl rfl (binR_add (r := (k - 1) + (((d : Nat) : Int))) (Sx.w64 (by omega)))) ?_
    refine wl_v rfl rfl (ov_bin _ rfl rfl (binR_sub (r := ((k - 1) + (((d : Nat) : Int))) - 1) (Sx.w64 (by omega)))) ?_
    refine wl_v rfl rfl (ov_move _ rfl) ?_
    refine wl_v rfl rfl (ov_bin _ rfl rfl (binR_add (r := k + 1) (Sx.w64 (by omega)))) ?_
    refine wl_v rfl rfl (ov_move _ rfl) ?_
    refine wl_v rfl rfl (ov_bin _ rfl rfl (binR_add (r := (k + 1) + (((d : Nat) : Int))) (Sx.w64 (by omega)))) ?_
    refine wl_v rfl rfl (ov_bin _ rfl rfl (binR_sub (r := ((k + 1) + (((d : Nat) : Int))) - 1) (Sx.w64 (by omega)))) ?_
    refine wl_v rfl rfl (ov_assign _ rfl) ?_
    refine wl_v rfl rfl (ov_assign _ rfl) ?_
    refine wl_nil ?_
    refine qn_then ?_
    refine wc_seq ?_
    refine wc_draw (fun w => Sx.St w0 F0 ([Sx.blk g [.slice (Aa) (A.length) (ca), .slice (Ab) (B.length) (cb), .slice (some ad43) (Fs.length) (cf)] 64, Sx.row Far.kF 49 (some ad43) (cf) (Fs), Far.lib (Far.AllF Fs), Sx.row (Kd.pair (Kd.int .i64) (Kd.int .i64)) 69 (Ao) (co) (L)] ++ R) w) (by kernel_rfl) ?_
    replace h := st_drew h
    refine wa_tk 0 rfl rfl rfl (st_selT [true, true, true, true] h) (fun w_ hS => ov_move _ rfl) ?_
    refine wa_tk 1 rfl rfl rfl (st_selT [true, true, true, true] h) (fun w_ hS => ov_move _ rfl) ?_
    refine wa_tk 2 rfl rfl rfl (st_selT [true, true, true, true] h) (fun w_ hS => ov_neg _ _ (0 - (((d : Nat) : Int))) rfl (Sx.w64 (by omega))) ?_
    refine wa_tk 3 rfl rfl rfl (st_selT [true, true, true, true] h) (fun w_ hS => ov_bin _ rfl rfl (binR_eql)) ?_
    refine wa_tk 4 rfl rfl rfl (st_selT [true, true, true, true] h) (fun w_ hS => ov_move _ rfl) ?_
    refine wa_split 75 rfl (fun c49 => ?_) (fun c49 => ?_)
    ·
     refine wa_sk 5 rfl rfl rfl (st_selT [true, true, true, true] h) ?_
     refine wa_sk 6 rfl rfl rfl (st_selT [true, true, true, true] h) ?_
     refine wa_sk 7 rfl rfl rfl (st_selT [true, true, true, true] h) ?_
     refine wa_sk 8 rfl rfl rfl (st_selT [true, true, true, true] h) ?_
     refine wa_sk 9 rfl rfl rfl (st_selT [true, true, true, true] h) ?_
     refine wa_sk 10 rfl rfl rfl (st_selT [true, true, true, true] h) ?_
     refine wa_sk 11 rfl rfl rfl (st_selT [true, true, true, true] h) ?_
     refine wa_sk 12 rfl rfl rfl (st_selT [true, true, true, true] h) ?_
     refine wa_sk 13 rfl rfl rfl (st_selT [true, true, true, true] h) ?_
     refine wa_sk 14 rfl rfl rfl (st_selT [true, true, true, true] h) ?_
     refine wa_sk 15 rfl rfl rfl (st_selT [true, true, true, true] h) ?_
     refine wa_sk 16 rfl rfl rfl (st_selT [true, true, true, true] h) ?_
     refine wa_sk 17 rfl rfl rfl (st_selT [true, true, true, true] h) ?_
     refine wa_sk 18 rfl rfl rfl (st_selT [true, true, true, true] h) ?_
     refine wa_tk 19 rfl rfl rfl (st_selT [true, true, true, true] h) (fun w_ hS => ov_pick_true _ rfl rfl) ?_
     refine wa_done (by kernel_rfl) ?_
     refine qn_then ?_
     refine wc_cond_true rfl ?_
     refine wc_seq ?_
     refine wc_region ?_
     refine wl_v rfl rfl (ov_move _ rfl) ?_
     refine wl_v rfl rfl (ov_bin _ rfl rfl (binR_add (r := k + 1) (Sx.w64 (by omega)))) ?_
     refine wl_v rfl rfl (ov_assign _ rfl) ?_
     refine wl_nil ?_
     refine qn_then ?_
     refine wc_region ?_
     refine wl_v rfl rfl (ov_move _ rfl) ?_
     refine wl_v rfl rfl (ov_move _ rfl) ?_
     obtain ⟨ad50, rfl⟩ := Sx.C_some ((Far.far_get h (i := 2) rfl hmem_ hAw_ hW_)) (k := (((k + 1) + (((d : Nat) : Int))) - 1 : Int).toNat) (by first | assumption | omega)
     refine wl_v rfl rfl (ov_indexAddrN _ _ _ _ _ (((k + 1) + (((d : Nat) : Int))) - 1 : Int).toNat rfl rfl es49 (by omega) (by first | assumption | omega | (simp only [List.length_take, List.length_drop, List.length_set]; omega))) ?_
     obtain ⟨cl53, _, hk52, hc51⟩ := Sx.C_cells ((Far.far_get h (i := 2) rfl hmem_ hAw_ hW_)) (z := (0 : Int)) (k := (((k + 1) + (((d : Nat) : Int))) - 1 : Int).toNat) (by first | assumption | omega)
     obtain rfl : cl53 = [.int .i64 _] := hk52
     refine wl_v rfl rfl (ov_load1 _ _ rfl sh3 ((hc51 0 _ rfl))) ?_
     refine wl_v rfl rfl (ov_assign _ rfl) ?_
     refine wl_nil ?_
     refine qn_block_normal ?_
     refine qn_then ?_
     refine wc_region ?_
     refine wl_v rfl rfl (ov_move _ rfl) ?_
     refine wl_v rfl rfl (ov_bin _ rfl rfl (binR_sub (r := (((d : Nat) : Int)) - 1) (Sx.w64 (by omega)))) ?_
     refine wl_v rfl rfl (ov_assign _ rfl) ?_
     refine wl_nil ?_
     replace h := st_front 3 h
     replace h := st_front 3 h
     replace h := st_front 3 h
     replace h := st_front 3 h
     have hup_ := kinv_up hFD hD (by omega) hJo.2.1 hJo.1 (show goesUp F (d : Int) k from by unfold goesUp rdI; rw [← hWF_]; first | exact .inl (by omega) | exact .inr ⟨by omega, by omega⟩)
     rw [← hWF_] at hup_
     have hn0_ : n = 0 := by omega
     have hj_ := hJ.1
     rw [hn0_, hup_.2.1] at hj_
     simp only [dnV, List.nil_append] at hj_
     have hst_ := hup_.2.2
     unfold rdI at hst_
     refine qn_next ((d - 1), ((W47).getD (((k + 1) + (((d : Nat) : Int))) - 1 : Int).toNat (0 : Int)), (k + 1), Ao, co, (L)) (by show (d - 1) < d; omega) ⟨rfl, (congrArg (fun z_ => some (Value.int .i64 z_)) (show ((((d : Nat) : Int)) - 1 : Int) = (((d - 1) : Nat) : Int) by omega)), (congrArg (fun z_ => some (Value.slice (Ao) z_ (co))) (show ((L).length : Nat) = ((L)).length by first | rfl | simp)), (congrArg (fun z_ => some (Value.int .i64 z_)) (show ((W47).getD (((k + 1) + (((d : Nat) : Int))) - 1 : Int).toNat (0 : Int) : Int) = ((W47).getD (((k + 1) + (((d : Nat) : Int))) - 1 : Int).toNat (0 : Int)) by omega)), (congrArg (fun z_ => some (Value.int .i64 z_)) (show (k + 1 : Int) = (k + 1) by omega)), trivial⟩ ?_
     show (KInv A B (d - 1) ((W47).getD (((k + 1) + (((d : Nat) : Int))) - 1 : Int).toNat (0 : Int)) (k + 1) ∧ (d - 1) ≤ D ∧ (L) ++ keptB F (d - 1) ((W47).getD (((k + 1) + (((d : Nat) : Int))) - 1 : Int).toNat (0 : Int)) (k + 1) = (keptB F D (A.length : Int) ((A.length : Int) - (B.length : Int))) ∧ (((L)).length : Int) + ((W47).getD (((k + 1) + (((d : Nat) : Int))) - 1 : Int).toNat (0 : Int)) ≤ A.length) ∧ _
     exact ⟨⟨hup_.1, by omega, hj_, by omega⟩, h⟩
    ·
     refine wa_tk 5 rfl rfl rfl (st_selT [true, true, true, true] h) (fun w_ hS => ov_move _ rfl) ?_
     refine wa_tk 6 rfl rfl rfl (st_selT [true, true, true, true] h) (fun w_ hS => ov_move _ rfl) ?_
     refine wa_tk 7 rfl rfl rfl (st_selT [true, true, true, true] h) (fun w_ hS => ov_bin _ rfl rfl (binR_neq)) ?_
     refine wa_tk 8 rfl rfl rfl (st_selT [true, true, true, true] h) (fun w_ hS => ov_move _ rfl) ?_
     refine wa_split 79 rfl (fun c54 => ?_) (fun c54 => ?_)
     ·
      refine wa_tk 9 rfl rfl rfl (st_selT [true, true, true, true] h) (fun w_ hS => ov_move _ rfl) ?_
      refine wa_tk 10 rfl rfl rfl (st_selT [true, true, true, true] h) (fun w_ hS => ov_move _ rfl) ?_
      obtain ⟨ad55, rfl⟩ := Sx.C_some ((Far.far_get h (i := 2) rfl hmem_ hAw_ hW_)) (k := (((k - 1) + (((d : Nat) : Int))) - 1 : Int).toNat) (by first | assumption | omega)
      refine wa_tk 11 rfl rfl rfl (st_selT [true, true, true, true] h) (fun w_ hS => ov_indexAddrN _ _ _ _ _ (((k - 1) + (((d : Nat) : Int))) - 1 : Int).toNat rfl rfl es49 (by omega) (by first | assumption | omega | (simp only [List.length_take, List.length_drop, List.length_set]; omega))) ?_
      refine wa_tk 12 rfl rfl rfl (st_selT [true, true, true, true] h) (fun w_ hS => by
          obtain ⟨cl58, _, hk57, hc56⟩ := Sx.C_cells ((Far.far_get hS (i := 2) rfl hmem_ hAw_ hW_)) (z := (0 : Int)) (k := (((k - 1) + (((d : Nat) : Int))) - 1 : Int).toNat) (by first | assumption | omega)
          obtain rfl : cl58 = [.int .i64 _] := hk57
          exact ov_load1 _ _ rfl sh3 ((hc56 0 _ rfl))) ?_
      refine wa_tk 13 rfl rfl rfl (st_selT [true, true, true, true] h) (fun w_ hS => ov_move _ rfl) ?_
      refine wa_tk 14 rfl rfl rfl (st_selT [true, true, true, true] h) (fun w_ hS => ov_move _ rfl) ?_
      refine wa_tk 15 rfl rfl rfl (st_selT [true, true, true, true] h) (fun w_ hS => ov_indexAddrN _ _ _ _ _ (((k + 1) + (((d : Nat) : Int))) - 1 : Int).toNat rfl rfl es49 (by omega) (by first | assumption | omega | (simp only [List.length_take, List.length_drop, List.length_set]; omega))) ?_
      refine wa_tk 16 rfl rfl rfl (st_selT [true, true, true, true] h) (fun w_ hS => by
          obtain ⟨cl61, _, hk60, hc59⟩ := Sx.C_cells ((Far.far_get hS (i := 2) rfl hmem_ hAw_ hW_)) (z := (0 : Int)) (k := (((k + 1) + (((d : Nat) : Int))) - 1 : Int).toNat) (by first | assumption | omega)
          obtain rfl : cl61 = [.int .i64 _] := hk60
          exact ov_load1 _ _ rfl sh3 ((hc59 0 _ rfl))) ?_
      refine wa_tk 17 rfl rfl rfl (st_selT [true, true, true, true] h) (fun w_ hS => ov_bin _ rfl rfl (binR_lss)) ?_
      refine wa_tk 18 rfl rfl rfl (st_selT [true, true, true, true] h) (fun w_ hS => ov_pick_true _ rfl rfl) ?_
      refine wa_tk 19 rfl rfl rfl (st_selT [true, true, true, true] h) (fun w_ hS => ov_pick_false _ rfl rfl) ?_
      refine wa_done (by kernel_rfl) ?_
      refine qn_then ?_
      refine wc_cond (by rfl) (fun c62 => ?_) (fun c62 => ?_)
      ·
       refine wc_seq ?_
       refine wc_region ?_
       refine wl_v rfl rfl (ov_move _ rfl) ?_
       refine wl_v rfl rfl (ov_bin _ rfl rfl (binR_add (r := k + 1) (Sx.w64 (by omega)))) ?_
       refine wl_v rfl rfl (ov_assign _ rfl) ?_
       refine wl_nil ?_
       refine qn_then ?_
       refine wc_region ?_
       refine wl_v rfl rfl (ov_move _ rfl) ?_
       refine wl_v rfl rfl (ov_move _ rfl) ?_
       refine wl_v rfl rfl (ov_indexAddrN _ _ _ _ _ (((k + 1) + (((d : Nat) : Int))) - 1 : Int).toNat rfl rfl es49 (by omega) (by first | assumption | omega | (simp only [List.length_take, List.length_drop, List.length_set]; omega))) ?_
       obtain ⟨cl65, _, hk64, hc63⟩ := Sx.C_cells ((Far.far_get h (i := 2) rfl hmem_ hAw_ hW_)) (z := (0 : Int)) (k := (((k + 1) + (((d : Nat) : Int))) - 1 : Int).toNat) (by first | assumption | omega)
       obtain rfl : cl65 = [.int .i64 _] := hk64
       refine wl_v rfl rfl (ov_load1 _ _ rfl sh3 ((hc63 0 _ rfl))) ?_
       refine wl_v rfl rfl (ov_assign _ rfl) ?_
       refine wl_nil ?_
       refine qn_block_normal ?_
       refine qn_then ?_
       refine wc_region ?_
       refine wl_v rfl rfl (ov_move _ rfl) ?_
       refine wl_v rfl rfl (ov_bin _ rfl rfl (binR_sub (r := (((d : Nat) : Int)) - 1) (Sx.w64 (by omega)))) ?_
       refine wl_v rfl rfl (ov_assign _ rfl) ?_
       refine wl_nil ?_
       replace h := st_front 3 h
       replace h := st_front 3 h
       replace h := st_front 3 h
       replace h := st_front 3 h
       have hup_ := kinv_up hFD hD (by omega) hJo.2.1 hJo.1 (show goesUp F (d : Int) k from by unfold goesUp rdI; rw [← hWF_]; first | exact .inl (by omega) | exact .inr ⟨by omega, by omega⟩)
       rw [← hWF_] at hup_
       have hn0_ : n = 0 := by omega
       have hj_ := hJ.1
       rw [hn0_, hup_.2.1] at hj_
       simp only [dnV, List.nil_append] at hj_
       have hst_ := hup_.2.2
       unfold rdI at hst_
       refine qn_next ((d - 1), ((W47).getD (((k + 1) + (((d : Nat) : Int))) - 1 : Int).toNat (0 : Int)), (k + 1), Ao, co, (L)) (by show (d - 1) < d; omega) ⟨rfl, (congrArg (fun z_ => some (Value.int .i64 z_)) (show ((((d : Nat) : Int)) - 1 : Int) = (((d - 1) : Nat) : Int) by omega)), (congrArg (fun z_ => some (Value.slice (Ao) z_ (co))) (show ((L).length : Nat) = ((L)).length by first | rfl | simp)), (congrArg (fun z_ => some (Value.int .i64 z_)) (show ((W47).getD (((k + 1) + (((d : Nat) : Int))) - 1 : Int).toNat (0 : Int) : Int) = ((W47).getD (((k + 1) + (((d : Nat) : Int))) - 1 : Int).toNat (0 : Int)) by omega)), (congrArg (fun z_ => some (Value.int .i64 z_)) (show (k + 1 : Int) = (k + 1) by omega)), trivial⟩ ?_
       show (KInv A B (d - 1) ((W47).getD (((k + 1) + (((d : Nat) : Int))) - 1 : Int).toNat (0 : Int)) (k + 1) ∧ (d - 1) ≤ D ∧ (L) ++ keptB F (d - 1) ((W47).getD (((k + 1) + (((d : Nat) : Int))) - 1 : Int).toNat (0 : Int)) (k + 1) = (keptB F D (A.length : Int) ((A.length : Int) - (B.length : Int))) ∧ (((L)).length : Int) + ((W47).getD (((k + 1) + (((d : Nat) : Int))) - 1 : Int).toNat (0 : Int)) ≤ A.length) ∧ _
       exact ⟨⟨hup_.1, by omega, hj_, by omega⟩, h⟩
      ·
       refine wc_seq ?_
       refine wc_region ?_
       refine wl_v rfl rfl (ov_move _ rfl) ?_
       refine wl_v rfl rfl (ov_bin _ rfl rfl (binR_sub (r := k - 1) (Sx.w64 (by omega)))) ?_
       refine wl_v rfl rfl (ov_assign _ rfl) ?_
       refine wl_nil ?_
       refine qn_then ?_
       refine wc_region ?_
       refine wl_v rfl rfl (ov_move _ rfl) ?_
       refine wl_v rfl rfl (ov_move _ rfl) ?_
       refine wl_v rfl rfl (ov_indexAddrN _ _ _ _ _ (((k - 1) + (((d : Nat) : Int))) - 1 : Int).toNat rfl rfl es49 (by omega) (by first | assumption | omega | (simp only [List.length_take, List.length_drop, List.length_set]; omega))) ?_
       obtain ⟨cl68, _, hk67, hc66⟩ := Sx.C_cells ((Far.far_get h (i := 2) rfl hmem_ hAw_ hW_)) (z := (0 : Int)) (k := (((k - 1) + (((d : Nat) : Int))) - 1 : Int).toNat) (by first | assumption | omega)
       obtain rfl : cl68 = [.int .i64 _] := hk67
       refine wl_v rfl rfl (ov_load1 _ _ rfl sh3 ((hc66 0 _ rfl))) ?_
       refine wl_v rfl rfl (ov_assign _ rfl) ?_
       refine wl_nil ?_
       refine qn_block_normal ?_
       refine qn_then ?_
       refine wc_region ?_
       refine wl_v rfl rfl (ov_move _ rfl) ?_
       refine wl_v rfl rfl (ov_bin _ rfl rfl (binR_sub (r := (((d : Nat) : Int)) - 1) (Sx.w64 (by omega)))) ?_
       refine wl_v rfl rfl (ov_assign _ rfl) ?_
       refine wl_nil ?_
       replace h := st_front 3 h
       replace h := st_front 3 h
       replace h := st_front 3 h
       replace h := st_front 3 h
       have hup_ := kinv_dn hFD hD (by omega) hJo.2.1 hJo.1 (show ¬ goesUp F (d : Int) k from by unfold goesUp rdI; rw [← hWF_]; omega)
       rw [← hWF_] at hup_
       have hn0_ : n = 0 := by omega
       have hj_ := hJ.1
       rw [hn0_, hup_.2.1] at hj_
       simp only [dnV, List.nil_append] at hj_
       have hst_ := hup_.2.2
       unfold rdI at hst_
       refine qn_next ((d - 1), ((W47).getD (((k - 1) + (((d : Nat) : Int))) - 1 : Int).toNat (0 : Int)), (k - 1), Ao, co, (L)) (by show (d - 1) < d; omega) ⟨rfl, (congrArg (fun z_ => some (Value.int .i64 z_)) (show ((((d : Nat) : Int)) - 1 : Int) = (((d - 1) : Nat) : Int) by omega)), (congrArg (fun z_ => some (Value.slice (Ao) z_ (co))) (show ((L).length : Nat) = ((L)).length by first | rfl | simp)), (congrArg (fun z_ => some (Value.int .i64 z_)) (show ((W47).getD (((k - 1) + (((d : Nat) : Int))) - 1 : Int).toNat (0 : Int) : Int) = ((W47).getD (((k - 1) + (((d : Nat) : Int))) - 1 : Int).toNat (0 : Int)) by omega)), (congrArg (fun z_ => some (Value.int .i64 z_)) (show (k - 1 : Int) = (k - 1) by omega)), trivial⟩ ?_
       show (KInv A B (d - 1) ((W47).getD (((k - 1) + (((d : Nat) : Int))) - 1 : Int).toNat (0 : Int)) (k - 1) ∧ (d - 1) ≤ D ∧ (L) ++ keptB F (d - 1) ((W47).getD (((k - 1) + (((d : Nat) : Int))) - 1 : Int).toNat (0 : Int)) (k - 1) = (keptB F D (A.length : Int) ((A.length : Int) - (B.length : Int))) ∧ (((L)).length : Int) + ((W47).getD (((k - 1) + (((d : Nat) : Int))) - 1 : Int).toNat (0 : Int)) ≤ A.length) ∧ _
       exact ⟨⟨hup_.1, by omega, hj_, by omega⟩, h⟩
     ·
      refine wa_sk 9 rfl rfl rfl (st_selT [true, true, true, true] h) ?_
      refine wa_sk 10 rfl rfl rfl (st_selT [true, true, true, true] h) ?_
      refine wa_sk 11 rfl rfl rfl (st_selT [true, true, true, true] h) ?_
      refine wa_sk 12 rfl rfl rfl (st_selT [true, true, true, true] h) ?_
      refine wa_sk 13 rfl rfl rfl (st_selT [true, true, true, true] h) ?_
      refine wa_sk 14 rfl rfl rfl (st_selT [true, true, true, true] h) ?_
      refine wa_sk 15 rfl rfl rfl (st_selT [true, true, true, true] h) ?_
      refine wa_sk 16 rfl rfl rfl (st_selT [true, true, true, true] h) ?_
      refine wa_sk 17 rfl rfl rfl (st_selT [true, true, true, true] h) ?_
      refine wa_tk 18 rfl rfl rfl (st_selT [true, true, true, true] h) (fun w_ hS => ov_pick_false _ rfl rfl) ?_
      refine wa_tk 19 rfl rfl rfl (st_selT [true, true, true, true] h) (fun w_ hS => ov_pick_false _ rfl rfl) ?_
      refine wa_done (by kernel_rfl) ?_
      refine qn_then ?_
      refine wc_cond_false rfl ?_
      refine wc_seq ?_
      refine wc_region ?_
      refine wl_v rfl rfl (ov_move _ rfl) ?_
      refine wl_v rfl rfl (ov_bin _ rfl rfl (binR_sub (r := k - 1) (Sx.w64 (by omega)))) ?_
      refine wl_v rfl rfl (ov_assign _ rfl) ?_
      refine wl_nil ?_
      refine qn_then ?_
      refine wc_region ?_
      refine wl_v rfl rfl (ov_move _ rfl) ?_
      refine wl_v rfl rfl (ov_move _ rfl) ?_
      obtain ⟨ad69, rfl⟩ := Sx.C_some ((Far.far_get h (i := 2) rfl hmem_ hAw_ hW_)) (k := (((k - 1) + (((d : Nat) : Int))) - 1 : Int).toNat) (by first | assumption | omega)
      refine wl_v rfl rfl (ov_indexAddrN _ _ _ _ _ (((k - 1) + (((d : Nat) : Int))) - 1 : Int).toNat rfl rfl es49 (by omega) (by first | assumption | omega | (simp only [List.length_take, List.length_drop, List.length_set]; omega))) ?_
      obtain ⟨cl72, _, hk71, hc70⟩ := Sx.C_cells ((Far.far_get h (i := 2) rfl hmem_ hAw_ hW_)) (z := (0 : Int)) (k := (((k - 1) + (((d : Nat) : Int))) - 1 : Int).toNat) (by first | assumption | omega)
      obtain rfl : cl72 = [.int .i64 _] := hk71
      refine wl_v rfl rfl (ov_load1 _ _ rfl sh3 ((hc70 0 _ rfl))) ?_
      refine wl_v rfl rfl (ov_assign _ rfl) ?_
      refine wl_nil ?_
      refine qn_block_normal ?_
      refine qn_then ?_
      refine wc_region ?_
      refine wl_v rfl rfl (ov_move _ rfl) ?_
      refine wl_v rfl rfl (ov_bin _ rfl rfl (binR_sub (r := (((d : Nat) : Int)) - 1) (Sx.w64 (by omega)))) ?_
      refine wl_v rfl rfl (ov_assign _ rfl) ?_
      refine wl_nil ?_
      replace h := st_front 3 h
      replace h := st_front 3 h
      replace h := st_front 3 h
      replace h := st_front 3 h
      have hup_ := kinv_dn hFD hD (by omega) hJo.2.1 hJo.1 (show ¬ goesUp F (d : Int) k from by unfold goesUp rdI; rw [← hWF_]; omega)
      rw [← hWF_] at hup_
      have hn0_ : n = 0 := by omega
      have hj_ := hJ.1
      rw [hn0_, hup_.2.1] at hj_
      simp only [dnV, List.nil_append] at hj_
      have hst_ := hup_.2.2
      unfold rdI at hst_
      refine qn_next ((d - 1), ((W47).getD (((k - 1) + (((d : Nat) : Int))) - 1 : Int).toNat (0 : Int)), (k - 1), Ao, co, (L)) (by show (d - 1) < d; omega) ⟨rfl, (congrArg (fun z_ => some (Value.int .i64 z_)) (show ((((d : Nat) : Int)) - 1 : Int) = (((d - 1) : Nat) : Int) by omega)), (congrArg (fun z_ => some (Value.slice (Ao) z_ (co))) (show ((L).length : Nat) = ((L)).length by first | rfl | simp)), (congrArg (fun z_ => some (Value.int .i64 z_)) (show ((W47).getD (((k - 1) + (((d : Nat) : Int))) - 1 : Int).toNat (0 : Int) : Int) = ((W47).getD (((k - 1) + (((d : Nat) : Int))) - 1 : Int).toNat (0 : Int)) by omega)), (congrArg (fun z_ => some (Value.int .i64 z_)) (show (k - 1 : Int) = (k - 1) by omega)), trivial⟩ ?_
      show (KInv A B (d - 1) ((W47).getD (((k - 1) + (((d : Nat) : Int))) - 1 : Int).toNat (0 : Int)) (k - 1) ∧ (d - 1) ≤ D ∧ (L) ++ keptB F (d - 1) ((W47).getD (((k - 1) + (((d : Nat) : Int))) - 1 : Int).toNat (0 : Int)) (k - 1) = (keptB F D (A.length : Int) ((A.length : Int) - (B.length : Int))) ∧ (((L)).length : Int) + ((W47).getD (((k - 1) + (((d : Nat) : Int))) - 1 : Int).toNat (0 : Int)) ≤ A.length) ∧ _
      exact ⟨⟨hup_.1, by omega, hj_, by omega⟩, h⟩
 ·
  exfalso
  omega
end Go.Proofs.Ytbakllppgekmoaa.T
