/- Pruned by wip/prune.py. -/

import Derived.Test.YtemgnkloloaeoaaQGivenSame
import Derived.Test.YtemgnkloloaeoaaQPAllx0
import Derived.Test.YtemgnkloloaeoaaQPAllx2
namespace Go.Proofs.Ytemgnkloloaeoaa.PAll
open Go.RowKit Go.Proofs.YtemgnkloloaeoaaW.PrintWords Go.Proofs.YtemgnkloloaeoaaW.PrintLast Go.Proofs.YtemgnkloloaeoaaW.PrintMore Go.Proofs.Ytemgnkloloaeoaa.Given
attribute [local go_sem] max2_int min2_int max_two min_two max_three min_three max_four min_four   -- for this text's walks alone
set_option linter.unusedVariables false
set_option linter.unusedSimpArgs false
def diff_Alike.l0 : Nat → List (S39) → Int → Int → List (S39) → Option (Bool)
  | 0, _, _, _, _ => none
  | k + 1, x15, x16, x17, x262000 => if x17 < x16 then (if 0 ≤ x17 then (if x17 < (x15.length : Int) then (if x17 < (x262000.length : Int) then ((lines_Same.f ((rd_T39 x15 x17).f0) ((rd_T39 x15 x17).f1) ((rd_T39 x15 x17).f2) ((rd_T39 x15 x17).f3) ((rd_T39 x15 x17).f4) ((rd_T39 x15 x17).f5) ((rd_T39 x15 x17).f6) ((rd_T39 x15 x17).f7) ((rd_T39 x15 x17).f8) ((rd_T39 x262000 x17).f0) ((rd_T39 x262000 x17).f1) ((rd_T39 x262000 x17).f2) ((rd_T39 x262000 x17).f3) ((rd_T39 x262000 x17).f4) ((rd_T39 x262000 x17).f5) ((rd_T39 x262000 x17).f6) ((rd_T39 x262000 x17).f7) ((rd_T39 x262000 x17).f8)).bind fun t265 => (if t265 = true then (diff_Alike.l0 k x15 x16 (wrap64 (x17 + 1)) x262000) else (some false))) else (none)) else (none)) else (none)) else (some true)
def diff_Alike.f (k : Nat) (l0_0 : List (S39)) (l1_0 : List (S39)) : Option (Bool) := if (l0_0.length : Int) = (l1_0.length : Int) then (diff_Alike.l0 k l0_0 (l0_0.length : Int) 0 l1_0) else (some false)
def diff_Alike.T6 : Bool × List (List Nat × List Nat) := (true, [([], []), ([], []), ([1], [1]), ([], []), ([2, 3], [2, 3]), ([4], [4]), ([0, 5], [0, 5]), ([6], [6])])
def diff_Alike.B6 : List Nat := [0, 0, 2, 0, 14, 30, 63, 127]
theorem diff_Alike.tab6 : rtab .any (opsOf Try.f13 6) = diff_Alike.T6 := by kernel_rfl
theorem diff_Alike.bits6 : waitsOk diff_Alike.T6.2 diff_Alike.B6 = true := by kernel_rfl
set_option maxHeartbeats 8000000 in
set_option maxRecDepth 100000 in
theorem diff_Alike.calls (k : Nat) (A0_0 : Option Addr) (c0_0 : Nat) (l0_0 : List (S39)) (A1_0 : Option Addr) (c1_0 : Nat) (l1_0 : List (S39)) (r : Bool) (w : World) (hr0_0 : Kd.C k39 w A0_0 l0_0.length l0_0) (hc0_0 : l0_0.length ≤ c0_0) (hr1_0 : Kd.C k39 w A1_0 l1_0.length l1_0) (hc1_0 : l1_0.length ≤ c1_0) (h : diff_Alike.f k l0_0 l1_0 = some r) :
    Calls Try.prog 13 #[.agg #[.slice A0_0 l0_0.length c0_0], .agg #[.slice A1_0 l1_0.length c1_0]] w fun e w' => e = .returned (.bool r) ∧ Below w.heap.size w w' := by
  have hu31 := Try.underlying31
  have hu39 := Try.underlying39
  have HR0_0 := Aside0.mk hr0_0
  have HC0_0 := Aside0.mk hc0_0
  clear hr0_0 hc0_0
  have HR1_0 := Aside0.mk hr1_0
  have HC1_0 := Aside0.mk hc1_0
  clear hr1_0 hc1_0
  have HB := Aside0.mk (Below.refl w.heap.size w)
  have H : (if (l0_0.length : Int) = (l1_0.length : Int) then (diff_Alike.l0 k l0_0 (l0_0.length : Int) 0 l1_0) else (some false)) = some r := h
  clear h
  by_cases c3 : (l0_0.length : Int) = (l1_0.length : Int)
  · rw [if_pos c3] at H
    have c3b0 : ((l0_0.length : Int) == (l1_0.length : Int)) = true := beq_iff_eq.mpr c3
    have c3b1 : ((l0_0.length : Int) != (l1_0.length : Int)) = false := bne_eq_false_iff_eq.mpr c3
    have c3b2 : (l0_0.length == l1_0.length) = true := by first | simpa using c3 | (simp at c3 ⊢; omega)
    clear c3
    have H' := Aside0.mk H
    clear H
    go_enter Try.func13, Try.ntmps13
    go_wp2_with (first | ((with_reducible refine gate_dst (N := 2) rfl ?_); refine box_event ?hg (N := 2) ?hd (cs := #[.slice A0_0 l0_0.length c0_0]) (t := 31) ?hr ?_; (case hd => rfl); (case hg => rfl); (case hr => first | (go_simp; done) | (go_simp; rfl)); intro gb260 hg w4 hbox hb; have n0_ := Aside0.mk (below_step (by repeat (first | (with_reducible first | exact HB.out | apply below_alloc | apply pw_below_drewN | apply below_drew1) | exact HB.out)) hb); have n1_ := Aside0.mk (hbox); have n2_ := Aside0.mk ((by rw [hg]; exact (below_size (by repeat (first | (with_reducible first | exact HB.out | apply below_alloc | apply pw_below_drewN | apply below_drew1) | exact HB.out))) : w.heap.size ≤ gb260)); have n3_ := Aside0.mk ((by rw [hg]; exact (below_size (by repeat (first | (with_reducible first | exact HB.out | apply below_alloc | apply pw_below_drewN | apply below_drew1) | exact HB.out))) : w.heap.size ≤ gb260)); clear HB; have HB := n0_; have BK260 := n1_; have GW260 := n2_; have GE260 := n3_; clear n0_ n1_ n2_ n3_; clear hb hbox hg) | ((with_reducible refine gate_dst (N := 3) rfl ?_); refine box_event ?hg (N := 3) ?hd (cs := #[.slice A1_0 l1_0.length c1_0]) (t := 31) ?hr ?_; (case hd => rfl); (case hg => rfl); (case hr => first | (go_simp; done) | (go_simp; rfl)); intro gb261 hg w5 hbox hb; have n0_ := Aside0.mk (blk_below (g := gb260) (o := .cells #[.slice A0_0 l0_0.length c0_0] 31 (0, 0)) (by (with_reducible repeat (first | refine blk_drewN ?_ _ | refine blk_drew ?_ | refine blk_alloc ?_ _)); exact BK260.out) hb); have n1_ := Aside0.mk (below_step (by repeat (first | (with_reducible first | exact HB.out | apply below_alloc | apply pw_below_drewN | apply below_drew1 | refine below_set ?_ GE260.out) | exact HB.out)) hb); have n2_ := Aside0.mk (hbox); have n3_ := Aside0.mk ((by rw [hg]; exact (below_size (by repeat (first | (with_reducible first | exact HB.out | apply below_alloc | apply pw_below_drewN | apply below_drew1 | refine below_set ?_ GE260.out) | exact HB.out))) : w.heap.size ≤ gb261)); have n4_ := Aside0.mk ((by rw [hg]; exact (below_size (by repeat (first | (with_reducible first | exact HB.out | apply below_alloc | apply pw_below_drewN | apply below_drew1 | refine below_set ?_ GE260.out) | exact HB.out))) : w.heap.size ≤ gb261)); have n5_ := Aside0.mk ((by rw [hg]; exact Nat.ne_of_lt (blk_lt (g := gb260) (o := .cells #[.slice A0_0 l0_0.length c0_0] 31 (0, 0)) (by (with_reducible repeat (first | refine blk_drewN ?_ _ | refine blk_drew ?_ | refine blk_alloc ?_ _)); exact BK260.out)) : gb260 ≠ gb261)); have n6_ := Aside0.mk ((by rw [hg]; exact Nat.ne_of_gt (blk_lt (g := gb260) (o := .cells #[.slice A0_0 l0_0.length c0_0] 31 (0, 0)) (by (with_reducible repeat (first | refine blk_drewN ?_ _ | refine blk_drew ?_ | refine blk_alloc ?_ _)); exact BK260.out)) : gb261 ≠ gb260)); clear BK260; clear HB; have BK260 := n0_; have HB := n1_; have BK261 := n2_; have GW261 := n3_; have GE261 := n4_; have NB260_261 := n5_; have NB261_260 := n6_; clear n0_ n1_ n2_ n3_ n4_ n5_ n6_; clear hb hbox hg; have hnb6 := NB260_261.out; have hnc6 := NB261_260.out; have hcz7_0 : w5.cell? ⟨gb260, 0, none⟩ = some (.slice A0_0 l0_0.length c0_0) := (blk_cell BK260.out 0).trans rfl; have hfz7_0 := blk_frozen BK260.out 0; have hcz8_0 : w5.cell? ⟨gb261, 0, none⟩ = some (.slice A1_0 l1_0.length c1_0) := (blk_cell BK261.out 0).trans rfl; have hfz8_0 := blk_frozen BK261.out 0))
    go_loopg [17] k (fun kq v17 w' => ∃ (x17_1 : Int), v17 = .int .i64 x17_1 ∧ Aside0 (diff_Alike.l0 kq l0_0 (l0_0.length : Int) x17_1 l1_0 = some r) ∧ Aside0 (kq ≤ k) ∧ Aside0 (w'.heap[gb260]? = some (.cells #[(.slice A0_0 l0_0.length c0_0)] 31 (0, 0))) ∧ Aside0 (w'.heap[gb261]? = some (.cells #[(.slice A1_0 l1_0.length c1_0)] 31 (0, 0))) ∧ Aside0 (Below w.heap.size w w'))
    case atStart => exact ⟨(0), (by first | rfl | (simp; done) | (simp [*]; done)), H', ⟨Nat.le_refl _⟩, ⟨by (with_reducible repeat (first | refine blk_drewN ?_ _ | refine blk_drew ?_ | refine blk_alloc ?_ _)); exact BK260.out⟩, ⟨by (with_reducible repeat (first | refine blk_drewN ?_ _ | refine blk_drew ?_ | refine blk_alloc ?_ _)); exact BK261.out⟩, ⟨by repeat (first | (with_reducible first | exact HB.out | apply below_alloc | apply pw_below_drewN | apply below_drew1 | refine below_set ?_ GE260.out | refine below_set ?_ GE261.out) | exact HB.out)⟩⟩
    case round =>
      clear H'
      try clear c1
      try clear p2
      try clear c3
      try clear c3b0
      try clear c3b1
      try clear c3b2
      try clear c6
      try clear hcz7_0
      try clear hcz8_0
      try clear hfz7_0
      try clear hfz8_0
      obtain ⟨x17_1, rfl, HA, HK1, BK260, BK261, HB⟩ := hrel
      cases gk with
      | zero => exact absurd HA.out (by simp [diff_Alike.l0])
      | succ k1 =>
        have H := HA.out
        clear HA
        simp only [diff_Alike.l0] at H
        by_cases c9 : x17_1 < (l0_0.length : Int)
        · rw [if_pos c9] at H
          have c9b0 : decide (x17_1 < (l0_0.length : Int)) = true := decide_eq_true c9
          clear c9
          by_cases c10 : 0 ≤ x17_1
          · rw [if_pos c10] at H
            have c10b0 : decide (0 ≤ x17_1) = true := decide_eq_true c10
            clear c10
            by_cases c11 : x17_1 < (l0_0.length : Int)
            · rw [if_pos c11] at H
              have c11b0 : decide (x17_1 < (l0_0.length : Int)) = true := decide_eq_true c11
              clear c11
              by_cases c12 : x17_1 < (l1_0.length : Int)
              · rw [if_pos c12] at H
                have c12b0 : decide (x17_1 < (l1_0.length : Int)) = true := decide_eq_true c12
                clear c12
                replace H := Option.bind_eq_some_iff.mp H
                obtain ⟨t265, A130, H⟩ := H
                replace H : (if t265 = true then (diff_Alike.l0 k1 l0_0 (l0_0.length : Int) (wrap64 (x17_1 + 1)) l1_0) else (some false)) = some r := H
                have A13 := Aside0.mk A130
                clear A130
                by_cases c14 : t265 = true
                · subst c14
                  have H1 : (diff_Alike.l0 k1 l0_0 (l0_0.length : Int) (wrap64 (x17_1 + 1)) l1_0) = some r := by rw [if_pos rfl] at H; exact H
                  clear H
                  have H := H1
                  clear H1
                  have H' := Aside0.mk H
                  clear H
                  have p262 : 0 ≤ (x17_1 : Int) := of_decide_eq_true (by first | (with_reducible assumption) | assumption)
                  have q262 : x17_1 < (l0_0.length : Int) := of_decide_eq_true (by first | (with_reducible assumption) | assumption)
                  obtain ⟨ad262, A262_1, c262_1, e262, hx262_0, hx262_1, hx262_2, hx262_3, hx262_4, hx262_5, hx262_6, hx262_7, hx262_8, hl262_1, hi262_1⟩ := at_T39 HR0_0.out x17_1 p262 q262
                  cases e262
                  replace hx262_0 := (HB.out.cell (World.block_lt_of_cell? w _ hx262_0)).trans hx262_0
                  replace hx262_1 := (HB.out.cell (World.block_lt_of_cell? w _ hx262_1)).trans hx262_1
                  replace hx262_2 := (HB.out.cell (World.block_lt_of_cell? w _ hx262_2)).trans hx262_2
                  replace hx262_3 := (HB.out.cell (World.block_lt_of_cell? w _ hx262_3)).trans hx262_3
                  replace hx262_4 := (HB.out.cell (World.block_lt_of_cell? w _ hx262_4)).trans hx262_4
                  replace hx262_5 := (HB.out.cell (World.block_lt_of_cell? w _ hx262_5)).trans hx262_5
                  replace hx262_6 := (HB.out.cell (World.block_lt_of_cell? w _ hx262_6)).trans hx262_6
                  replace hx262_7 := (HB.out.cell (World.block_lt_of_cell? w _ hx262_7)).trans hx262_7
                  replace hx262_8 := (HB.out.cell (World.block_lt_of_cell? w _ hx262_8)).trans hx262_8
                  have HR262_1 := Aside0.mk hi262_1
                  have HC262_1 := Aside0.mk hl262_1
                  clear hi262_1 hl262_1
                  replace p262 := eq_true p262
                  replace q262 := eq_true q262
                  try go_wp2_with (first | ((with_reducible refine gate_dst (N := 6) rfl ?_); refine box_event ?hg (N := 6) ?hd (cs := #[.string (⟨#[]⟩ : ByteArray), .slice none 0 0, .int .i64 0, .int .i64 0, .int .i64 0, .bool false, .int .i64 0, .bool false, .bool false]) (t := 39) ?hr ?_; (case hd => rfl); (case hg => rfl); (case hr => first | (go_simp; done) | (go_simp; rfl)); intro gb263 hg w15 hbox hb; have n0_ := Aside0.mk (blk_below (g := gb260) (o := .cells #[.slice (some ad262) l0_0.length c0_0] 31 (0, 0)) (by (with_reducible repeat (first | refine blk_drewN ?_ _ | refine blk_drew ?_ | refine blk_alloc ?_ _)); exact BK260.out) hb); have n1_ := Aside0.mk (blk_below (g := gb261) (o := .cells #[.slice A1_0 l1_0.length c1_0] 31 (0, 0)) (by (with_reducible repeat (first | refine blk_drewN ?_ _ | refine blk_drew ?_ | refine blk_alloc ?_ _)); exact BK261.out) hb); have n2_ := Aside0.mk (below_step (by repeat (first | (with_reducible first | exact HB.out | apply below_alloc | apply pw_below_drewN | apply below_drew1 | refine below_set ?_ GE260.out | refine below_set ?_ GE261.out) | exact HB.out)) hb); have n3_ := Aside0.mk (hbox); have n4_ := Aside0.mk ((by rw [hg]; exact (below_size (by repeat (first | (with_reducible first | exact HB.out | apply below_alloc | apply pw_below_drewN | apply below_drew1 | refine below_set ?_ GE260.out | refine below_set ?_ GE261.out) | exact HB.out))) : w.heap.size ≤ gb263)); have n5_ := Aside0.mk ((by rw [hg]; exact (below_size (by repeat (first | (with_reducible first | exact HB.out | apply below_alloc | apply pw_below_drewN | apply below_drew1 | refine below_set ?_ GE260.out | refine below_set ?_ GE261.out) | exact HB.out))) : w.heap.size ≤ gb263)); have n6_ := Aside0.mk ((by rw [hg]; exact Nat.ne_of_lt (blk_lt (g := gb260) (o := .cells #[.slice (some ad262) l0_0.length c0_0] 31 (0, 0)) (by (with_reducible repeat (first | refine blk_drewN ?_ _ | refine blk_drew ?_ | refine blk_alloc ?_ _)); exact BK260.out)) : gb260 ≠ gb263)); have n7_ := Aside0.mk ((by rw [hg]; exact Nat.ne_of_gt (blk_lt (g := gb260) (o := .cells #[.slice (some ad262) l0_0.length c0_0] 31 (0, 0)) (by (with_reducible repeat (first | refine blk_drewN ?_ _ | refine blk_drew ?_ | refine blk_alloc ?_ _)); exact BK260.out)) : gb263 ≠ gb260)); have n8_ := Aside0.mk ((by rw [hg]; exact Nat.ne_of_lt (blk_lt (g := gb261) (o := .cells #[.slice A1_0 l1_0.length c1_0] 31 (0, 0)) (by (with_reducible repeat (first | refine blk_drewN ?_ _ | refine blk_drew ?_ | refine blk_alloc ?_ _)); exact BK261.out)) : gb261 ≠ gb263)); have n9_ := Aside0.mk ((by rw [hg]; exact Nat.ne_of_gt (blk_lt (g := gb261) (o := .cells #[.slice A1_0 l1_0.length c1_0] 31 (0, 0)) (by (with_reducible repeat (first | refine blk_drewN ?_ _ | refine blk_drew ?_ | refine blk_alloc ?_ _)); exact BK261.out)) : gb263 ≠ gb261)); clear BK260; clear BK261; clear HB; have BK260 := n0_; have BK261 := n1_; have HB := n2_; have BK263 := n3_; have GW263 := n4_; have GE263 := n5_; have NB260_263 := n6_; have NB263_260 := n7_; have NB261_263 := n8_; have NB263_261 := n9_; clear n0_ n1_ n2_ n3_ n4_ n5_ n6_ n7_ n8_ n9_; clear hb hbox hg; have hnb16 := NB263_260.out; have hnc16 := NB260_263.out; have hnb17 := NB263_261.out; have hnc17 := NB261_263.out; have hcz18_0 : w15.cell? ⟨gb263, 0, none⟩ = some (.string (⟨#[]⟩ : ByteArray)) := (blk_cell BK263.out 0).trans rfl; have hcz18_1 : w15.cell? ⟨gb263, 1, none⟩ = some (.slice none 0 0) := (blk_cell BK263.out 1).trans rfl; have hcz18_2 : w15.cell? ⟨gb263, 2, none⟩ = some (.int .i64 0) := (blk_cell BK263.out 2).trans rfl; have hcz18_3 : w15.cell? ⟨gb263, 3, none⟩ = some (.int .i64 0) := (blk_cell BK263.out 3).trans rfl; have hcz18_4 : w15.cell? ⟨gb263, 4, none⟩ = some (.int .i64 0) := (blk_cell BK263.out 4).trans rfl; have hcz18_5 : w15.cell? ⟨gb263, 5, none⟩ = some (.bool false) := (blk_cell BK263.out 5).trans rfl; have hcz18_6 : w15.cell? ⟨gb263, 6, none⟩ = some (.int .i64 0) := (blk_cell BK263.out 6).trans rfl; have hcz18_7 : w15.cell? ⟨gb263, 7, none⟩ = some (.bool false) := (blk_cell BK263.out 7).trans rfl; have hcz18_8 : w15.cell? ⟨gb263, 8, none⟩ = some (.bool false) := (blk_cell BK263.out 8).trans rfl; have hfz18_0 := blk_frozen BK263.out 0; have hfz18_1 := blk_frozen BK263.out 1; have hfz18_2 := blk_frozen BK263.out 2; have hfz18_3 := blk_frozen BK263.out 3; have hfz18_4 := blk_frozen BK263.out 4; have hfz18_5 := blk_frozen BK263.out 5; have hfz18_6 := blk_frozen BK263.out 6; have hfz18_7 := blk_frozen BK263.out 7; have hfz18_8 := blk_frozen BK263.out 8))
                  have n0_ : Aside0 ((((((((((w15.setCell ⟨gb263, 0, none⟩ (.string ((rd_T39 l0_0 x17_1).f0))).setCell ⟨gb263, 1, none⟩ (.slice A262_1 ((rd_T39 l0_0 x17_1).f1).length c262_1)).setCell ⟨gb263, 2, none⟩ (.int .i64 ((rd_T39 l0_0 x17_1).f2))).setCell ⟨gb263, 3, none⟩ (.int .i64 ((rd_T39 l0_0 x17_1).f3))).setCell ⟨gb263, 4, none⟩ (.int .i64 ((rd_T39 l0_0 x17_1).f4))).setCell ⟨gb263, 5, none⟩ (.bool ((rd_T39 l0_0 x17_1).f5))).setCell ⟨gb263, 6, none⟩ (.int .i64 ((rd_T39 l0_0 x17_1).f6))).setCell ⟨gb263, 7, none⟩ (.bool ((rd_T39 l0_0 x17_1).f7))).setCell ⟨gb263, 8, none⟩ (.bool ((rd_T39 l0_0 x17_1).f8))).heap[gb260]? = some (.cells #[.slice (some ad262) l0_0.length c0_0] 31 (0, 0))) := ⟨by (with_reducible repeat (first | refine blk_drewN ?_ _ | refine blk_drew ?_ | refine blk_alloc ?_ _)); refine blk_far ?_ NB260_263.out _; (with_reducible repeat (first | refine blk_drewN ?_ _ | refine blk_drew ?_ | refine blk_alloc ?_ _)); refine blk_far ?_ NB260_263.out _; (with_reducible repeat (first | refine blk_drewN ?_ _ | refine blk_drew ?_ | refine blk_alloc ?_ _)); refine blk_far ?_ NB260_263.out _; (with_reducible repeat (first | refine blk_drewN ?_ _ | refine blk_drew ?_ | refine blk_alloc ?_ _)); refine blk_far ?_ NB260_263.out _; (with_reducible repeat (first | refine blk_drewN ?_ _ | refine blk_drew ?_ | refine blk_alloc ?_ _)); refine blk_far ?_ NB260_263.out _; (with_reducible repeat (first | refine blk_drewN ?_ _ | refine blk_drew ?_ | refine blk_alloc ?_ _)); refine blk_far ?_ NB260_263.out _; (with_reducible repeat (first | refine blk_drewN ?_ _ | refine blk_drew ?_ | refine blk_alloc ?_ _)); refine blk_far ?_ NB260_263.out _; (with_reducible repeat (first | refine blk_drewN ?_ _ | refine blk_drew ?_ | refine blk_alloc ?_ _)); refine blk_far ?_ NB260_263.out _; (with_reducible repeat (first | refine blk_drewN ?_ _ | refine blk_drew ?_ | refine blk_alloc ?_ _)); refine blk_far ?_ NB260_263.out _; (with_reducible repeat (first | refine blk_drewN ?_ _ | refine blk_drew ?_ | refine blk_alloc ?_ _)); exact BK260.out⟩
                  have n1_ : Aside0 ((((((((((w15.setCell ⟨gb263, 0, none⟩ (.string ((rd_T39 l0_0 x17_1).f0))).setCell ⟨gb263, 1, none⟩ (.slice A262_1 ((rd_T39 l0_0 x17_1).f1).length c262_1)).setCell ⟨gb263, 2, none⟩ (.int .i64 ((rd_T39 l0_0 x17_1).f2))).setCell ⟨gb263, 3, none⟩ (.int .i64 ((rd_T39 l0_0 x17_1).f3))).setCell ⟨gb263, 4, none⟩ (.int .i64 ((rd_T39 l0_0 x17_1).f4))).setCell ⟨gb263, 5, none⟩ (.bool ((rd_T39 l0_0 x17_1).f5))).setCell ⟨gb263, 6, none⟩ (.int .i64 ((rd_T39 l0_0 x17_1).f6))).setCell ⟨gb263, 7, none⟩ (.bool ((rd_T39 l0_0 x17_1).f7))).setCell ⟨gb263, 8, none⟩ (.bool ((rd_T39 l0_0 x17_1).f8))).heap[gb261]? = some (.cells #[.slice A1_0 l1_0.length c1_0] 31 (0, 0))) := ⟨by (with_reducible repeat (first | refine blk_drewN ?_ _ | refine blk_drew ?_ | refine blk_alloc ?_ _)); refine blk_far ?_ NB261_263.out _; (with_reducible repeat (first | refine blk_drewN ?_ _ | refine blk_drew ?_ | refine blk_alloc ?_ _)); refine blk_far ?_ NB261_263.out _; (with_reducible repeat (first | refine blk_drewN ?_ _ | refine blk_drew ?_ | refine blk_alloc ?_ _)); refine blk_far ?_ NB261_263.out _; (with_reducible repeat (first | refine blk_drewN ?_ _ | refine blk_drew ?_ | refine blk_alloc ?_ _)); refine blk_far ?_ NB261_263.out _; (with_reducible repeat (first | refine blk_drewN ?_ _ | refine blk_drew ?_ | refine blk_alloc ?_ _)); refine blk_far ?_ NB261_263.out _; (with_reducible repeat (first | refine blk_drewN ?_ _ | refine blk_drew ?_ | refine blk_alloc ?_ _)); refine blk_far ?_ NB261_263.out _; (with_reducible repeat (first | refine blk_drewN ?_ _ | refine blk_drew ?_ | refine blk_alloc ?_ _)); refine blk_far ?_ NB261_263.out _; (with_reducible repeat (first | refine blk_drewN ?_ _ | refine blk_drew ?_ | refine blk_alloc ?_ _)); refine blk_far ?_ NB261_263.out _; (with_reducible repeat (first | refine blk_drewN ?_ _ | refine blk_drew ?_ | refine blk_alloc ?_ _)); refine blk_far ?_ NB261_263.out _; (with_reducible repeat (first | refine blk_drewN ?_ _ | refine blk_drew ?_ | refine blk_alloc ?_ _)); exact BK261.out⟩
                  have n2_ : Aside0 ((((((((((w15.setCell ⟨gb263, 0, none⟩ (.string ((rd_T39 l0_0 x17_1).f0))).setCell ⟨gb263, 1, none⟩ (.slice A262_1 ((rd_T39 l0_0 x17_1).f1).length c262_1)).setCell ⟨gb263, 2, none⟩ (.int .i64 ((rd_T39 l0_0 x17_1).f2))).setCell ⟨gb263, 3, none⟩ (.int .i64 ((rd_T39 l0_0 x17_1).f3))).setCell ⟨gb263, 4, none⟩ (.int .i64 ((rd_T39 l0_0 x17_1).f4))).setCell ⟨gb263, 5, none⟩ (.bool ((rd_T39 l0_0 x17_1).f5))).setCell ⟨gb263, 6, none⟩ (.int .i64 ((rd_T39 l0_0 x17_1).f6))).setCell ⟨gb263, 7, none⟩ (.bool ((rd_T39 l0_0 x17_1).f7))).setCell ⟨gb263, 8, none⟩ (.bool ((rd_T39 l0_0 x17_1).f8))).heap[gb263]? = some (.cells #[.string ((rd_T39 l0_0 x17_1).f0), .slice A262_1 ((rd_T39 l0_0 x17_1).f1).length c262_1, .int .i64 ((rd_T39 l0_0 x17_1).f2), .int .i64 ((rd_T39 l0_0 x17_1).f3), .int .i64 ((rd_T39 l0_0 x17_1).f4), .bool ((rd_T39 l0_0 x17_1).f5), .int .i64 ((rd_T39 l0_0 x17_1).f6), .bool ((rd_T39 l0_0 x17_1).f7), .bool ((rd_T39 l0_0 x17_1).f8)] 39 (0, 0))) := ⟨by (with_reducible repeat (first | refine blk_drewN ?_ _ | refine blk_drew ?_ | refine blk_alloc ?_ _)); refine blk_put (cs := #[.string ((rd_T39 l0_0 x17_1).f0), .slice A262_1 ((rd_T39 l0_0 x17_1).f1).length c262_1, .int .i64 ((rd_T39 l0_0 x17_1).f2), .int .i64 ((rd_T39 l0_0 x17_1).f3), .int .i64 ((rd_T39 l0_0 x17_1).f4), .bool ((rd_T39 l0_0 x17_1).f5), .int .i64 ((rd_T39 l0_0 x17_1).f6), .bool ((rd_T39 l0_0 x17_1).f7), .bool false]) ?_ 8 _ rfl; (with_reducible repeat (first | refine blk_drewN ?_ _ | refine blk_drew ?_ | refine blk_alloc ?_ _)); refine blk_put (cs := #[.string ((rd_T39 l0_0 x17_1).f0), .slice A262_1 ((rd_T39 l0_0 x17_1).f1).length c262_1, .int .i64 ((rd_T39 l0_0 x17_1).f2), .int .i64 ((rd_T39 l0_0 x17_1).f3), .int .i64 ((rd_T39 l0_0 x17_1).f4), .bool ((rd_T39 l0_0 x17_1).f5), .int .i64 ((rd_T39 l0_0 x17_1).f6), .bool false, .bool false]) ?_ 7 _ rfl; (with_reducible repeat (first | refine blk_drewN ?_ _ | refine blk_drew ?_ | refine blk_alloc ?_ _)); refine blk_put (cs := #[.string ((rd_T39 l0_0 x17_1).f0), .slice A262_1 ((rd_T39 l0_0 x17_1).f1).length c262_1, .int .i64 ((rd_T39 l0_0 x17_1).f2), .int .i64 ((rd_T39 l0_0 x17_1).f3), .int .i64 ((rd_T39 l0_0 x17_1).f4), .bool ((rd_T39 l0_0 x17_1).f5), .int .i64 0, .bool false, .bool false]) ?_ 6 _ rfl; (with_reducible repeat (first | refine blk_drewN ?_ _ | refine blk_drew ?_ | refine blk_alloc ?_ _)); refine blk_put (cs := #[.string ((rd_T39 l0_0 x17_1).f0), .slice A262_1 ((rd_T39 l0_0 x17_1).f1).length c262_1, .int .i64 ((rd_T39 l0_0 x17_1).f2), .int .i64 ((rd_T39 l0_0 x17_1).f3), .int .i64 ((rd_T39 l0_0 x17_1).f4), .bool false, .int .i64 0, .bool false, .bool false]) ?_ 5 _ rfl; (with_reducible repeat (first | refine blk_drewN ?_ _ | refine blk_drew ?_ | refine blk_alloc ?_ _)); refine blk_put (cs := #[.string ((rd_T39 l0_0 x17_1).f0), .slice A262_1 ((rd_T39 l0_0 x17_1).f1).length c262_1, .int .i64 ((rd_T39 l0_0 x17_1).f2), .int .i64 ((rd_T39 l0_0 x17_1).f3), .int .i64 0, .bool false, .int .i64 0, .bool false, .bool false]) ?_ 4 _ rfl; (with_reducible repeat (first | refine blk_drewN ?_ _ | refine blk_drew ?_ | refine blk_alloc ?_ _)); refine blk_put (cs := #[.string ((rd_T39 l0_0 x17_1).f0), .slice A262_1 ((rd_T39 l0_0 x17_1).f1).length c262_1, .int .i64 ((rd_T39 l0_0 x17_1).f2), .int .i64 0, .int .i64 0, .bool false, .int .i64 0, .bool false, .bool false]) ?_ 3 _ rfl; (with_reducible repeat (first | refine blk_drewN ?_ _ | refine blk_drew ?_ | refine blk_alloc ?_ _)); refine blk_put (cs := #[.string ((rd_T39 l0_0 x17_1).f0), .slice A262_1 ((rd_T39 l0_0 x17_1).f1).length c262_1, .int .i64 0, .int .i64 0, .int .i64 0, .bool false, .int .i64 0, .bool false, .bool false]) ?_ 2 _ rfl; (with_reducible repeat (first | refine blk_drewN ?_ _ | refine blk_drew ?_ | refine blk_alloc ?_ _)); refine blk_put (cs := #[.string ((rd_T39 l0_0 x17_1).f0), .slice none 0 0, .int .i64 0, .int .i64 0, .int .i64 0, .bool false, .int .i64 0, .bool false, .bool false]) ?_ 1 _ rfl; (with_reducible repeat (first | refine blk_drewN ?_ _ | refine blk_drew ?_ | refine blk_alloc ?_ _)); refine blk_put (cs := #[.string (⟨#[]⟩ : ByteArray), .slice none 0 0, .int .i64 0, .int .i64 0, .int .i64 0, .bool false, .int .i64 0, .bool false, .bool false]) ?_ 0 _ rfl; (with_reducible repeat (first | refine blk_drewN ?_ _ | refine blk_drew ?_ | refine blk_alloc ?_ _)); exact BK263.out⟩
                  have n3_ : Aside0 (Below w.heap.size w (((((((((w15.setCell ⟨gb263, 0, none⟩ (.string ((rd_T39 l0_0 x17_1).f0))).setCell ⟨gb263, 1, none⟩ (.slice A262_1 ((rd_T39 l0_0 x17_1).f1).length c262_1)).setCell ⟨gb263, 2, none⟩ (.int .i64 ((rd_T39 l0_0 x17_1).f2))).setCell ⟨gb263, 3, none⟩ (.int .i64 ((rd_T39 l0_0 x17_1).f3))).setCell ⟨gb263, 4, none⟩ (.int .i64 ((rd_T39 l0_0 x17_1).f4))).setCell ⟨gb263, 5, none⟩ (.bool ((rd_T39 l0_0 x17_1).f5))).setCell ⟨gb263, 6, none⟩ (.int .i64 ((rd_T39 l0_0 x17_1).f6))).setCell ⟨gb263, 7, none⟩ (.bool ((rd_T39 l0_0 x17_1).f7))).setCell ⟨gb263, 8, none⟩ (.bool ((rd_T39 l0_0 x17_1).f8)))) := ⟨by repeat (first | (with_reducible first | exact HB.out | apply below_alloc | apply pw_below_drewN | apply below_drew1 | refine below_set ?_ GE260.out | refine below_set ?_ GE261.out | refine below_set ?_ GE263.out) | exact HB.out)⟩
                  (try clear BK260)
                  (try clear BK261)
                  (try clear BK263)
                  (try clear HB)
                  generalize (((((((((w15.setCell ⟨gb263, 0, none⟩ (.string ((rd_T39 l0_0 x17_1).f0))).setCell ⟨gb263, 1, none⟩ (.slice A262_1 ((rd_T39 l0_0 x17_1).f1).length c262_1)).setCell ⟨gb263, 2, none⟩ (.int .i64 ((rd_T39 l0_0 x17_1).f2))).setCell ⟨gb263, 3, none⟩ (.int .i64 ((rd_T39 l0_0 x17_1).f3))).setCell ⟨gb263, 4, none⟩ (.int .i64 ((rd_T39 l0_0 x17_1).f4))).setCell ⟨gb263, 5, none⟩ (.bool ((rd_T39 l0_0 x17_1).f5))).setCell ⟨gb263, 6, none⟩ (.int .i64 ((rd_T39 l0_0 x17_1).f6))).setCell ⟨gb263, 7, none⟩ (.bool ((rd_T39 l0_0 x17_1).f7))).setCell ⟨gb263, 8, none⟩ (.bool ((rd_T39 l0_0 x17_1).f8))) = w19 at n0_ n1_ n2_ n3_ ⊢
                  have BK260 := n0_
                  have BK261 := n1_
                  have BK263 := n2_
                  have HB := n3_
                  clear n0_ n1_ n2_ n3_
                  have n0_ := Aside0.mk (blk_drew BK260.out)
                  have n1_ := Aside0.mk (blk_drew BK261.out)
                  have n2_ := Aside0.mk (blk_drew BK263.out)
                  have n3_ := Aside0.mk (below_drew1 HB.out)
                  clear BK260
                  clear BK261
                  clear BK263
                  clear HB
                  have BK260 := n0_
                  have BK261 := n1_
                  have BK263 := n2_
                  have HB := n3_
                  clear n0_ n1_ n2_ n3_
                  have p264 : 0 ≤ (x17_1 : Int) := of_decide_eq_true (by first | (with_reducible assumption) | assumption)
                  have q264 : x17_1 < (l1_0.length : Int) := of_decide_eq_true (by first | (with_reducible assumption) | assumption)
                  obtain ⟨ad264, A264_1, c264_1, e264, hx264_0, hx264_1, hx264_2, hx264_3, hx264_4, hx264_5, hx264_6, hx264_7, hx264_8, hl264_1, hi264_1⟩ := at_T39 HR1_0.out x17_1 p264 q264
                  have hw264_8 := hx264_8
                  have hw264_7 := hx264_7
                  have hw264_6 := hx264_6
                  have hw264_5 := hx264_5
                  have hw264_4 := hx264_4
                  have hw264_3 := hx264_3
                  have hw264_2 := hx264_2
                  have hw264_1 := hx264_1
                  have hw264_0 := hx264_0
                  cases e264
                  replace hx264_0 := (HB.out.cell (World.block_lt_of_cell? w _ hx264_0)).trans hx264_0
                  replace hx264_1 := (HB.out.cell (World.block_lt_of_cell? w _ hx264_1)).trans hx264_1
                  replace hx264_2 := (HB.out.cell (World.block_lt_of_cell? w _ hx264_2)).trans hx264_2
                  replace hx264_3 := (HB.out.cell (World.block_lt_of_cell? w _ hx264_3)).trans hx264_3
                  replace hx264_4 := (HB.out.cell (World.block_lt_of_cell? w _ hx264_4)).trans hx264_4
                  replace hx264_5 := (HB.out.cell (World.block_lt_of_cell? w _ hx264_5)).trans hx264_5
                  replace hx264_6 := (HB.out.cell (World.block_lt_of_cell? w _ hx264_6)).trans hx264_6
                  replace hx264_7 := (HB.out.cell (World.block_lt_of_cell? w _ hx264_7)).trans hx264_7
                  replace hx264_8 := (HB.out.cell (World.block_lt_of_cell? w _ hx264_8)).trans hx264_8
                  have HR264_1 := Aside0.mk hi264_1
                  have HC264_1 := Aside0.mk hl264_1
                  clear hi264_1 hl264_1
                  replace p264 := eq_true p264
                  replace q264 := eq_true q264
                  refine start_ (n := 8) (S := fun w' => w'.cell? ⟨gb263, 0, none⟩ = some (.string ((rd_T39 l0_0 x17_1).f0)) ∧ w'.cell? ⟨gb263, 1, none⟩ = some (.slice A262_1 ((rd_T39 l0_0 x17_1).f1).length c262_1) ∧ w'.cell? ⟨gb263, 2, none⟩ = some (.int .i64 ((rd_T39 l0_0 x17_1).f2)) ∧ w'.cell? ⟨gb263, 3, none⟩ = some (.int .i64 ((rd_T39 l0_0 x17_1).f3)) ∧ w'.cell? ⟨gb263, 4, none⟩ = some (.int .i64 ((rd_T39 l0_0 x17_1).f4)) ∧ w'.cell? ⟨gb263, 5, none⟩ = some (.bool ((rd_T39 l0_0 x17_1).f5)) ∧ w'.cell? ⟨gb263, 6, none⟩ = some (.int .i64 ((rd_T39 l0_0 x17_1).f6)) ∧ w'.cell? ⟨gb263, 7, none⟩ = some (.bool ((rd_T39 l0_0 x17_1).f7)) ∧ w'.cell? ⟨gb263, 8, none⟩ = some (.bool ((rd_T39 l0_0 x17_1).f8)) ∧ w'.cell? ⟨gb261, 0, none⟩ = some (.slice (some ad264) l1_0.length c1_0) ∧ w'.cell? (ad264.add ((x17_1).toNat * 9)) = some (.string ((rd_T39 l1_0 x17_1).f0)) ∧ w'.cell? ⟨(ad264.add ((x17_1).toNat * 9)).block, (ad264.add ((x17_1).toNat * 9)).off + 1, none⟩ = some (.slice A264_1 ((rd_T39 l1_0 x17_1).f1).length c264_1) ∧ w'.cell? ⟨(ad264.add ((x17_1).toNat * 9)).block, (ad264.add ((x17_1).toNat * 9)).off + 2, none⟩ = some (.int .i64 ((rd_T39 l1_0 x17_1).f2)) ∧ w'.cell? ⟨(ad264.add ((x17_1).toNat * 9)).block, (ad264.add ((x17_1).toNat * 9)).off + 3, none⟩ = some (.int .i64 ((rd_T39 l1_0 x17_1).f3)) ∧ w'.cell? ⟨(ad264.add ((x17_1).toNat * 9)).block, (ad264.add ((x17_1).toNat * 9)).off + 4, none⟩ = some (.int .i64 ((rd_T39 l1_0 x17_1).f4)) ∧ w'.cell? ⟨(ad264.add ((x17_1).toNat * 9)).block, (ad264.add ((x17_1).toNat * 9)).off + 5, none⟩ = some (.bool ((rd_T39 l1_0 x17_1).f5)) ∧ w'.cell? ⟨(ad264.add ((x17_1).toNat * 9)).block, (ad264.add ((x17_1).toNat * 9)).off + 6, none⟩ = some (.int .i64 ((rd_T39 l1_0 x17_1).f6)) ∧ w'.cell? ⟨(ad264.add ((x17_1).toNat * 9)).block, (ad264.add ((x17_1).toNat * 9)).off + 7, none⟩ = some (.bool ((rd_T39 l1_0 x17_1).f7)) ∧ w'.cell? ⟨(ad264.add ((x17_1).toNat * 9)).block, (ad264.add ((x17_1).toNat * 9)).off + 8, none⟩ = some (.bool ((rd_T39 l1_0 x17_1).f8))) (ds := []) #[false, false, false, false, false, false, false, false] (by kernel_rfl) rfl rfl ⟨(blk_cell BK263.out 0).trans rfl, (blk_cell BK263.out 1).trans rfl, (blk_cell BK263.out 2).trans rfl, (blk_cell BK263.out 3).trans rfl, (blk_cell BK263.out 4).trans rfl, (blk_cell BK263.out 5).trans rfl, (blk_cell BK263.out 6).trans rfl, (blk_cell BK263.out 7).trans rfl, (blk_cell BK263.out 8).trans rfl, (blk_cell BK261.out 0).trans rfl, ((HB.out.cell (World.block_lt_of_cell? w _ hw264_0)).trans hw264_0), ((HB.out.cell (World.block_lt_of_cell? w _ hw264_1)).trans hw264_1), ((HB.out.cell (World.block_lt_of_cell? w _ hw264_2)).trans hw264_2), ((HB.out.cell (World.block_lt_of_cell? w _ hw264_3)).trans hw264_3), ((HB.out.cell (World.block_lt_of_cell? w _ hw264_4)).trans hw264_4), ((HB.out.cell (World.block_lt_of_cell? w _ hw264_5)).trans hw264_5), ((HB.out.cell (World.block_lt_of_cell? w _ hw264_6)).trans hw264_6), ((HB.out.cell (World.block_lt_of_cell? w _ hw264_7)).trans hw264_7), ((HB.out.cell (World.block_lt_of_cell? w _ hw264_8)).trans hw264_8)⟩ (fun hHeld => ?_); refine with_tabW diff_Alike.tab6 diff_Alike.bits6 (fun HT_ HW_ => ?_)
                  generalize w19.drew = w20 at BK260 BK261 BK263 HB HR264_1 hx264_0 hx264_1 hx264_2 hx264_3 hx264_4 hx264_5 hx264_6 hx264_7 hx264_8 hHeld ⊢
                  refine pure_ (i := 1) (N := some 23) (v := ?_) (a' := ?_) #[false, true, false, false, false, false, false, false] rfl rfl (any_of HT_.out (by kernel_rfl)) (fun _ _ _ h => h) (Or.inl ⟨by rfl, ?_⟩) ?_ ?_
                  rotate_left
                  · intro w'
                    go_simp
                    with_reducible rfl
                  rotate_left
                  · simp only [Act.put, List.setIfInBounds_toArray, List.set_cons_zero, List.set_cons_succ, i64_w, i32_w]
                    rfl
                  refine pure_ (i := 3) (N := some 25) (v := ?_) (a' := ?_) #[false, true, false, true, false, false, false, false] rfl rfl (any_of HT_.out (by kernel_rfl)) (fun _ _ _ h => h) (Or.inl ⟨by rfl, ?_⟩) ?_ ?_
                  rotate_left
                  · intro w'
                    go_simp
                    with_reducible rfl
                  rotate_left
                  · simp only [Act.put, List.setIfInBounds_toArray, List.set_cons_zero, List.set_cons_succ, i64_w, i32_w]
                    rfl
                  refine take_ (i := 0) (N := some 22) (v := ?_) (a' := ?_) #[true, true, false, true, false, false, false, false] rfl rfl (take_ofW HT_.out HW_.out (by kernel_rfl)) (fun _ _ _ h => h) (Or.inl ⟨by rfl, ?_⟩) hHeld ?_ ?_
                  rotate_left
                  · rintro w' ⟨s0, s1, s2, s3, s4, s5, s6, s7, s8, s9, s10, s11, s12, s13, s14, s15, s16, s17, s18⟩
                    go_simp
                    with_reducible rfl
                  rotate_left
                  · simp only [Act.put, List.setIfInBounds_toArray, List.set_cons_zero, List.set_cons_succ, i64_w, i32_w]
                    rfl
                  refine take_ (i := 2) (N := some 24) (v := ?_) (a' := ?_) #[true, true, true, true, false, false, false, false] rfl rfl (take_ofW HT_.out HW_.out (by kernel_rfl)) (fun _ _ _ h => h) (Or.inl ⟨by rfl, ?_⟩) hHeld ?_ ?_
                  rotate_left
                  · rintro w' ⟨s0, s1, s2, s3, s4, s5, s6, s7, s8, s9, s10, s11, s12, s13, s14, s15, s16, s17, s18⟩
                    go_simp
                    with_reducible rfl
                  rotate_left
                  · simp only [Act.put, List.setIfInBounds_toArray, List.set_cons_zero, List.set_cons_succ, i64_w, i32_w]
                    rfl
                  refine pure_ (i := 4) (N := some 26) (v := ?_) (a' := ?_) #[true, true, true, true, true, false, false, false] rfl rfl (any_of HT_.out (by kernel_rfl)) (fun _ _ _ h => h) (Or.inl ⟨by rfl, ?_⟩) ?_ ?_
                  rotate_left
                  · intro w'
                    go_simp
                    with_reducible rfl
                  rotate_left
                  · simp only [Act.put, List.setIfInBounds_toArray, List.set_cons_zero, List.set_cons_succ, i64_w, i32_w]
                    rfl
                  refine take_ (i := 5) (N := some 27) (v := ?_) (a' := ?_) #[true, true, true, true, true, true, false, false] rfl rfl (take_ofW HT_.out HW_.out (by kernel_rfl)) (fun _ _ _ h => h) (Or.inl ⟨by rfl, ?_⟩) hHeld ?_ ?_
                  rotate_left
                  · rintro w' ⟨s0, s1, s2, s3, s4, s5, s6, s7, s8, s9, s10, s11, s12, s13, s14, s15, s16, s17, s18⟩
                    go_simp
                    with_reducible rfl
                  rotate_left
                  · simp only [Act.put, List.setIfInBounds_toArray, List.set_cons_zero, List.set_cons_succ, i64_w, i32_w]
                    rfl
                  refine one_ (i := 6) (N := some 28) #[true, true, true, true, true, true, true, false] rfl rfl (one_of HT_.out (by kernel_rfl)) (by decide) (fun K hK => ?_)
                  refine goes_ Try.func23 (by kernel_rfl) rfl #[.agg #[.string ((rd_T39 l0_0 x17_1).f0), .slice A262_1 ((rd_T39 l0_0 x17_1).f1).length c262_1, .int .i64 ((rd_T39 l0_0 x17_1).f2), .int .i64 ((rd_T39 l0_0 x17_1).f3), .int .i64 ((rd_T39 l0_0 x17_1).f4), .bool ((rd_T39 l0_0 x17_1).f5), .int .i64 ((rd_T39 l0_0 x17_1).f6), .bool ((rd_T39 l0_0 x17_1).f7), .bool ((rd_T39 l0_0 x17_1).f8)], .agg #[.string ((rd_T39 l1_0 x17_1).f0), .slice A264_1 ((rd_T39 l1_0 x17_1).f1).length c264_1, .int .i64 ((rd_T39 l1_0 x17_1).f2), .int .i64 ((rd_T39 l1_0 x17_1).f3), .int .i64 ((rd_T39 l1_0 x17_1).f4), .bool ((rd_T39 l1_0 x17_1).f5), .int .i64 ((rd_T39 l1_0 x17_1).f6), .bool ((rd_T39 l1_0 x17_1).f7), .bool ((rd_T39 l1_0 x17_1).f8)]] (by rfl) rfl rfl (by (try simp only [List.map_toArray, List.map_cons, List.map_nil]); first | done | rfl | (simp only [List.length_drop, List.length_take]; rfl)) ?_
                  with_reducible refine (lines_Same.calls ((rd_T39 l0_0 x17_1).f0) _ _ ((rd_T39 l0_0 x17_1).f1) ((rd_T39 l0_0 x17_1).f2) ((rd_T39 l0_0 x17_1).f3) ((rd_T39 l0_0 x17_1).f4) ((rd_T39 l0_0 x17_1).f5) ((rd_T39 l0_0 x17_1).f6) ((rd_T39 l0_0 x17_1).f7) ((rd_T39 l0_0 x17_1).f8) ((rd_T39 l1_0 x17_1).f0) _ _ ((rd_T39 l1_0 x17_1).f1) ((rd_T39 l1_0 x17_1).f2) ((rd_T39 l1_0 x17_1).f3) ((rd_T39 l1_0 x17_1).f4) ((rd_T39 l1_0 x17_1).f5) ((rd_T39 l1_0 x17_1).f6) ((rd_T39 l1_0 x17_1).f7) ((rd_T39 l1_0 x17_1).f8) true _ ?side1 ?side2 ?side3 ?side4 A13.out).mono ?_
                  (case side1 => repeat (first | exact (Kd.C_below HR262_1.out HB.out) | (with_reducible refine Kd.C_alloc ?_ _) | (with_reducible refine Kd.C_drewN ?_ _) | (with_reducible refine Kd.C_drew ?_)))
                  (case side2 => exact HC262_1.out)
                  (case side3 => repeat (first | exact (Kd.C_below HR264_1.out HB.out) | (with_reducible refine Kd.C_alloc ?_ _) | (with_reducible refine Kd.C_drewN ?_ _) | (with_reducible refine Kd.C_drew ?_)))
                  (case side4 => exact HC264_1.out)
                  rintro e w21 ⟨rfl, hb⟩
                  refine ⟨_, rfl, ?_⟩
                  have n0_ := Aside0.mk (blk_below (g := gb260) (o := .cells #[.slice (some ad262) l0_0.length c0_0] 31 (0, 0)) (by (with_reducible repeat (first | refine blk_drewN ?_ _ | refine blk_drew ?_ | refine blk_alloc ?_ _)); exact BK260.out) hb)
                  have n1_ := Aside0.mk (blk_below (g := gb261) (o := .cells #[.slice (some ad264) l1_0.length c1_0] 31 (0, 0)) (by (with_reducible repeat (first | refine blk_drewN ?_ _ | refine blk_drew ?_ | refine blk_alloc ?_ _)); exact BK261.out) hb)
                  have n2_ := Aside0.mk (blk_below (g := gb263) (o := .cells #[.string ((rd_T39 l0_0 x17_1).f0), .slice A262_1 ((rd_T39 l0_0 x17_1).f1).length c262_1, .int .i64 ((rd_T39 l0_0 x17_1).f2), .int .i64 ((rd_T39 l0_0 x17_1).f3), .int .i64 ((rd_T39 l0_0 x17_1).f4), .bool ((rd_T39 l0_0 x17_1).f5), .int .i64 ((rd_T39 l0_0 x17_1).f6), .bool ((rd_T39 l0_0 x17_1).f7), .bool ((rd_T39 l0_0 x17_1).f8)] 39 (0, 0)) (by (with_reducible repeat (first | refine blk_drewN ?_ _ | refine blk_drew ?_ | refine blk_alloc ?_ _)); exact BK263.out) hb)
                  have n3_ := Aside0.mk (below_step (by repeat (first | (with_reducible first | exact HB.out | apply below_alloc | apply pw_below_drewN | apply below_drew1 | refine below_set ?_ GE260.out | refine below_set ?_ GE261.out | refine below_set ?_ GE263.out) | exact HB.out)) hb)
                  clear BK260
                  clear BK261
                  clear BK263
                  clear HB
                  have BK260 := n0_
                  have BK261 := n1_
                  have BK263 := n2_
                  have HB := n3_
                  clear n0_ n1_ n2_ n3_
                  (try clear hb)
                  (try clear hb2)
                  (try clear hk)
                  (try clear hi)
                  refine hK.out _ _ ⟨(blk_cell BK263.out 0).trans rfl, (blk_cell BK263.out 1).trans rfl, (blk_cell BK263.out 2).trans rfl, (blk_cell BK263.out 3).trans rfl, (blk_cell BK263.out 4).trans rfl, (blk_cell BK263.out 5).trans rfl, (blk_cell BK263.out 6).trans rfl, (blk_cell BK263.out 7).trans rfl, (blk_cell BK263.out 8).trans rfl, (blk_cell BK261.out 0).trans rfl, ((HB.out.cell (World.block_lt_of_cell? w _ hw264_0)).trans hw264_0), ((HB.out.cell (World.block_lt_of_cell? w _ hw264_1)).trans hw264_1), ((HB.out.cell (World.block_lt_of_cell? w _ hw264_2)).trans hw264_2), ((HB.out.cell (World.block_lt_of_cell? w _ hw264_3)).trans hw264_3), ((HB.out.cell (World.block_lt_of_cell? w _ hw264_4)).trans hw264_4), ((HB.out.cell (World.block_lt_of_cell? w _ hw264_5)).trans hw264_5), ((HB.out.cell (World.block_lt_of_cell? w _ hw264_6)).trans hw264_6), ((HB.out.cell (World.block_lt_of_cell? w _ hw264_7)).trans hw264_7), ((HB.out.cell (World.block_lt_of_cell? w _ hw264_8)).trans hw264_8)⟩ (fun hHeld => ?_)
                  clear hK K
                  refine norm_ (a' := ?_) ?_ ?_
                  rotate_left
                  · show Act.put _ (some 28) _ = _
                    simp only [Act.put, List.setIfInBounds_toArray, List.set_cons_zero, List.set_cons_succ, i64_w, i32_w]
                    rfl
                  refine pure_ (i := 7) (N := some 29) (v := ?_) (a' := ?_) #[true, true, true, true, true, true, true, true] rfl rfl (any_of HT_.out (by kernel_rfl)) (fun _ _ _ h => h) (Or.inl ⟨by rfl, ?_⟩) ?_ ?_
                  rotate_left
                  · intro w'
                    go_simp
                    with_reducible rfl
                  rotate_left
                  · simp only [Act.put, List.setIfInBounds_toArray, List.set_cons_zero, List.set_cons_succ, i64_w, i32_w]
                    rfl
                  refine done_ (done_of HT_.out (by kernel_rfl)) ?_
                  try go_wp2
                  go_roundg k1
                  case measure => have := HK1.out; omega
                  case rel => exact ⟨(wrap64 (x17_1 + 1)), (by first | rfl | (simp; done) | (simp [*]; done)), H', ⟨by have := HK1.out; omega⟩, ⟨by (with_reducible repeat (first | refine blk_drewN ?_ _ | refine blk_drew ?_ | refine blk_alloc ?_ _)); exact BK260.out⟩, ⟨by (with_reducible repeat (first | refine blk_drewN ?_ _ | refine blk_drew ?_ | refine blk_alloc ?_ _)); exact BK261.out⟩, ⟨by repeat (first | (with_reducible first | exact HB.out | apply below_alloc | apply pw_below_drewN | apply below_drew1 | refine below_set ?_ GE260.out | refine below_set ?_ GE261.out | refine below_set ?_ GE263.out) | exact HB.out)⟩⟩
                · replace c14 := Bool.eq_false_iff.mpr c14
                  subst c14
                  have H1 : (some false) = some r := by rw [if_neg (show ¬ (false = true) by decide)] at H; exact H
                  clear H
                  have H := H1
                  clear H1
                  obtain rfl := Option.some.inj H
                  have p262 : 0 ≤ (x17_1 : Int) := of_decide_eq_true (by first | (with_reducible assumption) | assumption)
                  have q262 : x17_1 < (l0_0.length : Int) := of_decide_eq_true (by first | (with_reducible assumption) | assumption)
                  obtain ⟨ad262, A262_1, c262_1, e262, hx262_0, hx262_1, hx262_2, hx262_3, hx262_4, hx262_5, hx262_6, hx262_7, hx262_8, hl262_1, hi262_1⟩ := at_T39 HR0_0.out x17_1 p262 q262
                  cases e262
                  replace hx262_0 := (HB.out.cell (World.block_lt_of_cell? w _ hx262_0)).trans hx262_0
                  replace hx262_1 := (HB.out.cell (World.block_lt_of_cell? w _ hx262_1)).trans hx262_1
                  replace hx262_2 := (HB.out.cell (World.block_lt_of_cell? w _ hx262_2)).trans hx262_2
                  replace hx262_3 := (HB.out.cell (World.block_lt_of_cell? w _ hx262_3)).trans hx262_3
                  replace hx262_4 := (HB.out.cell (World.block_lt_of_cell? w _ hx262_4)).trans hx262_4
                  replace hx262_5 := (HB.out.cell (World.block_lt_of_cell? w _ hx262_5)).trans hx262_5
                  replace hx262_6 := (HB.out.cell (World.block_lt_of_cell? w _ hx262_6)).trans hx262_6
                  replace hx262_7 := (HB.out.cell (World.block_lt_of_cell? w _ hx262_7)).trans hx262_7
                  replace hx262_8 := (HB.out.cell (World.block_lt_of_cell? w _ hx262_8)).trans hx262_8
                  have HR262_1 := Aside0.mk hi262_1
                  have HC262_1 := Aside0.mk hl262_1
                  clear hi262_1 hl262_1
                  replace p262 := eq_true p262
                  replace q262 := eq_true q262
                  try go_wp2_with (first | ((with_reducible refine gate_dst (N := 6) rfl ?_); refine box_event ?hg (N := 6) ?hd (cs := #[.string (⟨#[]⟩ : ByteArray), .slice none 0 0, .int .i64 0, .int .i64 0, .int .i64 0, .bool false, .int .i64 0, .bool false, .bool false]) (t := 39) ?hr ?_; (case hd => rfl); (case hg => rfl); (case hr => first | (go_simp; done) | (go_simp; rfl)); intro gb263 hg w22 hbox hb; have n0_ := Aside0.mk (blk_below (g := gb260) (o := .cells #[.slice (some ad262) l0_0.length c0_0] 31 (0, 0)) (by (with_reducible repeat (first | refine blk_drewN ?_ _ | refine blk_drew ?_ | refine blk_alloc ?_ _)); exact BK260.out) hb); have n1_ := Aside0.mk (blk_below (g := gb261) (o := .cells #[.slice A1_0 l1_0.length c1_0] 31 (0, 0)) (by (with_reducible repeat (first | refine blk_drewN ?_ _ | refine blk_drew ?_ | refine blk_alloc ?_ _)); exact BK261.out) hb); have n2_ := Aside0.mk (below_step (by repeat (first | (with_reducible first | exact HB.out | apply below_alloc | apply pw_below_drewN | apply below_drew1 | refine below_set ?_ GE260.out | refine below_set ?_ GE261.out) | exact HB.out)) hb); have n3_ := Aside0.mk (hbox); have n4_ := Aside0.mk ((by rw [hg]; exact (below_size (by repeat (first | (with_reducible first | exact HB.out | apply below_alloc | apply pw_below_drewN | apply below_drew1 | refine below_set ?_ GE260.out | refine below_set ?_ GE261.out) | exact HB.out))) : w.heap.size ≤ gb263)); have n5_ := Aside0.mk ((by rw [hg]; exact (below_size (by repeat (first | (with_reducible first | exact HB.out | apply below_alloc | apply pw_below_drewN | apply below_drew1 | refine below_set ?_ GE260.out | refine below_set ?_ GE261.out) | exact HB.out))) : w.heap.size ≤ gb263)); have n6_ := Aside0.mk ((by rw [hg]; exact Nat.ne_of_lt (blk_lt (g := gb260) (o := .cells #[.slice (some ad262) l0_0.length c0_0] 31 (0, 0)) (by (with_reducible repeat (first | refine blk_drewN ?_ _ | refine blk_drew ?_ | refine blk_alloc ?_ _)); exact BK260.out)) : gb260 ≠ gb263)); have n7_ := Aside0.mk ((by rw [hg]; exact Nat.ne_of_gt (blk_lt (g := gb260) (o := .cells #[.slice (some ad262) l0_0.length c0_0] 31 (0, 0)) (by (with_reducible repeat (first | refine blk_drewN ?_ _ | refine blk_drew ?_ | refine blk_alloc ?_ _)); exact BK260.out)) : gb263 ≠ gb260)); have n8_ := Aside0.mk ((by rw [hg]; exact Nat.ne_of_lt (blk_lt (g := gb261) (o := .cells #[.slice A1_0 l1_0.length c1_0] 31 (0, 0)) (by (with_reducible repeat (first | refine blk_drewN ?_ _ | refine blk_drew ?_ | refine blk_alloc ?_ _)); exact BK261.out)) : gb261 ≠ gb263)); have n9_ := Aside0.mk ((by rw [hg]; exact Nat.ne_of_gt (blk_lt (g := gb261) (o := .cells #[.slice A1_0 l1_0.length c1_0] 31 (0, 0)) (by (with_reducible repeat (first | refine blk_drewN ?_ _ | refine blk_drew ?_ | refine blk_alloc ?_ _)); exact BK261.out)) : gb263 ≠ gb261)); clear BK260; clear BK261; clear HB; have BK260 := n0_; have BK261 := n1_; have HB := n2_; have BK263 := n3_; have GW263 := n4_; have GE263 := n5_; have NB260_263 := n6_; have NB263_260 := n7_; have NB261_263 := n8_; have NB263_261 := n9_; clear n0_ n1_ n2_ n3_ n4_ n5_ n6_ n7_ n8_ n9_; clear hb hbox hg; have hnb23 := NB263_260.out; have hnc23 := NB260_263.out; have hnb24 := NB263_261.out; have hnc24 := NB261_263.out; have hcz25_0 : w22.cell? ⟨gb263, 0, none⟩ = some (.string (⟨#[]⟩ : ByteArray)) := (blk_cell BK263.out 0).trans rfl; have hcz25_1 : w22.cell? ⟨gb263, 1, none⟩ = some (.slice none 0 0) := (blk_cell BK263.out 1).trans rfl; have hcz25_2 : w22.cell? ⟨gb263, 2, none⟩ = some (.int .i64 0) := (blk_cell BK263.out 2).trans rfl; have hcz25_3 : w22.cell? ⟨gb263, 3, none⟩ = some (.int .i64 0) := (blk_cell BK263.out 3).trans rfl; have hcz25_4 : w22.cell? ⟨gb263, 4, none⟩ = some (.int .i64 0) := (blk_cell BK263.out 4).trans rfl; have hcz25_5 : w22.cell? ⟨gb263, 5, none⟩ = some (.bool false) := (blk_cell BK263.out 5).trans rfl; have hcz25_6 : w22.cell? ⟨gb263, 6, none⟩ = some (.int .i64 0) := (blk_cell BK263.out 6).trans rfl; have hcz25_7 : w22.cell? ⟨gb263, 7, none⟩ = some (.bool false) := (blk_cell BK263.out 7).trans rfl; have hcz25_8 : w22.cell? ⟨gb263, 8, none⟩ = some (.bool false) := (blk_cell BK263.out 8).trans rfl; have hfz25_0 := blk_frozen BK263.out 0; have hfz25_1 := blk_frozen BK263.out 1; have hfz25_2 := blk_frozen BK263.out 2; have hfz25_3 := blk_frozen BK263.out 3; have hfz25_4 := blk_frozen BK263.out 4; have hfz25_5 := blk_frozen BK263.out 5; have hfz25_6 := blk_frozen BK263.out 6; have hfz25_7 := blk_frozen BK263.out 7; have hfz25_8 := blk_frozen BK263.out 8))
                  have n0_ : Aside0 ((((((((((w22.setCell ⟨gb263, 0, none⟩ (.string ((rd_T39 l0_0 x17_1).f0))).setCell ⟨gb263, 1, none⟩ (.slice A262_1 ((rd_T39 l0_0 x17_1).f1).length c262_1)).setCell ⟨gb263, 2, none⟩ (.int .i64 ((rd_T39 l0_0 x17_1).f2))).setCell ⟨gb263, 3, none⟩ (.int .i64 ((rd_T39 l0_0 x17_1).f3))).setCell ⟨gb263, 4, none⟩ (.int .i64 ((rd_T39 l0_0 x17_1).f4))).setCell ⟨gb263, 5, none⟩ (.bool ((rd_T39 l0_0 x17_1).f5))).setCell ⟨gb263, 6, none⟩ (.int .i64 ((rd_T39 l0_0 x17_1).f6))).setCell ⟨gb263, 7, none⟩ (.bool ((rd_T39 l0_0 x17_1).f7))).setCell ⟨gb263, 8, none⟩ (.bool ((rd_T39 l0_0 x17_1).f8))).heap[gb260]? = some (.cells #[.slice (some ad262) l0_0.length c0_0] 31 (0, 0))) := ⟨by (with_reducible repeat (first | refine blk_drewN ?_ _ | refine blk_drew ?_ | refine blk_alloc ?_ _)); refine blk_far ?_ NB260_263.out _; (with_reducible repeat (first | refine blk_drewN ?_ _ | refine blk_drew ?_ | refine blk_alloc ?_ _)); refine blk_far ?_ NB260_263.out _; (with_reducible repeat (first | refine blk_drewN ?_ _ | refine blk_drew ?_ | refine blk_alloc ?_ _)); refine blk_far ?_ NB260_263.out _; (with_reducible repeat (first | refine blk_drewN ?_ _ | refine blk_drew ?_ | refine blk_alloc ?_ _)); refine blk_far ?_ NB260_263.out _; (with_reducible repeat (first | refine blk_drewN ?_ _ | refine blk_drew ?_ | refine blk_alloc ?_ _)); refine blk_far ?_ NB260_263.out _; (with_reducible repeat (first | refine blk_drewN ?_ _ | refine blk_drew ?_ | refine blk_alloc ?_ _)); refine blk_far ?_ NB260_263.out _; (with_reducible repeat (first | refine blk_drewN ?_ _ | refine blk_drew ?_ | refine blk_alloc ?_ _)); refine blk_far ?_ NB260_263.out _; (with_reducible repeat (first | refine blk_drewN ?_ _ | refine blk_drew ?_ | refine blk_alloc ?_ _)); refine blk_far ?_ NB260_263.out _; (with_reducible repeat (first | refine blk_drewN ?_ _ | refine blk_drew ?_ | refine blk_alloc ?_ _)); refine blk_far ?_ NB260_263.out _; (with_reducible repeat (first | refine blk_drewN ?_ _ | refine blk_drew ?_ | refine blk_alloc ?_ _)); exact BK260.out⟩
                  have n1_ : Aside0 ((((((((((w22.setCell ⟨gb263, 0, none⟩ (.string ((rd_T39 l0_0 x17_1).f0))).setCell ⟨gb263, 1, none⟩ (.slice A262_1 ((rd_T39 l0_0 x17_1).f1).length c262_1)).setCell ⟨gb263, 2, none⟩ (.int .i64 ((rd_T39 l0_0 x17_1).f2))).setCell ⟨gb263, 3, none⟩ (.int .i64 ((rd_T39 l0_0 x17_1).f3))).setCell ⟨gb263, 4, none⟩ (.int .i64 ((rd_T39 l0_0 x17_1).f4))).setCell ⟨gb263, 5, none⟩ (.bool ((rd_T39 l0_0 x17_1).f5))).setCell ⟨gb263, 6, none⟩ (.int .i64 ((rd_T39 l0_0 x17_1).f6))).setCell ⟨gb263, 7, none⟩ (.bool ((rd_T39 l0_0 x17_1).f7))).setCell ⟨gb263, 8, none⟩ (.bool ((rd_T39 l0_0 x17_1).f8))).heap[gb261]? = some (.cells #[.slice A1_0 l1_0.length c1_0] 31 (0, 0))) := ⟨by (with_reducible repeat (first | refine blk_drewN ?_ _ | refine blk_drew ?_ | refine blk_alloc ?_ _)); refine blk_far ?_ NB261_263.out _; (with_reducible repeat (first | refine blk_drewN ?_ _ | refine blk_drew ?_ | refine blk_alloc ?_ _)); refine blk_far ?_ NB261_263.out _; (with_reducible repeat (first | refine blk_drewN ?_ _ | refine blk_drew ?_ | refine blk_alloc ?_ _)); refine blk_far ?_ NB261_263.out _; (with_reducible repeat (first | refine blk_drewN ?_ _ | refine blk_drew ?_ | refine blk_alloc ?_ _)); refine blk_far ?_ NB261_263.out _; (with_reducible repeat (first | refine blk_drewN ?_ _ | refine blk_drew ?_ | refine blk_alloc ?_ _)); refine blk_far ?_ NB261_263.out _; (with_reducible repeat (first | refine blk_drewN ?_ _ | refine blk_drew ?_ | refine blk_alloc ?_ _)); refine blk_far ?_ NB261_263.out _; (with_reducible repeat (first | refine blk_drewN ?_ _ | refine blk_drew ?_ | refine blk_alloc ?_ _)); refine blk_far ?_ NB261_263.out _; (with_reducible repeat (first | refine blk_drewN ?_ _ | refine blk_drew ?_ | refine blk_alloc ?_ _)); refine blk_far ?_ NB261_263.out _; (with_reducible repeat (first | refine blk_drewN ?_ _ | refine blk_drew ?_ | refine blk_alloc ?_ _)); refine blk_far ?_ NB261_263.out _; (with_reducible repeat (first | refine blk_drewN ?_ _ | refine blk_drew ?_ | refine blk_alloc ?_ _)); exact BK261.out⟩
                  have n2_ : Aside0 ((((((((((w22.setCell ⟨gb263, 0, none⟩ (.string ((rd_T39 l0_0 x17_1).f0))).setCell ⟨gb263, 1, none⟩ (.slice A262_1 ((rd_T39 l0_0 x17_1).f1).length c262_1)).setCell ⟨gb263, 2, none⟩ (.int .i64 ((rd_T39 l0_0 x17_1).f2))).setCell ⟨gb263, 3, none⟩ (.int .i64 ((rd_T39 l0_0 x17_1).f3))).setCell ⟨gb263, 4, none⟩ (.int .i64 ((rd_T39 l0_0 x17_1).f4))).setCell ⟨gb263, 5, none⟩ (.bool ((rd_T39 l0_0 x17_1).f5))).setCell ⟨gb263, 6, none⟩ (.int .i64 ((rd_T39 l0_0 x17_1).f6))).setCell ⟨gb263, 7, none⟩ (.bool ((rd_T39 l0_0 x17_1).f7))).setCell ⟨gb263, 8, none⟩ (.bool ((rd_T39 l0_0 x17_1).f8))).heap[gb263]? = some (.cells #[.string ((rd_T39 l0_0 x17_1).f0), .slice A262_1 ((rd_T39 l0_0 x17_1).f1).length c262_1, .int .i64 ((rd_T39 l0_0 x17_1).f2), .int .i64 ((rd_T39 l0_0 x17_1).f3), .int .i64 ((rd_T39 l0_0 x17_1).f4), .bool ((rd_T39 l0_0 x17_1).f5), .int .i64 ((rd_T39 l0_0 x17_1).f6), .bool ((rd_T39 l0_0 x17_1).f7), .bool ((rd_T39 l0_0 x17_1).f8)] 39 (0, 0))) := ⟨by (with_reducible repeat (first | refine blk_drewN ?_ _ | refine blk_drew ?_ | refine blk_alloc ?_ _)); refine blk_put (cs := #[.string ((rd_T39 l0_0 x17_1).f0), .slice A262_1 ((rd_T39 l0_0 x17_1).f1).length c262_1, .int .i64 ((rd_T39 l0_0 x17_1).f2), .int .i64 ((rd_T39 l0_0 x17_1).f3), .int .i64 ((rd_T39 l0_0 x17_1).f4), .bool ((rd_T39 l0_0 x17_1).f5), .int .i64 ((rd_T39 l0_0 x17_1).f6), .bool ((rd_T39 l0_0 x17_1).f7), .bool false]) ?_ 8 _ rfl; (with_reducible repeat (first | refine blk_drewN ?_ _ | refine blk_drew ?_ | refine blk_alloc ?_ _)); refine blk_put (cs := #[.string ((rd_T39 l0_0 x17_1).f0), .slice A262_1 ((rd_T39 l0_0 x17_1).f1).length c262_1, .int .i64 ((rd_T39 l0_0 x17_1).f2), .int .i64 ((rd_T39 l0_0 x17_1).f3), .int .i64 ((rd_T39 l0_0 x17_1).f4), .bool ((rd_T39 l0_0 x17_1).f5), .int .i64 ((rd_T39 l0_0 x17_1).f6), .bool false, .bool false]) ?_ 7 _ rfl; (with_reducible repeat (first | refine blk_drewN ?_ _ | refine blk_drew ?_ | refine blk_alloc ?_ _)); refine blk_put (cs := #[.string ((rd_T39 l0_0 x17_1).f0), .slice A262_1 ((rd_T39 l0_0 x17_1).f1).length c262_1, .int .i64 ((rd_T39 l0_0 x17_1).f2), .int .i64 ((rd_T39 l0_0 x17_1).f3), .int .i64 ((rd_T39 l0_0 x17_1).f4), .bool ((rd_T39 l0_0 x17_1).f5), .int .i64 0, .bool false, .bool false]) ?_ 6 _ rfl; (with_reducible repeat (first | refine blk_drewN ?_ _ | refine blk_drew ?_ | refine blk_alloc ?_ _)); refine blk_put (cs := #[.string ((rd_T39 l0_0 x17_1).f0), .slice A262_1 ((rd_T39 l0_0 x17_1).f1).length c262_1, .int .i64 ((rd_T39 l0_0 x17_1).f2), .int .i64 ((rd_T39 l0_0 x17_1).f3), .int .i64 ((rd_T39 l0_0 x17_1).f4), .bool false, .int .i64 0, .bool false, .bool false]) ?_ 5 _ rfl; (with_reducible repeat (first | refine blk_drewN ?_ _ | refine blk_drew ?_ | refine blk_alloc ?_ _)); refine blk_put (cs := #[.string ((rd_T39 l0_0 x17_1).f0), .slice A262_1 ((rd_T39 l0_0 x17_1).f1).length c262_1, .int .i64 ((rd_T39 l0_0 x17_1).f2), .int .i64 ((rd_T39 l0_0 x17_1).f3), .int .i64 0, .bool false, .int .i64 0, .bool false, .bool false]) ?_ 4 _ rfl; (with_reducible repeat (first | refine blk_drewN ?_ _ | refine blk_drew ?_ | refine blk_alloc ?_ _)); refine blk_put (cs := #[.string ((rd_T39 l0_0 x17_1).f0), .slice A262_1 ((rd_T39 l0_0 x17_1).f1).length c262_1, .int .i64 ((rd_T39 l0_0 x17_1).f2), .int .i64 0, .int .i64 0, .bool false, .int .i64 0, .bool false, .bool false]) ?_ 3 _ rfl; (with_reducible repeat (first | refine blk_drewN ?_ _ | refine blk_drew ?_ | refine blk_alloc ?_ _)); refine blk_put (cs := #[.string ((rd_T39 l0_0 x17_1).f0), .slice A262_1 ((rd_T39 l0_0 x17_1).f1).length c262_1, .int .i64 0, .int .i64 0, .int .i64 0, .bool false, .int .i64 0, .bool false, .bool false]) ?_ 2 _ rfl; (with_reducible repeat (first | refine blk_drewN ?_ _ | refine blk_drew ?_ | refine blk_alloc ?_ _)); refine blk_put (cs := #[.string ((rd_T39 l0_0 x17_1).f0), .slice none 0 0, .int .i64 0, .int .i64 0, .int .i64 0, .bool false, .int .i64 0, .bool false, .bool false]) ?_ 1 _ rfl; (with_reducible repeat (first | refine blk_drewN ?_ _ | refine blk_drew ?_ | refine blk_alloc ?_ _)); refine blk_put (cs := #[.string (⟨#[]⟩ : ByteArray), .slice none 0 0, .int .i64 0, .int .i64 0, .int .i64 0, .bool false, .int .i64 0, .bool false, .bool false]) ?_ 0 _ rfl; (with_reducible repeat (first | refine blk_drewN ?_ _ | refine blk_drew ?_ | refine blk_alloc ?_ _)); exact BK263.out⟩
                  have n3_ : Aside0 (Below w.heap.size w (((((((((w22.setCell ⟨gb263, 0, none⟩ (.string ((rd_T39 l0_0 x17_1).f0))).setCell ⟨gb263, 1, none⟩ (.slice A262_1 ((rd_T39 l0_0 x17_1).f1).length c262_1)).setCell ⟨gb263, 2, none⟩ (.int .i64 ((rd_T39 l0_0 x17_1).f2))).setCell ⟨gb263, 3, none⟩ (.int .i64 ((rd_T39 l0_0 x17_1).f3))).setCell ⟨gb263, 4, none⟩ (.int .i64 ((rd_T39 l0_0 x17_1).f4))).setCell ⟨gb263, 5, none⟩ (.bool ((rd_T39 l0_0 x17_1).f5))).setCell ⟨gb263, 6, none⟩ (.int .i64 ((rd_T39 l0_0 x17_1).f6))).setCell ⟨gb263, 7, none⟩ (.bool ((rd_T39 l0_0 x17_1).f7))).setCell ⟨gb263, 8, none⟩ (.bool ((rd_T39 l0_0 x17_1).f8)))) := ⟨by repeat (first | (with_reducible first | exact HB.out | apply below_alloc | apply pw_below_drewN | apply below_drew1 | refine below_set ?_ GE260.out | refine below_set ?_ GE261.out | refine below_set ?_ GE263.out) | exact HB.out)⟩
                  (try clear BK260)
                  (try clear BK261)
                  (try clear BK263)
                  (try clear HB)
                  generalize (((((((((w22.setCell ⟨gb263, 0, none⟩ (.string ((rd_T39 l0_0 x17_1).f0))).setCell ⟨gb263, 1, none⟩ (.slice A262_1 ((rd_T39 l0_0 x17_1).f1).length c262_1)).setCell ⟨gb263, 2, none⟩ (.int .i64 ((rd_T39 l0_0 x17_1).f2))).setCell ⟨gb263, 3, none⟩ (.int .i64 ((rd_T39 l0_0 x17_1).f3))).setCell ⟨gb263, 4, none⟩ (.int .i64 ((rd_T39 l0_0 x17_1).f4))).setCell ⟨gb263, 5, none⟩ (.bool ((rd_T39 l0_0 x17_1).f5))).setCell ⟨gb263, 6, none⟩ (.int .i64 ((rd_T39 l0_0 x17_1).f6))).setCell ⟨gb263, 7, none⟩ (.bool ((rd_T39 l0_0 x17_1).f7))).setCell ⟨gb263, 8, none⟩ (.bool ((rd_T39 l0_0 x17_1).f8))) = w26 at n0_ n1_ n2_ n3_ ⊢
                  have BK260 := n0_
                  have BK261 := n1_
                  have BK263 := n2_
                  have HB := n3_
                  clear n0_ n1_ n2_ n3_
                  have n0_ := Aside0.mk (blk_drew BK260.out)
                  have n1_ := Aside0.mk (blk_drew BK261.out)
                  have n2_ := Aside0.mk (blk_drew BK263.out)
                  have n3_ := Aside0.mk (below_drew1 HB.out)
                  clear BK260
                  clear BK261
                  clear BK263
                  clear HB
                  have BK260 := n0_
                  have BK261 := n1_
                  have BK263 := n2_
                  have HB := n3_
                  clear n0_ n1_ n2_ n3_
                  have p264 : 0 ≤ (x17_1 : Int) := of_decide_eq_true (by first | (with_reducible assumption) | assumption)
                  have q264 : x17_1 < (l1_0.length : Int) := of_decide_eq_true (by first | (with_reducible assumption) | assumption)
                  obtain ⟨ad264, A264_1, c264_1, e264, hx264_0, hx264_1, hx264_2, hx264_3, hx264_4, hx264_5, hx264_6, hx264_7, hx264_8, hl264_1, hi264_1⟩ := at_T39 HR1_0.out x17_1 p264 q264
                  have hw264_8 := hx264_8
                  have hw264_7 := hx264_7
                  have hw264_6 := hx264_6
                  have hw264_5 := hx264_5
                  have hw264_4 := hx264_4
                  have hw264_3 := hx264_3
                  have hw264_2 := hx264_2
                  have hw264_1 := hx264_1
                  have hw264_0 := hx264_0
                  cases e264
                  replace hx264_0 := (HB.out.cell (World.block_lt_of_cell? w _ hx264_0)).trans hx264_0
                  replace hx264_1 := (HB.out.cell (World.block_lt_of_cell? w _ hx264_1)).trans hx264_1
                  replace hx264_2 := (HB.out.cell (World.block_lt_of_cell? w _ hx264_2)).trans hx264_2
                  replace hx264_3 := (HB.out.cell (World.block_lt_of_cell? w _ hx264_3)).trans hx264_3
                  replace hx264_4 := (HB.out.cell (World.block_lt_of_cell? w _ hx264_4)).trans hx264_4
                  replace hx264_5 := (HB.out.cell (World.block_lt_of_cell? w _ hx264_5)).trans hx264_5
                  replace hx264_6 := (HB.out.cell (World.block_lt_of_cell? w _ hx264_6)).trans hx264_6
                  replace hx264_7 := (HB.out.cell (World.block_lt_of_cell? w _ hx264_7)).trans hx264_7
                  replace hx264_8 := (HB.out.cell (World.block_lt_of_cell? w _ hx264_8)).trans hx264_8
                  have HR264_1 := Aside0.mk hi264_1
                  have HC264_1 := Aside0.mk hl264_1
                  clear hi264_1 hl264_1
                  replace p264 := eq_true p264
                  replace q264 := eq_true q264
                  refine start_ (n := 8) (S := fun w' => w'.cell? ⟨gb263, 0, none⟩ = some (.string ((rd_T39 l0_0 x17_1).f0)) ∧ w'.cell? ⟨gb263, 1, none⟩ = some (.slice A262_1 ((rd_T39 l0_0 x17_1).f1).length c262_1) ∧ w'.cell? ⟨gb263, 2, none⟩ = some (.int .i64 ((rd_T39 l0_0 x17_1).f2)) ∧ w'.cell? ⟨gb263, 3, none⟩ = some (.int .i64 ((rd_T39 l0_0 x17_1).f3)) ∧ w'.cell? ⟨gb263, 4, none⟩ = some (.int .i64 ((rd_T39 l0_0 x17_1).f4)) ∧ w'.cell? ⟨gb263, 5, none⟩ = some (.bool ((rd_T39 l0_0 x17_1).f5)) ∧ w'.cell? ⟨gb263, 6, none⟩ = some (.int .i64 ((rd_T39 l0_0 x17_1).f6)) ∧ w'.cell? ⟨gb263, 7, none⟩ = some (.bool ((rd_T39 l0_0 x17_1).f7)) ∧ w'.cell? ⟨gb263, 8, none⟩ = some (.bool ((rd_T39 l0_0 x17_1).f8)) ∧ w'.cell? ⟨gb261, 0, none⟩ = some (.slice (some ad264) l1_0.length c1_0) ∧ w'.cell? (ad264.add ((x17_1).toNat * 9)) = some (.string ((rd_T39 l1_0 x17_1).f0)) ∧ w'.cell? ⟨(ad264.add ((x17_1).toNat * 9)).block, (ad264.add ((x17_1).toNat * 9)).off + 1, none⟩ = some (.slice A264_1 ((rd_T39 l1_0 x17_1).f1).length c264_1) ∧ w'.cell? ⟨(ad264.add ((x17_1).toNat * 9)).block, (ad264.add ((x17_1).toNat * 9)).off + 2, none⟩ = some (.int .i64 ((rd_T39 l1_0 x17_1).f2)) ∧ w'.cell? ⟨(ad264.add ((x17_1).toNat * 9)).block, (ad264.add ((x17_1).toNat * 9)).off + 3, none⟩ = some (.int .i64 ((rd_T39 l1_0 x17_1).f3)) ∧ w'.cell? ⟨(ad264.add ((x17_1).toNat * 9)).block, (ad264.add ((x17_1).toNat * 9)).off + 4, none⟩ = some (.int .i64 ((rd_T39 l1_0 x17_1).f4)) ∧ w'.cell? ⟨(ad264.add ((x17_1).toNat * 9)).block, (ad264.add ((x17_1).toNat * 9)).off + 5, none⟩ = some (.bool ((rd_T39 l1_0 x17_1).f5)) ∧ w'.cell? ⟨(ad264.add ((x17_1).toNat * 9)).block, (ad264.add ((x17_1).toNat * 9)).off + 6, none⟩ = some (.int .i64 ((rd_T39 l1_0 x17_1).f6)) ∧ w'.cell? ⟨(ad264.add ((x17_1).toNat * 9)).block, (ad264.add ((x17_1).toNat * 9)).off + 7, none⟩ = some (.bool ((rd_T39 l1_0 x17_1).f7)) ∧ w'.cell? ⟨(ad264.add ((x17_1).toNat * 9)).block, (ad264.add ((x17_1).toNat * 9)).off + 8, none⟩ = some (.bool ((rd_T39 l1_0 x17_1).f8))) (ds := []) #[false, false, false, false, false, false, false, false] (by kernel_rfl) rfl rfl ⟨(blk_cell BK263.out 0).trans rfl, (blk_cell BK263.out 1).trans rfl, (blk_cell BK263.out 2).trans rfl, (blk_cell BK263.out 3).trans rfl, (blk_cell BK263.out 4).trans rfl, (blk_cell BK263.out 5).trans rfl, (blk_cell BK263.out 6).trans rfl, (blk_cell BK263.out 7).trans rfl, (blk_cell BK263.out 8).trans rfl, (blk_cell BK261.out 0).trans rfl, ((HB.out.cell (World.block_lt_of_cell? w _ hw264_0)).trans hw264_0), ((HB.out.cell (World.block_lt_of_cell? w _ hw264_1)).trans hw264_1), ((HB.out.cell (World.block_lt_of_cell? w _ hw264_2)).trans hw264_2), ((HB.out.cell (World.block_lt_of_cell? w _ hw264_3)).trans hw264_3), ((HB.out.cell (World.block_lt_of_cell? w _ hw264_4)).trans hw264_4), ((HB.out.cell (World.block_lt_of_cell? w _ hw264_5)).trans hw264_5), ((HB.out.cell (World.block_lt_of_cell? w _ hw264_6)).trans hw264_6), ((HB.out.cell (World.block_lt_of_cell? w _ hw264_7)).trans hw264_7), ((HB.out.cell (World.block_lt_of_cell? w _ hw264_8)).trans hw264_8)⟩ (fun hHeld => ?_); refine with_tabW diff_Alike.tab6 diff_Alike.bits6 (fun HT_ HW_ => ?_)
                  generalize w26.drew = w27 at BK260 BK261 BK263 HB HR264_1 hx264_0 hx264_1 hx264_2 hx264_3 hx264_4 hx264_5 hx264_6 hx264_7 hx264_8 hHeld ⊢
                  refine pure_ (i := 1) (N := some 23) (v := ?_) (a' := ?_) #[false, true, false, false, false, false, false, false] rfl rfl (any_of HT_.out (by kernel_rfl)) (fun _ _ _ h => h) (Or.inl ⟨by rfl, ?_⟩) ?_ ?_
                  rotate_left
                  · intro w'
                    go_simp
                    with_reducible rfl
                  rotate_left
                  · simp only [Act.put, List.setIfInBounds_toArray, List.set_cons_zero, List.set_cons_succ, i64_w, i32_w]
                    rfl
                  refine pure_ (i := 3) (N := some 25) (v := ?_) (a' := ?_) #[false, true, false, true, false, false, false, false] rfl rfl (any_of HT_.out (by kernel_rfl)) (fun _ _ _ h => h) (Or.inl ⟨by rfl, ?_⟩) ?_ ?_
                  rotate_left
                  · intro w'
                    go_simp
                    with_reducible rfl
                  rotate_left
                  · simp only [Act.put, List.setIfInBounds_toArray, List.set_cons_zero, List.set_cons_succ, i64_w, i32_w]
                    rfl
                  refine take_ (i := 0) (N := some 22) (v := ?_) (a' := ?_) #[true, true, false, true, false, false, false, false] rfl rfl (take_ofW HT_.out HW_.out (by kernel_rfl)) (fun _ _ _ h => h) (Or.inl ⟨by rfl, ?_⟩) hHeld ?_ ?_
                  rotate_left
                  · rintro w' ⟨s0, s1, s2, s3, s4, s5, s6, s7, s8, s9, s10, s11, s12, s13, s14, s15, s16, s17, s18⟩
                    go_simp
                    with_reducible rfl
                  rotate_left
                  · simp only [Act.put, List.setIfInBounds_toArray, List.set_cons_zero, List.set_cons_succ, i64_w, i32_w]
                    rfl
                  refine take_ (i := 2) (N := some 24) (v := ?_) (a' := ?_) #[true, true, true, true, false, false, false, false] rfl rfl (take_ofW HT_.out HW_.out (by kernel_rfl)) (fun _ _ _ h => h) (Or.inl ⟨by rfl, ?_⟩) hHeld ?_ ?_
                  rotate_left
                  · rintro w' ⟨s0, s1, s2, s3, s4, s5, s6, s7, s8, s9, s10, s11, s12, s13, s14, s15, s16, s17, s18⟩
                    go_simp
                    with_reducible rfl
                  rotate_left
                  · simp only [Act.put, List.setIfInBounds_toArray, List.set_cons_zero, List.set_cons_succ, i64_w, i32_w]
                    rfl
                  refine pure_ (i := 4) (N := some 26) (v := ?_) (a' := ?_) #[true, true, true, true, true, false, false, false] rfl rfl (any_of HT_.out (by kernel_rfl)) (fun _ _ _ h => h) (Or.inl ⟨by rfl, ?_⟩) ?_ ?_
                  rotate_left
                  · intro w'
                    go_simp
                    with_reducible rfl
                  rotate_left
                  · simp only [Act.put, List.setIfInBounds_toArray, List.set_cons_zero, List.set_cons_succ, i64_w, i32_w]
                    rfl
                  refine take_ (i := 5) (N := some 27) (v := ?_) (a' := ?_) #[true, true, true, true, true, true, false, false] rfl rfl (take_ofW HT_.out HW_.out (by kernel_rfl)) (fun _ _ _ h => h) (Or.inl ⟨by rfl, ?_⟩) hHeld ?_ ?_
                  rotate_left
                  · rintro w' ⟨s0, s1, s2, s3, s4, s5, s6, s7, s8, s9, s10, s11, s12, s13, s14, s15, s16, s17, s18⟩
                    go_simp
                    with_reducible rfl
                  rotate_left
                  · simp only [Act.put, List.setIfInBounds_toArray, List.set_cons_zero, List.set_cons_succ, i64_w, i32_w]
                    rfl
                  refine one_ (i := 6) (N := some 28) #[true, true, true, true, true, true, true, false] rfl rfl (one_of HT_.out (by kernel_rfl)) (by decide) (fun K hK => ?_)
                  refine goes_ Try.func23 (by kernel_rfl) rfl #[.agg #[.string ((rd_T39 l0_0 x17_1).f0), .slice A262_1 ((rd_T39 l0_0 x17_1).f1).length c262_1, .int .i64 ((rd_T39 l0_0 x17_1).f2), .int .i64 ((rd_T39 l0_0 x17_1).f3), .int .i64 ((rd_T39 l0_0 x17_1).f4), .bool ((rd_T39 l0_0 x17_1).f5), .int .i64 ((rd_T39 l0_0 x17_1).f6), .bool ((rd_T39 l0_0 x17_1).f7), .bool ((rd_T39 l0_0 x17_1).f8)], .agg #[.string ((rd_T39 l1_0 x17_1).f0), .slice A264_1 ((rd_T39 l1_0 x17_1).f1).length c264_1, .int .i64 ((rd_T39 l1_0 x17_1).f2), .int .i64 ((rd_T39 l1_0 x17_1).f3), .int .i64 ((rd_T39 l1_0 x17_1).f4), .bool ((rd_T39 l1_0 x17_1).f5), .int .i64 ((rd_T39 l1_0 x17_1).f6), .bool ((rd_T39 l1_0 x17_1).f7), .bool ((rd_T39 l1_0 x17_1).f8)]] (by rfl) rfl rfl (by (try simp only [List.map_toArray, List.map_cons, List.map_nil]); first | done | rfl | (simp only [List.length_drop, List.length_take]; rfl)) ?_
                  with_reducible refine (lines_Same.calls ((rd_T39 l0_0 x17_1).f0) _ _ ((rd_T39 l0_0 x17_1).f1) ((rd_T39 l0_0 x17_1).f2) ((rd_T39 l0_0 x17_1).f3) ((rd_T39 l0_0 x17_1).f4) ((rd_T39 l0_0 x17_1).f5) ((rd_T39 l0_0 x17_1).f6) ((rd_T39 l0_0 x17_1).f7) ((rd_T39 l0_0 x17_1).f8) ((rd_T39 l1_0 x17_1).f0) _ _ ((rd_T39 l1_0 x17_1).f1) ((rd_T39 l1_0 x17_1).f2) ((rd_T39 l1_0 x17_1).f3) ((rd_T39 l1_0 x17_1).f4) ((rd_T39 l1_0 x17_1).f5) ((rd_T39 l1_0 x17_1).f6) ((rd_T39 l1_0 x17_1).f7) ((rd_T39 l1_0 x17_1).f8) false _ ?side1 ?side2 ?side3 ?side4 A13.out).mono ?_
                  (case side1 => repeat (first | exact (Kd.C_below HR262_1.out HB.out) | (with_reducible refine Kd.C_alloc ?_ _) | (with_reducible refine Kd.C_drewN ?_ _) | (with_reducible refine Kd.C_drew ?_)))
                  (case side2 => exact HC262_1.out)
                  (case side3 => repeat (first | exact (Kd.C_below HR264_1.out HB.out) | (with_reducible refine Kd.C_alloc ?_ _) | (with_reducible refine Kd.C_drewN ?_ _) | (with_reducible refine Kd.C_drew ?_)))
                  (case side4 => exact HC264_1.out)
                  rintro e w28 ⟨rfl, hb⟩
                  refine ⟨_, rfl, ?_⟩
                  have n0_ := Aside0.mk (blk_below (g := gb260) (o := .cells #[.slice (some ad262) l0_0.length c0_0] 31 (0, 0)) (by (with_reducible repeat (first | refine blk_drewN ?_ _ | refine blk_drew ?_ | refine blk_alloc ?_ _)); exact BK260.out) hb)
                  have n1_ := Aside0.mk (blk_below (g := gb261) (o := .cells #[.slice (some ad264) l1_0.length c1_0] 31 (0, 0)) (by (with_reducible repeat (first | refine blk_drewN ?_ _ | refine blk_drew ?_ | refine blk_alloc ?_ _)); exact BK261.out) hb)
                  have n2_ := Aside0.mk (blk_below (g := gb263) (o := .cells #[.string ((rd_T39 l0_0 x17_1).f0), .slice A262_1 ((rd_T39 l0_0 x17_1).f1).length c262_1, .int .i64 ((rd_T39 l0_0 x17_1).f2), .int .i64 ((rd_T39 l0_0 x17_1).f3), .int .i64 ((rd_T39 l0_0 x17_1).f4), .bool ((rd_T39 l0_0 x17_1).f5), .int .i64 ((rd_T39 l0_0 x17_1).f6), .bool ((rd_T39 l0_0 x17_1).f7), .bool ((rd_T39 l0_0 x17_1).f8)] 39 (0, 0)) (by (with_reducible repeat (first | refine blk_drewN ?_ _ | refine blk_drew ?_ | refine blk_alloc ?_ _)); exact BK263.out) hb)
                  have n3_ := Aside0.mk (below_step (by repeat (first | (with_reducible first | exact HB.out | apply below_alloc | apply pw_below_drewN | apply below_drew1 | refine below_set ?_ GE260.out | refine below_set ?_ GE261.out | refine below_set ?_ GE263.out) | exact HB.out)) hb)
                  clear BK260
                  clear BK261
                  clear BK263
                  clear HB
                  have BK260 := n0_
                  have BK261 := n1_
                  have BK263 := n2_
                  have HB := n3_
                  clear n0_ n1_ n2_ n3_
                  (try clear hb)
                  (try clear hb2)
                  (try clear hk)
                  (try clear hi)
                  refine hK.out _ _ ⟨(blk_cell BK263.out 0).trans rfl, (blk_cell BK263.out 1).trans rfl, (blk_cell BK263.out 2).trans rfl, (blk_cell BK263.out 3).trans rfl, (blk_cell BK263.out 4).trans rfl, (blk_cell BK263.out 5).trans rfl, (blk_cell BK263.out 6).trans rfl, (blk_cell BK263.out 7).trans rfl, (blk_cell BK263.out 8).trans rfl, (blk_cell BK261.out 0).trans rfl, ((HB.out.cell (World.block_lt_of_cell? w _ hw264_0)).trans hw264_0), ((HB.out.cell (World.block_lt_of_cell? w _ hw264_1)).trans hw264_1), ((HB.out.cell (World.block_lt_of_cell? w _ hw264_2)).trans hw264_2), ((HB.out.cell (World.block_lt_of_cell? w _ hw264_3)).trans hw264_3), ((HB.out.cell (World.block_lt_of_cell? w _ hw264_4)).trans hw264_4), ((HB.out.cell (World.block_lt_of_cell? w _ hw264_5)).trans hw264_5), ((HB.out.cell (World.block_lt_of_cell? w _ hw264_6)).trans hw264_6), ((HB.out.cell (World.block_lt_of_cell? w _ hw264_7)).trans hw264_7), ((HB.out.cell (World.block_lt_of_cell? w _ hw264_8)).trans hw264_8)⟩ (fun hHeld => ?_)
                  clear hK K
                  refine norm_ (a' := ?_) ?_ ?_
                  rotate_left
                  · show Act.put _ (some 28) _ = _
                    simp only [Act.put, List.setIfInBounds_toArray, List.set_cons_zero, List.set_cons_succ, i64_w, i32_w]
                    rfl
                  refine pure_ (i := 7) (N := some 29) (v := ?_) (a' := ?_) #[true, true, true, true, true, true, true, true] rfl rfl (any_of HT_.out (by kernel_rfl)) (fun _ _ _ h => h) (Or.inl ⟨by rfl, ?_⟩) ?_ ?_
                  rotate_left
                  · intro w'
                    go_simp
                    with_reducible rfl
                  rotate_left
                  · simp only [Act.put, List.setIfInBounds_toArray, List.set_cons_zero, List.set_cons_succ, i64_w, i32_w]
                    rfl
                  refine done_ (done_of HT_.out (by kernel_rfl)) ?_
                  try go_wp2
                  go_ret
                  exact ⟨by first | rfl | (simp [errW_none, errW_some] <;> rfl) | (simp [*, errW_none, errW_some] <;> rfl), by repeat (first | (with_reducible first | exact HB.out | apply below_alloc | apply pw_below_drewN | apply below_drew1 | refine below_set ?_ GE260.out | refine below_set ?_ GE261.out | refine below_set ?_ GE263.out) | exact HB.out)⟩
              · rw [if_neg c12] at H
                exact absurd H (by simp)
            · rw [if_neg c11] at H
              exact absurd H (by simp)
          · rw [if_neg c10] at H
            exact absurd H (by simp)
        · rw [if_neg c9] at H
          have c9b0 : decide (x17_1 < (l0_0.length : Int)) = false := decide_eq_false c9
          clear c9
          obtain rfl := Option.some.inj H
          go_wp2
          go_ret
          exact ⟨by first | rfl | (simp [errW_none, errW_some] <;> rfl) | (simp [*, errW_none, errW_some] <;> rfl), by repeat (first | (with_reducible first | exact HB.out | apply below_alloc | apply pw_below_drewN | apply below_drew1 | refine below_set ?_ GE260.out | refine below_set ?_ GE261.out) | exact HB.out)⟩
  · rw [if_neg c3] at H
    have c3b0 : ((l0_0.length : Int) == (l1_0.length : Int)) = false := beq_eq_false_iff_ne.mpr c3
    have c3b1 : ((l0_0.length : Int) != (l1_0.length : Int)) = true := bne_iff_ne.mpr c3
    have c3b2 : (l0_0.length == l1_0.length) = false := by first | simpa using c3 | (simp at c3 ⊢; omega)
    obtain rfl := Option.some.inj H
    go_enter Try.func13, Try.ntmps13
    go_wp2_with (first | ((with_reducible refine gate_dst (N := 2) rfl ?_); refine box_event ?hg (N := 2) ?hd (cs := #[.slice A0_0 l0_0.length c0_0]) (t := 31) ?hr ?_; (case hd => rfl); (case hg => rfl); (case hr => first | (go_simp; done) | (go_simp; rfl)); intro gb260 hg w29 hbox hb; have n0_ := Aside0.mk (below_step (by repeat (first | (with_reducible first | exact HB.out | apply below_alloc | apply pw_below_drewN | apply below_drew1) | exact HB.out)) hb); have n1_ := Aside0.mk (hbox); have n2_ := Aside0.mk ((by rw [hg]; exact (below_size (by repeat (first | (with_reducible first | exact HB.out | apply below_alloc | apply pw_below_drewN | apply below_drew1) | exact HB.out))) : w.heap.size ≤ gb260)); have n3_ := Aside0.mk ((by rw [hg]; exact (below_size (by repeat (first | (with_reducible first | exact HB.out | apply below_alloc | apply pw_below_drewN | apply below_drew1) | exact HB.out))) : w.heap.size ≤ gb260)); clear HB; have HB := n0_; have BK260 := n1_; have GW260 := n2_; have GE260 := n3_; clear n0_ n1_ n2_ n3_; clear hb hbox hg) | ((with_reducible refine gate_dst (N := 3) rfl ?_); refine box_event ?hg (N := 3) ?hd (cs := #[.slice A1_0 l1_0.length c1_0]) (t := 31) ?hr ?_; (case hd => rfl); (case hg => rfl); (case hr => first | (go_simp; done) | (go_simp; rfl)); intro gb261 hg w30 hbox hb; have n0_ := Aside0.mk (blk_below (g := gb260) (o := .cells #[.slice A0_0 l0_0.length c0_0] 31 (0, 0)) (by (with_reducible repeat (first | refine blk_drewN ?_ _ | refine blk_drew ?_ | refine blk_alloc ?_ _)); exact BK260.out) hb); have n1_ := Aside0.mk (below_step (by repeat (first | (with_reducible first | exact HB.out | apply below_alloc | apply pw_below_drewN | apply below_drew1 | refine below_set ?_ GE260.out) | exact HB.out)) hb); have n2_ := Aside0.mk (hbox); have n3_ := Aside0.mk ((by rw [hg]; exact (below_size (by repeat (first | (with_reducible first | exact HB.out | apply below_alloc | apply pw_below_drewN | apply below_drew1 | refine below_set ?_ GE260.out) | exact HB.out))) : w.heap.size ≤ gb261)); have n4_ := Aside0.mk ((by rw [hg]; exact (below_size (by repeat (first | (with_reducible first | exact HB.out | apply below_alloc | apply pw_below_drewN | apply below_drew1 | refine below_set ?_ GE260.out) | exact HB.out))) : w.heap.size ≤ gb261)); have n5_ := Aside0.mk ((by rw [hg]; exact Nat.ne_of_lt (blk_lt (g := gb260) (o := .cells #[.slice A0_0 l0_0.length c0_0] 31 (0, 0)) (by (with_reducible repeat (first | refine blk_drewN ?_ _ | refine blk_drew ?_ | refine blk_alloc ?_ _)); exact BK260.out)) : gb260 ≠ gb261)); have n6_ := Aside0.mk ((by rw [hg]; exact Nat.ne_of_gt (blk_lt (g := gb260) (o := .cells #[.slice A0_0 l0_0.length c0_0] 31 (0, 0)) (by (with_reducible repeat (first | refine blk_drewN ?_ _ | refine blk_drew ?_ | refine blk_alloc ?_ _)); exact BK260.out)) : gb261 ≠ gb260)); clear BK260; clear HB; have BK260 := n0_; have HB := n1_; have BK261 := n2_; have GW261 := n3_; have GE261 := n4_; have NB260_261 := n5_; have NB261_260 := n6_; clear n0_ n1_ n2_ n3_ n4_ n5_ n6_; clear hb hbox hg; have hnb31 := NB260_261.out; have hnc31 := NB261_260.out; have hcz32_0 : w30.cell? ⟨gb260, 0, none⟩ = some (.slice A0_0 l0_0.length c0_0) := (blk_cell BK260.out 0).trans rfl; have hfz32_0 := blk_frozen BK260.out 0; have hcz33_0 : w30.cell? ⟨gb261, 0, none⟩ = some (.slice A1_0 l1_0.length c1_0) := (blk_cell BK261.out 0).trans rfl; have hfz33_0 := blk_frozen BK261.out 0))
    go_ret
    exact ⟨by first | rfl | (simp [errW_none, errW_some] <;> rfl) | (simp [*, errW_none, errW_some] <;> rfl), by repeat (first | (with_reducible first | exact HB.out | apply below_alloc | apply pw_below_drewN | apply below_drew1 | refine below_set ?_ GE260.out | refine below_set ?_ GE261.out) | exact HB.out)⟩

end Go.Proofs.Ytemgnkloloaeoaa.PAll
