/- Pruned by wip/prune.py. -/
import Derived.Test.YtemgnkloloaeoaaQPAllx0
import Derived.WalkSmall
import Derived.Lib.Hide
namespace Go.Proofs.Ytemgnkloloaeoaa.Given
open Go.RowKit Go.Proofs.Ytemgnkloloaeoaa.PAll Go.Proofs.YtemgnkloloaeoaaW.PrintWords Go.Proofs.YtemgnkloloaeoaaW.PrintLast Go.Proofs.YtemgnkloloaeoaaW.PrintMore
set_option linter.unusedVariables false
set_option linter.unusedSimpArgs false
abbrev Run := S57
/-- Bytes behind the others. -/
def putV (L : List Run) (n s : Int) : List Run :=
  if n ≤ 0 then L else match L.getLast? with
  | some r => if r.f1 = s then L.set (L.length - 1) ⟨wrap64 (r.f0 + n), r.f1⟩ else L ++ [⟨n, s⟩]
  | none => L ++ [⟨n, s⟩]
theorem boxCell {w : World} {g : Nat} {cs : Array Value} {t : TypeId} (h : w.heap[g]? = some (.cells cs t (0, 0))) (i : Nat) (u : Value) (hi : cs[i]? = some u) : w.cell? ⟨g, i, none⟩ = some u := by
  simp [World.cell?, h, hi]
theorem boxFree {w : World} {g : Nat} {cs : Array Value} {t : TypeId} (h : w.heap[g]? = some (.cells cs t (0, 0))) (i : Nat) : w.frozen? ⟨g, i, none⟩ = false := by
  simp [World.frozen?, h]
theorem boxSet {w : World} {g : Nat} {cs : Array Value} {t : TypeId} (h : w.heap[g]? = some (.cells cs t (0, 0))) (i : Nat) (u : Value) : (w.setCell ⟨g, i, none⟩ u).heap[g]? = some (.cells (cs.setIfInBounds i u) t (0, 0)) := by
  obtain ⟨hlt, he⟩ := Array.getElem?_eq_some_iff.1 h
  simp [World.setCell, hlt, Array.getElem_modify, he]
theorem boxPut {w w2 : World} {B g e : Nat} {α : Type} {d : Kd α} {v : Value} {L : List α} {cs : Array Value} {t : TypeId} (h : w.heap[g]? = some (.cells cs t (0, 0))) (HO : d.R e w B (fun _ => True) v L) (ht : e ≠ t) (hg : w.grownBy w2 v.ownBlock) :
    w2.heap[g]? = some (.cells cs t (0, 0)) := by
  obtain ⟨hlt, _⟩ := Array.getElem?_eq_some_iff.1 h
  rw [hg.block g hlt (Kd.R_ne HO h ht), h]
def PutPost (w0 w : World) (B g : Nat) (v : Value) (L' : List S57) (sz' bs : Int) (e : Ending) (w' : World) : Prop :=
  e = .returned (.tuple #[]) ∧ ∃ v', w'.heap[g]? = some (.cells #[v', .int .i64 sz', .int .i64 bs] 64 (0, 0)) ∧ Kd.R k57 57 w' B (fun _ => True) v' L' ∧ Below B w0 w' ∧ w.heap.size ≤ w'.heap.size ∧
    (∀ i, i < w.heap.size → i ≠ g → some i ≠ v.ownBlock → w'.heap[i]? = w.heap[i]?) ∧ (v'.ownBlock = v.ownBlock ∨ ∃ b, v'.ownBlock = some b ∧ w.heap.size ≤ b)
set_option maxHeartbeats 4000000 in
set_option maxRecDepth 100000 in
theorem put_calls (w0 w : World) (B g : Nat) (L : List S57) (sz bs n s : Int) (v : Value) (hg : w.heap[g]? = some (.cells #[v, .int .i64 sz, .int .i64 bs] 64 (0, 0))) (hBg : B ≤ g)
    (HO : Kd.R k57 57 w B (fun _ => True) v L) (HB : Below B w0 w) (hbs : B ≤ w.heap.size) (hl : L.length ≤ 4398046511104) :
    Calls Try.prog 32 #[.pointer (some ⟨g, 0, none⟩), .int .i64 n, .int .i64 s] w (PutPost w0 w B g v (putV L n s) (if n ≤ 0 then sz else wrap64 (sz + n)) bs) := by
  have c0 := boxCell hg 0 v rfl
  have c1 := boxCell hg 1 (.int .i64 sz) rfl
  have f0 := boxFree hg 0
  have f1 := boxFree hg 1
  have hu57 := Try.underlying57
  have hu64 := Try.underlying64
  by_cases hn : n ≤ 0
  · have e1 : putV L n s = L := by unfold putV; rw [if_pos hn]
    rw [e1, if_pos hn]
    go_enter Try.func32, Try.ntmps32
    go_wp2
    exact bodyPost_ret (results_none rfl _ _ _) rfl ⟨rfl, v, hg, HO, HB, Nat.le_refl _, fun _ _ _ _ => rfl, .inl rfl⟩
  · rw [if_neg hn]
    obtain ⟨L', hL'⟩ : ∃ L', L' = putV L n s := ⟨_, rfl⟩
    rw [← hL']
    have HL := Lib.hid hL'
    clear hL'
    go_enter Try.func32, Try.ntmps32
    go_upto_region 2 with (fail)
    have hg1 := boxSet hg 1 (.int .i64 (wrap64 (sz + n)))
    have HO1 := Kd.R_set HO hg (by decide) 1 (.int .i64 (wrap64 (sz + n)))
    have HB1 := HB.setCell (p := ⟨g, 1, none⟩) hBg (.int .i64 (wrap64 (sz + n)))
    have hz1 : (w.setCell ⟨g, 1, none⟩ (.int .i64 (wrap64 (sz + n)))).heap.size = w.heap.size := by simp [World.setCell]
    have hfr1 : ∀ i, i ≠ g → (w.setCell ⟨g, 1, none⟩ (.int .i64 (wrap64 (sz + n)))).heap[i]? = w.heap[i]? := fun i hi => Below.heap_setCell w ⟨g, 1, none⟩ _ i hi
    simp only [List.setIfInBounds_toArray, List.set_cons_zero, List.set_cons_succ] at hg1
    have Hz1 := Lib.hid hz1
    have Hfr1 := Lib.hid hfr1
    have HB1' := Lib.hid HB1
    have HO1' := Lib.hid HO1
    clear hz1 hfr1 HB1 HO1 c0 c1 f0 f1
    generalize w.setCell ⟨g, 1, none⟩ (.int .i64 (wrap64 (sz + n))) = w1 at *
    have c0 := boxCell hg1 0 v rfl
    have c1 := boxCell hg1 1 (.int .i64 (wrap64 (sz + n))) rfl
    have f0 := boxFree hg1 0
    have f1 := boxFree hg1 1
    obtain ⟨A, c, ev⟩ := Kd.R_slice HO1'.out
    subst ev
    obtain ⟨j, hj⟩ : ∃ j : Int, wrap64 ((L.length : Int) - 1) = j := ⟨_, rfl⟩
    have hjw : IntKind.i64.wrap ((L.length : Int) - 1) = j := (i64_w _).trans hj
    by_cases he : L = []
    · have e2 : L' = L ++ [⟨n, s⟩] := by rw [HL.out]; unfold putV; rw [if_neg hn, he]; rfl
      subst e2
      clear hj hjw
      have hpd : decide (0 < L.length) = false := by rw [he]; rfl
      have he' := Lib.hid he
      clear he
      go_wp2_with (first | ((with_reducible refine gate_builtin (b := .append) (xs := #[.tmp 54, .tmp 58]) rfl ?_); (try (refine gate_guard (by rfl) ?_; dsimp only)); at_builtin; refine Kd.R_append k57 (w0 := w0) B rfl (.tmp 54) (.tmp 58) 37 57 (.agg #[(.int .i64 0), (.int .i64 0)]) 16 rfl Try.underlying37 info57 rfl (by decide) (by omega) (.slice A L.length c) L (⟨n, s⟩ : S57) [.int .i64 n, .int .i64 s] (fun _ => True) (fun _ => False) rfl rfl ?aP (fun _ hk => hk.elim) ?aF ?aO ?aB ?aS ?aL ?_; (case aP => exact k57_mkM _ _ _ (⟨n, s⟩ : S57)); (case aB => exact HB1'.out); (case aF => exact (fun _ _ => trivial)); (case aO => exact HO1'.out); (case aS => rw [Hz1.out]; exact hbs); (case aL => omega); intro v2 w2 ho hb hgr hat; have HH := Lib.hid (boxPut hg1 HO1'.out (by decide) hgr); have ho' := Lib.hid ho; have hb' := Lib.hid hb; have hgr' := Lib.hid hgr; have hat' := Lib.hid hat; clear ho hb hgr hat c0 f0 c1 f1; have c0 := boxCell HH.out 0 _ rfl; have f0 := boxFree HH.out 0; obtain ⟨A2, cc2, ev2⟩ := Kd.R_slice ho'.out; subst ev2))
      go_end0
      refine ⟨rfl, _, boxSet HH.out 0 _, (by have q := Kd.R_set ho'.out HH.out (by decide) 0 (.slice A2 (L.length + 1) cc2); simp only [List.length_append, List.length_cons, List.length_nil, Nat.zero_add] at q; exact q), hb'.out.setCell (p := ⟨g, 0, none⟩) hBg _, ?_, fun i h1 h2 h3 => ?_, ?_⟩
      · simp only [World.setCell]; have := hgr'.out.size; rw [← Hz1.out]; simp; omega
      · rw [Below.heap_setCell w2 ⟨g, 0, none⟩ _ i h2, hgr'.out.block i (by rw [Hz1.out]; exact h1) h3, Hfr1.out i h2]
      · rcases hat'.out with h | ⟨b, h, h'⟩
        · exact .inl (by rw [List.length_append] at h; exact h)
        · exact .inr ⟨b, by rw [List.length_append] at h; exact h, by rw [← Hz1.out]; exact h'⟩
    · have hp : 0 < L.length := List.length_pos_iff.2 he
      have hpd : decide (0 < L.length) = true := decide_eq_true hp
      have hjv : j = (L.length : Int) - 1 := by rw [← hj]; unfold wrap64; omega
      have hi0 : 0 ≤ j := by omega
      have hi1 : j < (L.length : Int) := by omega
      have hlast : L.getLast? = some (rd_T57 L j) := by
        rw [List.getLast?_eq_getElem?]
        unfold rd_T57
        rw [hjv, show ((L.length : Int) - 1).toNat = L.length - 1 by omega]
        rw [List.getElem?_eq_getElem (by omega), List.getD_eq_getElem?_getD, List.getElem?_eq_getElem (by omega)]
        rfl
      have hlast' := Lib.hid hlast
      clear hlast
      have hjv' := Lib.hid hjv
      clear hjv
      obtain ⟨ad, ea, hx0, hx1⟩ := at_T57 (Kd.R_reads' HO1'.out).2.2 j hi0 hi1
      cases ea
      by_cases hq : (rd_T57 L j).f1 = s
      · have hqb := beq_iff_eq.mpr hq
        have hq' := Lib.hid hq
        clear hq
        have e2 : L' = L.set j.toNat ⟨wrap64 ((rd_T57 L j).f0 + n), (rd_T57 L j).f1⟩ := by
          rw [HL.out]; unfold putV; rw [if_neg hn, hlast'.out]
          show (if _ then _ else _) = _
          rw [if_pos hq'.out, hjv'.out, show ((L.length : Int) - 1).toNat = L.length - 1 by omega]
        obtain ⟨go, co, eo, gb, gl, cl, HG⟩ := Kd.R_form HO1'.out hp
        injection eo with ea_ en_ ec_
        injection ea_ with ea_
        subst ea_
        subst ec_
        clear en_
        obtain ⟨ce, hcl, hM, hcc, hfr⟩ := Kd.R_elem HO1'.out z57 j hi0 hi1
        obtain rfl := k57_openM hM
        have HP := Kd.R_seg HO1'.out j hi0 hi1 (seg := [.int .i64 (wrap64 ((rd_T57 L j).f0 + n))]) (j := 0) hcl hcc (show 1 ≤ 2 from by decide) (x' := (⟨wrap64 ((rd_T57 L j).f0 + n), (rd_T57 L j).f1⟩ : S57)) (k57_mkM _ _ _ (⟨wrap64 ((rd_T57 L j).f0 + n), (rd_T57 L j).f1⟩ : S57)) (fun _ hk => hk)
        have hc0 : w1.cell? ⟨go, j.toNat * 2, none⟩ = some (.int .i64 ((rd_T57 L j).f0)) := hcc 0 _ rfl
        have hf0 : w1.frozen? ⟨go, j.toNat * 2, none⟩ = false := hfr 0
        have hne : go ≠ g := fun h => by rw [h, hg1] at HG; injection HG with HG; injection HG with _ HG; exact absurd HG (by decide)
        have HG' := Lib.hid HG
        have HP' := Lib.hid HP
        have hM' := Lib.hid hM
        clear hcl hcc hfr HP HG hM
        simp only [add_plain] at hx0 hx1
        subst e2
        replace hi0 := eq_true hi0
        replace hi1 := eq_true hi1
        go_wp2
        refine bodyPost_ret (results_none rfl _ _ _) rfl ⟨rfl, _, (Below.heap_setCell w1 ⟨go, j.toNat * 2, none⟩ _ g (fun h => hne h.symm)).trans hg1, HP'.out.1, HB1'.out.setCell (p := ⟨go, j.toNat * 2, none⟩) gb _, ?_, fun i h1 h2 h3 => ?_, .inl rfl⟩
        · rw [← Hz1.out]; simp [World.setCell]
        · have h4 : i ≠ go := fun h => h3 (by rw [h]; rfl)
          exact (Below.heap_setCell w1 ⟨go, j.toNat * 2, none⟩ _ i h4).trans (Hfr1.out i h2)
      · have e2 : L' = L ++ [⟨n, s⟩] := by rw [HL.out]; unfold putV; rw [if_neg hn, hlast'.out]; show (if _ then _ else _) = _; rw [if_neg hq]
        subst e2
        have hqb := beq_eq_false_iff_ne.mpr hq
        replace hi0 := eq_true hi0
        replace hi1 := eq_true hi1
        go_wp2_with (first | ((with_reducible refine gate_builtin (b := .append) (xs := #[.tmp 54, .tmp 58]) rfl ?_); (try (refine gate_guard (by rfl) ?_; dsimp only)); at_builtin; refine Kd.R_append k57 (w0 := w0) B rfl (.tmp 54) (.tmp 58) 37 57 (.agg #[(.int .i64 0), (.int .i64 0)]) 16 rfl Try.underlying37 info57 rfl (by decide) (by omega) (.slice (some ad) L.length c) L (⟨n, s⟩ : S57) [.int .i64 n, .int .i64 s] (fun _ => True) (fun _ => False) rfl rfl ?aP (fun _ hk => hk.elim) ?aF ?aO ?aB ?aS ?aL ?_; (case aP => exact k57_mkM _ _ _ (⟨n, s⟩ : S57)); (case aB => exact HB1'.out); (case aF => exact (fun _ _ => trivial)); (case aO => exact HO1'.out); (case aS => rw [Hz1.out]; exact hbs); (case aL => omega); intro v2 w2 ho hb hgr hat; have HH := Lib.hid (boxPut hg1 HO1'.out (by decide) hgr); have ho' := Lib.hid ho; have hb' := Lib.hid hb; have hgr' := Lib.hid hgr; have hat' := Lib.hid hat; clear ho hb hgr hat c0 f0 c1 f1; have c0 := boxCell HH.out 0 _ rfl; have f0 := boxFree HH.out 0; obtain ⟨A2, cc2, ev2⟩ := Kd.R_slice ho'.out; subst ev2))
        go_end0
        refine ⟨rfl, _, boxSet HH.out 0 _, (by have q := Kd.R_set ho'.out HH.out (by decide) 0 (.slice A2 (L.length + 1) cc2); simp only [List.length_append, List.length_cons, List.length_nil, Nat.zero_add] at q; exact q), hb'.out.setCell (p := ⟨g, 0, none⟩) hBg _, ?_, fun i h1 h2 h3 => ?_, ?_⟩
        · simp only [World.setCell]; have := hgr'.out.size; rw [← Hz1.out]; simp; omega
        · rw [Below.heap_setCell w2 ⟨g, 0, none⟩ _ i h2, hgr'.out.block i (by rw [Hz1.out]; exact h1) h3, Hfr1.out i h2]
        · rcases hat'.out with h | ⟨b, h, h'⟩
          · exact .inl (by rw [List.length_append] at h; exact h)
          · exact .inr ⟨b, by rw [List.length_append] at h; exact h, by rw [← Hz1.out]; exact h'⟩
end Go.Proofs.Ytemgnkloloaeoaa.Given
