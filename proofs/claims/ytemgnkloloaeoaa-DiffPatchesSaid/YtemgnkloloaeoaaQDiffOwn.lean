/- Pruned by wip/prune.py. -/
import Derived.Test.YtemgnkloloaeoaaQDiffLib
import Derived.Test.YtemgnkloloaeoaaQPatchStep
namespace Go.Proofs.Ytemgnkloloaeoaa.Lib
open Go Go.RowKit Go.Proofs.YtemgnkloloaeoaaW.PrintWords Go.Proofs.Ytemgnkloloaeoaa.PAll
set_option linter.unusedVariables false
set_option linter.unusedSimpArgs false
open Sx
/-- A header's row may be written: each of its cells is there. -/
def Wr (w : World) (F : Nat → Prop) (hd : Hd) : Prop := ∀ j, j < hd.n → ∃ g cells e, F g ∧ hd.A = some ⟨g, 0, none⟩ ∧ w.heap[g]? = some (.cells cells e (0, 0)) ∧ j * 9 + 9 ≤ cells.size
theorem wr_mono {w : World} {F F' : Nat → Prop} {hd : Hd} (hF : ∀ k, F k → F' k) (h : Wr w F hd) : Wr w F' hd := fun j hj => by
  obtain ⟨g, cells, e, h1, h2⟩ := h j hj
  exact ⟨g, cells, e, hF _ h1, h2⟩
theorem wr_of_R {α : Type} {d : Kd α} {e : Nat} {w : World} {base : Nat} {F : Nat → Prop} {A : Option Addr} {n c : Nat} {X : List α} (hsz : d.sz = 9) (hn : n = X.length) (h : d.R e w base F (.slice A n c) X) : Wr w F ⟨A, n, c⟩ := fun j hj => by
  have hj' : j < n := hj
  obtain ⟨hF, inner, hown, hr⟩ := h
  rcases hown.2 with ⟨hv', h0⟩ | ⟨g', cap', cur, hv', hb, hh, hnc, hcm, hcs, _⟩
  · injection hv' with _ h1 _
    omega
  injection hv' with ha hx hc
  subst ha; subst hc
  refine ⟨g', cur, e, hF _ rfl, rfl, hh, ?_⟩
  have h2 : j * 9 + 9 ≤ X.length * 9 := by omega
  rw [hsz] at hcs
  have h3 : X.length * 9 ≤ c * 9 := Nat.mul_le_mul_right _ (by omega)
  omega
def libS (Ps : List PG) (φ : World → Prop) : HP where
  p := fun w F => Foot φ w F ∧ ∀ p ∈ Ps, Wr w F p.2
  mono := fun hF h => ⟨Foot.mono h.1 hF, fun p hp => wr_mono hF (h.2 p hp)⟩
  bound := fun h => ⟨Foot.bound h.1, fun p hp j hj => by
    obtain ⟨g, cells, e, h1, h2, h3, h4⟩ := h.2 p hp j hj
    exact ⟨g, cells, e, ⟨h1, (Array.getElem?_eq_some_iff.1 h3).1⟩, h2, h3, h4⟩⟩
  move := fun hm h => ⟨Foot.step h.1 (fun k hk _ => hm k hk), fun p hp j hj => by
    obtain ⟨g, cells, e, h1, h2, h3, h4⟩ := h.2 p hp j hj
    exact ⟨g, cells, e, h1, h2, (hm g h1).trans h3, h4⟩⟩
section
variable {w0 w : World} {F0 : Nat → Prop} {cs : List HP} {i : Nat} {φ ψ φ1 φ2 : World → Prop} {Ps : List PG}
theorem libS_now (h : St w0 F0 cs w) (hi : cs[i]? = some (libS Ps φ)) : φ w := by
  obtain ⟨G, _, hg⟩ := st_get h hi
  exact Foot.now hg.1
theorem libS_imp (h : St w0 F0 (libS Ps φ :: cs) w) (hi : ∀ w, φ w → ψ w) : St w0 F0 (libS Ps ψ :: cs) w := st_imp h fun G hG => ⟨Foot.imp hG.1 hi, hG.2⟩
theorem el_PM (w : World) (base : Nat) (ok : Nat → Prop) (x : S31) (c : List Value) (h : k31.M w base ok x c) : ∃ r : PG, r.1 = x ∧ kP.K w r c ∧ Foot (fun w => GP w r) w ok ∧ Wr w ok r.2 := by
  obtain ⟨v, rfl, hR⟩ := h
  obtain ⟨A0, c0, rfl, l0, f0⟩ := Kd.R_reads hR
  exact ⟨(x, ⟨A0, x.f0.length, c0⟩), rfl, rfl, fun W' hW => ⟨rfl, l0, Kd.R_F hR W' hW⟩, wr_of_R rfl rfl hR⟩
theorem st_splitS {e : Nat} {w1 : World} {v : Value} {X : List S31} (h : St w0 F0 cs w) (hb : Below w.heap.size w w1) (hR : k31.R e w1 w.heap.size (fun _ => True) v X) :
    ∃ A c Ps, v = .slice A Ps.length c ∧ Ps.map (·.1) = X ∧ St w0 F0 (row kP e A c Ps :: libS Ps (AllP Ps) :: cs) w1 := by
  obtain ⟨A, c, rfl, _⟩ := Kd.R_reads hR
  have hR2 := Kd.R_bound hR
  have hbase : ∀ k, some k = (Value.slice A X.length c).ownBlock → w.heap.size ≤ k := fun k hk => (hR2.1 k hk.symm).2.1
  obtain ⟨h0, inner, ho, hr⟩ := hR2
  obtain ⟨Rs, r1, r2⟩ := choose_list (fun r : PG => r.1) (fun j r => kP.K w1 r ((inner.drop (j * k31.sz)).take k31.sz) ∧ Foot (fun w => GP w r) w1 (fun k => w.heap.size ≤ k ∧ some k ≠ (Value.slice A X.length c).ownBlock) ∧ Wr w1 (fun k => w.heap.size ≤ k ∧ some k ≠ (Value.slice A X.length c).ownBlock) r.2) X 0 (fun j x hj => by
    obtain ⟨r, e1, e2, e3, e4⟩ := el_PM _ _ _ x _ (hr.2 j x hj)
    exact ⟨r, e1, by rw [Nat.zero_add]; exact e2, Foot.mono e3 (fun k hk => ⟨hk.1.2.1, hk.2⟩), wr_mono (fun k hk => ⟨hk.1.2.1, hk.2⟩) e4⟩)
  have hl : Rs.length = X.length := by rw [← r1, List.length_map]
  refine ⟨A, c, Rs, by rw [hl], r1, st_unstar (st_add h hb ?_)⟩
  refine ⟨fun k => some k = (Value.slice A X.length c).ownBlock, fun k hk => hbase k hk, ?_, ?_, ?_⟩
  · show kP.R e w1 0 _ (.slice A Rs.length c) Rs
    refine Kd.R_lower (base := w.heap.size) ?_ (Nat.zero_le _)
    rw [hl]
    refine ⟨fun k hk => hk.symm, inner, by rw [hl]; exact ho, by rw [hl]; exact hr.1, fun j p hj => ?_⟩
    have := (r2 j p hj).1
    rw [Nat.zero_add] at this
    exact flatP _ _ _ _ _ _ this
  · intro W' hW r hr'
    obtain ⟨j, hj⟩ := List.getElem?_of_mem hr'
    exact (r2 j r hj).2.1 W' hW
  · intro r hr'
    obtain ⟨j, hj⟩ := List.getElem?_of_mem hr'
    exact (r2 j r hj).2.2
theorem libS_lines {A : Option Addr} {n : Nat} {X : List S39} (h : St w0 F0 (libS Ps φ :: cs) w) (hφ : ∀ w, φ w → k39.C w A n X) : ∃ Rs : List LN, Rs.map (·.1) = X ∧ St w0 F0 (libS Ps (fun w => φ w ∧ kL.C w A n Rs ∧ AllL Rs w) :: cs) w := by
  have h2 : St w0 F0 (HP.ex (fun Rs : List LN => (HP.pure (Rs.map (·.1) = X)).star (libS Ps (fun w => φ w ∧ kL.C w A n Rs ∧ AllL Rs w))) :: cs) w := st_imp h fun G hG => by
    obtain ⟨Rs, r1, r2, r3⟩ := down_L (ok := G) (Foot.imp hG.1 hφ)
    exact ⟨Rs, fun _ => False, fun _ hk => hk.elim, r1, fun W' hW => ⟨hG.1 W' fun k hk hl => hW k ⟨hk, id⟩ hl, r2 W' fun k hk hl => hW k ⟨hk, id⟩ hl, r3 W' fun k hk hl => hW k ⟨hk, id⟩ hl⟩, fun p hp => wr_mono (fun k hk => ⟨hk, id⟩) (hG.2 p hp)⟩
  obtain ⟨Rs, h3⟩ := st_unex h2
  obtain ⟨h4, h5⟩ := st_pure (st_unstar h3)
  exact ⟨Rs, h4, h5⟩
theorem closeS_changed {B : Option Addr} {c p : Nat} {Ln : List LN} (h : St w0 F0 (row kL 39 B c Ln :: libS Ps φ1 :: lib φ2 :: cs) w) (h1 : ∀ w, φ1 w → AllP Ps w) (h2 : ∀ w, φ1 w → φ2 w → AllL Ln w) :
    St w0 F0 (libS (Ps.set p (⟨Ln.map (·.1)⟩, ⟨B, Ln.length, c⟩)) (AllP (Ps.set p (⟨Ln.map (·.1)⟩, ⟨B, Ln.length, c⟩))) :: cs) w := by
  have hc := (row_reads (i := 0) h rfl).1
  refine st_imp (st_star (st_star h)) fun F hF => ?_
  obtain ⟨G, i1, ⟨G1, i2, hrow, hS⟩, hL⟩ := hF
  have hF1 := Kd.R_F hrow
  refine ⟨fun W' hW q hq => ?_, fun q hq => ?_⟩
  · have d : kL.C W' B Ln.length Ln := hF1 W' fun k hk hl => hW k (i1 k (i2 k hk)) hl
    have a := hS.1 W' fun k hk hl => hW k (i1 k hk.1) hl
    have b := hL W' fun k hk hl => hW k hk.1 hl
    rcases List.mem_or_eq_of_mem_set hq with hq | rfl
    · exact h1 W' a q hq
    · exact gp_new hc d (h2 W' a b)
  · rcases List.mem_or_eq_of_mem_set hq with hq | rfl
    · exact wr_mono (fun k hk => i1 k hk.1) (hS.2 q hq)
    · exact wr_mono (fun k hk => i1 k (i2 k hk)) (wr_of_R rfl rfl hrow)
theorem closeS_added {B : Option Addr} {c : Nat} {Ln : List LN} (h : St w0 F0 (row kL 39 B c Ln :: libS Ps φ1 :: lib φ2 :: cs) w) (h1 : ∀ w, φ1 w → AllP Ps w) (h2 : ∀ w, φ2 w → AllL Ln w) :
    St w0 F0 (libS (Ps ++ [(⟨Ln.map (·.1)⟩, ⟨B, Ln.length, c⟩)]) (AllP (Ps ++ [(⟨Ln.map (·.1)⟩, ⟨B, Ln.length, c⟩)])) :: cs) w := by
  have hc := (row_reads (i := 0) h rfl).1
  refine st_imp (st_star (st_star h)) fun F hF => ?_
  obtain ⟨G, i1, ⟨G1, i2, hrow, hS⟩, hL⟩ := hF
  have hF1 := Kd.R_F hrow
  refine ⟨fun W' hW q hq => ?_, fun q hq => ?_⟩
  · have d : kL.C W' B Ln.length Ln := hF1 W' fun k hk hl => hW k (i1 k (i2 k hk)) hl
    have a := hS.1 W' fun k hk hl => hW k (i1 k hk.1) hl
    have b := hL W' fun k hk hl => hW k hk.1 hl
    rcases List.mem_append.1 hq with hq | hq
    · exact h1 W' a q hq
    · rw [List.mem_singleton.1 hq]
      exact gp_new hc d (h2 W' b)
  · rcases List.mem_append.1 hq with hq | hq
    · exact wr_mono (fun k hk => i1 k hk.1) (hS.2 q hq)
    · rw [List.mem_singleton.1 hq]
      exact wr_mono (fun k hk => i1 k (i2 k hk)) (wr_of_R rfl rfl hrow)
theorem wr_some (h : St w0 F0 cs w) (hi : cs[i]? = some (libS Ps φ)) {p : PG} (hp : p ∈ Ps) {k : Nat} (hk : k < p.2.n) : ∃ ad, p.2.A = some ad := by
  obtain ⟨G, _, hg⟩ := st_get h hi
  obtain ⟨g, cells, e, _, h2, _⟩ := hg.2 p hp k hk
  exact ⟨_, h2⟩
end
theorem hdr_small {w : World} {Ps : List PG} {z : List S31} (hA : AllP Ps w) (hz : (Ps.take z.length).map (·.1) = z) (hF : Pure.Few z) (i : Nat) (hi : i < z.length) : ((Ps.take z.length).getD i zP).2.n ≤ 40 := by
  have hl : (Ps.take z.length).length = z.length := by rw [← List.length_map (·.1), hz]
  have hm : (Ps.take z.length).getD i zP ∈ Ps.take z.length := by rw [List.getD_eq_getElem?_getD, List.getElem?_eq_getElem (by omega)]; exact List.getElem_mem _
  obtain ⟨h1, _⟩ := hA _ (List.mem_of_mem_take hm)
  have h2 : ((Ps.take z.length).getD i zP).1 ∈ z := by
    rw [← hz] 
    exact List.mem_map_of_mem (by rw [hz]; exact hm)
  have := (hF.2 _ h2).1
  omega
section
variable {P : Program} {ops : Array Oper} {Q : Exit → Act → World → Prop} {n : Nat} {rest : List Oper} {f : List (Nat × Value)} {w w0 : World} {F0 : Nat → Prop} {cs : List HP} {ty : TypeId} {ps : String} {af : Array Edge} {g : Option (Nat × Bool)} {Ps : List PG}
/-- pages[i].Lines[k].Text = s -/
theorem wl_spoil {t : Nat} {x y : Operand} (i : Nat) {ad0 ad : Addr} {p : PG} (kx : Nat) (v : Value) (h : St w0 F0 cs w) (hi : cs[i]? = some (libS Ps (fun _ => True))) (hp : p ∈ Ps) (hA : p.2.A = some ad0) (hw : gw ops f g = some true)
    (hx : ev f x = some (.pointer (some ad))) (had : ad = ad0.add (kx * 9 + 0)) (hy : ev f y = some v) (hv : v.cells.toList = [v]) (h1v : v.oneCell' = true) (ht : (P.info? t).map (·.size) = some 1) (hlt : kx < p.2.n)
    (k : ∀ w', St w0 F0 cs w' → WL P ops Q n rest f w') : WL P ops Q n (⟨none, .store t x y, ty, ps, af, g⟩ :: rest) f w := by
  obtain ⟨G, g1, g2, g3⟩ := st_upd h hi
  obtain ⟨gb, cells, e, hG, hA2, hh, hs⟩ := g2.2 p hp kx hlt
  rw [hA] at hA2
  injection hA2 with hA2
  subst hA2
  have had' : ad = ⟨gb, kx * 9 + 0, none⟩ := by rw [had]; exact add_plain _ _
  have hrun : (Instr.storeAt t (.pointer (some ad)) v).run P w = .ok () (w.setCells gb (kx * 9 + 0) [v]) := by
    rw [had']
    refine run_store_run t v [v] hh hv ht ?_ (fun q hq => by rw [List.mem_singleton.1 hq]; exact h1v)
    simp only [List.length_cons, List.length_nil]
    omega
  obtain ⟨s1, s2, s3, s4⟩ := setCells_same gb [v] (kx * 9 + 0) w
  obtain ⟨cur', h3, h4, _⟩ := setCells_row [v] (kx * 9 + 0) w cells hh (by simp only [List.length_cons, List.length_nil]; omega)
  have hst := g3 (libS Ps (fun _ => True)) (w.setCells gb (kx * 9 + 0) [v]) ⟨s1, s2, s3, by rw [s4]; exact Nat.le_refl _, fun q hq hn => setCells_far _ _ q (fun e_ => hn (by rw [e_]; exact hG))⟩ ⟨fun _ _ => trivial, fun q hq j hj => ?_⟩
  · have hcs : cs.set i (libS Ps (fun _ => True)) = cs := by
      apply List.ext_getElem?
      intro m
      rw [List.getElem?_set]
      split
      · rename_i hm
        subst hm
        have := (List.getElem?_eq_some_iff.1 hi).1
        rw [if_pos this, hi]
      · rfl
    rw [hcs] at hst
    refine wl_unit _ hw (fun a fa => ?_) (k _ hst)
    simp [execOp, ev_eval fa hx, ev_eval fa hy, hrun, Result.andThen]
  · obtain ⟨g', c', e', q1, q2, q3, q4⟩ := g2.2 q hq j hj
    by_cases hg : g' = gb
    · subst hg
      rw [hh] at q3
      injection q3 with q3
      injection q3 with q5 q6
      subst q5
      exact ⟨g', cur', e, .inl q1, q2, h3, by omega⟩
    · exact ⟨g', c', e', .inl q1, q2, (setCells_far _ _ g' hg).trans q3, q4⟩
end
end Go.Proofs.Ytemgnkloloaeoaa.Lib
