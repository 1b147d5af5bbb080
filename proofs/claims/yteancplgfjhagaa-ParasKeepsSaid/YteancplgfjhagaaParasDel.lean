/- A part of a text taken out: the paragraphs then. -/
import Derived.Test.YteancplgfjhagaaParasIns
namespace Go.Proofs.Yteancplgfjhagaa.Paras.B
open Go Go.RowKit Go.Proofs.YteancplgfjhagaaW.PrintWords Go.Proofs.Yteancplgfjhagaa.Kinds Go.Proofs.Yteancplgfjhagaa.Paras Go.Proofs.Yteancplgfjhagaa.Paras.C
set_option linter.unusedVariables false
set_option linter.unusedSimpArgs false
def lostI (x : IX) (a b : Int) : Bool := decide (b = (x.lens.take (findP x.lens (b - 1) + 1)).sum ∧ (((findP x.lens (b - 1) : Nat) : Int) < (x.lens.length : Int) - 1 ∨ x.open_ = false))
def moreI (x : IX) (a b : Int) : Bool := decide (lostI x a b = true ∧ (x.lens.take (findP x.lens a)).sum < a ∧ ((findP x.lens (b - 1) : Nat) : Int) + 1 < (x.lens.length : Int))
def oldD (x : IX) (a b : Int) : Int := ((findP x.lens (b - 1) : Nat) : Int) - ((findP x.lens a : Nat) : Int) + 1 + (if moreI x a b = true then 1 else 0)
def restD (x : IX) (a b : Int) : Int := a - (x.lens.take (findP x.lens a)).sum + (x.lens.take (findP x.lens (b - 1) + 1)).sum - b + (if moreI x a b = true then x.lens.getD (findP x.lens (b - 1) + 1) 0 else 0)
def newD (x : IX) (a b : Int) : List Int := if 0 < restD x a b then [restD x a b] else []
def openD (x : IX) (a b : Int) : Bool := if ((findP x.lens a : Nat) : Int) + oldD x a b < (x.lens.length : Int) then x.open_ else if restD x a b = 0 then false else if lostI x a b = true ∧ (x.lens.length : Int) ≤ ((findP x.lens (b - 1) : Nat) : Int) + 1 then true else x.open_
def delI (x : IX) (a b : Int) : IX × (Int × Int × Int) × Int :=
  if errI x a b ≠ 0 then (x, (0, 0, 0), errI x a b) else if a = b then (x, (0, 0, 0), 0) else
  (chgI ⟨x.lens, x.size - (b - a), openD x a b⟩ ((findP x.lens a : Nat) : Int) (oldD x a b) (newD x a b), (((findP x.lens a : Nat) : Int), oldD x a b, ((newD x a b).length : Int)), 0)
theorem findP_mono {l : List Int} {a b : Int} (h : ∀ n ∈ l, 1 ≤ n) (h0 : 0 ≤ a) (hab : a ≤ b) (hb : b < l.sum) : findP l a ≤ findP l b := by
  have h1 := findP_spec h0 (by omega) h
  have h2 := findP_spec (l := l) (a := b) (by omega) hb h
  rcases Nat.lt_or_ge (findP l b) (findP l a) with h3 | h3
  · exfalso
    have h4 : (l.take (findP l b + 1)).sum ≤ (l.take (findP l a)).sum := by
      have e : l.take (findP l b + 1) = (l.take (findP l a)).take (findP l b + 1) := by rw [List.take_take, Nat.min_eq_left (by omega)]
      rw [e]
      exact (sum_take_le (fun n hn => h n (List.mem_of_mem_take hn)) _).2
    omega
  · exact h3
theorem sum_take_mono {l : List Int} (h : ∀ n ∈ l, 1 ≤ n) {i j : Nat} (hij : i ≤ j) : (l.take i).sum ≤ (l.take j).sum := by
  have e : l.take i = (l.take j).take i := by rw [List.take_take, Nat.min_eq_left hij]
  rw [e]
  exact (sum_take_le (fun n hn => h n (List.mem_of_mem_take hn)) _).2
/-- What the deleting meets: the text ahead, what of the paragraphs it leaves, and the text behind. -/
structure Met (s : ByteArray) (a b : Int) where
  u : List UInt8
  q1 : List UInt8
  c : List UInt8
  q2 : List UInt8
  v : List UInt8
  e : bs s = u ++ (q1 ++ c ++ q2) ++ v
  hu : shut u
  hul : lensB u = (lensOf s).take (findP (lensOf s) a)
  hvl : lensB v = (lensOf s).drop (findP (lensOf s) (b - 1) + 1)
  hn1 : nn q1
  hq2 : nn q2 ∨ ∃ q', q2 = q' ++ [10] ∧ nn q'
  hm : shut (q1 ++ c ++ q2) ∨ v = []
  hc : c ≠ []
  la : (u.length : Int) + q1.length = a
  lb : (u.length : Int) + q1.length + c.length = b
  lu : (u.length : Int) = ((lensOf s).take (findP (lensOf s) a)).sum
  le : (u.length : Int) + q1.length + c.length + q2.length = ((lensOf s).take (findP (lensOf s) (b - 1) + 1)).sum
  hA : findP (lensOf s) a ≤ findP (lensOf s) (b - 1)
  hB : findP (lensOf s) (b - 1) < (lensOf s).length
theorem met {s : ByteArray} {a b : Int} (h0 : 0 ≤ a) (h1 : a < b) (h2 : b ≤ s.size) : Nonempty (Met s a b) := by
  have hl := lensOf_ok s
  have hLs := lens_lensB s
  have hls := bs_len s
  have hA := findP_spec (l := lensOf s) h0 (by omega) hl.2.2
  have hB := findP_spec (l := lensOf s) (a := b - 1) (by omega) (by omega) hl.2.2
  have hAB := findP_mono (l := lensOf s) (a := a) (b := b - 1) hl.2.2 h0 (by omega) (by omega)
  generalize hAe : findP (lensOf s) a = A at *
  generalize hBe : findP (lensOf s) (b - 1) = B at *
  obtain ⟨u, w, e1, e2, e3, e4⟩ := cut_at A (bs s) (by rw [← hLs]; omega)
  rw [← hLs] at e2 e3
  have hwn : w ≠ [] := fun e => by rw [e] at e3; have := congrArg List.length e3; simp [lensB] at this; omega
  have hu : shut u := e4.resolve_right hwn
  obtain ⟨m, v, f1, f2, f3, f4⟩ := cut_at (B + 1 - A) w (by rw [e3]; simp; omega)
  rw [e3] at f2 f3
  have lu : (u.length : Int) = ((lensOf s).take A).sum := by rw [← lensB_sum, e2]
  have hv : lensB v = (lensOf s).drop (B + 1) := by rw [f3, List.drop_drop]; congr 1; omega
  have lum : (u.length : Int) + m.length = ((lensOf s).take (B + 1)).sum := by
    have h3 := lensB_sum m
    rw [f2] at h3
    have h4 : (lensOf s).take (B + 1) = (lensOf s).take A ++ ((lensOf s).drop A).take (B + 1 - A) := by
      rw [← List.take_append_drop A ((lensOf s).take (B + 1)), List.take_take, Nat.min_eq_left (by omega), List.drop_take]
    rw [h4, List.sum_append, h3, lu]
  -- the first of them
  have hmn : m ≠ [] := fun e => by rw [e] at f2; have := congrArg List.length f2; simp [lensB] at this; omega
  obtain ⟨q, r, g1, g2, g3⟩ := uncons m hmn
  have hql : (q.length : Int) = (lensOf s).getD A 0 := by
    have h5 : lensB m = (lensOf s).getD A 0 :: ((lensOf s).drop (A + 1)).take (B - A) := by
      rw [f2, List.drop_eq_getElem_cons hA.1, show B + 1 - A = (B - A) + 1 by omega, List.take_succ_cons]
      simp [List.getD, hA.1]
    rw [g2] at h5
    injection h5
  have hsA := sum_take_succ (lensOf s) A hA.1
  -- the last of them
  obtain ⟨m0, z, k1, k2, k3, k4⟩ := cut_at (B - A) m (by rw [f2]; simp; omega)
  have hz : lensB z = [(lensOf s).getD B 0] := by
    rw [k3, f2, List.drop_take, List.drop_drop, show B + 1 - A - (B - A) = 1 by omega, show A + (B - A) = B by omega, List.drop_eq_getElem_cons hB.1, List.take_succ_cons, List.take_zero]
    simp [List.getD, hB.1]
  obtain ⟨z1, z2, z3⟩ := one_para hz
  have hsB := sum_take_succ (lensOf s) B hB.1
  have lm : (m.length : Int) = m0.length + z.length := by rw [k1]; simp
  have hka : (a - u.length).toNat ≤ (b - u.length).toNat := by omega
  have hmono := sum_take_mono hl.2.2 (show A + 1 ≤ B + 1 by omega)
  refine ⟨⟨u, m.take (a - u.length).toNat, (m.drop (a - u.length).toNat).take (b - a).toNat, m.drop (b - u.length).toNat, v, ?_, hu, by rw [hAe]; exact e2, by rw [hBe]; exact hv, ?_, ?_, ?_, ?_, ?_, ?_, by rw [hAe]; exact lu, ?_, by rw [hAe, hBe]; exact hAB, by rw [hBe]; exact hB.1⟩⟩
  · rw [e1, f1]
    have h6 : m.take (a - u.length).toNat ++ (m.drop (a - u.length).toNat).take (b - a).toNat ++ m.drop (b - u.length).toNat = m := by
      have h7 : m.drop (b - u.length).toNat = (m.drop (a - u.length).toNat).drop (b - a).toNat := by rw [List.drop_drop]; congr 1; omega
      rw [h7, List.append_assoc, List.take_append_drop, List.take_append_drop]
    rw [h6, List.append_assoc]
  · have h6 : m.take (a - u.length).toNat = q.take (a - u.length).toNat := by rw [g1, List.take_append_of_le_length (by omega)]
    rw [h6]
    rcases g3 with g3 | ⟨q', g3, g4⟩
    · exact fun x hx => g3.1 x (List.mem_of_mem_take hx)
    · exact nn_take _ (.inr ⟨q', g3, g4⟩) (.inl (by omega))
  · have h6 : m.drop (b - u.length).toNat = z.drop ((b - u.length).toNat - m0.length) := by
      rw [k1, List.drop_append, List.drop_eq_nil_of_le (by omega), List.nil_append]
    rw [h6]
    exact para_drop _ z3
  · rcases f4 with f4 | f4
    · refine .inl ?_
      have h6 : m.take (a - u.length).toNat ++ (m.drop (a - u.length).toNat).take (b - a).toNat ++ m.drop (b - u.length).toNat = m := by
        have h7 : m.drop (b - u.length).toNat = (m.drop (a - u.length).toNat).drop (b - a).toNat := by rw [List.drop_drop]; congr 1; omega
        rw [h7, List.append_assoc, List.take_append_drop, List.take_append_drop]
      rw [h6]; exact f4
    · exact .inr f4
  · intro e
    have := congrArg List.length e
    simp at this
    omega
  · simp; omega
  · simp; omega
  · rw [hBe]; simp; omega
theorem lost_iff {s : ByteArray} {a b : Int} (m : Met s a b) : lostI (ixOf s) a b = true ↔ (m.q2 = [] ∧ shut (m.q1 ++ m.c)) := by
  have hl := lensOf_ok s
  have hLs := lens_lensB s
  have e := m.e
  have le := m.le
  have lb := m.lb
  unfold lostI
  rw [ix_lens, ix_open, decide_eq_true_iff]
  have hvn : m.v = [] ↔ ¬ (((findP (lensOf s) (b - 1) : Nat) : Int) < ((lensOf s).length : Int) - 1) := by
    rw [← lensB_nil, m.hvl, List.drop_eq_nil_iff]; have := m.hB; omega
  have hqn : m.q2 = [] ↔ b = ((lensOf s).take (findP (lensOf s) (b - 1) + 1)).sum := by
    rw [← List.length_eq_zero_iff]; omega
  constructor
  · rintro ⟨h1, h2⟩
    have h3 := hqn.2 h1
    refine ⟨h3, ?_⟩
    rcases h2 with h2 | h2
    · have := m.hm.resolve_right (fun e => (hvn.1 e) h2)
      rw [h3, List.append_nil] at this; exact this
    · by_cases hv : m.v = []
      · have h4 : shut (bs s) := Classical.not_not.1 fun e => by have := (open_shut s).2 e; rw [h2] at this; cases this
        rw [e, hv, h3, List.append_nil, List.append_nil, shut_last (by simp [m.hc])] at h4
        exact h4
      · have := m.hm.resolve_right hv
        rw [h3, List.append_nil] at this; exact this
  · rintro ⟨h1, h2⟩
    refine ⟨hqn.1 h1, ?_⟩
    by_cases hv : m.v = []
    · refine .inr ?_
      have h4 : shut (bs s) := by rw [e, hv, h1, List.append_nil, List.append_nil, shut_last (by simp [m.hc])]; exact h2
      cases ho : openOf s with
      | false => rfl
      | true => exact absurd h4 ((open_shut s).1 ho)
    · exact .inl (Classical.not_not.1 fun e => hv (hvn.2 e))
theorem more_iff {s : ByteArray} {a b : Int} (m : Met s a b) : moreI (ixOf s) a b = true ↔ (m.q2 = [] ∧ m.q1 ≠ [] ∧ m.v ≠ []) := by
  have hB := m.hB
  have la := m.la
  have lu := m.lu
  have hvn : m.v ≠ [] ↔ ((findP (lensOf s) (b - 1) : Nat) : Int) + 1 < ((lensOf s).length : Int) := by
    rw [ne_eq, ← lensB_nil, m.hvl, List.drop_eq_nil_iff]; omega
  have hqn : m.q1 ≠ [] ↔ ((lensOf s).take (findP (lensOf s) a)).sum < a := by
    rw [ne_eq, ← List.length_eq_zero_iff]; omega
  unfold moreI
  rw [decide_eq_true_iff, lost_iff m, ix_lens, ← hqn, ← hvn]
  constructor
  · rintro ⟨⟨h1, h2⟩, h3, h4⟩; exact ⟨h1, h3, h4⟩
  · rintro ⟨h1, h3, h4⟩
    have := m.hm.resolve_right h4
    rw [h1, List.append_nil] at this
    exact ⟨⟨h1, this⟩, h3, h4⟩
theorem del_eq {s s' : ByteArray} {a b : Int} (h0 : 0 ≤ a) (h1 : a < b) (h2 : b ≤ s.size) (he : bs s' = (bs s).take a.toNat ++ (bs s).drop b.toNat) :
    chgI ⟨(ixOf s).lens, (ixOf s).size - (b - a), openD (ixOf s) a b⟩ ((findP (ixOf s).lens a : Nat) : Int) (oldD (ixOf s) a b) (newD (ixOf s) a b) = ixOf s' := by
  obtain ⟨m⟩ := met h0 h1 h2
  have hl := lensOf_ok s
  have hLs := lens_lensB s
  have hLs' := lens_lensB s'
  have hls := bs_len s
  have hls' := bs_len s'
  have la := m.la
  have lb := m.lb
  have lu := m.lu
  have le := m.le
  have hA := m.hA
  have hB := m.hB
  have hvl := m.hvl
  have hs' : bs s' = m.u ++ (m.q1 ++ m.q2) ++ m.v := by
    rw [he, m.e]
    have e1 : m.u ++ (m.q1 ++ m.c ++ m.q2) ++ m.v = (m.u ++ m.q1) ++ (m.c ++ (m.q2 ++ m.v)) := by simp
    have e2 : m.u ++ (m.q1 ++ m.c ++ m.q2) ++ m.v = (m.u ++ m.q1 ++ m.c) ++ (m.q2 ++ m.v) := by simp
    conv => lhs; congr; rw [e1, take_len (by simp; omega)]
    rw [e2, drop_len (by simp; omega)]
    simp
  have hsz : (s'.size : Int) = s.size - (b - a) := by
    rw [← hls', ← hls, hs', m.e]; simp; omega
  have hvn : m.v ≠ [] ↔ ((findP (lensOf s) (b - 1) : Nat) : Int) + 1 < ((lensOf s).length : Int) := by
    rw [ne_eq, ← lensB_nil, hvl, List.drop_eq_nil_iff]; omega
  have hrest0 : a - ((lensOf s).take (findP (lensOf s) a)).sum + ((lensOf s).take (findP (lensOf s) (b - 1) + 1)).sum - b = (m.q1.length : Int) + m.q2.length := by omega
  have hso : ∀ {x y : List UInt8}, m.v ≠ [] → (shut (x ++ m.v) ↔ shut (y ++ m.v)) := fun hv => by rw [shut_last hv, shut_last hv]
  -- the lengths and the end, by what is left
  have key : (lensOf s).take (findP (lensOf s) a) ++ newD (ixOf s) a b ++ (lensOf s).drop (((findP (lensOf s) a : Nat) : Int) + oldD (ixOf s) a b).toNat = lensOf s' ∧ openD (ixOf s) a b = openOf s' := by
    by_cases hq2 : m.q2 = []
    · by_cases hv : m.v = []
      · -- nothing is behind
        have hmore : ¬ moreI (ixOf s) a b = true := fun e => ((more_iff m).1 e).2.2 hv
        have hB2 : ((findP (lensOf s) (b - 1) : Nat) : Int) + 1 = (lensOf s).length := by
          have : ¬ (((findP (lensOf s) (b - 1) : Nat) : Int) + 1 < ((lensOf s).length : Int)) := fun e => (hvn.2 e) hv
          omega
        have hr : restD (ixOf s) a b = m.q1.length := by unfold restD; rw [ix_lens, if_neg hmore, hrest0, hq2]; simp
        have ho : oldD (ixOf s) a b = ((findP (lensOf s) (b - 1) : Nat) : Int) - ((findP (lensOf s) a : Nat) : Int) + 1 := by unfold oldD; rw [ix_lens, if_neg hmore, Int.add_zero]
        rw [hq2, hv, List.append_nil, List.append_nil] at hs'
        refine ⟨?_, ?_⟩
        · rw [ho, List.drop_eq_nil_of_le (by omega), List.append_nil, hLs', hs', lensB_append m.hu, m.hul]
          congr 1
          unfold newD
          rw [hr]
          by_cases hq1 : m.q1 = []
          · rw [hq1]; rfl
          · have : 0 < m.q1.length := List.length_pos_iff.2 hq1
            rw [if_pos (by omega), lensB_nn m.hn1 hq1]
        · unfold openD
          rw [ix_lens, if_neg (by rw [ho]; omega), hr, ix_open]
          by_cases hq1 : m.q1 = []
          · rw [if_pos (by rw [hq1]; rfl)]
            have : shut (bs s') := by rw [hs', hq1, List.append_nil]; exact m.hu
            cases hoo : openOf s' with
            | false => rfl
            | true => exact absurd this ((open_shut s').1 hoo)
          · have hp : 0 < m.q1.length := List.length_pos_iff.2 hq1
            rw [if_neg (by omega)]
            have hns : ¬ shut (bs s') := by
              rw [hs', shut_last hq1]
              rintro (e | ⟨w, e⟩)
              · exact hq1 e
              · exact m.hn1 10 (by rw [e]; simp) rfl
            have hos := (open_shut s').2 hns
            rw [hos]
            by_cases hlost : lostI (ixOf s) a b = true
            · rw [if_pos ⟨hlost, by omega⟩]
            · rw [if_neg (fun e => hlost e.1)]
              refine (open_shut s).2 fun e => hlost ((lost_iff m).2 ⟨hq2, ?_⟩)
              rw [m.e, hv, hq2, List.append_nil, List.append_nil, shut_last (by simp [m.hc])] at e
              exact e
      · have hB2 := hvn.1 hv
        have hms : shut (m.q1 ++ m.c) := by have := m.hm.resolve_right hv; rwa [hq2, List.append_nil] at this
        have hopen : openOf s' = openOf s := by
          refine open_of ?_
          rw [hs', m.e]; exact hso hv
        by_cases hq1 : m.q1 = []
        · have hmore : ¬ moreI (ixOf s) a b = true := fun e => ((more_iff m).1 e).2.1 hq1
          have hr : restD (ixOf s) a b = 0 := by unfold restD; rw [ix_lens, if_neg hmore, hrest0, hq2, hq1]; simp
          have ho : oldD (ixOf s) a b = ((findP (lensOf s) (b - 1) : Nat) : Int) - ((findP (lensOf s) a : Nat) : Int) + 1 := by unfold oldD; rw [ix_lens, if_neg hmore, Int.add_zero]
          refine ⟨?_, ?_⟩
          · rw [ho, hLs', hs', hq1, hq2, List.append_nil, List.append_nil, lensB_append m.hu, m.hul, hvl]
            unfold newD
            rw [hr, if_neg (by omega), List.append_nil]
            congr 2
            omega
          · unfold openD
            rw [ix_lens, if_pos (by rw [ho]; omega), ix_open, hopen]
        · have hmore : moreI (ixOf s) a b = true := (more_iff m).2 ⟨hq2, hq1, hv⟩
          have hlt : findP (lensOf s) (b - 1) + 1 < (lensOf s).length := by omega
          have hg := getD_le hl.2.2 _ hlt
          have hr : restD (ixOf s) a b = (m.q1.length : Int) + (lensOf s).getD (findP (lensOf s) (b - 1) + 1) 0 := by unfold restD; rw [ix_lens, if_pos hmore, hrest0, hq2]; simp
          have ho : oldD (ixOf s) a b = ((findP (lensOf s) (b - 1) : Nat) : Int) - ((findP (lensOf s) a : Nat) : Int) + 1 + 1 := by unfold oldD; rw [ix_lens, if_pos hmore]
          have hvc : lensB m.v = (lensOf s).getD (findP (lensOf s) (b - 1) + 1) 0 :: (lensOf s).drop (findP (lensOf s) (b - 1) + 2) := by
            rw [hvl, List.drop_eq_getElem_cons hlt]; simp [List.getD, hlt]
          refine ⟨?_, ?_⟩
          · rw [ho, hLs', hs', hq2, List.append_nil, List.append_assoc m.u, lensB_append m.hu, m.hul, lensB_glue m.hn1 hv, hvc]
            unfold newD
            rw [hr, if_pos (by omega), List.append_assoc]
            congr 1
            rw [show (((findP (lensOf s) a : Nat) : Int) + (((findP (lensOf s) (b - 1) : Nat) : Int) - ((findP (lensOf s) a : Nat) : Int) + 1 + 1)).toNat = findP (lensOf s) (b - 1) + 2 by omega]
            simp [Int.add_comm]
          · unfold openD
            rw [ix_lens, ix_open, hopen, ho, hr]
            split
            · rfl
            · rw [if_neg (by omega), if_neg (fun e => by have := e.2; omega)]
    · -- something of the last one is left
      have hmore : ¬ moreI (ixOf s) a b = true := fun e => hq2 ((more_iff m).1 e).1
      have hlost : ¬ lostI (ixOf s) a b = true := fun e => hq2 ((lost_iff m).1 e).1
      have hp : 0 < m.q2.length := List.length_pos_iff.2 hq2
      have hr : restD (ixOf s) a b = (m.q1.length : Int) + m.q2.length := by unfold restD; rw [ix_lens, if_neg hmore, hrest0, Int.add_zero]
      have ho : oldD (ixOf s) a b = ((findP (lensOf s) (b - 1) : Nat) : Int) - ((findP (lensOf s) a : Nat) : Int) + 1 := by unfold oldD; rw [ix_lens, if_neg hmore, Int.add_zero]
      have hM : lensB (m.q1 ++ m.q2) = [(m.q1.length : Int) + m.q2.length] := by
        rcases m.hq2 with hq | ⟨q', hq, hq'⟩
        · rw [lensB_nn (fun x hx => (List.mem_append.1 hx).elim (m.hn1 x) (hq x)) (by simp [hq2])]; simp
        · rw [hq, ← List.append_assoc, lensB_line (fun x hx => (List.mem_append.1 hx).elim (m.hn1 x) (hq' x))]; simp; omega
      have hMv : lensB ((m.q1 ++ m.q2) ++ m.v) = lensB (m.q1 ++ m.q2) ++ lensB m.v := by
        by_cases hv : m.v = []
        · rw [hv]; simp [lensB]
        · have h5 := m.hm.resolve_right hv
          rw [shut_last hq2] at h5
          exact lensB_append ((shut_last hq2).2 h5)
      refine ⟨?_, ?_⟩
      · rw [ho, hLs', hs', List.append_assoc m.u, lensB_append m.hu, m.hul, hMv, hM, hvl]
        unfold newD
        rw [hr, if_pos (by omega), List.append_assoc]
        congr 3
        omega
      · have hopen : openOf s' = openOf s := by
          refine open_of ?_
          rw [hs', m.e]
          by_cases hv : m.v = []
          · have x1 : shut (m.u ++ (m.q1 ++ m.q2)) ↔ shut m.q2 := by rw [← List.append_assoc]; exact shut_last hq2
            have x2 : shut (m.u ++ (m.q1 ++ m.c ++ m.q2)) ↔ shut m.q2 := by rw [← List.append_assoc]; exact shut_last hq2
            rw [hv, List.append_nil, List.append_nil, x1, x2]
          · exact hso hv
        unfold openD
        rw [ix_lens, ix_open, hopen, hr]
        split
        · rfl
        · rw [if_neg (by omega), if_neg (fun e => hlost e.1)]
  show (⟨(lensOf s).take ((findP (lensOf s) a : Nat) : Int).toNat ++ newD (ixOf s) a b ++ (lensOf s).drop (((findP (lensOf s) a : Nat) : Int) + oldD (ixOf s) a b).toNat, (s.size : Int) - (b - a), openD (ixOf s) a b⟩ : IX) = ⟨lensOf s', (s'.size : Int), openOf s'⟩
  rw [Int.toNat_natCast, key.1, key.2, hsz]
end Go.Proofs.Yteancplgfjhagaa.Paras.B
