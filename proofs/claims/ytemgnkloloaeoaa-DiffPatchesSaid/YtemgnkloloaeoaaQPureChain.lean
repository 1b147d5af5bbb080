/- Pruned by wip/prune.py. -/
import Derived.Test.YtemgnkloloaeoaaQPurePatch
set_option linter.unusedVariables false
set_option linter.unusedSimpArgs false
namespace Go.Proofs.Ytemgnkloloaeoaa.Pure
open Go.RowKit Go.Proofs.Ytemgnkloloaeoaa.PAll Go.Proofs.YtemgnkloloaeoaaW.PrintWords Go.Proofs.YtemgnkloloaeoaaW.PrintLast Go.Proofs.YtemgnkloloaeoaaW.PrintMore Go.Proofs.Ytemgnkloloaeoaa.Given
theorem sameL_iff : ∀ (a b : List Run), sameL a b = true ↔ a = b
  | [], [] => by simp [sameL]
  | [], _ :: _ => by simp [sameL]
  | _ :: _, [] => by simp [sameL]
  | x :: a, y :: b => by
    obtain ⟨x0, x1⟩ := x
    obtain ⟨y0, y1⟩ := y
    simp only [sameL, Bool.and_eq_true, beq_iff_eq, sameL_iff a b, List.cons.injEq]
    constructor
    · rintro ⟨⟨rfl, rfl⟩, rfl⟩; exact ⟨rfl, rfl⟩
    · rintro ⟨h, rfl⟩; injection h with h1 h2; exact ⟨⟨h1, h2⟩, rfl⟩
/-- What counts of a line. -/
def normL (a : Line) : List UInt8 × Int × Int × Int × Bool × Int × Bool × Bool × List Run := (a.f0.toList, a.f2, a.f3, a.f4, a.f5, a.f6, a.f7, a.f8, layAll [] a.f1)
theorem same_iff (a b : Line) : sameLine a b = true ↔ normL a = normL b := by
  unfold sameLine normL
  simp only [Bool.and_eq_true, decide_eq_true_eq, beq_iff_eq, sameL_iff, Prod.mk.injEq, and_assoc]
theorem same_refl (a : Line) : sameLine a a = true := (same_iff a a).2 rfl
theorem same_trans {a b c : Line} (h : sameLine a b = true) (h2 : sameLine b c = true) : sameLine a c = true := (same_iff _ _).2 (((same_iff _ _).1 h).trans ((same_iff _ _).1 h2))
abbrev gl (a : List Line) (i : Nat) : Line := a.getD i z39
theorem ln_gl (a : List Line) (i : Nat) : ln a (i : Int) = gl a i := by unfold ln rd_T39; rw [Int.toNat_natCast]
/-- Lines alike. -/
def SLs (a b : List Line) : Prop := a.length = b.length ∧ ∀ i, i < a.length → sameLine (gl a i) (gl b i) = true
theorem sls_refl (a : List Line) : SLs a a := ⟨rfl, fun i _ => same_refl _⟩
theorem sls_trans {a b c : List Line} (h : SLs a b) (h2 : SLs b c) : SLs a c := ⟨h.1.trans h2.1, fun i hi => same_trans (h.2 i hi) (h2.2 i (by rw [← h.1]; exact hi))⟩
theorem sls_differs {a b : List Line} (ha : Short a) (hb : Short b) : SLs a b ↔ differs a b = false := by
  constructor
  · intro h
    have e := differs_all a b ha hb h.1
    have e2 : allL a b a.length 0 = true := by
      rw [allL_iff]
      intro j _ hj
      rw [ln_gl, ln_gl]
      exact h.2 j (by omega)
    rw [e2] at e
    cases hd : differs a b with
    | false => rfl
    | true => rw [hd] at e; cases e
  · intro h
    have hl : a.length = b.length := Decidable.by_contra fun hl => by rw [differs_len a b ha hb hl] at h; cases h
    have e := differs_all a b ha hb hl
    rw [h] at e
    have e2 := (allL_iff a b a.length 0).1 (by rw [e]; rfl)
    refine ⟨hl, fun i hi => ?_⟩
    have := e2 i (by omega) (by omega)
    rwa [ln_gl, ln_gl] at this
abbrev gp (x : List Page) (i : Nat) : List Line := (x.getD i z31).f0
theorem pgs_gp (x : List Page) (i : Nat) : pgs x (i : Int) = gp x i := by unfold pgs rd_T31; rw [Int.toNat_natCast]
/-- Pages alike. -/
def SPs (x y : List Page) : Prop := x.length = y.length ∧ ∀ i, i < x.length → SLs (gp x i) (gp y i)
theorem sps_refl (x : List Page) : SPs x x := ⟨rfl, fun i _ => sls_refl _⟩
theorem pages_l (x y : List Page) (hx : Few x) (hy : Few y) (h : SPs x y) : ∀ (n i : Nat), i + n = x.length → ∀ k, n + 110 ≤ k → regletref14_Pages.l0 k x y (i : Int) = some true := by
  have hl := hx.1
  have hxy := h.1
  intro n
  induction n with
  | zero =>
    intro i hi k hk
    obtain ⟨k, rfl⟩ : ∃ m, k = m + 1 := ⟨k - 1, by omega⟩
    simp only [regletref14_Pages.l0]
    rw [if_neg (by omega)]
  | succ n ih =>
    intro i hi k hk
    obtain ⟨k, rfl⟩ : ∃ m, k = m + 1 := ⟨k - 1, by omega⟩
    simp only [regletref14_Pages.l0]
    have hd : differs (pgs x (i : Int)) (pgs y (i : Int)) = false := by
      rw [pgs_gp, pgs_gp]
      exact (sls_differs (few_get hx i (by omega)) (few_get hy i (by omega))).1 (h.2 i (by omega))
    rw [if_pos (by omega), if_pos (by omega), if_pos (by omega), page14_val (rd_T31 x _).f0 (rd_T31 y _).f0 (few_at hx i (by omega) (by omega)) (few_at hy i (by omega) (by omega)) k (by omega), bind_s]
    have hd' : differs (rd_T31 x (i : Int)).f0 (rd_T31 y (i : Int)).f0 = false := hd
    rw [hd', if_pos (show (!false) = true from rfl), w_id (by omega) (by omega), show ((i : Int) + 1) = ((i + 1 : Nat) : Int) by omega]
    exact ih (i + 1) (by omega) k (by omega)
theorem pages_val (x y : List Page) (hx : Few x) (hy : Few y) (h : SPs x y) : regletref14_Pages.f 200 x y = some true := by
  have hl := hx.1
  unfold regletref14_Pages.f
  rw [if_pos (by have := h.1; omega)]
  have := pages_l x y hx hy h x.length 0 (by omega) 200 (by omega)
  simpa using this
def pfl (x : List Page) : List Region → PSt → Option PSt
  | [], s => some s
  | r :: l, s => (pstep x s r).bind fun s => pfl x l s
theorem pfl_append (x : List Page) : ∀ (l m : List Region) (s : PSt), pfl x (l ++ m) s = (pfl x l s).bind fun s => pfl x m s
  | [], m, s => rfl
  | r :: l, m, s => by
    simp only [List.cons_append, pfl]
    cases pstep x s r with
    | none => rfl
    | some s' => exact pfl_append x l m s'
theorem pfold_pfl (x : List Page) (rs : List Region) : ∀ k, k ≤ rs.length → pfold x rs k = pfl x (rs.take k) ⟨x, -1, false⟩
  | 0, _ => rfl
  | k + 1, h => by
    have e : rs.getD k z34 = rs[k] := by simp [List.getD, show k < rs.length by omega]
    show (pfold x rs k).bind _ = _
    rw [pfold_pfl x rs k (by omega), List.take_succ_eq_append_getElem (show k < rs.length by omega), pfl_append, e]
    congr 1
    funext s
    simp only [pfl]
    cases pstep x s rs[k] <;> rfl
/-- What holds ahead of page i. -/
structure CInv (x b c : List Page) (i : Nat) (s : PSt) : Prop where
  l0 : -1 ≤ s.last
  l1 : s.last < i
  short : ∀ p ∈ s.out, Short p.f0
  both : i ≤ b.length → i ≤ c.length → s.gone = false ∧ s.out.length = b.length ∧ (∀ j, j < i → SLs (gp s.out j) (gp c j)) ∧ ∀ j, i ≤ j → j < b.length → s.out.getD j z31 = x.getD j z31
  more : b.length ≤ i → i ≤ c.length → s.gone = false ∧ s.out.length = i ∧ ∀ j, j < i → SLs (gp s.out j) (gp c j)
  less : c.length < i → i ≤ b.length → s.gone = true ∧ s.out.length = c.length ∧ s.last = (i : Int) - 1 ∧ ∀ j, j < c.length → SLs (gp s.out j) (gp c j)
theorem gp_set (l : List Page) (p j : Nat) (q : Page) : gp (l.set p q) j = if p = j ∧ j < l.length then q.f0 else gp l j := by
  unfold gp
  rw [List.getD_eq_getElem?_getD, List.getElem?_set, List.getD_eq_getElem?_getD]
  by_cases h : p = j
  · subst h
    by_cases h2 : p < l.length
    · simp [h2]
    · simp [h2]
  · simp [h]
theorem gp_app (l : List Page) (q : Page) (j : Nat) : gp (l ++ [q]) j = if j < l.length then gp l j else if j = l.length then q.f0 else gp [] 0 := by
  unfold gp
  simp only [List.getD_eq_getElem?_getD]
  by_cases h : j < l.length
  · rw [if_pos h, List.getElem?_append_left h]
  · rw [if_neg h, List.getElem?_append_right (by omega)]
    by_cases h2 : j = l.length
    · subst h2; simp
    · rw [if_neg h2, List.getElem?_eq_none (by simp; omega)]
      simp
theorem gp_take (l : List Page) (p j : Nat) (h : j < p) : gp (l.take p) j = gp l j := by
  unfold gp
  simp only [List.getD_eq_getElem?_getD, List.getElem?_take]
  rw [if_pos h]
theorem gl_app (a b : List Line) (j : Nat) : gl (a ++ b) j = if j < a.length then gl a j else gl b (j - a.length) := by
  unfold gl
  simp only [List.getD_eq_getElem?_getD]
  by_cases h : j < a.length
  · rw [if_pos h, List.getElem?_append_left h]
  · rw [if_neg h, List.getElem?_append_right (by omega)]
theorem gl_take (a : List Line) (p j : Nat) (h : j < p) : gl (a.take p) j = gl a j := by
  unfold gl
  simp only [List.getD_eq_getElem?_getD, List.getElem?_take]
  rw [if_pos h]
theorem gl_drop (a : List Line) (p j : Nat) : gl (a.drop p) j = gl a (p + j) := by
  unfold gl
  simp only [List.getD_eq_getElem?_getD, List.getElem?_drop]
/-- A page changed. -/
theorem changed_same {X a c : List Line} (n : Int) (hXa : SLs X a) (ha : Short a) (hc : Short c) : SLs (changed X (regOf n a c)) c := by
  obtain ⟨h, _⟩ := ends_pq a c ha hc
  have g1 := h.la
  have g2 := h.lb
  have hl := hXa.1
  have e2 : (regOf n a c).f2.toNat = endP a c := by show ((endP a c : Nat) : Int).toNat = _; omega
  have e3 : ((regOf n a c).f2 + (regOf n a c).f3).toNat = a.length - endQ a c := by show (((endP a c : Nat) : Int) + ((a.length : Int) - endP a c - endQ a c)).toNat = _; omega
  have e4 : (regOf n a c).f4 = (c.take (c.length - endQ a c)).drop (endP a c) := rfl
  have el : (regOf n a c).f4.length = c.length - endQ a c - endP a c := by rw [e4]; simp only [List.length_drop, List.length_take]; omega
  unfold changed
  rw [e2, e3]
  have hlen : (X.take (endP a c) ++ (regOf n a c).f4 ++ X.drop (a.length - endQ a c)).length = c.length := by
    simp only [List.length_append, List.length_take, List.length_drop, el]; omega
  refine ⟨hlen, fun i hi => ?_⟩
  rw [hlen] at hi
  rw [gl_app]
  have hfl : (X.take (endP a c) ++ (regOf n a c).f4).length = c.length - endQ a c := by simp only [List.length_append, List.length_take, el]; omega
  by_cases h1 : i < c.length - endQ a c
  · rw [if_pos (by omega), gl_app]
    have htl : (X.take (endP a c)).length = endP a c := by rw [List.length_take]; omega
    by_cases h2 : i < endP a c
    · rw [if_pos (by omega), gl_take _ _ _ h2]
      have h3 := h.head i h2
      rw [ln_gl, ln_gl] at h3
      exact same_trans (hXa.2 i (by omega)) h3
    · rw [if_neg (by omega), htl, e4, gl_drop, gl_take _ _ _ (by omega), show endP a c + (i - endP a c) = i by omega]
      exact same_refl _
  · rw [if_neg (by omega), hfl, gl_drop]
    have h3 := h.tail (c.length - 1 - i) (by omega)
    rw [show ((a.length : Int) - 1 - ((c.length - 1 - i : Nat) : Int)) = ((a.length - endQ a c + (i - (c.length - endQ a c)) : Nat) : Int) by omega, show ((c.length : Int) - 1 - ((c.length - 1 - i : Nat) : Int)) = (i : Int) by omega, ln_gl, ln_gl] at h3
    exact same_trans (hXa.2 _ (by omega)) h3
theorem changed_short {X a c : List Line} (n : Int) (hXa : SLs X a) (hX : Short X) (ha : Short a) (hc : Short c) : Short (changed X (regOf n a c)) := by
  have h := changed_same n hXa ha hc
  refine ⟨by rw [h.1]; exact hc.1, fun l hl => ?_⟩
  unfold changed at hl
  rcases List.mem_append.1 hl with hl | hl
  · rcases List.mem_append.1 hl with hl | hl
    · exact hX.2 l (List.mem_of_mem_take hl)
    · have e4 : (regOf n a c).f4 = (c.take (c.length - endQ a c)).drop (endP a c) := rfl
      rw [e4] at hl
      exact hc.2 l (List.mem_of_mem_take (List.mem_of_mem_drop hl))
  · exact hX.2 l (List.mem_of_mem_drop hl)
theorem cinv_step {x b c : List Page} (hx : Few x) (hb : Few b) (hc : Few c) (hxb : SPs x b) {i : Nat} {s : PSt} (hi : i < max b.length c.length) (h : CInv x b c i s) : ∃ s', pfl x (regAt b c i).toList s = some s' ∧ CInv x b c (i + 1) s' := by
  obtain ⟨h1, h2, h3, h4, h5, h6⟩ := h
  have hxl := hxb.1
  by_cases hboth : i < b.length ∧ i < c.length
  · obtain ⟨g1, g2, g3, g4⟩ := h4 (by omega) (by omega)
    have hsb := few_get hb i hboth.1
    have hsc := few_get hc i hboth.2
    have hox : s.out.getD i z31 = x.getD i z31 := g4 i (Nat.le_refl _) hboth.1
    have hXa : SLs (gp x i) (gp b i) := hxb.2 i (by omega)
    by_cases hd : differs (pgs b i) (pgs c i) = true
    · have hr : regAt b c i = some (regOf i (pgs b i) (pgs c i)) := by unfold regAt; rw [if_pos hboth, if_pos hd]
      rw [hr, pgs_gp, pgs_gp]
      have ht := told (i : Int) (gp b i) (gp c i) hsb hsc
      have hf : fitsB x (regOf i (gp b i) (gp c i)) s.last (s.out.length : Int) = true := by
        unfold fitsB
        have e0 : (regOf (i : Int) (gp b i) (gp c i)).f0 = (i : Int) := rfl
        rw [if_neg (by rw [e0]; omega), if_pos ht.kind]
        have e1 := ht.le
        have e2 := ht.f0
        have e3 := ht.o0
        have e4 := hXa.1
        rw [e0, pgs_gp]
        exact decide_eq_true ⟨by omega, e2, e3, by omega, by omega⟩
      have hst : pstep x s (regOf i (gp b i) (gp c i)) = some ⟨s.out.set i ⟨changed (s.out.getD i z31).f0 (regOf i (gp b i) (gp c i))⟩, i, s.gone⟩ := by
        unfold pstep
        rw [if_neg (by rw [hf, g1]; simp), if_pos ht.kind]
        rfl
      refine ⟨⟨s.out.set i ⟨changed (s.out.getD i z31).f0 (regOf i (gp b i) (gp c i))⟩, i, s.gone⟩, by simp only [Option.toList_some, pfl, hst]; rfl, ?_⟩
      rw [hox]
      have hcs := changed_same (i : Int) hXa hsb hsc
      have hcsh := changed_short (i : Int) hXa (few_get hx i (by omega)) hsb hsc
      refine ⟨by show (-1 : Int) ≤ i; omega, by show (i : Int) < ((i + 1 : Nat) : Int); omega, fun p hp => ?_, fun k1 k2 => ⟨g1, by simp only [List.length_set]; exact g2, fun j hj => ?_, fun j hj hjb => ?_⟩, fun k1 k2 => ⟨g1, by simp only [List.length_set]; omega, fun j hj => ?_⟩, fun k1 k2 => by omega⟩
      · rcases List.mem_or_eq_of_mem_set hp with hp | rfl
        · exact h3 p hp
        · exact hcsh
      · show SLs (gp (s.out.set i _) j) _
        rw [gp_set]
        by_cases hji : i = j
        · subst hji; rw [if_pos ⟨rfl, by omega⟩]; exact hcs
        · rw [if_neg (by rintro ⟨e, _⟩; exact hji e)]; exact g3 j (by omega)
      · show (s.out.set i _).getD j _ = _
        rw [List.getD_eq_getElem?_getD, List.getElem?_set_ne (by omega), ← List.getD_eq_getElem?_getD]
        exact g4 j (by omega) hjb
      · show SLs (gp (s.out.set i _) j) _
        rw [gp_set]
        by_cases hji : i = j
        · subst hji; rw [if_pos ⟨rfl, by omega⟩]; exact hcs
        · rw [if_neg (by rintro ⟨e, _⟩; exact hji e)]; exact g3 j (by omega)
    · have hr : regAt b c i = none := by unfold regAt; rw [if_pos hboth, if_neg hd]
      have hd2 : SLs (gp b i) (gp c i) := (sls_differs hsb hsc).2 (by rw [pgs_gp, pgs_gp] at hd; cases hq : differs (gp b i) (gp c i) with | true => exact absurd hq hd | false => rfl)
      have hnew : SLs (gp s.out i) (gp c i) := by unfold gp; rw [hox]; exact sls_trans hXa hd2
      have hall : ∀ j, j < i + 1 → SLs (gp s.out j) (gp c j) := fun j hj => by
        by_cases hji : j = i
        · subst hji; exact hnew
        · exact g3 j (by omega)
      rw [hr]
      exact ⟨s, rfl, h1, by omega, h3, fun k1 k2 => ⟨g1, g2, hall, fun j hj hjb => g4 j (by omega) hjb⟩, fun k1 k2 => ⟨g1, by omega, hall⟩, fun k1 k2 => by omega⟩
  · by_cases hbl : b.length ≤ i
    · obtain ⟨g1, g2, g3⟩ := h5 hbl (by omega)
      have hr : regAt b c i = some ⟨i, 2, 0, 0, pgs c i⟩ := by unfold regAt; rw [if_neg hboth, if_pos hbl]
      rw [hr, pgs_gp]
      have hf : fitsB x ⟨i, 2, 0, 0, gp c i⟩ s.last (s.out.length : Int) = true := by
        unfold fitsB
        rw [if_neg (by show ¬ (i : Int) ≤ s.last; omega), if_neg (by show ¬ (2 : Int) = 1; omega), if_pos rfl]
        exact decide_eq_true ⟨by show (x.length : Int) ≤ i; omega, by show (i : Int) = s.out.length; omega, rfl, rfl⟩
      have hst : pstep x s ⟨i, 2, 0, 0, gp c i⟩ = some ⟨s.out ++ [⟨gp c i⟩], i, s.gone⟩ := by
        unfold pstep
        rw [if_neg (by rw [hf, g1]; simp), if_neg (by show ¬ (2 : Int) = 1; omega), if_pos rfl]
      have hall : ∀ j, j < i + 1 → SLs (gp (s.out ++ [⟨gp c i⟩]) j) (gp c j) := fun j hj => by
        rw [gp_app]
        by_cases hji : j < s.out.length
        · rw [if_pos hji]; exact g3 j (by omega)
        · rw [if_neg hji, if_pos (by omega)]
          have : j = i := by omega
          subst this
          exact sls_refl _
      refine ⟨⟨s.out ++ [⟨gp c i⟩], i, s.gone⟩, by simp only [Option.toList_some, pfl, hst]; rfl, by show (-1 : Int) ≤ i; omega, by show (i : Int) < ((i + 1 : Nat) : Int); omega, fun p hp => ?_, fun k1 k2 => by omega, fun k1 k2 => ⟨g1, by simp only [List.length_append, List.length_cons, List.length_nil]; omega, hall⟩, fun k1 k2 => by omega⟩
      rcases List.mem_append.1 hp with hp | hp
      · exact h3 p hp
      · rw [List.mem_singleton.1 hp]
        exact few_get hc i (by omega)
    · have hcl : c.length ≤ i := by omega
      have hr : regAt b c i = some ⟨i, 3, 0, ((pgs b i).length : Int), []⟩ := by unfold regAt; rw [if_neg hboth, if_neg hbl]
      rw [hr]
      have hf : fitsB x ⟨i, 3, 0, ((pgs b i).length : Int), []⟩ s.last (s.out.length : Int) = true := by
        unfold fitsB
        rw [if_neg (by show ¬ (i : Int) ≤ s.last; omega), if_neg (by show ¬ (3 : Int) = 1; omega), if_neg (by show ¬ (3 : Int) = 2; omega), if_pos rfl]
        refine decide_eq_true ⟨by show (i : Int) < x.length; omega, rfl, ?_, rfl⟩
        show ((pgs b i).length : Int) = ((pgs x i).length : Int)
        rw [pgs_gp, pgs_gp, (hxb.2 i (by omega)).1]
      by_cases hci : i = c.length
      · obtain ⟨g1, g2, g3, g4⟩ := h4 (by omega) (by omega)
        have hst : pstep x s ⟨i, 3, 0, ((pgs b i).length : Int), []⟩ = some ⟨s.out.take i, i, true⟩ := by
          unfold pstep
          rw [if_neg (by rw [hf, g1]; simp), if_neg (by show ¬ (3 : Int) = 1; omega), if_neg (by show ¬ (3 : Int) = 2; omega), if_neg (by rw [g1]; simp)]
          rfl
        refine ⟨⟨s.out.take i, i, true⟩, by simp only [Option.toList_some, pfl, hst]; rfl, by show (-1 : Int) ≤ i; omega, by show (i : Int) < ((i + 1 : Nat) : Int); omega, fun p hp => h3 p (List.mem_of_mem_take hp), fun k1 k2 => by omega, fun k1 k2 => by omega, fun k1 k2 => ⟨rfl, by simp only [List.length_take]; omega, by show (i : Int) = ((i + 1 : Nat) : Int) - 1; omega, fun j hj => ?_⟩⟩
        show SLs (gp (s.out.take i) j) _
        rw [gp_take _ _ _ (by omega)]
        exact g3 j (by omega)
      · obtain ⟨g1, g2, g3, g4⟩ := h6 (by omega) (by omega)
        have hst : pstep x s ⟨i, 3, 0, ((pgs b i).length : Int), []⟩ = some ⟨s.out, i, true⟩ := by
          unfold pstep
          rw [if_neg (by rw [hf]; simp), if_neg (by show ¬ (3 : Int) = 1; omega), if_neg (by show ¬ (3 : Int) = 2; omega), if_pos g1]
        exact ⟨⟨s.out, i, true⟩, by simp only [Option.toList_some, pfl, hst]; rfl, by show (-1 : Int) ≤ i; omega, by show (i : Int) < ((i + 1 : Nat) : Int); omega, h3, fun k1 k2 => by omega, fun k1 k2 => by omega, fun k1 k2 => ⟨rfl, g2, by show (i : Int) = ((i + 1 : Nat) : Int) - 1; omega, g4⟩⟩
theorem cinv_fold {x b c : List Page} (hx : Few x) (hb : Few b) (hc : Few c) (hxb : SPs x b) : ∀ (m i : Nat) (s : PSt), i + m = max b.length c.length → CInv x b c i s → ∃ s', pfl x (regsL b c m i) s = some s' ∧ CInv x b c (i + m) s'
  | 0, i, s, _, h => ⟨s, rfl, h⟩
  | m + 1, i, s, hi, h => by
    obtain ⟨s1, e1, h1⟩ := cinv_step hx hb hc hxb (by omega) h
    obtain ⟨s2, e2, h2⟩ := cinv_fold hx hb hc hxb m (i + 1) s1 (by omega) h1
    refine ⟨s2, ?_, by rwa [show i + (m + 1) = i + 1 + m by omega]⟩
    simp only [regsL]
    rw [pfl_append, e1]
    exact e2
theorem row_gone {b c : List Page} (hcb : c.length ≤ b.length) : ∀ (m i : Nat), i + m = b.length → rowB (regsL b c m i) ((max i c.length : Nat) : Int) (b.length : Int) = true
  | 0, i, hi => by
    simp only [regsL, rowB]
    rw [show max i c.length = b.length by omega]
    simp
  | m + 1, i, hi => by
    have ih := row_gone hcb m (i + 1) (by omega)
    simp only [regsL]
    by_cases hc : i < c.length
    · have e : max (i + 1) c.length = max i c.length := by omega
      rw [e] at ih
      unfold regAt
      rw [if_pos ⟨by omega, hc⟩]
      split
      · simp only [Option.toList_some, List.cons_append, List.nil_append, rowB]
        rw [if_neg (by show ¬ (1 : Int) = 3; omega)]
        exact ih
      · simpa using ih
    · unfold regAt
      rw [if_neg (by omega), if_neg (by omega)]
      simp only [Option.toList_some, List.cons_append, List.nil_append, rowB]
      rw [if_pos trivial, if_pos (by show (i : Int) = ((max i c.length : Nat) : Int); omega)]
      rw [show ((max i c.length : Nat) : Int) + 1 = ((max (i + 1) c.length : Nat) : Int) by omega]
      exact ih
/-- What changed from some pages to others, done to pages like the first. -/
theorem patch_same {x b c : List Page} (hx : Few x) (hb : Few b) (hc : Few c) (hxb : SPs x b) : ∃ z, patchV x (diffV b c) = (z, 0) ∧ SPs z c ∧ Few z := by
  have hxl := hxb.1
  have h0 : CInv x b c 0 ⟨x, -1, false⟩ := ⟨by simp, by simp, hx.2, fun _ _ => ⟨rfl, hxl, fun j hj => by omega, fun j _ _ => rfl⟩, fun k1 k2 => ⟨rfl, by show x.length = 0; omega, fun j hj => by omega⟩, fun k1 k2 => by omega⟩
  obtain ⟨s, e, h⟩ := cinv_fold hx hb hc hxb (max b.length c.length) 0 _ (by omega) h0
  rw [Nat.zero_add] at h
  have hp : pfold x (diffV b c) (diffV b c).length = some s := by
    rw [pfold_pfl _ _ _ (Nat.le_refl _), List.take_length, diffV_regs]
    exact e
  have hfew : s.out.length = c.length → Few s.out := fun hl => ⟨by rw [hl]; exact hc.1, h.short⟩
  have hv : patchV x (diffV b c) = pfin x (diffV b c) s := by unfold patchV; rw [hp]
  by_cases hbc : b.length ≤ c.length
  · obtain ⟨g1, g2, g3⟩ := h.more (by omega) (by omega)
    refine ⟨s.out, ?_, ⟨by omega, fun j hj => g3 j (by omega)⟩, hfew (by omega)⟩
    rw [hv]
    unfold pfin
    rw [if_neg (by rw [g1]; simp)]
  · obtain ⟨g1, g2, g3, g4⟩ := h.less (by omega) (by omega)
    refine ⟨s.out, ?_, ⟨by omega, fun j hj => g4 j (by omega)⟩, hfew g2⟩
    rw [hv]
    unfold pfin
    rw [if_neg]
    rintro (⟨_, k2⟩ | ⟨_, k2⟩)
    · omega
    · have hr := row_gone (b := b) (c := c) (by omega) b.length 0 (by omega)
      rw [diffV_regs, show max b.length c.length = b.length by omega, g2, hxl] at k2
      rw [show max 0 c.length = c.length by omega] at hr
      rw [hr] at k2
      cases k2
theorem regs_short {x y : List Page} (hx : Few x) (hy : Few y) : ∀ m i, i + m ≤ max x.length y.length → ∀ r ∈ regsL x y m i, Short r.f4
  | 0, i, _, r, h => by simp [regsL] at h
  | m + 1, i, hi, r, h => by
    simp only [regsL, List.mem_append, Option.mem_toList] at h
    rcases h with h | h
    · unfold regAt at h
      split at h
      · rename_i hb
        split at h
        · injection h with h
          subst h
          rw [pgs_gp, pgs_gp]
          exact (told (i : Int) _ _ (few_get hx i hb.1) (few_get hy i hb.2)).sh
        · cases h
      · rename_i hb
        split at h
        · injection h with h
          subst h
          show Short (pgs y i)
          rw [pgs_gp]
          exact few_get hy i (by omega)
        · injection h with h
          subst h
          exact ⟨by simp, fun l hl => by cases hl⟩
    · exact regs_short hx hy m (i + 1) (by omega) r h
theorem diff_short {x y : List Page} (hx : Few x) (hy : Few y) : ∀ r ∈ diffV x y, Short r.f4 := by
  rw [diffV_regs]
  exact regs_short hx hy _ 0 (by omega)
theorem regs_nil {x : List Page} (hx : Few x) : ∀ m i, i + m = x.length → regsL x x m i = []
  | 0, _, _ => rfl
  | m + 1, i, h => by
    have e : regAt x x i = none := by
      unfold regAt
      rw [if_pos ⟨by omega, by omega⟩, (sls_differs (few_at hx i (by omega) (by omega)) (few_at hx i (by omega) (by omega))).1 (sls_refl _)]
      rfl
    simp only [regsL, e, regs_nil hx m (i + 1) (by omega)]
    rfl
theorem diff_nil {x : List Page} (hx : Few x) : diffV x x = [] := by rw [diffV_regs, Nat.max_self]; exact regs_nil hx _ 0 (by omega)
end Go.Proofs.Ytemgnkloloaeoaa.Pure
