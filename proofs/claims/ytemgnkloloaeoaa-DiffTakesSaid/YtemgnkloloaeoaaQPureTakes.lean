/- Pruned by wip/prune.py. -/
import Derived.Test.YtemgnkloloaeoaaQPureChain
set_option linter.unusedVariables false
set_option linter.unusedSimpArgs false
namespace Go.Proofs.Ytemgnkloloaeoaa.Pure
open Go.RowKit Go.Proofs.Ytemgnkloloaeoaa.PAll Go.Proofs.YtemgnkloloaeoaaW.PrintWords Go.Proofs.YtemgnkloloaeoaaW.PrintLast Go.Proofs.YtemgnkloloaeoaaW.PrintMore Go.Proofs.Ytemgnkloloaeoaa.Given
/-- Where the reference's patch is. -/
structure RSt where
  out : List Page
  last : Int
  keep : Int
def rstep (x : List Page) (s : RSt) (r : Region) : Option RSt :=
  if r.f0 ≤ s.last ∨ (0 ≤ s.keep ∧ r.f1 ≠ 3) then none
  else if r.f1 = 1 then (if (x.length : Int) ≤ r.f0 ∨ r.f2 < 0 ∨ r.f3 < 0 ∨ ((pgs x r.f0).length : Int) < r.f2 ∨ ((pgs x r.f0).length : Int) - r.f2 < r.f3 then none else some ⟨s.out.set r.f0.toNat ⟨changed (pgs x r.f0) r⟩, r.f0, s.keep⟩)
  else if r.f1 = 2 then (if r.f0 ≠ (s.out.length : Int) ∨ r.f2 ≠ 0 ∨ r.f3 ≠ 0 then none else some ⟨s.out ++ [⟨r.f4⟩], r.f0, s.keep⟩)
  else if r.f1 = 3 then (if (x.length : Int) ≤ r.f0 ∨ r.f2 ≠ 0 ∨ r.f3 ≠ ((pgs x r.f0).length : Int) ∨ 0 < r.f4.length ∨ (0 ≤ s.keep ∧ r.f0 ≠ s.last + 1) then none else some ⟨s.out, r.f0, if s.keep < 0 then r.f0 else s.keep⟩)
  else none
def rfold (x : List Page) (rs : List Region) : Nat → Option RSt
  | 0 => some ⟨x, -1, -1⟩
  | k + 1 => (rfold x rs k).bind fun s => rstep x s (rs.getD k z34)
def rfin (x : List Page) (s : RSt) : Option (List Page) :=
  if 0 ≤ s.keep then (if s.last ≠ (x.length : Int) - 1 then none else some (s.out.take s.keep.toNat)) else some s.out
def refV (x : List Page) (rs : List Region) : Option (List Page) := (rfold x rs rs.length).bind (rfin x)
theorem rfold_none {x : List Page} {rs : List Region} {k : Nat} (h : rfold x rs k = none) : ∀ m, rfold x rs (k + m) = none
  | 0 => h
  | m + 1 => by
    show (rfold x rs (k + m)).bind _ = none
    rw [rfold_none h m]
    rfl
theorem ref_none {x : List Page} {rs : List Region} {k : Nat} (hk : k ≤ rs.length) (h : rfold x rs k = none) : refV x rs = none := by
  have := rfold_none h (rs.length - k)
  rw [show k + (rs.length - k) = rs.length by omega] at this
  unfold refV
  rw [this]
  rfl
def rowE : List Region → Int → Option Int
  | [], f => some f
  | r :: l, f => if r.f1 = 3 then (if r.f0 = f then rowE l (f + 1) else none) else rowE l f
theorem rowE_append : ∀ (l m : List Region) (f : Int), rowE (l ++ m) f = (rowE l f).bind (rowE m)
  | [], m, f => rfl
  | r :: l, m, f => by
    simp only [List.cons_append, rowE]
    split
    · split
      · exact rowE_append l m _
      · rfl
    · exact rowE_append l m _
theorem rowB_E : ∀ (l : List Region) (f t : Int), rowB l f t = (match rowE l f with | some g => g == t | none => false)
  | [], f, t => rfl
  | r :: l, f, t => by
    simp only [rowB, rowE]
    split
    · split
      · exact rowB_E l _ t
      · rfl
    · exact rowB_E l f t
theorem pinv_fold {x : List Page} {rs : List Region} : ∀ (k : Nat) (s : PSt), pfold x rs k = some s → PInv x k s
  | 0, s, h => by
    injection h with h
    subst h
    exact pinv_start x
  | k + 1, s, h => by
    have h' : (pfold x rs k).bind (fun s => pstep x s (rs.getD k z34)) = some s := h
    cases hq : pfold x rs k with
    | none => rw [hq] at h'; cases h'
    | some s1 =>
      rw [hq] at h'
      exact pinv_step (pinv_fold k s1 hq) h'
def Rel (rs : List Region) (k : Nat) (t : RSt) (s : PSt) : Prop :=
  s.last = t.last ∧ ((t.keep < 0 ∧ s.gone = false ∧ s.out = t.out ∧ ∀ f, rowE (rs.take k) f = some f) ∨
    (0 ≤ t.keep ∧ s.gone = true ∧ t.keep ≤ (t.out.length : Int) ∧ s.out = t.out.take t.keep.toNat ∧ rowE (rs.take k) t.keep = some (t.last + 1)))
def Bad (rs : List Region) (k : Nat) (s : PSt) : Prop := s.gone = true ∧ rowE (rs.take k) (s.out.length : Int) = none
theorem take_next {rs : List Region} {k : Nat} (hk : k < rs.length) : rs.take (k + 1) = rs.take k ++ [rs.getD k z34] := by
  rw [List.take_add_one, List.getElem?_eq_getElem hk]
  simp [List.getD, hk]
theorem rowE_one (r : Region) (f : Int) : rowE [r] f = if r.f1 = 3 then (if r.f0 = f then some (f + 1) else none) else some f := rfl
theorem bad_step {x : List Page} {rs : List Region} {k : Nat} {s s' : PSt} (hk : k < rs.length) (hb : Bad rs k s) (h : pstep x s (rs.getD k z34) = some s') : Bad rs (k + 1) s' := by
  obtain ⟨hg, hr⟩ := hb
  unfold pstep at h
  split at h
  · cases h
  rename_i h1
  have h3 : (rs.getD k z34).f1 = 3 := by
    refine Classical.byContradiction fun h4 => h1 (.inr ⟨hg, h4⟩)
  rw [if_neg (by omega), if_neg (by omega)] at h
  try rw [if_pos hg] at h
  injection h with h
  subst h
  refine ⟨rfl, ?_⟩
  show rowE (rs.take (k + 1)) (s.out.length : Int) = none
  rw [take_next hk, rowE_append, hr]
  rfl
theorem rel_step {x : List Page} {rs : List Region} {k : Nat} {s : PSt} {t : RSt} (hk : k < rs.length) (hi : PInv x k s) (hr : Rel rs k t s) :
    match rstep x t (rs.getD k z34) with
    | some t' => ∃ s', pstep x s (rs.getD k z34) = some s' ∧ Rel rs (k + 1) t' s'
    | none => pstep x s (rs.getD k z34) = none ∨ ∃ s', pstep x s (rs.getD k z34) = some s' ∧ Bad rs (k + 1) s' := by
  obtain ⟨hl, hr⟩ := hr
  have hnext := take_next hk
  generalize rs.getD k z34 = r at hnext ⊢
  have h0 := hi.last0
  have hbad : ∀ {q : Option RSt}, pstep x s r = none → q = none → (match q with | some t' => ∃ s', pstep x s r = some s' ∧ Rel rs (k + 1) t' s' | none => pstep x s r = none ∨ ∃ s', pstep x s r = some s' ∧ Bad rs (k + 1) s') := by
    intro q h1 h2
    subst h2
    exact .inl h1
  have hgood : ∀ {q : Option RSt} (t' : RSt) (s' : PSt), q = some t' → pstep x s r = some s' → Rel rs (k + 1) t' s' → (match q with | some t' => ∃ s', pstep x s r = some s' ∧ Rel rs (k + 1) t' s' | none => pstep x s r = none ∨ ∃ s', pstep x s r = some s' ∧ Bad rs (k + 1) s') := by
    intro q t' s' h1 h2 h3
    subst h1
    exact ⟨s', h2, h3⟩
  have hfit0 : fitsB x r s.last (s.out.length : Int) = false → pstep x s r = none := fun h => by unfold pstep; rw [if_pos (.inl h)]
  by_cases a1 : r.f0 ≤ t.last
  · exact hbad (hfit0 (by unfold fitsB; rw [if_pos (by omega)])) (by unfold rstep; rw [if_pos (.inl a1)])
  have a1' : ¬ r.f0 ≤ s.last := by omega
  rcases hr with ⟨k0, g0, o0, e0⟩ | ⟨k0, g0, kl, o0, e0⟩
  · -- nothing is gone yet
    have hm := hi.more g0
    have hr0 : ∀ (q1 q2 : Option RSt), (if r.f0 ≤ t.last ∨ (0 ≤ t.keep ∧ r.f1 ≠ 3) then q1 else q2) = q2 := fun q1 q2 => if_neg (by omega)
    have hp0 : fitsB x r s.last (s.out.length : Int) = true → ∀ (q1 q2 : Option PSt), (if fitsB x r s.last (s.out.length : Int) = false ∨ (s.gone = true ∧ r.f1 ≠ 3) then q1 else q2) = q2 := fun h q1 q2 => if_neg (by rw [h, g0]; simp)
    by_cases b1 : r.f1 = 1
    · by_cases c : (x.length : Int) ≤ r.f0 ∨ r.f2 < 0 ∨ r.f3 < 0 ∨ ((pgs x r.f0).length : Int) < r.f2 ∨ ((pgs x r.f0).length : Int) - r.f2 < r.f3
      · exact hbad (hfit0 (by unfold fitsB; rw [if_neg a1', if_pos b1]; exact decide_eq_false (by omega))) (by unfold rstep; rw [hr0, if_pos b1, if_pos c])
      · have hf : fitsB x r s.last (s.out.length : Int) = true := by unfold fitsB; rw [if_neg a1', if_pos b1]; exact decide_eq_true (by omega)
        have hsame := hi.same g0 r.f0.toNat (by omega) (by omega)
        refine hgood ⟨t.out.set r.f0.toNat ⟨changed (pgs x r.f0) r⟩, r.f0, t.keep⟩ ⟨s.out.set r.f0.toNat ⟨changed (s.out.getD r.f0.toNat z31).f0 r⟩, r.f0, s.gone⟩ (by unfold rstep; rw [hr0, if_pos b1, if_neg c]) (by unfold pstep; rw [hp0 hf, if_pos b1]) ⟨rfl, .inl ⟨k0, g0, ?_, fun f => ?_⟩⟩
        · show s.out.set _ _ = t.out.set _ _
          rw [o0, ← o0, hsame]
          rfl
        · rw [hnext, rowE_append, e0]
          show rowE [r] f = some f
          rw [rowE_one, if_neg (by omega)]
    by_cases b2 : r.f1 = 2
    · by_cases c : r.f0 ≠ (t.out.length : Int) ∨ r.f2 ≠ 0 ∨ r.f3 ≠ 0
      · exact hbad (hfit0 (by unfold fitsB; rw [if_neg a1', if_neg b1, if_pos b2, o0]; exact decide_eq_false (by omega))) (by unfold rstep; rw [hr0, if_neg b1, if_pos b2, if_pos c])
      · have hf : fitsB x r s.last (s.out.length : Int) = true := by unfold fitsB; rw [if_neg a1', if_neg b1, if_pos b2]; rw [o0] at hm ⊢; exact decide_eq_true (by omega)
        refine hgood ⟨t.out ++ [⟨r.f4⟩], r.f0, t.keep⟩ ⟨s.out ++ [⟨r.f4⟩], r.f0, s.gone⟩ (by unfold rstep; rw [hr0, if_neg b1, if_pos b2, if_neg c]) (by unfold pstep; rw [hp0 hf, if_neg b1, if_pos b2]) ⟨rfl, .inl ⟨k0, g0, by rw [o0], fun f => ?_⟩⟩
        rw [hnext, rowE_append, e0]
        show rowE [r] f = some f
        rw [rowE_one, if_neg (by omega)]
    by_cases b3 : r.f1 = 3
    · by_cases c : (x.length : Int) ≤ r.f0 ∨ r.f2 ≠ 0 ∨ r.f3 ≠ ((pgs x r.f0).length : Int) ∨ 0 < r.f4.length ∨ (0 ≤ t.keep ∧ r.f0 ≠ t.last + 1)
      · exact hbad (hfit0 (by unfold fitsB; rw [if_neg a1', if_neg b1, if_neg b2, if_pos b3]; exact decide_eq_false (by omega))) (by unfold rstep; rw [hr0, if_neg b1, if_neg b2, if_pos b3, if_pos c])
      · have hf : fitsB x r s.last (s.out.length : Int) = true := by unfold fitsB; rw [if_neg a1', if_neg b1, if_neg b2, if_pos b3]; exact decide_eq_true (by omega)
        rw [o0] at hm
        refine hgood ⟨t.out, r.f0, r.f0⟩ ⟨s.out.take r.f0.toNat, r.f0, true⟩ (by unfold rstep; rw [hr0, if_neg b1, if_neg b2, if_pos b3, if_neg c, if_pos k0]) (by unfold pstep; rw [hp0 hf, if_neg b1, if_neg b2, if_neg (by rw [g0]; simp)]) ⟨rfl, .inr ⟨by show 0 ≤ r.f0; omega, rfl, by show r.f0 ≤ (t.out.length : Int); omega, by rw [o0], ?_⟩⟩
        show rowE (rs.take (k + 1)) r.f0 = some (r.f0 + 1)
        rw [hnext, rowE_append, e0]
        show rowE [r] r.f0 = _
        rw [rowE_one, if_pos b3, if_pos rfl]
    · exact hbad (hfit0 (by unfold fitsB; rw [if_neg a1', if_neg b1, if_neg b2, if_neg b3])) (by unfold rstep; rw [hr0, if_neg b1, if_neg b2, if_neg b3])
  · -- behind the first that is gone
    by_cases b3 : r.f1 = 3
    · have hr0 : ∀ (q1 q2 : Option RSt), (if r.f0 ≤ t.last ∨ (0 ≤ t.keep ∧ r.f1 ≠ 3) then q1 else q2) = q2 := fun q1 q2 => if_neg (by omega)
      have hp0 : fitsB x r s.last (s.out.length : Int) = true → ∀ (q1 q2 : Option PSt), (if fitsB x r s.last (s.out.length : Int) = false ∨ (s.gone = true ∧ r.f1 ≠ 3) then q1 else q2) = q2 := fun h q1 q2 => if_neg (by rw [h]; rintro (z | z); cases z; exact z.2 b3)
      by_cases c : (x.length : Int) ≤ r.f0 ∨ r.f2 ≠ 0 ∨ r.f3 ≠ ((pgs x r.f0).length : Int) ∨ 0 < r.f4.length
      · exact hbad (hfit0 (by unfold fitsB; rw [if_neg a1', if_neg (by omega), if_neg (by omega), if_pos b3]; exact decide_eq_false (by omega))) (by unfold rstep; rw [hr0, if_neg (by omega), if_neg (by omega), if_pos b3, if_pos (by omega)])
      · have hf : fitsB x r s.last (s.out.length : Int) = true := by unfold fitsB; rw [if_neg a1', if_neg (by omega), if_neg (by omega), if_pos b3]; exact decide_eq_true (by omega)
        have hp : pstep x s r = some ⟨s.out, r.f0, true⟩ := by unfold pstep; rw [hp0 hf, if_neg (by omega), if_neg (by omega), if_pos g0]
        by_cases d : r.f0 = t.last + 1
        · refine hgood ⟨t.out, r.f0, t.keep⟩ ⟨s.out, r.f0, true⟩ (by unfold rstep; rw [hr0, if_neg (by omega), if_neg (by omega), if_pos b3, if_neg (by omega), if_neg (by omega)]) hp ⟨rfl, .inr ⟨k0, rfl, kl, o0, ?_⟩⟩
          show rowE (rs.take (k + 1)) t.keep = some (r.f0 + 1)
          rw [hnext, rowE_append, e0]
          show rowE [r] (t.last + 1) = _
          rw [rowE_one, if_pos b3, if_pos d, d]
        · have e1 : rstep x t r = none := by unfold rstep; rw [hr0, if_neg (by omega), if_neg (by omega), if_pos b3, if_pos (by omega)]
          rw [e1]
          refine .inr ⟨_, hp, rfl, ?_⟩
          show rowE (rs.take (k + 1)) (s.out.length : Int) = none
          have hlen : (s.out.length : Int) = t.keep := by rw [o0, List.length_take]; omega
          rw [hnext, rowE_append, hlen, e0]
          show rowE [r] (t.last + 1) = none
          rw [rowE_one, if_pos b3, if_neg d]
    · exact hbad (by unfold pstep; rw [if_pos (.inr ⟨g0, b3⟩)]) (by unfold rstep; rw [if_pos (.inr ⟨k0, b3⟩)])
theorem sim {x : List Page} {rs : List Region} : ∀ k, k ≤ rs.length → match rfold x rs k with
    | some t => ∃ s, pfold x rs k = some s ∧ Rel rs k t s
    | none => pfold x rs k = none ∨ ∃ s, pfold x rs k = some s ∧ Bad rs k s
  | 0, _ => ⟨_, rfl, rfl, .inl ⟨by show (-1 : Int) < 0; omega, rfl, rfl, fun f => rfl⟩⟩
  | k + 1, hk => by
    have ih := sim k (by omega) (x := x) (rs := rs)
    have e1 : rfold x rs (k + 1) = (rfold x rs k).bind fun s => rstep x s (rs.getD k z34) := rfl
    have e2 : pfold x rs (k + 1) = (pfold x rs k).bind fun s => pstep x s (rs.getD k z34) := rfl
    rw [e1, e2]
    cases hq : rfold x rs k with
    | none =>
      rw [hq] at ih
      rcases ih with ih | ⟨s, h1, h2⟩
      · rw [ih]
        exact .inl rfl
      · rw [h1]
        show _ ∨ _
        cases hp : pstep x s (rs.getD k z34) with
        | none => exact .inl hp
        | some s' => exact .inr ⟨s', hp, bad_step (by omega) h2 hp⟩
    | some t =>
      rw [hq] at ih
      obtain ⟨s, h1, h2⟩ := ih
      rw [h1]
      exact rel_step (by omega) (pinv_fold k s h1) h2
theorem takes_same (x : List Page) (rs : List Region) : match refV x rs with
    | none => patchV x rs = ([], 140)
    | some z => patchV x rs = (z, 0) := by
  have h := sim (x := x) (rs := rs) rs.length (Nat.le_refl _)
  unfold refV patchV
  cases hq : rfold x rs rs.length with
  | none =>
    rw [hq] at h
    rcases h with h | ⟨s, h1, h2, h3⟩
    · rw [h]; rfl
    · rw [h1]
      show pfin x rs s = _
      unfold pfin
      rw [List.take_length] at h3
      rw [if_pos (.inr ⟨h2, by rw [rowB_E, h3]⟩)]
  | some t =>
    rw [hq] at h
    obtain ⟨s, h1, h2, h3⟩ := h
    rw [h1]
    show match rfin x t with | none => pfin x rs s = _ | some z => pfin x rs s = _
    unfold rfin pfin
    rcases h3 with ⟨k0, g0, o0, e0⟩ | ⟨k0, g0, kl, o0, e0⟩
    · rw [if_neg (by omega)]
      show (if _ then _ else _) = _
      rw [if_neg (by rw [g0]; simp), o0]
    · rw [if_pos k0]
      by_cases c : t.last ≠ (x.length : Int) - 1
      · rw [if_pos c]
        show (if _ then _ else _) = _
        rw [if_pos (.inl ⟨g0, by omega⟩)]
      · rw [if_neg c]
        show (if _ then _ else _) = _
        have hlen : (s.out.length : Int) = t.keep := by rw [o0, List.length_take]; omega
        rw [List.take_length] at e0
        have hb : rowB rs (s.out.length : Int) (x.length : Int) = true := by
          rw [rowB_E, hlen, e0]
          show (t.last + 1 == (x.length : Int)) = true
          exact beq_iff_eq.2 (by omega)
        rw [if_neg (by rw [hb]; rintro (z | z); omega; exact absurd z.2 (by decide)), o0]
/-- Pages that are compared with themselves, if they aren't too great. -/
def WideL (l : List Line) : Prop := l.length ≤ 150 ∧ ∀ q ∈ l, ShortLine q
def Wide (x : List Page) : Prop := x.length ≤ 100 ∧ ∀ p ∈ x, WideL p.f0
theorem wide_short {l : List Line} (h : Short l) : WideL l := ⟨by have := h.1; omega, h.2⟩
theorem page_self (a : List Line) (ha : WideL a) : ∀ (n i : Nat), i + n = a.length → ∀ k, n + 31 ≤ k → regletref14_Page.l0 k (i : Int) a a = some true := by
  have hla := ha.1
  intro n
  induction n with
  | zero =>
    intro i hi k hk
    obtain ⟨k, rfl⟩ : ∃ m, k = m + 1 := ⟨k - 1, by omega⟩
    simp only [regletref14_Page.l0]
    rw [if_neg (by omega)]
  | succ n ih =>
    intro i hi k hk
    obtain ⟨k, rfl⟩ : ∃ m, k = m + 1 := ⟨k - 1, by omega⟩
    simp only [regletref14_Page.l0]
    have hs : ShortLine (rd_T39 a (i : Int)) := by
      have : rd_T39 a (i : Int) = a[i] := ln_nat a i (by omega)
      rw [this]
      exact ha.2 _ (List.getElem_mem _)
    rw [if_pos (by omega), if_pos (by omega), if_pos (by omega), line_val (rd_T39 a _) (rd_T39 a _) hs hs k (by omega), bind_s, same_refl, w_id (by omega) (by omega), show ((i : Int) + 1) = ((i + 1 : Nat) : Int) by omega, ih (i + 1) (by omega) k (by omega)]
    try rfl
theorem pages_self (x : List Page) (hx : Wide x) : regletref14_Pages.f 400 x x = some true := by
  have hl := hx.1
  have go : ∀ (n i : Nat), i + n = x.length → ∀ k, n + 210 ≤ k → regletref14_Pages.l0 k x x (i : Int) = some true := by
    intro n
    induction n with
    | zero =>
      intro i hi k hk
      obtain ⟨k, rfl⟩ : ∃ m, k = m + 1 := ⟨k - 1, by omega⟩
      simp only [regletref14_Pages.l0]
      rw [if_neg (by omega)]
    | succ n ih =>
      intro i hi k hk
      obtain ⟨k, rfl⟩ : ∃ m, k = m + 1 := ⟨k - 1, by omega⟩
      simp only [regletref14_Pages.l0]
      have hw : WideL (rd_T31 x (i : Int)).f0 := by
        have : (rd_T31 x (i : Int)).f0 = x[i].f0 := pgs_nat x i (by omega)
        rw [this]
        exact hx.2 _ (List.getElem_mem _)
      have hp : regletref14_Page.f k (rd_T31 x (i : Int)).f0 (rd_T31 x (i : Int)).f0 = some true := by
        unfold regletref14_Page.f
        rw [if_pos rfl]
        have := page_self _ hw (rd_T31 x (i : Int)).f0.length 0 (by omega) k (by have := hw.1; omega)
        simpa using this
      rw [if_pos (by omega), if_pos (by omega), if_pos (by omega), hp, bind_s, w_id (by omega) (by omega), show ((i : Int) + 1) = ((i + 1 : Nat) : Int) by omega]
      try rw [if_pos rfl]
      exact ih (i + 1) (by omega) k (by omega)
  unfold regletref14_Pages.f
  rw [if_pos rfl]
  have := go x.length 0 (by omega) 400 (by omega)
  simpa using this
theorem changed_wide {X : List Line} {r : Region} (hX : Short X) (hr : Short r.f4) : WideL (changed X r) := by
  have h1 := hX.1
  have h2 := hr.1
  unfold changed
  refine ⟨?_, fun q hq => ?_⟩
  · simp only [List.length_append, List.length_take, List.length_drop]
    omega
  · rcases List.mem_append.1 hq with hq | hq
    · rcases List.mem_append.1 hq with hq | hq
      · exact hX.2 _ (List.mem_of_mem_take hq)
      · exact hr.2 _ hq
    · exact hX.2 _ (List.mem_of_mem_drop hq)
theorem ref_wide {x : List Page} {rs : List Region} (hx : Few x) (hl : rs.length ≤ 20) (hs : ∀ r ∈ rs, Short r.f4) {z : List Page} (h : refV x rs = some z) : Wide z := by
  have h20 := hx.1
  have go : ∀ k (t : RSt), k ≤ rs.length → rfold x rs k = some t → -1 ≤ t.last ∧ t.out.length ≤ x.length + k ∧ ∀ p ∈ t.out, WideL p.f0 := by
    intro k
    induction k with
    | zero =>
      intro t _ ht
      injection ht with ht
      subst ht
      exact ⟨by show (-1 : Int) ≤ -1; omega, Nat.le_refl _, fun p hp => wide_short (hx.2 p hp)⟩
    | succ k ih =>
      intro t hk ht
      have ht' : (rfold x rs k).bind (fun s => rstep x s (rs.getD k z34)) = some t := ht
      cases hq : rfold x rs k with
      | none => rw [hq] at ht'; cases ht'
      | some t0 =>
        rw [hq] at ht'
        obtain ⟨hl0, h1, h2⟩ := ih t0 (by omega) hq
        have hm : Short (rs.getD k z34).f4 := hs _ (by rw [List.getD_eq_getElem?_getD, List.getElem?_eq_getElem (by omega)]; exact List.getElem_mem _)
        replace ht' : rstep x t0 (rs.getD k z34) = some t := ht'
        generalize rs.getD k z34 = r at hm ht'
        unfold rstep at ht'
        split at ht'
        · cases ht'
        rename_i c0
        split at ht'
        · split at ht'
          · cases ht'
          rename_i c1
          injection ht' with ht'
          subst ht'
          refine ⟨by show -1 ≤ r.f0; omega, by simp only [List.length_set]; omega, fun p hp => ?_⟩
          rcases List.mem_or_eq_of_mem_set hp with hp | rfl
          · exact h2 p hp
          · exact changed_wide (few_at hx r.f0 (by omega) (by omega)) hm
        split at ht'
        · split at ht'
          · cases ht'
          injection ht' with ht'
          subst ht'
          refine ⟨by show -1 ≤ r.f0; omega, by simp only [List.length_append, List.length_cons, List.length_nil]; omega, fun p hp => ?_⟩
          rcases List.mem_append.1 hp with hp | hp
          · exact h2 p hp
          · rw [List.mem_singleton.1 hp]
            exact wide_short hm
        split at ht'
        · split at ht'
          · cases ht'
          injection ht' with ht'
          subst ht'
          exact ⟨by show -1 ≤ r.f0; omega, by show t0.out.length ≤ _; omega, h2⟩
        · cases ht'
  unfold refV at h
  cases hq : rfold x rs rs.length with
  | none => rw [hq] at h; cases h
  | some t =>
    rw [hq] at h
    obtain ⟨_, h1, h2⟩ := go _ t (Nat.le_refl _) hq
    have h' : rfin x t = some z := h
    unfold rfin at h'
    split at h'
    · split at h'
      · cases h'
      injection h' with h'
      subst h'
      exact ⟨by simp only [List.length_take]; omega, fun p hp => h2 p (List.mem_of_mem_take hp)⟩
    · injection h' with h'
      subst h'
      exact ⟨by omega, h2⟩
/-- What holds between two regions. -/
structure RInv (x : List Page) (k : Nat) (s : RSt) : Prop where
  last0 : -1 ≤ s.last
  keep0 : -1 ≤ s.keep
  keepl : s.keep ≤ (s.out.length : Int)
  len : s.out.length ≤ x.length + k
  more : x.length ≤ s.out.length
  lastl : s.last ≤ 9223372036854775000
theorem rinv_start (x : List Page) : RInv x 0 ⟨x, -1, -1⟩ := ⟨by simp, by simp, by simp only; omega, Nat.le_refl _, Nat.le_refl _, by simp⟩
theorem rinv_step {x : List Page} {k : Nat} {t t' : RSt} {r : Region} (hx : x.length + k ≤ 1000) (h : RInv x k t) (ht' : rstep x t r = some t') : RInv x (k + 1) t' := by
  obtain ⟨h1, h2, h3, h4, h5, h6⟩ := h
  unfold rstep at ht'
  split at ht'
  · cases ht'
  rename_i c0
  split at ht'
  · split at ht'
    · cases ht'
    injection ht' with ht'
    subst ht'
    exact ⟨by show -1 ≤ r.f0; omega, h2, by simp only [List.length_set]; exact h3, by simp only [List.length_set]; omega, by simp only [List.length_set]; exact h5, by show r.f0 ≤ _; omega⟩
  split at ht'
  · split at ht'
    · cases ht'
    injection ht' with ht'
    subst ht'
    exact ⟨by show -1 ≤ r.f0; omega, h2, by simp only [List.length_append, List.length_cons, List.length_nil]; omega, by simp only [List.length_append, List.length_cons, List.length_nil]; omega, by simp only [List.length_append, List.length_cons, List.length_nil]; omega, by show r.f0 ≤ _; omega⟩
  split at ht'
  · split at ht'
    · cases ht'
    injection ht' with ht'
    subst ht'
    refine ⟨by show -1 ≤ r.f0; omega, ?_, ?_, by show t.out.length ≤ _; omega, h5, by show r.f0 ≤ _; omega⟩
    · show -1 ≤ (if t.keep < 0 then r.f0 else t.keep)
      split <;> omega
    · show (if t.keep < 0 then r.f0 else t.keep) ≤ (t.out.length : Int)
      split <;> omega
  · cases ht'
theorem ref_at {x : List Page} {rs : List Region} {k : Nat} {t : RSt} (hk : ¬ k < rs.length) (hkl : k ≤ rs.length) (h : rfold x rs k = some t) : refV x rs = rfin x t := by
  unfold refV
  rw [show rs.length = k by omega, h]
  rfl
theorem all_getD {rs : List Region} {k : Nat} {P : Region → Prop} (hk : ¬ k < rs.length) (h : ∀ j, j < k → P (rs.getD j z34)) : ∀ r ∈ rs, P r := fun r hr => by
  obtain ⟨j, hj⟩ := List.getElem?_of_mem hr
  have h1 := (List.getElem?_eq_some_iff.1 hj).1
  have h2 := h j (by omega)
  rwa [List.getD_eq_getElem?_getD, hj] at h2
theorem takes_none {x : List Page} {rs : List Region} {p : List Page × Int} {q : Option (List Page)} (hp : p = patchV x rs) (hq : q = refV x rs) (h : q.isSome = false) : p.1.length = 0 ∧ p.2 = 140 := by
  have ht := takes_same x rs
  cases q with
  | some z => cases h
  | none =>
    rw [← hq, ← hp] at ht
    replace ht : p = ([], 140) := ht
    rw [ht]
    exact ⟨rfl, rfl⟩
theorem takes_some {x : List Page} {rs : List Region} {p : List Page × Int} {q : Option (List Page)} (hx : Few x) (hl : rs.length ≤ 20) (hs : ∀ r ∈ rs, Short r.f4) (hp : p = patchV x rs) (hq : q = refV x rs) (h : q.isSome = true) : p.2 = 0 ∧ regletref14_Pages.f 400 p.1 (q.getD []) = some true := by
  have ht := takes_same x rs
  cases q with
  | none => cases h
  | some z =>
    rw [← hq, ← hp] at ht
    replace ht : p = (z, 0) := ht
    rw [ht]
    exact ⟨rfl, pages_self z (ref_wide hx hl hs hq.symm)⟩
end Go.Proofs.Ytemgnkloloaeoaa.Pure
