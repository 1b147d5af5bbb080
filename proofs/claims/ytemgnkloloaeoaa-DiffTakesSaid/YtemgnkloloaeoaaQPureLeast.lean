/- Pruned by wip/prune.py. -/
import Derived.Test.YtemgnkloloaeoaaQPureDiffs
import Derived.Test.YtemgnkloloaeoaaQPAllx10
import Derived.Test.YtemgnkloloaeoaaQPAllx11
set_option linter.unusedVariables false
set_option linter.unusedSimpArgs false
namespace Go.Proofs.Ytemgnkloloaeoaa.Pure
open Go.RowKit Go.Proofs.Ytemgnkloloaeoaa.PAll Go.Proofs.YtemgnkloloaeoaaW.PrintWords Go.Proofs.YtemgnkloloaeoaaW.PrintLast Go.Proofs.YtemgnkloloaeoaaW.PrintMore Go.Proofs.Ytemgnkloloaeoaa.Given
theorem rd_run (a : List Run) (i : Nat) (h : i < a.length) : rd_T57 a (i : Int) = a[i] := by unfold rd_T57; simp [List.getD, h]
theorem merged_l (a : List Run) (ha : a.length ≤ 20) : ∀ (n i : Nat) (acc : List Run), i + n = a.length → acc.length ≤ i → ∀ k, n + 1 ≤ k → regletref05_Merged.l0 k a acc (i : Int) = some (layAll acc (a.drop i)) := by
  intro n
  induction n with
  | zero =>
    intro i acc hi hacc k hk
    obtain ⟨k, rfl⟩ : ∃ m, k = m + 1 := ⟨k - 1, by omega⟩
    simp only [regletref05_Merged.l0]
    rw [if_neg (by omega), List.drop_eq_nil_of_le (by omega)]
    rfl
  | succ n ih =>
    intro i acc hi hacc k hk
    obtain ⟨k, rfl⟩ : ∃ m, k = m + 1 := ⟨k - 1, by omega⟩
    have hil : i < a.length := by omega
    have e := rd_run a i hil
    have hw : wrap64 ((i : Int) + 1) = ((i + 1 : Nat) : Int) := by rw [w_id (by omega) (by omega)]; omega
    have hd : layAll acc (a.drop i) = layAll (putV acc a[i].f0 a[i].f1) (a.drop (i + 1)) := by rw [List.drop_eq_getElem_cons hil]; rfl
    have hp := putV_len acc a[i].f0 a[i].f1
    have next := ih (i + 1) (putV acc a[i].f0 a[i].f1) (by omega) (by omega) k (by omega)
    simp only [regletref05_Merged.l0]
    rw [if_pos (by omega), if_pos (by omega), e, hd, hw]
    by_cases h1 : a[i].f0 ≤ 0
    · have hz : putV acc a[i].f0 a[i].f1 = acc := by unfold putV; rw [if_pos h1]
      rw [hz] at next
      rw [if_pos h1, hz]
      exact next
    rw [if_neg h1]
    rcases List.eq_nil_or_concat acc with rfl | ⟨l, r, hlr⟩
    · have hz : putV [] a[i].f0 a[i].f1 = [] ++ [⟨a[i].f0, a[i].f1⟩] := by unfold putV; rw [if_neg h1]; rfl
      rw [if_neg (by simp), if_pos (by simp)]
      rw [hz] at next
      rw [hz]
      exact next
    · rw [List.concat_eq_append] at hlr
      subst hlr
      have hll : (l ++ [r]).length = l.length + 1 := by simp
      have hlen : (((l ++ [r]).length : Nat) : Int) - 1 = (l.length : Int) := by omega
      have hr : rd_T57 (l ++ [r]) (l.length : Int) = r := by rw [rd_run _ _ (by omega)]; simp
      have hg : (l ++ [r]).getLast? = some r := by simp
      rw [if_pos (by omega), hlen, w_id (by omega) (by omega), if_pos (by omega), if_pos (by omega), hr]
      by_cases h2 : r.f1 = a[i].f1
      · have hz : putV (l ++ [r]) a[i].f0 a[i].f1 = (l ++ [r]).set (l.length : Int).toNat ⟨wrap64 (r.f0 + a[i].f0), r.f1⟩ := by
          unfold putV; rw [if_neg h1, hg]; show (if r.f1 = a[i].f1 then _ else _) = _
          rw [if_pos h2, hll]; rfl
        rw [hz] at next
        rw [if_pos h2, hz]
        exact next
      · have hz : putV (l ++ [r]) a[i].f0 a[i].f1 = (l ++ [r]) ++ [⟨a[i].f0, a[i].f1⟩] := by
          unfold putV; rw [if_neg h1, hg]; show (if r.f1 = a[i].f1 then _ else _) = _
          rw [if_neg h2]
        rw [hz] at next
        rw [if_neg h2, if_pos (by omega), hz]
        exact next
theorem merged_val (a : List Run) (ha : a.length ≤ 20) (k : Nat) (hk : 30 ≤ k) : regletref05_Merged.f k a = some (layAll [] a) := by
  have h := merged_l a ha a.length 0 [] (by omega) (by simp) k (by omega)
  simpa [regletref05_Merged.f] using h
theorem same05_l (x y : List Run) (hl : x.length = y.length) (hx : x.length ≤ 20) : ∀ (n i : Nat), i + n = x.length → ∀ k, n + 1 ≤ k → regletref05_Same.l0 k x y (i : Int) = some (sameL (x.drop i) (y.drop i)) := by
  intro n
  induction n with
  | zero =>
    intro i hi k hk
    obtain ⟨k, rfl⟩ : ∃ m, k = m + 1 := ⟨k - 1, by omega⟩
    simp only [regletref05_Same.l0]
    rw [if_neg (by omega), List.drop_eq_nil_of_le (by omega), List.drop_eq_nil_of_le (by omega)]
    rfl
  | succ n ih =>
    intro i hi k hk
    obtain ⟨k, rfl⟩ : ∃ m, k = m + 1 := ⟨k - 1, by omega⟩
    simp only [regletref05_Same.l0]
    rw [if_pos (by omega), if_pos (by omega), if_pos (by omega), w_id (by omega) (by omega), show ((i : Int) + 1) = ((i + 1 : Nat) : Int) by omega, ih (i + 1) (by omega) k (by omega), sameL_step x y hl i (by omega)]
    generalize ((rd_T57 x (i : Int)).f0 == (rd_T57 y (i : Int)).f0) = p
    generalize ((rd_T57 x (i : Int)).f1 == (rd_T57 y (i : Int)).f1) = q
    cases p <;> cases q <;> simp
theorem same05_val (x y : List Run) (hx : x.length ≤ 20) (k : Nat) (hk : 30 ≤ k) : regletref05_Same.f k x y = some (sameL x y) := by
  unfold regletref05_Same.f
  by_cases hl : x.length = y.length
  · rw [if_pos (by omega)]
    have h := same05_l x y hl hx x.length 0 (by omega) k (by omega)
    simpa using h
  · rw [if_neg (by omega), sameL_len x y hl]
theorem line_val (a b : Line) (ha : ShortLine a) (hb : ShortLine b) (k : Nat) (hk : 30 ≤ k) : regletref14_Line.f k a.f0 a.f1 a.f2 a.f3 a.f4 a.f5 a.f6 a.f7 a.f8 b.f0 b.f1 b.f2 b.f3 b.f4 b.f5 b.f6 b.f7 b.f8 = some (sameLine a b) := by
  have l1 := layAll_len a.f1 []
  have h1 := ha.1
  have h2 := hb.1
  simp only [List.length_nil, Nat.zero_add] at l1
  unfold regletref14_Line.f
  rw [merged_val a.f1 h1 k hk, bind_s, merged_val b.f1 h2 k hk, bind_s]
  unfold regletref10_Same.f
  rw [same05_val _ _ (by omega) k hk, bind_s]
  unfold sameLine
  generalize sameL (layAll [] a.f1) (layAll [] b.f1) = z
  repeat' (split <;> simp_all)
/-- What is told of a page that both have. -/
structure Told (a b : List Line) (r : Region) : Prop where
  kind : r.f1 = 1
  f0 : 0 ≤ r.f2
  o0 : 0 ≤ r.f3
  le : r.f2 + r.f3 ≤ (a.length : Int)
  eq : (a.length : Int) - r.f3 = (b.length : Int) - (r.f4.length : Int)
  sh : Short r.f4
  la : a.length ≤ 40
  lb : b.length ≤ 40
  first : 0 < r.f3 → 0 < r.f4.length → sameLine (a.getD r.f2.toNat z39) (r.f4.getD 0 z39) = false
  last : 0 < r.f3 → 0 < r.f4.length → sameLine (a.getD (r.f2 + r.f3 - 1).toNat z39) (r.f4.getD (r.f4.length - 1) z39) = false
theorem told (n : Int) (a b : List Line) (ha : Short a) (hb : Short b) : Told a b (regOf n a b) := by
  obtain ⟨h, _⟩ := ends_pq a b ha hb
  have g1 := h.la
  have g2 := h.lb
  have hla := ha.1
  have hlb := hb.1
  have e2 : (regOf n a b).f2 = (endP a b : Int) := rfl
  have e3 : (regOf n a b).f3 = (a.length : Int) - endP a b - endQ a b := rfl
  have e4 : (regOf n a b).f4 = (b.take (b.length - endQ a b)).drop (endP a b) := rfl
  have el : (regOf n a b).f4.length = b.length - endQ a b - endP a b := by rw [e4]; simp only [List.length_drop, List.length_take]; omega
  have eg : ∀ j, j < b.length - endQ a b - endP a b → (regOf n a b).f4.getD j z39 = b.getD (endP a b + j) z39 := fun j hj => by
    rw [e4]
    simp only [List.getD_eq_getElem?_getD, List.getElem?_drop, List.getElem?_take]
    rw [if_pos (by omega)]
  refine ⟨rfl, by omega, by omega, by omega, by omega, ⟨by omega, fun l hl => ?_⟩, hla, hlb, fun h1 h2 => ?_, fun h1 h2 => ?_⟩
  · rw [e4] at hl
    exact hb.2 l (List.mem_of_mem_take (List.mem_of_mem_drop hl))
  · rw [eg 0 (by omega), e2, Int.toNat_natCast, Nat.add_zero]
    exact h.headEnd (by omega) (by omega)
  · rw [el, eg _ (by omega)]
    have h3 := h.tailEnd (by omega) (by omega)
    unfold ln rd_T39 at h3
    rw [show ((a.length : Int) - 1 - (endQ a b : Int)).toNat = ((regOf n a b).f2 + (regOf n a b).f3 - 1).toNat by rw [e2, e3]; omega, show ((b.length : Int) - 1 - (endQ a b : Int)).toNat = endP a b + (b.length - endQ a b - endP a b - 1) by omega] at h3
    exact h3
end Go.Proofs.Ytemgnkloloaeoaa.Pure
