/- Pruned by wip/prune.py. -/
import Derived.Test.YtbeihfcjfkddcaaQRunesPure
namespace Go.Proofs.Ytbeihfcjfkddcaa.Rn
open Go Go.RowKit Go.Proofs.YtbeihfcjfkddcaaW.PrintWords Go.Proofs.YtbeihfcjfkddcaaW.PrintMore Go.Proofs.Ytbeihfcjfkddcaa.Given
set_option linter.unusedVariables false
set_option linter.unusedSimpArgs false
theorem bt_extract (s : ByteArray) (a b : Nat) (i : Int) (h0 : 0 ≤ i) (h : i + a < b) (hb : b ≤ s.size) : bt (s.extract a b) i = bt s (i + a) := by
  unfold bt
  rw [dif_pos (by rw [ByteArray.size_extract]; omega), dif_pos (by omega), ByteArray.getElem_extract]
  congr 3
  omega
theorem right_par {s : ByteArray} (h : (refV s).2 < 0) : Par s 0 (refV s).1 s.size := by
  rcases right_or s with z | z
  · exact z.2
  · omega
theorem par_right {s : ByteArray} {l : List (Int × Int)} (h : Par s 0 l s.size) : (refV s).2 < 0 := by rw [par_refV h]; show (-1 : Int) < 0; decide
theorem par_mid {u : ByteArray} {l : List (Int × Int)} {a b : Int} (h0 : 0 ≤ a) (h : Par u a l b) (hb : b ≤ u.size) : Par (u.extract a.toNat b.toNat) 0 (l.map fun x => (x.1 - a, x.2)) (u.extract a.toNat b.toNat).size := by
  have ha := (par_le h).1
  have e : (u.extract a.toNat b.toNat).size = b.toNat - a.toNat := by rw [ByteArray.size_extract]; omega
  have h1 := par_shift (t := u.extract a.toNat b.toNat) h (-a) (by omega) (by rw [e]; omega) fun i hi hi' => by
    rw [bt_extract u a.toNat b.toNat (i + -a) (by omega) (by omega) (by omega)]
    congr 1
    omega
  rw [show a + -a = 0 by omega] at h1
  rw [show ((u.extract a.toNat b.toNat).size : Int) = b + -a by rw [e]; omega]
  simpa [Int.sub_eq_add_neg] using h1
theorem between_or {s : ByteArray} {a : Int} (h : BetweenP s a) : a = (s.size : Int) ∨ ∃ x ∈ (refV s).1, x.1 = a := by
  rcases h with h | h
  · obtain ⟨x, h1, h2⟩ := List.mem_map.1 h
    exact .inr ⟨x, h1, h2⟩
  · exact .inl h
/-- Cut at two places between runes. -/
theorem cut_two {s : ByteArray} (h : (refV s).2 < 0) {a b : Int} (ha : BetweenP s a) (hb : BetweenP s b) (hab : a ≤ b) : ∃ l1 l2 l3, (refV s).1 = l1 ++ (l2 ++ l3) ∧ Par s 0 l1 a ∧ Par s a l2 b ∧ Par s b l3 s.size := by
  obtain ⟨l1, m, e1, p1, pm⟩ := par_split (right_par h) a (between_or ha)
  have hb2 : b = (s.size : Int) ∨ ∃ x ∈ m, x.1 = b := by
    rcases between_or hb with z | ⟨x, hx, hxb⟩
    · exact .inl z
    · rw [e1] at hx
      rcases List.mem_append.1 hx with hx | hx
      · have := par_mem p1 x hx; omega
      · exact .inr ⟨x, hx, hxb⟩
  obtain ⟨l2, l3, e2, p2, p3⟩ := par_split pm b hb2
  exact ⟨l1, l2, l3, by rw [e1, e2], p1, p2, p3⟩
theorem between_le {s : ByteArray} (h : (refV s).2 < 0) {a : Int} (ha : BetweenP s a) : 0 ≤ a ∧ a ≤ s.size := by
  rcases between_or ha with z | ⟨x, hx, rfl⟩
  · omega
  · have := par_mem (right_par h) x hx; omega
theorem sub_right {s : ByteArray} (h : (refV s).2 < 0) {a b : Int} (ha : BetweenP s a) (hb : BetweenP s b) (hab : a ≤ b) : (refV (s.extract a.toNat b.toNat)).2 < 0 := by
  obtain ⟨l1, l2, l3, _, p1, p2, p3⟩ := cut_two h ha hb hab
  exact par_right (par_mid (between_le h ha).1 p2 (between_le h hb).2)
end Go.Proofs.Ytbeihfcjfkddcaa.Rn
