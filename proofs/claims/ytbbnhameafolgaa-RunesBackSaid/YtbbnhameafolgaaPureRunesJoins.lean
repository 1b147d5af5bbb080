/- Two right texts together are right, with the runes of both; cut between runes a right text gives two: the pure statement of RunesJoins. For every two texts and every number. -/
import Derived.Test.YtbbnhameafolgaaPureRunesPlaces
import Derived.Test.YtbbnhameafolgaaPAllx5
set_option linter.unusedVariables false
namespace Go.Proofs.Ytbbnhameafolgaa.Pure
open Go.RowKit Go.Proofs.Ytbbnhameafolgaa.PAll Go.Proofs.YtbbnhameafolgaaW.PrintWords Go.Proofs.YtbbnhameafolgaaW.PrintLast Go.Proofs.YtbbnhameafolgaaW.PrintMore Go.Proofs.Ytbbnhameafolgaa.Given

theorem bt_append_left (s t : ByteArray) (i : Int) (h0 : 0 ≤ i) (h : i < s.size) : bt (s ++ t) i = bt s i := by
  unfold bt
  rw [dif_pos (by rw [ByteArray.size_append]; omega), dif_pos (by omega), ByteArray.getElem_append_left (by omega)]
theorem bt_append_right (s t : ByteArray) (i : Int) (h0 : 0 ≤ i) : bt (s ++ t) (i + s.size) = bt t i := by
  unfold bt
  by_cases h : i.toNat < t.size
  · rw [dif_pos (by rw [ByteArray.size_append]; omega), dif_pos h, ByteArray.getElem_append_right (by omega)]
    congr 3
    omega
  · rw [dif_neg (by rw [ByteArray.size_append]; omega), dif_neg h]
theorem bt_extract (s : ByteArray) (a b : Nat) (i : Int) (h0 : 0 ≤ i) (h : i + a < b) (hb : b ≤ s.size) : bt (s.extract a b) i = bt s (i + a) := by
  unfold bt
  rw [dif_pos (by rw [ByteArray.size_extract]; omega), dif_pos (by omega), ByteArray.getElem_extract]
  congr 3
  omega
theorem par_join {s t : ByteArray} {l m : List (Int × Int)} (hs : Par s 0 l s.size) (ht : Par t 0 m t.size) : Par (s ++ t) 0 (l ++ m.map fun x => (x.1 + (s.size : Int), x.2)) (s ++ t).size := by
  have h1 := par_shift (t := s ++ t) hs 0 (by omega) (by rw [ByteArray.size_append]; omega) fun i hi hi' => by rw [Int.add_zero]; exact bt_append_left s t i hi hi'
  have h2 := par_shift (t := s ++ t) ht s.size (by omega) (by rw [ByteArray.size_append]; omega) fun i hi hi' => bt_append_right s t i hi
  simp only [Int.add_zero, Int.zero_add] at h1 h2
  rw [show (((s ++ t).size : Nat) : Int) = (t.size : Int) + s.size by rw [ByteArray.size_append]; omega]
  have h3 := par_append h1 h2
  simpa using h3
theorem par_head {u : ByteArray} {l : List (Int × Int)} {a : Int} (h : Par u 0 l a) (ha : a ≤ u.size) : Par (u.extract 0 a.toNat) 0 l (u.extract 0 a.toNat).size := by
  have h0 := (par_le h).1
  have e : (u.extract 0 a.toNat).size = a.toNat := by rw [ByteArray.size_extract]; omega
  have h1 := par_shift (t := u.extract 0 a.toNat) h 0 (by omega) (by rw [e]; omega) fun i hi hi' => by
    rw [Int.add_zero, bt_extract u 0 a.toNat i hi (by omega) (by omega)]
    simp
  rw [e, Int.toNat_of_nonneg h0]
  simpa using h1
theorem par_tail {u : ByteArray} {l : List (Int × Int)} {a : Int} (h0 : 0 ≤ a) (h : Par u a l u.size) : Par (u.extract a.toNat u.size) 0 (l.map fun x => (x.1 - a, x.2)) (u.extract a.toNat u.size).size := by
  have ha := (par_le h).1
  have e : (u.extract a.toNat u.size).size = u.size - a.toNat := by rw [ByteArray.size_extract]; omega
  have h1 := par_shift (t := u.extract a.toNat u.size) h (-a) (by omega) (by rw [e]; omega) fun i hi hi' => by
    rw [bt_extract u a.toNat u.size (i + -a) (by omega) (by omega) (by omega)]
    congr 1
    omega
  rw [show a + -a = 0 by omega] at h1
  rw [show ((u.extract a.toNat u.size).size : Int) = (u.size : Int) + -a by rw [e]; omega]
  simpa [Int.sub_eq_add_neg] using h1
theorem par_count {s : ByteArray} {l : List (Int × Int)} (h : Par s 0 l s.size) (hs : s.size ≤ 1125899906842624) : runes_Count.f s = some (l.length : Int) := by
  rw [count_f s hs, par_runesV h]; simp
def linesP (l : List (Int × Int)) : Int := ((l.filter fun x => x.2.toNat == 10).length : Int)
theorem par_lines {s : ByteArray} {l : List (Int × Int)} (h : Par s 0 l s.size) (hs : s.size ≤ 1125899906842624) : runes_Lines.f s = some (linesP l) := by
  rw [lines_f s hs, par_runesV h]
  unfold linesOf linesP
  rw [List.filter_map, List.length_map]
  rfl
theorem linesP_le (l : List (Int × Int)) : 0 ≤ linesP l ∧ linesP l ≤ l.length := by
  unfold linesP
  have := List.length_filter_le (fun x : Int × Int => x.2.toNat == 10) l
  omega
theorem linesP_join (l m : List (Int × Int)) (f : Int × Int → Int × Int) (hf : ∀ x, (f x).2 = x.2) : linesP (l ++ m.map f) = linesP l + linesP m := by
  unfold linesP
  rw [List.filter_append, List.length_append, List.filter_map, List.length_map]
  have : ((fun x : Int × Int => x.2.toNat == 10) ∘ f) = fun x : Int × Int => x.2.toNat == 10 := by funext x; simp [hf]
  rw [this]
  omega
theorem RunesJoins : regletlaw02_RunesJoins.Pure := by
  intro s t a hs ht ha
  obtain ⟨k, _⟩ : ∃ k : Nat, True := ⟨0, trivial⟩
  refine ⟨k + 3, ?_⟩
  unfold regletlaw02_RunesJoins.f
  rw [awake_ok]
  simp only [bind_s, if_true]
  have triv : regletlaw02_RunesJoins.j0 (k + 3) s t a true = some true := by simp only [regletlaw02_RunesJoins.j0]; rfl
  by_cases h1 : (s.size : Int) > 4096
  · rw [if_pos h1]; exact triv
  rw [if_neg h1]
  by_cases h2 : (t.size : Int) > 4096
  · rw [if_pos h2]; exact triv
  rw [if_neg h2, bad_f s (by omega)]
  simp only [bind_s]
  rcases bad_or s with ⟨hb, hp⟩ | ⟨hb, _⟩
  case inr => rw [if_pos (by omega)]; exact triv
  rw [if_neg (by omega), bad_f t (by omega)]
  simp only [bind_s]
  rcases bad_or t with ⟨hc, hq⟩ | ⟨hc, _⟩
  case inr => rw [decide_eq_true (by omega)]; exact triv
  rw [decide_eq_false (by omega)]
  simp only [regletlaw02_RunesJoins.j0]
  have hz : (s ++ t).size = s.size + t.size := ByteArray.size_append
  have hl := par_le hp
  have hm := par_le hq
  generalize (refV s).1 = l at hp hl
  generalize (refV t).1 = m at hq hm
  have hj := par_join hp hq
  have ll := linesP_le l
  have lm := linesP_le m
  rw [if_neg (by decide), if_pos (Nat.le_trans (show s.size + t.size ≤ 8192 by omega) (by decide)), bad_f _ (by omega)]
  simp only [bind_s]
  rw [par_bad hj, if_neg (by decide), par_count hj (by omega), par_count hp (by omega), par_count hq (by omega)]
  simp only [bind_s]
  rw [wrap_id (by omega) (by omega), if_pos (by simp), par_lines hj (by omega), par_lines hp (by omega), par_lines hq (by omega), linesP_join l m (fun x => (x.1 + (s.size : Int), x.2)) (fun _ => rfl)]
  simp only [bind_s]
  rw [wrap_id (by omega) (by omega)]
  simp only [bne_self_eq_false, regletlaw02_RunesJoins.j1]
  rw [if_neg (by decide), boundary_code]
  simp only [bind_s]
  by_cases c1 : a < 0 ∨ ((s ++ t).size : Int) < a
  · rw [if_pos c1, if_neg (by decide)]
  rw [if_neg c1]
  by_cases c2 : a = ((s ++ t).size : Int) ∨ inside (bt (s ++ t) a) = false
  case neg => rw [if_neg c2, if_neg (by decide)]
  rw [if_pos c2, if_pos rfl, if_pos (by omega), if_pos (by omega)]
  have hh : a = ((s ++ t).size : Int) ∨ ∃ x ∈ (l ++ m.map fun x => (x.1 + (s.size : Int), x.2)), x.1 = a := by
    by_cases c3 : a = ((s ++ t).size : Int)
    · exact .inl c3
    · right
      rw [par_place hj a (by omega) (by omega)]
      rcases c2 with c2 | c2
      · exact absurd c2 c3
      · exact c2
  obtain ⟨l1, l2, e, g1, g2⟩ := par_split hj a hh
  have p1 := par_head g1 (by omega)
  have p2 := par_tail (by omega) g2
  have z1 : ((s ++ t).extract 0 a.toNat).size ≤ 1125899906842624 := by rw [ByteArray.size_extract]; omega
  have z2 : ((s ++ t).extract a.toNat (s ++ t).size).size ≤ 1125899906842624 := by rw [ByteArray.size_extract]; omega
  rw [bad_f _ z1, par_bad p1]
  simp only [bind_s]
  rw [if_pos (by decide), bad_f _ z2, par_bad p2]
  simp only [bind_s]
  rw [if_pos (by decide), par_count p1 z1, par_count p2 z2, par_count hj (by omega)]
  simp only [bind_s]
  rw [e]
  simp only [List.length_map, List.length_append, Int.natCast_add]
  have e' := congrArg List.length e
  simp only [List.length_map, List.length_append] at e'
  rw [wrap_id (by omega) (by omega)]
  simp
end Go.Proofs.Ytbbnhameafolgaa.Pure
