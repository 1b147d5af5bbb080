/- A right text's first and last rune, how many there are, and how many paragraphs end, are told: the pure statement of RunesEnds, for texts of at most 1048576 bytes. -/
import Derived.Test.YtbbnhameafolgaaPureRunesJoins
import Derived.Test.YtbbnhameafolgaaPAllx8
set_option linter.unusedVariables false
namespace Go.Proofs.Ytbbnhameafolgaa.Pure
open Go.RowKit Go.Proofs.Ytbbnhameafolgaa.PAll Go.Proofs.YtbbnhameafolgaaW.PrintWords Go.Proofs.YtbbnhameafolgaaW.PrintLast Go.Proofs.YtbbnhameafolgaaW.PrintMore Go.Proofs.Ytbbnhameafolgaa.Given

theorem rd_mem (l : List Int) (i : Int) (h0 : 0 ≤ i) (h1 : i < l.length) : rd l i ∈ l := by
  unfold rd
  have h : i.toNat < l.length := by omega
  simp [List.getD, h]
theorem readV_val (s : ByteArray) (p : Int) (hk : 0 < (readV s p).2) : 0 ≤ (readV s p).1 ∧ (readV s p).1 ≤ 1114111 := by
  have hb := bt_nonneg s p
  unfold readV at hk ⊢
  by_cases c1 : bt s p < 128
  · rw [if_pos c1]; simp only; omega
  rw [if_neg c1] at hk ⊢
  by_cases c2 : p + 2 ≤ s.size ∧ m2 (bt s p) (bt s (p + 1))
  · rw [if_pos c2]; unfold v2; simp only; omega
  rw [if_neg c2] at hk ⊢
  by_cases c3 : p + 3 ≤ s.size ∧ m3 (bt s p) (bt s (p + 1)) (bt s (p + 2))
  · rw [if_pos c3]; unfold v3; simp only; omega
  rw [if_neg c3] at hk ⊢
  by_cases c4 : p + 4 ≤ s.size ∧ m4 (bt s p) (bt s (p + 1)) (bt s (p + 2)) (bt s (p + 3))
  · rw [if_pos c4]
    obtain ⟨_, c4⟩ := c4
    unfold m4 at c4
    unfold v4; simp only; omega
  rw [if_neg c4] at hk
  simp at hk
theorem first_ok {s : ByteArray} {l : List (Int × Int)} (hp : Par s 0 l s.size) : firstV s = if s.size = 0 then (0, 0) else ((readV s 0).1, (readV s 0).2) := by
  unfold firstV
  by_cases e : s.size = 0
  · rw [if_pos e, if_pos (by unfold sizeV; rw [if_neg (by omega), if_pos (by omega)])]
  rw [if_neg e, size_read s 0 (by omega) (by omega)]
  have hk : 0 < (readV s 0).2 := by
    generalize he : (s.size : Int) = z at hp
    cases hp with
    | nil => omega
    | cons h0 h1 hk h => exact hk
  have hb := read_bounds s 0 (by omega) (by omega)
  have hv := readV_val s 0 hk
  rw [if_neg (by omega)]
  have ez : (s.extract 0 (readV s 0).2.toNat).size = (readV s 0).2.toNat := by rw [ByteArray.size_extract]; omega
  have et : readV (s.extract 0 (readV s 0).2.toNat) 0 = readV s 0 := read_transfer s _ 0 0 (by omega) hk (by rw [ez]; omega) fun i hi hi' => by
    rw [bt_extract s 0 _ (0 + i) (by omega) (by omega) (by omega)]
    congr 1
    omega
  rw [decode_read, show ((0 : Nat) : Int) = 0 from rfl, et, if_neg (by omega)]
  simp only [Int.toNat_of_nonneg hv.1]
theorem par_last {s : ByteArray} {p e : Int} {l : List (Int × Int)} (h : Par s p l e) : l ≠ [] → ∃ l1 q, l = l1 ++ [(q, (readV s q).1)] ∧ 0 ≤ q ∧ 0 < (readV s q).2 ∧ q + (readV s q).2 = e ∧ q < s.size ∧ Par s q [(q, (readV s q).1)] e := by
  induction h with
  | nil => intro h; exact absurd rfl h
  | @cons p e l h0 h1 hk h ih =>
    intro _
    by_cases c : l = []
    · subst c
      cases h with
      | nil => exact ⟨[], p, rfl, h0, hk, rfl, h1, .cons h0 h1 hk (.nil _)⟩
    · obtain ⟨l1, q, rfl, g⟩ := ih c
      exact ⟨_ :: l1, q, rfl, g⟩
theorem last_step (s : ByteArray) (hs : s.size ≤ 1048576) (n : Nat) (h1 : 1 ≤ n) (h4 : n ≤ 4) (hn : n ≤ s.size) (k : Nat) :
    runes_Last.l0 (k + 2) s n = if inside (bt s ((s.size : Int) - n)) = true then runes_Last.l0 k s ((n + 1 : Nat) : Int) else
      if sizeV s ((s.size : Int) - n) = n then some (firstV (s.extract (s.size - n) s.size)) else some (0, 0) := by
  have hb := bt_nonneg s ((s.size : Int) - n)
  simp only [runes_Last.l0, runes_Last.j1]
  rw [if_pos (by omega), if_pos (by simp; omega), wrap_id (x := (s.size : Int) - n) (by omega) (by omega), if_pos (by omega), if_pos (by omega), inside_f _ hb.1 hb.2, wrap_id (x := (n : Int) + 1) (by omega) (by omega)]
  simp only [bind_s]
  by_cases c : inside (bt s ((s.size : Int) - n)) = true
  · rw [if_pos c, if_pos c]; rfl
  rw [if_neg c, if_neg c]
  unfold runes_size.f
  rw [if_pos (by omega)]
  simp only [bind_s]
  by_cases d : sizeV s ((s.size : Int) - n) = n
  · rw [if_pos d, if_pos d, if_pos (by omega)]
    unfold runes_First.f
    rw [if_pos (by rw [ByteArray.size_extract]; omega), show ((s.size : Int) - n).toNat = s.size - n by omega]
    rfl
  · rw [if_neg d, if_neg d]
theorem last_stop (s : ByteArray) (hs : s.size ≤ 1048576) (n : Nat) (h : 4 < n ∨ s.size < n) (k : Nat) : runes_Last.l0 (k + 2) s n = some (0, 0) := by
  simp only [runes_Last.l0, runes_Last.j1]
  by_cases c : (n : Int) ≤ 4
  · rw [if_pos c, if_neg (by simp; omega)]
  · rw [if_neg c]; rfl
theorem last_total (s : ByteArray) (hs : s.size ≤ 1048576) : ∀ (d n k : Nat), 1 ≤ n → n + d = 5 → ∃ r, runes_Last.l0 (k + 2 * d + 2) s n = some r
  | 0, n, k, h1, h => ⟨_, last_stop s hs n (.inl (by omega)) k⟩
  | d + 1, n, k, h1, h => by
    by_cases hn : n ≤ s.size
    · rw [show k + 2 * (d + 1) + 2 = (k + 2 * d + 2) + 2 by omega, last_step s hs n h1 (by omega) hn]
      by_cases c : inside (bt s ((s.size : Int) - n)) = true
      · rw [if_pos c]
        exact last_total s hs d (n + 1) k (by omega) (by omega)
      · rw [if_neg c]
        split <;> exact ⟨_, rfl⟩
    · exact ⟨_, last_stop s hs n (.inr (by omega)) _⟩
theorem last_right (s : ByteArray) (hs : s.size ≤ 1048576) (q : Int) (w : Nat) (hq : 0 ≤ q) (hw : (readV s q).2 = w) (hw0 : 0 < w) (he : q + w = s.size) (hw4 : w ≤ 4) : ∀ (d n k : Nat), 1 ≤ n → n + d = w →
    runes_Last.l0 (k + 2 * d + 2) s n = some ((readV s q).1, (readV s q).2)
  | 0, n, k, h1, h => by
    obtain rfl : n = w := by omega
    have hf := first_not s q (by omega)
    rw [show k + 2 * 0 + 2 = k + 2 by omega, last_step s hs n h1 hw4 (by omega), show (s.size : Int) - n = q by omega, if_neg (by rw [hf.1]; decide), size_read s q hq (by omega), if_pos hw]
    have p1 : Par s q [(q, (readV s q).1)] s.size := .cons hq (by omega) (by omega) (by rw [hw, he]; exact .nil _)
    have p2 := par_tail hq p1
    rw [show q.toNat = s.size - n by omega] at p2
    have e1 := first_ok p2
    have ez : (s.extract (s.size - n) s.size).size = n := by rw [ByteArray.size_extract]; omega
    rw [ez, if_neg (by omega)] at e1
    have et : readV (s.extract (s.size - n) s.size) 0 = readV s q := read_transfer s _ q 0 hq (by omega) (by rw [ez]; omega) fun i hi hi' => by
      rw [bt_extract s _ _ (0 + i) (by omega) (by omega) (by omega)]
      congr 1
      omega
    rw [e1, et]
  | d + 1, n, k, h1, h => by
    have hf := (first_not s q (by omega)).2 ((w : Int) - n) (by omega) (by omega)
    rw [show k + 2 * (d + 1) + 2 = (k + 2 * d + 2) + 2 by omega, last_step s hs n h1 (by omega) (by omega), show (s.size : Int) - n = q + ((w : Int) - n) by omega, if_pos hf]
    exact last_right s hs q w hq hw hw0 he hw4 d (n + 1) k (by omega) (by omega)
def cnt10 : List Int → Int
  | [] => 0
  | x :: l => (if x = 10 then 1 else 0) + cnt10 l
theorem cnt10_le : ∀ l : List Int, 0 ≤ cnt10 l ∧ cnt10 l ≤ l.length
  | [] => by simp [cnt10]
  | x :: l => by
    have := cnt10_le l
    simp only [cnt10, List.length_cons]
    split <;> omega
theorem cnt10_lines : ∀ l : List (Int × Int), (∀ x ∈ l, 0 ≤ x.2) → linesP l = cnt10 (l.map (·.2))
  | [], _ => rfl
  | x :: l, h => by
    have ih := cnt10_lines l fun y hy => h y (List.mem_cons_of_mem _ hy)
    have hx := h x List.mem_cons_self
    unfold linesP at ih ⊢
    simp only [List.map_cons, cnt10]
    rw [← ih, List.filter_cons]
    by_cases e : x.2 = 10
    · rw [if_pos e, if_pos (by rw [e]; rfl), List.length_cons]; omega
    · rw [if_neg e, if_neg (by simp; omega)]; omega
theorem par_vals {s : ByteArray} {p e : Int} {l : List (Int × Int)} (h : Par s p l e) : ∀ x ∈ l, 0 ≤ x.2 ∧ x.2 ≤ 1114111 := by
  induction h with
  | nil => intro x hx; cases hx
  | @cons p e l h0 h1 hk h ih =>
    intro x hx
    rcases List.mem_cons.1 hx with rfl | hx
    · exact readV_val s p hk
    · exact ih x hx
theorem ends_go (s : ByteArray) (ys : List Int) (a n b m : Int) : ∀ (xs pre : List Int) (k j : Nat) (c : Int), k = xs.length + j + 1 → pre.length + xs.length < 1125899906842624 → 0 ≤ c → c ≤ pre.length →
    regletlaw02_RunesEnds.l0 k s (pre ++ xs) ys a n b m c (pre.length : Int) = regletlaw02_RunesEnds.l0 (j + 1) s (pre ++ xs) ys a n b m (c + cnt10 xs) ((pre ++ xs).length : Int)
  | [], pre, k, j, c, hk, hb, hc, hc' => by
    subst hk
    simp [cnt10]
  | x :: xs, pre, k, j, c, hk, hb, hc, hc' => by
    simp only [List.length_cons] at hk hb
    obtain ⟨k, rfl⟩ : ∃ i, k = i + 1 := ⟨k - 1, by omega⟩
    have ih := fun c' h h' => ends_go s ys a n b m xs (pre ++ [x]) k j c' (by omega) (by simp; omega) h h'
    simp only [List.append_assoc, List.cons_append, List.nil_append, List.length_append, List.length_cons, List.length_nil, Int.natCast_add, Int.natCast_one, Nat.zero_add] at ih
    rw [regletlaw02_RunesEnds.l0]
    rw [if_pos (by simp; omega), if_pos (by omega), rd_mid, wrap_id (x := (pre.length : Int) + 1) (by omega) (by omega), wrap_id (x := c + 1) (by omega) (by omega)]
    simp only [cnt10]
    by_cases e : x = 10
    · rw [if_pos e, if_pos e, ih (c + 1) (by omega) (by omega)]
      simp only [List.length_append, List.length_cons, Int.natCast_add, Int.natCast_one, Int.add_assoc]
    · rw [if_neg e, if_neg e, ih c (by omega) (by omega)]
      simp only [List.length_append, List.length_cons, Int.natCast_add, Int.natCast_one, Int.add_assoc, Int.zero_add]
theorem RunesEnds : ∀ s : ByteArray, s.size ≤ 1048576 → ∃ k, regletlaw02_RunesEnds.f k s = some true := by
  intro s hs
  obtain ⟨j, hj⟩ : ∃ j, j = s.size + 22 + 20 := ⟨_, rfl⟩
  refine ⟨(refV s).1.length + (j + 1) + 1, ?_⟩
  unfold regletlaw02_RunesEnds.f
  rw [awake_ok]
  simp only [bind_s, if_true]
  rw [runes_ok s (by omega) _ (by omega)]
  simp only [bind_s]
  unfold runes_First.f
  rw [if_pos (by omega)]
  simp only [bind_s]
  unfold runes_Last.f
  rcases right_or s with ⟨hb, hp⟩ | ⟨hb, _⟩
  case inr =>
    obtain ⟨r, hr⟩ := last_total s hs 4 1 ((refV s).1.length + j + 2 - 10) (by omega) (by omega)
    rw [show (refV s).1.length + j + 2 - 10 + 2 * 4 + 2 = (refV s).1.length + (j + 1) + 1 by omega] at hr
    rw [show ((1 : Nat) : Int) = 1 from rfl] at hr
    rw [hr]
    simp only [bind_s]
    rw [if_pos (by omega)]
  have hl := par_le hp
  have hvals := par_vals hp
  have hfirst := first_ok hp
  have hlines := cnt10_lines _ fun x hx => (hvals x hx).1
  have hcnt := par_count hp (by omega)
  have hlin := par_lines hp (by omega)
  have hbest := cnt10_le ((refV s).1.map (·.2))
  rw [hfirst]
  have hlast : runes_Last.l0 ((refV s).1.length + (j + 1) + 1) s 1 = some (if s.size = 0 then (0, 0) else
      (rd ((refV s).1.map (·.2)) ((((refV s).1.length : Int)) - 1), (s.size : Int) - rd ((refV s).1.map (·.1)) ((((refV s).1.length : Int)) - 1))) := by
    by_cases e : s.size = 0
    · rw [if_pos e]
      have g := last_stop s hs 1 (.inr (by omega)) ((refV s).1.length + j)
      exact g
    · rw [if_neg e]
      have hne : (refV s).1 ≠ [] := by
        intro h
        rw [h] at hp
        generalize hz : (s.size : Int) = z at hp
        cases hp
        omega
      obtain ⟨l1, q, e1, g0, g1, g2, g3, _⟩ := par_last hp hne
      have hb4 := (read_bounds s q g0 g3).2.1
      have g := last_right s hs q (readV s q).2.toNat g0 (by omega) (by omega) (by omega) (by omega) ((readV s q).2.toNat - 1) 1 ((refV s).1.length + j + 2 - 2 * ((readV s q).2.toNat - 1) - 2) (by omega) (by omega)
      rw [show (refV s).1.length + j + 2 - 2 * ((readV s q).2.toNat - 1) - 2 + 2 * ((readV s q).2.toNat - 1) + 2 = (refV s).1.length + (j + 1) + 1 by omega, show ((1 : Nat) : Int) = 1 from rfl] at g
      rw [g, e1]
      have r1 : rd ((l1 ++ [(q, (readV s q).1)]).map (·.2)) (((l1 ++ [(q, (readV s q).1)]).length : Int) - 1) = (readV s q).1 := by
        rw [List.map_append, List.length_append, show ((l1.length + [(q, (readV s q).1)].length : Nat) : Int) - 1 = ((l1.map (·.2)).length : Int) by simp]
        exact rd_mid _ _ _
      have r2 : rd ((l1 ++ [(q, (readV s q).1)]).map (·.1)) (((l1 ++ [(q, (readV s q).1)]).length : Int) - 1) = q := by
        rw [List.map_append, List.length_append, show ((l1.length + [(q, (readV s q).1)].length : Nat) : Int) - 1 = ((l1.map (·.1)).length : Int) by simp]
        exact rd_mid _ _ _
      rw [r1, r2]
      congr 2
      omega
  rw [hlast]
  simp only [bind_s]
  rw [if_neg (by omega)]
  have g := ends_go s ((refV s).1.map (·.1)) (if s.size = 0 then (0, 0) else ((readV s 0).1, (readV s 0).2)).1 (if s.size = 0 then (0, 0) else ((readV s 0).1, (readV s 0).2)).2
    (if s.size = 0 then (0, 0) else (rd ((refV s).1.map (·.2)) ((((refV s).1.length : Int)) - 1), (s.size : Int) - rd ((refV s).1.map (·.1)) ((((refV s).1.length : Int)) - 1))).1
    (if s.size = 0 then (0, 0) else (rd ((refV s).1.map (·.2)) ((((refV s).1.length : Int)) - 1), (s.size : Int) - rd ((refV s).1.map (·.1)) ((((refV s).1.length : Int)) - 1))).2
    ((refV s).1.map (·.2)) [] ((refV s).1.length + (j + 1) + 1) (j + 1) 0 (by simp) (by simp; omega) (by omega) (by simp)
  simp only [List.nil_append, List.length_nil, Int.natCast_zero, Int.zero_add] at g
  rw [g]
  clear g
  simp only [regletlaw02_RunesEnds.l0]
  rw [if_neg (by omega), hcnt]
  simp only [bind_s]
  rw [List.length_map, if_pos rfl, hlin]
  simp only [bind_s]
  rw [hlines]
  simp only [regletlaw02_RunesEnds.j1, bne_self_eq_false, List.length_map]
  rw [if_neg (by decide)]
  by_cases e : s.size = 0
  · have h0 : ((refV s).1.length : Int) = 0 := by omega
    rw [if_pos h0, if_pos e, if_pos e]
    rfl
  rw [if_neg e, if_neg e]
  have hne : (refV s).1.length ≠ 0 := by
    intro h
    have h' := List.length_eq_zero_iff.1 h
    rw [h'] at hp
    generalize hz : (s.size : Int) = z at hp
    cases hp
    omega
  rw [if_neg (by omega), if_pos (by omega), wrap_id (x := ((refV s).1.length : Int) - 1) (by omega) (by omega)]
  have hv0 : rd ((refV s).1.map (·.2)) 0 = (readV s 0).1 ∧ ((refV s).1.length ≠ 1 → rd ((refV s).1.map (·.1)) 1 = (readV s 0).2) ∧ ((refV s).1.length = 1 → (readV s 0).2 = s.size) ∧ 0 < (readV s 0).2 := by
    generalize (refV s).1 = l at hp hne
    generalize hz : (s.size : Int) = z at hp
    cases hp with
    | nil => simp at hne
    | cons h0 h1 hk h =>
      refine ⟨rfl, fun h2 => ?_, fun h2 => ?_, hk⟩
      · cases h with
        | nil => simp at h2
        | cons => simp [rd]
      · cases h with
        | nil => omega
        | cons => simp at h2
  have hval0 := readV_val s 0 hv0.2.2.2
  have hvl : ∀ i : Int, 0 ≤ i → i < (refV s).1.length → 0 ≤ rd ((refV s).1.map (·.2)) i ∧ rd ((refV s).1.map (·.2)) i ≤ 1114111 := by
    intro i h0 h1
    have hm : rd ((refV s).1.map (·.2)) i ∈ (refV s).1.map (·.2) := by
      exact rd_mem _ _ h0 (by simp; omega)
    obtain ⟨x, hx, e2⟩ := List.mem_map.1 hm
    rw [← e2]
    exact hvals x hx
  have hpl : ∀ i : Int, 0 ≤ i → i < (refV s).1.length → 0 ≤ rd ((refV s).1.map (·.1)) i ∧ rd ((refV s).1.map (·.1)) i ≤ s.size := by
    intro i h0 h1
    have hm : rd ((refV s).1.map (·.1)) i ∈ (refV s).1.map (·.1) := by
      exact rd_mem _ _ h0 (by simp; omega)
    obtain ⟨x, hx, e2⟩ := List.mem_map.1 hm
    rw [← e2]
    have := par_mem hp x hx
    omega
  have h1 := hvl (((refV s).1.length : Int) - 1) (by omega) (by omega)
  have h2 := hpl (((refV s).1.length : Int) - 1) (by omega) (by omega)
  simp only
  rw [wrap_id (x := (readV s 0).1) (by omega) (by omega), if_pos hv0.1.symm, if_pos (by omega), if_pos (by omega), wrap_id (x := rd ((refV s).1.map (·.2)) (((refV s).1.length : Int) - 1)) (by omega) (by omega), if_pos rfl, if_pos (by omega),
    wrap_id (by omega) (by omega), if_pos rfl]
  by_cases c : (refV s).1.length = 1
  · rw [if_pos (by omega), if_pos (hv0.2.2.1 c)]
  · rw [if_neg (by omega), if_pos (by omega), if_pos (by omega), hv0.2.1 c]
    simp
end Go.Proofs.Ytbbnhameafolgaa.Pure
