/- Pruned by wip/prune.py. -/
import Derived.Test.YtbeihfcjfkddcaaQHyPlc
namespace Go.Proofs.Ytbeihfcjfkddcaa.Hy
open Go Go.RowKit Go.Proofs.YtbeihfcjfkddcaaW.PrintWords Go.Proofs.Ytbeihfcjfkddcaa.Given Go.Proofs.Ytbeihfcjfkddcaa.Rn Go.Proofs.Ytbeihfcjfkddcaa.Sx
set_option linter.unusedVariables false
set_option linter.unusedSimpArgs false
/-- Runes with soft hyphens, each with how many of the text's own are ahead. -/
def insT (rs : List Int) : List Nat → Nat → List (Int × Nat)
  | [], a => (rs.drop a).zipIdx a
  | k :: K, a => ((rs.drop a).take (k - a)).zipIdx a ++ (173, k) :: insT rs K k
def insR (rs : List Int) (K : List Nat) (a : Nat) : List Int := (insT rs K a).map (·.1)
theorem zipIdx_fst {α : Type} (l : List α) (a : Nat) : (l.zipIdx a).map (·.1) = l := by simp
theorem insR_nil (rs : List Int) (a : Nat) : insR rs [] a = rs.drop a := by unfold insR insT; exact zipIdx_fst _ _
theorem insR_cons (rs : List Int) (k : Nat) (K : List Nat) (a : Nat) : insR rs (k :: K) a = (rs.drop a).take (k - a) ++ 173 :: insR rs K k := by
  unfold insR
  rw [insT, List.map_append, zipIdx_fst]
  rfl
/-- Taken out again. -/
theorem insR_filter (rs : List Int) (h : ∀ r ∈ rs, r ≠ 173) : ∀ (K : List Nat) (a : Nat), (∀ k ∈ K, a ≤ k) → K.Pairwise (· < ·) → (insR rs K a).filter (fun r => decide (r ≠ 173)) = rs.drop a
  | [], a, _, _ => by
    rw [insR_nil]
    exact List.filter_eq_self.2 (fun x hx => decide_eq_true (h x (List.mem_of_mem_drop hx)))
  | k :: K, a, ha, hp => by
    obtain ⟨p1, p2⟩ := List.pairwise_cons.1 hp
    have hak := ha k List.mem_cons_self
    rw [insR_cons, List.filter_append, List.filter_cons, if_neg (by decide), insR_filter rs h K k (fun m hm => Nat.le_of_lt (p1 m hm)) p2]
    rw [List.filter_eq_self.2 (fun x hx => decide_eq_true (h x (List.mem_of_mem_drop (List.mem_of_mem_take hx))))]
    have e : rs.drop k = (rs.drop a).drop (k - a) := by rw [List.drop_drop]; congr 1; omega
    rw [e, List.take_append_drop]
theorem insR_ok (rs : List Int) (h : ∀ r ∈ rs, okR' r) : ∀ (K : List Nat) (a : Nat), ∀ r ∈ insR rs K a, okR' r
  | [], a => by
    rw [insR_nil]
    exact fun r hr => h r (List.mem_of_mem_drop hr)
  | k :: K, a => by
    rw [insR_cons]
    intro r hr
    rcases List.mem_append.1 hr with hr | hr
    · exact h r (List.mem_of_mem_drop (List.mem_of_mem_take hr))
    · rcases List.mem_cons.1 hr with rfl | hr
      · unfold okR'; omega
      · exact insR_ok rs h K k r hr
/-- The tags: they begin with a, go on by one behind one of the text's own runes, by none behind a soft hyphen. -/
def TagOk (rs : List Int) (l : List (Int × Nat)) (a : Nat) : Prop := match l with
  | [] => True
  | x :: l => x.2 = a ∧ ((x.1 = 173 ∧ TagOk rs l a) ∨ (x.1 = rs.getD a 0 ∧ a < rs.length ∧ TagOk rs l (a + 1)))
theorem tag_zip (rs : List Int) : ∀ (n a : Nat) (l : List (Int × Nat)), a + n ≤ rs.length → TagOk rs l (a + n) → TagOk rs (((rs.drop a).take n).zipIdx a ++ l) a
  | 0, a, l, h, hl => hl
  | n + 1, a, l, h, hl => by
    rw [drop_get rs 0 (i := a) (by omega), List.take_succ_cons, List.zipIdx_cons, List.cons_append]
    exact ⟨rfl, .inr ⟨rfl, by omega, tag_zip rs n (a + 1) l (by omega) (by rw [show a + 1 + n = a + (n + 1) by omega]; exact hl)⟩⟩
theorem insT_tag (rs : List Int) : ∀ (K : List Nat) (a : Nat), (∀ k ∈ K, a ≤ k ∧ k ≤ rs.length) → K.Pairwise (· < ·) → a ≤ rs.length → TagOk rs (insT rs K a) a
  | [], a, _, _, h => by
    have := tag_zip rs (rs.length - a) a [] (by omega) trivial
    rw [List.append_nil, List.take_of_length_le (by rw [List.length_drop]; exact Nat.le_refl _)] at this
    exact this
  | k :: K, a, hk, hp, h => by
    obtain ⟨p1, p2⟩ := List.pairwise_cons.1 hp
    have h1 := hk k List.mem_cons_self
    rw [insT]
    refine tag_zip rs (k - a) a _ (by omega) ?_
    rw [show a + (k - a) = k by omega]
    exact ⟨rfl, .inl ⟨rfl, insT_tag rs K k (fun m hm => ⟨Nat.le_of_lt (p1 m hm), (hk m (List.mem_cons_of_mem _ hm)).2⟩) p2 h1.2⟩⟩
/-- Back from a place by m: the tag goes back by m at most; what is there is a soft hyphen or the rune of a tag before. -/
theorem tag_back (rs : List Int) : ∀ (l : List (Int × Nat)) (a : Nat), TagOk rs l a → ∀ p q, p < q → q < l.length → ∃ x y, l[p]? = some x ∧ l[q]? = some y ∧ a ≤ x.2 ∧ y.2 ≤ x.2 + (q - p) ∧ x.2 ≤ y.2 ∧ (x.1 = 173 ∨ (x.1 = rs.getD x.2 0 ∧ x.2 < y.2))
  | [], a, _, p, q, _, hq => absurd hq (Nat.not_lt_zero _)
  | x :: l, a, h, p, q, hpq, hq => by
    obtain ⟨h1, h2⟩ := h
    have low : ∀ (l : List (Int × Nat)) (b : Nat), TagOk rs l b → ∀ j, j < l.length → ∃ y, l[j]? = some y ∧ b ≤ y.2 ∧ y.2 ≤ b + j := by
      intro l
      induction l with
      | nil => intro b _ j hj; exact absurd hj (Nat.not_lt_zero _)
      | cons z l ih =>
        intro b hb j hj
        obtain ⟨g1, g2⟩ := hb
        cases j with
        | zero => exact ⟨z, rfl, by omega, by omega⟩
        | succ j =>
          rcases g2 with ⟨_, g2⟩ | ⟨_, _, g2⟩
          · obtain ⟨y, y1, y2, y3⟩ := ih b g2 j (by simpa using hj)
            exact ⟨y, y1, by omega, by omega⟩
          · obtain ⟨y, y1, y2, y3⟩ := ih (b + 1) g2 j (by simpa using hj)
            exact ⟨y, y1, by omega, by omega⟩
    cases q with
    | zero => omega
    | succ q =>
      cases p with
      | zero =>
        rcases h2 with ⟨g1, g2⟩ | ⟨g1, g3, g2⟩
        · obtain ⟨y, y1, y2, y3⟩ := low l a g2 q (by simpa using hq)
          exact ⟨x, y, rfl, y1, by omega, by omega, by omega, .inl g1⟩
        · obtain ⟨y, y1, y2, y3⟩ := low l (a + 1) g2 q (by simpa using hq)
          exact ⟨x, y, rfl, y1, by omega, by omega, by omega, .inr ⟨by rw [h1]; exact g1, by omega⟩⟩
      | succ p =>
        rcases h2 with ⟨g1, g2⟩ | ⟨g1, g3, g2⟩
        · obtain ⟨u, y, a1, a2, a3, a4, a5, a6⟩ := tag_back rs l a g2 p q (by omega) (by simpa using hq)
          exact ⟨u, y, a1, a2, a3, by omega, a5, a6⟩
        · obtain ⟨u, y, a1, a2, a3, a4, a5, a6⟩ := tag_back rs l (a + 1) g2 p q (by omega) (by simpa using hq)
          exact ⟨u, y, a1, a2, by omega, by omega, a5, a6⟩
theorem ins_soft (rs : List Int) (h : ∀ r ∈ rs, r ≠ 173) : ∀ (K : List Nat) (a : Nat), ∀ x ∈ insT rs K a, x.1 = 173 → x.2 ∈ K
  | [], a, x, hx, h1 => by
    exfalso
    have : x.1 ∈ ((rs.drop a).zipIdx a).map (·.1) := List.mem_map.2 ⟨x, hx, rfl⟩
    rw [zipIdx_fst] at this
    exact h _ (List.mem_of_mem_drop this) h1
  | k :: K, a, x, hx, h1 => by
    rw [insT] at hx
    rcases List.mem_append.1 hx with hx | hx
    · exfalso
      have : x.1 ∈ (((rs.drop a).take (k - a)).zipIdx a).map (·.1) := List.mem_map.2 ⟨x, hx, rfl⟩
      rw [zipIdx_fst] at this
      exact h _ (List.mem_of_mem_drop (List.mem_of_mem_take this)) h1
    · rcases List.mem_cons.1 hx with rfl | hx
      · exact List.mem_cons_self
      · exact List.mem_cons_of_mem _ (ins_soft rs h K k x hx h1)
/-- The text with its soft hyphens. -/
theorem put_ins {s : ByteArray} (hr : (refV s).2 < 0) : ∀ (K : List Nat) (a : Nat), a ≤ (refV s).1.length → (∀ k ∈ K, a ≤ k ∧ k ≤ (refV s).1.length) → K.Pairwise (· < ·) → putT s (K.map (plcV s)) (plcV s a).toNat = strOfNums (flatB (insR (runesL s) K a))
  | [], a, ha, _, _ => by
    rw [List.map_nil, putT, insR_nil]
    have h1 := part_runes hr ha (Nat.le_refl _)
    rw [plc_end, List.take_of_length_le (by rw [List.length_drop, runesL_len]; exact Nat.le_refl _)] at h1
    have h2 := (part_ref hr ha (Nat.le_refl _)).1
    rw [plc_end] at h2
    rw [← h1]
    rw [show ((s.size : Int)).toNat = s.size from rfl] at *
    exact (str_runes (by rw [bad_refV, h2]; show (-1 : Int) < 0; decide)).symm
  | k :: K, a, ha, hk, hp => by
    obtain ⟨p1, p2⟩ := List.pairwise_cons.1 hp
    have h0 := hk k List.mem_cons_self
    rw [List.map_cons, putT, insR_cons, flatB_app, flatB_cons, sn_app, sn_app, bytesV_soft, str_soft]
    have h1 := part_runes hr h0.1 h0.2
    have h2 := (part_ref hr h0.1 h0.2).1
    rw [← h1, str_runes (by rw [bad_refV, h2]; show (-1 : Int) < 0; decide), put_ins hr K k h0.2 (fun m hm => ⟨Nat.le_of_lt (p1 m hm), (hk m (List.mem_cons_of_mem _ hm)).2⟩) p2]
    simp only [ByteArray.append_assoc]
theorem stripGo_filter : ∀ l : List (Int × Int), stripGo l = flatB ((l.map (·.2)).filter (fun r => decide (r ≠ 173)))
  | [] => rfl
  | (p, r) :: l => by
    rw [stripGo, List.map_cons, List.filter_cons, stripGo_filter l]
    by_cases c : r = 173
    · rw [if_pos c, if_neg (by rw [decide_eq_true_eq]; exact fun z => z c)]
    · rw [if_neg c, if_pos (decide_eq_true c), flatB_cons]
def stripT (s : ByteArray) : ByteArray := strOfNums (stripV s)
theorem strip_eq (s : ByteArray) : stripT s = strOfNums (flatB ((runesL s).filter (fun r => decide (r ≠ 173)))) := by
  unfold stripT stripV
  rw [stripGo_filter]
  rfl
theorem strip_right {s : ByteArray} (h : badV s < 0) : badV (stripT s) = -1 ∧ runesL (stripT s) = (runesL s).filter (fun r => decide (r ≠ 173)) := by
  rw [strip_eq]
  exact flat_right (fun r hr => runes_ok h r (List.mem_filter.1 hr).1)
theorem strip_strip {s : ByteArray} (h : badV s < 0) : stripT (stripT s) = stripT s := by
  rw [strip_eq (stripT s), (strip_right h).2, List.filter_filter]
  simp only [Bool.and_self]
  rw [← strip_eq]
/-- All that the statement says of a text with its soft hyphens. -/
theorem back_all {s : ByteArray} (hr : (refV s).2 < 0) (hs : ∀ r ∈ runesL s, r ≠ 173) {F : ByteArray → List Int} {lf rt : Int} (hF : ∀ w, (F w).Pairwise (· < ·) ∧ ∀ x ∈ F w, lf ≤ x ∧ x ≤ (runesL w).length - rt) (h1 : 1 ≤ lf) (h2 : 1 ≤ rt) :
    badV (putT s (placesV F s) 0) = -1 ∧ stripT (putT s (placesV F s) 0) = s ∧ ∀ i, i < (runesL (putT s (placesV F s) 0)).length → (runesL (putT s (placesV F s) 0)).getD i 0 = 173 → ∀ k : Nat, 1 ≤ k → (k : Int) ≤ lf → k ≤ i ∧ (LetP ((runesL (putT s (placesV F s) 0)).getD (i - k) 0) ∨ (runesL (putT s (placesV F s) 0)).getD (i - k) 0 = 173) := by
  obtain ⟨K, k1, k2, k3⟩ := places_ok hF h1 h2 hr
  have hb : badV s < 0 := by rw [bad_refV]; exact hr
  have hk : ∀ k ∈ K, 0 ≤ k ∧ k ≤ (refV s).1.length := fun k hk => ⟨Nat.zero_le _, Nat.le_of_lt (k3 k hk).1⟩
  have h0 : (plcV s 0).toNat = 0 := by
    have hp := right_par hr
    unfold plcV
    cases hl : (refV s).1 with
    | nil =>
      rw [hl] at hp
      generalize hq : (s.size : Int) = q at hp
      cases hp with
      | nil => rfl
    | cons x l =>
      rw [hl] at hp
      cases hp with
      | cons a b c d => rfl
  have e := put_ins hr K 0 (Nat.zero_le _) hk k2
  rw [h0, ← k1] at e
  have hok := insR_ok (runesL s) (runes_ok hb) K 0
  obtain ⟨f1, f2⟩ := flat_right hok
  rw [e]
  refine ⟨f1, ?_, ?_⟩
  · rw [strip_eq, f2, insR_filter _ hs K 0 (fun k hk => Nat.zero_le _) k2, List.drop_zero, str_runes hb]
  · rw [f2]
    have htag := insT_tag (runesL s) K 0 (fun k hk' => by rw [runesL_len]; exact hk k hk') k2 (Nat.zero_le _)
    have hlen : (insR (runesL s) K 0).length = (insT (runesL s) K 0).length := by unfold insR; rw [List.length_map]
    have hget : ∀ j x, (insT (runesL s) K 0)[j]? = some x → (insR (runesL s) K 0).getD j 0 = x.1 := fun j x hx => by
      unfold insR
      rw [List.getD_eq_getElem?_getD, List.getElem?_map, hx]
      rfl
    intro i hi h173 k hk1 hk2
    have low : ∀ (l : List (Int × Nat)) (b : Nat), TagOk (runesL s) l b → ∀ j, j < l.length → ∃ y, l[j]? = some y ∧ b ≤ y.2 ∧ y.2 ≤ b + j := by
      intro l
      induction l with
      | nil => intro b _ j hj; exact absurd hj (Nat.not_lt_zero _)
      | cons z l ih =>
        intro b hb j hj
        obtain ⟨g1, g2⟩ := hb
        cases j with
        | zero => exact ⟨z, rfl, by omega, by omega⟩
        | succ j =>
          rcases g2 with ⟨_, g2⟩ | ⟨_, _, g2⟩
          · obtain ⟨y, y1, y2, y3⟩ := ih b g2 j (by simpa using hj)
            exact ⟨y, y1, by omega, by omega⟩
          · obtain ⟨y, y1, y2, y3⟩ := ih (b + 1) g2 j (by simpa using hj)
            exact ⟨y, y1, by omega, by omega⟩
    obtain ⟨y, y1, _, y3⟩ := low _ 0 htag i (by omega)
    have hy := ins_soft (runesL s) hs K 0 y (List.mem_of_getElem? y1) (by rw [← hget i y y1]; exact h173)
    have hm := (k3 _ hy).2 k hk1 hk2
    have hki : k ≤ i := by omega
    refine ⟨hki, ?_⟩
    obtain ⟨x, y', x1, y1', x2, x3, x4, x5⟩ := tag_back (runesL s) _ 0 htag (i - k) i (by omega) (by omega)
    rw [y1] at y1'
    injection y1' with y1'
    subst y1'
    rw [hget (i - k) x x1]
    rcases x5 with x5 | ⟨x5, x6⟩
    · exact .inr x5
    · refine .inl ?_
      rw [x5]
      have hd := (k3 _ hy).2 (y.2 - x.2) (by omega) (by omega)
      rw [show y.2 - (y.2 - x.2) = x.2 by omega] at hd
      exact hd.2
theorem flatB_filter (p : Int → Bool) : ∀ L : List Int, (flatB (L.filter p)).length ≤ (flatB L).length
  | [] => Nat.le_refl _
  | r :: L => by
    have := flatB_filter p L
    rw [List.filter_cons]
    split
    · rw [flatB_cons, flatB_cons, List.length_append, List.length_append]; omega
    · rw [flatB_cons, List.length_append]; omega
theorem strip_size {s : ByteArray} (h : badV s < 0) : (stripT s).size ≤ s.size := by
  rw [strip_eq, sn_size]
  refine Nat.le_trans (flatB_filter _ _) ?_
  rw [flat_runes h, bytesOf_length]
  exact Nat.le_refl _
theorem put_size {s : ByteArray} (hs : s.size ≤ 300) : ∀ (l : List Int) (f : Nat), (putT s l f).size ≤ 302 * l.length + 300
  | [], f => by
    rw [putT, ByteArray.size_extract]
    simp only [List.length_nil]
    omega
  | a :: l, f => by
    have := put_size hs l a.toNat
    rw [putT, ByteArray.size_append, ByteArray.size_append, ByteArray.size_extract, show softB.size = 2 by decide, List.length_cons]
    omega
theorem filter_ne {s : ByteArray} (h : badV s < 0) : ∀ r ∈ runesL (stripT s), r ≠ 173 := fun r hr => by
  rw [(strip_right h).2] at hr
  exact of_decide_eq_true (List.mem_filter.1 hr).2
end Go.Proofs.Ytbeihfcjfkddcaa.Hy
