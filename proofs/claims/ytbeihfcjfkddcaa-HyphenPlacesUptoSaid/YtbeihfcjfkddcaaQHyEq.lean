/- Pruned by wip/prune.py. -/
import Derived.Test.YtbeihfcjfkddcaaQHyFlat
namespace Go.Proofs.Ytbeihfcjfkddcaa.Hy
open Go Go.RowKit Go.Proofs.YtbeihfcjfkddcaaW.PrintWords Go.Proofs.Ytbeihfcjfkddcaa.Given Go.Proofs.Ytbeihfcjfkddcaa.Rn Go.Proofs.Ytbeihfcjfkddcaa.Sx
set_option linter.unusedVariables false
set_option linter.unusedSimpArgs false
def IsMx (S : Int → Prop) (b v : Int) : Prop := (v = b ∨ S v) ∧ b ≤ v ∧ ∀ x, S x → x ≤ v
theorem mx_nil {S : Int → Prop} {b : Int} (h : ∀ x, ¬ S x) : IsMx S b b := ⟨.inl rfl, Int.le_refl _, fun x hx => absurd hx (h x)⟩
theorem mx_trans {S S1 S2 : Int → Prop} {b v1 v : Int} (h1 : IsMx S1 b v1) (h2 : IsMx S2 v1 v) (h : ∀ x, S x ↔ S1 x ∨ S2 x) : IsMx S b v := by
  refine ⟨?_, Int.le_trans h1.2.1 h2.2.1, fun x hx => ?_⟩
  · rcases h2.1 with e | e
    · rcases h1.1 with e1 | e1
      · exact .inl (e.trans e1)
      · exact .inr ((h v).2 (.inl (e ▸ e1)))
    · exact .inr ((h v).2 (.inr e))
  · rcases (h x).1 hx with hx | hx
    · exact Int.le_trans (h1.2.2 x hx) h2.2.1
    · exact h2.2.2 x hx
theorem mx_uniq {S : Int → Prop} {b v w : Int} (h1 : IsMx S b v) (h2 : IsMx S b w) : v = w := by
  have key : ∀ {v w : Int}, IsMx S b v → IsMx S b w → v ≤ w := fun h1 h2 => by
    rcases h1.1 with e | e
    · rw [e]; exact h2.2.1
    · exact h2.2.2 _ e
  exact Int.le_antisymm (key h1 h2) (key h2 h1)
theorem mx_iff {S S' : Int → Prop} {b v : Int} (h : IsMx S b v) (e : ∀ x, S' x ↔ S x) : IsMx S' b v := ⟨h.1.imp id (e v).2, h.2.1, fun x hx => h.2.2 x ((e x).1 hx)⟩
theorem set_get (o : List Int) (j x : Nat) (v : Int) (h : x < o.length) : (o.set j v).getD x 0 = if x = j then v else o.getD x 0 := by
  simp only [List.getD_eq_getElem?_getD, List.getElem?_set]
  by_cases e : j = x
  · subst e; simp [h]
  · rw [if_neg e, if_neg (fun z => e z.symm)]
def At (l : List Int) (j x : Nat) (v : Int) : Prop := ∃ i, i < l.length ∧ x = j + i ∧ v = l.getD i 0
theorem at_cons (n : Int) (l : List Int) (j x : Nat) (v : Int) : At (n :: l) j x v ↔ (x = j ∧ v = n) ∨ At l (j + 1) x v := by
  constructor
  · rintro ⟨i, h1, h2, h3⟩
    cases i with
    | zero => exact .inl ⟨h2, h3⟩
    | succ i => exact .inr ⟨i, by simpa using h1, by omega, h3⟩
  · rintro (⟨h1, h2⟩ | ⟨i, h1, h2, h3⟩)
    · exact ⟨0, by simp, h1, h2⟩
    · exact ⟨i + 1, by simpa using h1, by omega, h3⟩
theorem mx_put : ∀ (lv : List Int) (j : Nat) (out : List Int) (x : Nat), x < out.length → IsMx (At lv j x) (out.getD x 0) ((lvPut lv j out).getD x 0)
  | [], j, out, x, h => mx_nil (fun v ⟨i, hi, _⟩ => absurd hi (Nat.not_lt_zero _))
  | n :: lv, j, out, x, h => by
    have h2 := mx_put lv (j + 1) (out.set j (max (out.getD j 0) n)) x (by simpa using h)
    rw [set_get _ _ _ _ h] at h2
    refine mx_trans (S1 := fun v => x = j ∧ v = n) (S2 := At lv (j + 1) x) ?_ h2 (at_cons n lv j x)
    by_cases e : x = j
    · rw [if_pos e, ← e]
      refine ⟨?_, by omega, fun y hy => by rw [hy.2]; omega⟩
      rcases Int.le_total (out.getD x 0) n with h3 | h3
      · exact .inr ⟨rfl, by omega⟩
      · exact .inl (by omega)
    · rw [if_neg e]
      exact mx_nil (fun y hy => e hy.1)
def GoAt (T : List Nd) (fr : Nat) (rs : List Int) (a x : Nat) (v : Int) : Prop := ∃ m b, 1 ≤ m ∧ m ≤ rs.length ∧ goT T a (rs.take m) = some b ∧ At (T.getD b zNd).lv fr x v
theorem mx_go (T : List Nd) (fr : Nat) : ∀ (rs : List Int) (a : Nat) (out : List Int) (x : Nat), x < out.length → IsMx (GoAt T fr rs a x) (out.getD x 0) ((lvGo T fr rs a out).getD x 0)
  | [], a, out, x, h => mx_nil (fun v ⟨m, b, h1, h2, _⟩ => by simp at h2; omega)
  | r :: rs, a, out, x, h => by
    unfold lvGo
    cases e : lk (T.getD a zNd).nx r with
    | none =>
      refine mx_nil (fun v ⟨m, b, h1, h2, h3, _⟩ => ?_)
      obtain ⟨m', rfl⟩ : ∃ m', m = m' + 1 := ⟨m - 1, by omega⟩
      rw [List.take_succ_cons, go_none e] at h3
      cases h3
    | some q =>
      refine mx_trans (mx_put (T.getD q.toNat zNd).lv fr out x h) (mx_go T fr rs q.toNat _ x (by rw [lvPut_len]; exact h)) (fun v => ?_)
      constructor
      · rintro ⟨m, b, h1, h2, h3, h4⟩
        obtain ⟨m', rfl⟩ : ∃ m', m = m' + 1 := ⟨m - 1, by omega⟩
        rw [List.take_succ_cons, go_some e] at h3
        by_cases c : m' = 0
        · subst c
          simp only [List.take_zero, goT, Option.some.injEq] at h3
          rw [← h3] at h4
          exact .inl h4
        · exact .inr ⟨m', b, by omega, by simpa using h2, h3, h4⟩
      · rintro (h1 | ⟨m, b, h1, h2, h3, h4⟩)
        · exact ⟨1, q.toNat, Nat.le_refl _, by simp, by rw [List.take_succ_cons, go_some e]; rfl, h1⟩
        · exact ⟨m + 1, b, by omega, by simpa using h2, by rw [List.take_succ_cons, go_some e]; exact h3, h4⟩
def AllAt (T : List Nd) (row : List Int) (fr x : Nat) (v : Int) : Prop := ∃ f, fr ≤ f ∧ f < row.length ∧ GoAt T f (row.drop f) 0 x v
theorem mx_all (T : List Nd) (row : List Int) : ∀ (k fr : Nat) (out : List Int) (x : Nat), row.length - fr = k → x < out.length → IsMx (AllAt T row fr x) (out.getD x 0) ((lvAll T (row.drop fr) fr out).getD x 0)
  | 0, fr, out, x, hk, h => by
    rw [List.drop_eq_nil_of_le (by omega), lvAll]
    exact mx_nil (fun v ⟨f, h1, h2, _⟩ => by omega)
  | k + 1, fr, out, x, hk, h => by
    have hd := drop_get row 0 (i := fr) (by omega)
    have h2 := mx_all T row k (fr + 1) (lvGo T fr (row.drop fr) 0 out) x (by omega) (by rw [lvGo_len]; exact h)
    have h1 := mx_go T fr (row.drop fr) 0 out x h
    have e : lvAll T (row.drop fr) fr out = lvAll T (row.drop (fr + 1)) (fr + 1) (lvGo T fr (row.drop fr) 0 out) := by
      conv => lhs; rw [hd, lvAll, ← hd]
    rw [e]
    refine mx_trans h1 h2 (fun v => ?_)
    constructor
    · rintro ⟨f, h3, h4, h5⟩
      by_cases c : f = fr
      · subst c; exact .inl h5
      · exact .inr ⟨f, by omega, h4, h5⟩
    · rintro (h3 | ⟨f, h3, h4, h5⟩)
      · exact ⟨fr, Nat.le_refl _, by omega, h3⟩
      · exact ⟨f, by omega, h4, h5⟩
theorem mx_refK (a : Nat) : ∀ (lv : List Int) (k : Nat) (o : List Int) (x : Nat), x < o.length → IsMx (At lv (a + k) (x + 1)) (o.getD x 0) ((refK a lv k o).getD x 0)
  | [], k, o, x, h => mx_nil (fun v ⟨i, hi, _⟩ => absurd hi (Nat.not_lt_zero _))
  | v :: lv, k, o, x, h => by
    have h2 := mx_refK a lv (k + 1) (if 1 ≤ a + k ∧ a + k - 1 < o.length ∧ o.getD (a + k - 1) 0 < v then o.set (a + k - 1) v else o) x (by split <;> simpa using h)
    rw [refK]
    refine mx_trans (S1 := fun y => x + 1 = a + k ∧ y = v) (S2 := At lv (a + (k + 1)) (x + 1)) ?_ h2 (fun y => at_cons v lv (a + k) (x + 1) y)
    by_cases e : x + 1 = a + k
    · have e1 : a + k - 1 = x := by omega
      rw [e1]
      by_cases c : o.getD x 0 < v
      · rw [if_pos ⟨by omega, h, c⟩, set_get _ _ _ _ h, if_pos rfl]
        exact ⟨.inr ⟨e, rfl⟩, Int.le_of_lt c, fun y hy => by rw [hy.2]; exact Int.le_refl _⟩
      · rw [if_neg (fun z => c z.2.2)]
        exact ⟨.inl rfl, Int.le_refl _, fun y hy => by rw [hy.2]; omega⟩
    · have e1 : (if 1 ≤ a + k ∧ a + k - 1 < o.length ∧ o.getD (a + k - 1) 0 < v then o.set (a + k - 1) v else o).getD x 0 = o.getD x 0 := by
        split
        · rw [set_get _ _ _ _ h, if_neg (by omega)]
        · rfl
      rw [e1]
      exact mx_nil (fun y hy => e hy.1)
def RowAt (row L Q : List Int) (a0 x : Nat) (v : Int) : Prop := ∃ a, a0 ≤ a ∧ a + L.length ≤ row.length ∧ (row.take (a + L.length)).drop a = L ∧ At Q a (x + 1) v
theorem mx_refAt (row L Q : List Int) : ∀ (f a : Nat) (o : List Int) (x : Nat), row.length + 1 ≤ a + f → x < o.length → IsMx (RowAt row L Q a x) (o.getD x 0) ((refAt row L Q f a o).getD x 0)
  | 0, a, o, x, hf, h => mx_nil (fun v ⟨b, h1, h2, _⟩ => by omega)
  | f + 1, a, o, x, hf, h => by
    rw [refAt]
    by_cases c : a + L.length ≤ row.length
    · rw [if_pos c]
      have h1 : IsMx (fun v => (row.take (a + L.length)).drop a = L ∧ At Q a (x + 1) v) (o.getD x 0) ((if (row.take (a + L.length)).drop a = L then refK a Q 0 o else o).getD x 0) := by
        split
        · rename_i c2
          exact mx_iff (mx_refK a Q 0 o x h) (fun y => ⟨fun z => z.2, fun z => ⟨c2, z⟩⟩)
        · rename_i c2
          exact mx_nil (fun y hy => c2 hy.1)
      refine mx_trans h1 (mx_refAt row L Q f (a + 1) _ x (by omega) (by split <;> simp [refK_len, h])) (fun v => ?_)
      constructor
      · rintro ⟨b, h3, h4, h5, h6⟩
        by_cases e : b = a
        · subst e; exact .inl ⟨h5, h6⟩
        · exact .inr ⟨b, by omega, h4, h5, h6⟩
      · rintro (⟨h5, h6⟩ | ⟨b, h3, h4, h5, h6⟩)
        · exact ⟨a, Nat.le_refl _, c, h5, h6⟩
        · exact ⟨b, by omega, h4, h5, h6⟩
    · rw [if_neg c]
      exact mx_nil (fun v ⟨b, h1, h2, _⟩ => by omega)
def PatAt (P : List ByteArray) (row : List Int) (i0 x : Nat) (v : Int) : Prop := ∃ i, i0 ≤ i ∧ i < P.length ∧ CountP P i ∧ RowAt row (patD (P.getD i ByteArray.empty)).1 (patD (P.getD i ByteArray.empty)).2 0 x v
theorem mx_refI (P : List ByteArray) (row : List Int) : ∀ (f i : Nat) (o : List Int) (x : Nat), P.length = i + f → x < o.length → IsMx (PatAt P row i x) (o.getD x 0) ((refI P row f i o).getD x 0)
  | 0, i, o, x, hf, h => mx_nil (fun v ⟨j, h1, h2, _⟩ => by omega)
  | f + 1, i, o, x, hf, h => by
    rw [refI]
    have h1 : IsMx (fun v => CountP P i ∧ RowAt row (patD (P.getD i ByteArray.empty)).1 (patD (P.getD i ByteArray.empty)).2 0 x v) (o.getD x 0) ((if CountP P i then refAt row (patD (P.getD i ByteArray.empty)).1 (patD (P.getD i ByteArray.empty)).2 (row.length + 1) 0 o else o).getD x 0) := by
      split
      · rename_i c
        exact mx_iff (mx_refAt row _ _ _ 0 o x (by omega) h) (fun y => ⟨fun z => z.2, fun z => ⟨c, z⟩⟩)
      · rename_i c
        exact mx_nil (fun y hy => c hy.1)
    refine mx_trans h1 (mx_refI P row f (i + 1) _ x (by omega) (by split <;> simp [refAt_len, h])) (fun v => ?_)
    constructor
    · rintro ⟨b, h3, h4, h5, h6⟩
      by_cases e : b = i
      · subst e; exact .inl ⟨h5, h6⟩
      · exact .inr ⟨b, by omega, h4, h5, h6⟩
    · rintro (⟨h5, h6⟩ | ⟨b, h3, h4, h5, h6⟩)
      · exact ⟨i, Nat.le_refl _, by omega, h5, h6⟩
      · exact ⟨b, by omega, h4, h5, h6⟩
theorem denV_take (P : List ByteArray) : ∀ n, n ≤ P.length → (∀ key, denV (P.take n) key ≠ [] → ∃ i, i < n ∧ (∀ k, i < k → k < n → (patD (P.getD i ByteArray.empty)).1 ≠ (patD (P.getD k ByteArray.empty)).1) ∧ (patD (P.getD i ByteArray.empty)).1 = key) ∧
    ∀ i, i < n → (∀ k, i < k → k < n → (patD (P.getD i ByteArray.empty)).1 ≠ (patD (P.getD k ByteArray.empty)).1) → denV (P.take n) (patD (P.getD i ByteArray.empty)).1 = (patD (P.getD i ByteArray.empty)).2
  | 0, _ => ⟨fun key h => absurd rfl h, fun i hi => absurd hi (Nat.not_lt_zero _)⟩
  | n + 1, hn => by
    obtain ⟨h1, h2⟩ := denV_take P n (by omega)
    have e : denV (P.take (n + 1)) = fun k => if k = (patD (P.getD n ByteArray.empty)).1 then (patD (P.getD n ByteArray.empty)).2 else denV (P.take n) k := foldl_take _ _ P _ (by omega)
    rw [e]
    refine ⟨fun key h => ?_, fun i hi hc => ?_⟩
    · by_cases c : key = (patD (P.getD n ByteArray.empty)).1
      · exact ⟨n, by omega, fun k h3 h4 => by omega, c.symm⟩
      · replace h : (if key = (patD (P.getD n ByteArray.empty)).1 then (patD (P.getD n ByteArray.empty)).2 else denV (P.take n) key) ≠ [] := h
        rw [if_neg c] at h
        obtain ⟨i, g1, g2, g3⟩ := h1 key h
        refine ⟨i, by omega, fun k h3 h4 => ?_, g3⟩
        rcases Nat.lt_succ_iff_lt_or_eq.1 h4 with h5 | rfl
        · exact g2 k h3 h5
        · rw [g3]; exact c
    · show (if (patD (P.getD i ByteArray.empty)).1 = (patD (P.getD n ByteArray.empty)).1 then _ else _) = _
      rcases Nat.lt_succ_iff_lt_or_eq.1 hi with h5 | rfl
      · rw [if_neg (hc n h5 (by omega))]
        exact h2 i h5 (fun k h3 h4 => hc k h3 (by omega))
      · rw [if_pos rfl]
theorem denV_some {P : List ByteArray} {key : List Int} (h : denV P key ≠ []) : ∃ i, i < P.length ∧ CountP P i ∧ (patD (P.getD i ByteArray.empty)).1 = key ∧ denV P key = (patD (P.getD i ByteArray.empty)).2 := by
  have h0 := denV_take P P.length (Nat.le_refl _)
  rw [List.take_length] at h0
  obtain ⟨i, h1, h2, h3⟩ := h0.1 key h
  exact ⟨i, h1, h2, h3, by rw [← h3]; exact h0.2 i h1 h2⟩
theorem denV_count {P : List ByteArray} {i : Nat} (hi : i < P.length) (h : CountP P i) : denV P (patD (P.getD i ByteArray.empty)).1 = (patD (P.getD i ByteArray.empty)).2 := by
  have h0 := denV_take P P.length (Nat.le_refl _)
  rw [List.take_length] at h0
  exact h0.2 i hi h
theorem patGo_re : ∀ (rs : List Int) (f : Bool) (L Lv : List Int) (dg re : Bool) (M Q : List Int), patGo rs f L Lv dg re = some (M, Q) → (re = true → L ≠ []) → M ≠ []
  | [], f, L, Lv, dg, re, M, Q, h, hl => by
    unfold patGo at h
    split at h
    · rename_i c
      simp only [Option.some.injEq, Prod.mk.injEq] at h
      obtain ⟨rfl, rfl⟩ := h
      exact hl c
    · cases h
  | r :: rs, f, L, Lv, dg, re, M, Q, h, hl => by
    unfold patGo at h
    split at h
    · split at h
      · cases h
      · exact patGo_re rs _ _ _ _ _ M Q h hl
    · split at h
      · split at h
        · cases h
        · exact patGo_re rs _ _ _ _ _ M Q h (fun _ => by simp)
      · split at h
        · exact patGo_re rs _ _ _ _ _ M Q h (fun _ => by simp)
        · cases h
theorem patD_ne {s : ByteArray} (h : patV s ≠ none) : (patD s).1 ≠ [] := by
  unfold patD
  cases e : patV s with
  | none => exact absurd e h
  | some p =>
    obtain ⟨M, Q⟩ := p
    unfold patV at e
    split at e
    · cases e
    · exact patGo_re _ _ _ _ _ _ M Q e (fun z => by cases z)
theorem at_get {l : List Int} {j x : Nat} {v : Int} : At l j x v → l ≠ [] := fun ⟨i, hi, _⟩ e => by rw [e] at hi; exact absurd hi (Nat.not_lt_zero _)
/-- Both say the same of each place. -/
theorem all_pat {P : List ByteArray} (hP : AllP P P.length) {T : List Nd} (hd : ∀ k, den T k = denV P k) (row : List Int) (x : Nat) (v : Int) : AllAt T row 0 (x + 1) v ↔ PatAt P row 0 x v := by
  constructor
  · rintro ⟨f, _, h2, m, b, h3, h4, h5, h6⟩
    have hk : denV P ((row.drop f).take m) = (T.getD b zNd).lv := by rw [← hd]; unfold den; rw [h5]
    obtain ⟨i, g1, g2, g3, g4⟩ := denV_some (P := P) (key := (row.drop f).take m) (by rw [hk]; exact at_get h6)
    have hl : ((row.drop f).take m).length = m := by rw [List.length_take]; omega
    rw [List.length_drop] at h4
    refine ⟨i, Nat.zero_le _, g1, g2, f, Nat.zero_le _, by rw [g3, hl]; omega, ?_, by rw [← g4, hk]; exact h6⟩
    rw [g3, hl, List.drop_take, Nat.add_sub_cancel_left]
  · rintro ⟨i, _, g1, g2, a, _, h4, h5, h6⟩
    have hne := List.length_pos_iff.2 (patD_ne (hP i g1))
    have hk := denV_count g1 g2
    rw [List.drop_take, Nat.add_sub_cancel_left] at h5
    refine ⟨a, Nat.zero_le _, by omega, (patD (P.getD i ByteArray.empty)).1.length, ?_⟩
    rw [h5]
    have hg : den T (patD (P.getD i ByteArray.empty)).1 ≠ [] := by rw [hd, hk]; exact at_get h6
    cases e : goT T 0 (patD (P.getD i ByteArray.empty)).1 with
    | none => unfold den at hg; rw [e] at hg; exact absurd rfl hg
    | some b =>
      refine ⟨b, by omega, by rw [List.length_drop]; omega, rfl, ?_⟩
      have : (T.getD b zNd).lv = (patD (P.getD i ByteArray.empty)).2 := by rw [← hk, ← hd]; unfold den; rw [e]
      rw [this]
      exact h6
theorem rep_get (n x : Nat) : (List.replicate n (0 : Int)).getD x 0 = 0 := by
  rw [List.getD_eq_getElem?_getD, List.getElem?_replicate]
  split <;> rfl
theorem levels_eq {P : List ByteArray} (hP : AllP P P.length) {T : List Nd} (hd : ∀ k, den T k = denV P k) (w : List Int) (n : Nat) (hn : n < w.length + 1) : (levelsV T w).getD n 0 = (refI P (rowOf w) P.length 0 (List.replicate (w.length + 1) 0)).getD n 0 := by
  have h1 := mx_all T (rowOf w) (rowOf w).length 0 (List.replicate (w.length + 3) 0) (n + 1) (by omega) (by rw [List.length_replicate]; omega)
  have h2 := mx_refI P (rowOf w) P.length 0 (List.replicate (w.length + 1) 0) n (by omega) (by rw [List.length_replicate]; omega)
  rw [rep_get] at h1 h2
  rw [List.drop_zero] at h1
  rw [← mx_uniq (mx_iff h1 (fun y => (all_pat hP hd (rowOf w) n y).symm)) h2]
  unfold levelsV
  rw [List.getD_eq_getElem?_getD, List.getElem?_drop, List.getElem?_take, if_pos (by omega), Nat.add_comm 1 n, ← List.getD_eq_getElem?_getD]
theorem oddGo_hi (lf rt len : Int) : ∀ (l : List Int) (n : Nat), len - rt < (n : Int) → oddGo lf rt len l n = []
  | [], _, _ => rfl
  | x :: l, n, h => by rw [oddGo, if_neg (by omega), oddGo_hi lf rt len l (n + 1) (by omega)]
theorem oddGo_lo (lf rt len : Int) (l : List Int) : ∀ (k n : Nat), (n : Int) + k = lf → oddGo lf rt len (l.drop n) n = oddGo lf rt len (l.drop (n + k)) (n + k)
  | 0, n, h => rfl
  | k + 1, n, h => by
    have ih := oddGo_lo lf rt len l k (n + 1) (by omega)
    rw [show n + (k + 1) = n + 1 + k by omega, ← ih]
    rcases Nat.lt_or_ge n l.length with c | c
    · rw [drop_get l 0 c, oddGo, if_neg (by omega)]
    · rw [List.drop_eq_nil_of_le c, List.drop_eq_nil_of_le (by omega)]
      rfl
theorem oddGo_refO (lf rt len : Int) (l o : List Int) (ho : ∀ n, n < l.length → l.getD n 0 = o.getD n 0) : ∀ (f n : Nat), lf ≤ (n : Int) → len - rt + 1 - (n : Int) = f → len - rt < l.length → oddGo lf rt len (l.drop n) n = refO o (len - rt) f n
  | 0, n, h, hf, hl => by rw [oddGo_hi _ _ _ _ _ (by omega)]; rfl
  | f + 1, n, h, hf, hl => by
    have ih := oddGo_refO lf rt len l o ho f (n + 1) (by omega) (by omega) hl
    have hn : n < l.length := by omega
    rw [drop_get l 0 hn, oddGo, refO, if_pos (show (n : Int) ≤ len - rt by omega), Int.toNat_natCast, ho n hn, ih]
    by_cases c : o.getD n 0 % 2 = 1
    · rw [if_pos ⟨c, h, by omega⟩, if_pos c]; rfl
    · rw [if_neg (fun z => c z.1), if_neg c]; rfl
theorem tree_pts (lf rt : Int) (l o : List Int) (m : Nat) (hl : l.length = m + 1) (h1 : 1 ≤ lf) (h2 : 1 ≤ rt) (ho : ∀ n, n < l.length → l.getD n 0 = o.getD n 0) : oddGo lf rt m l 0 = refO o ((m : Int) - rt) ((m : Int) - rt + 1 - lf).toNat lf := by
  have e1 := oddGo_lo lf rt m l lf.toNat 0 (by omega)
  rw [List.drop_zero, Nat.zero_add] at e1
  rw [e1]
  by_cases c : (m : Int) - rt + 1 - lf ≤ 0
  · rw [show ((m : Int) - rt + 1 - lf).toNat = 0 by omega, oddGo_hi _ _ _ _ _ (by omega)]; rfl
  · have e2 := oddGo_refO lf rt m l o ho ((m : Int) - rt + 1 - lf).toNat lf.toNat (by omega) (by omega) (by omega)
    rw [e2, Int.toNat_of_nonneg (by omega)]
def inR (a hi : Int) (l : List Int) : List Int := l.filter (fun p => decide (a ≤ p ∧ p ≤ hi))
theorem inGo_inR (lf rt len : Int) : ∀ l : List Int, inGo lf rt len l = inR lf (len - rt) l
  | [] => rfl
  | n :: l => by
    unfold inR
    rw [inGo, List.filter_cons]
    by_cases c : lf ≤ n ∧ n ≤ len - rt
    · rw [if_pos c, if_pos (decide_eq_true c), inGo_inR lf rt len l]; rfl
    · rw [if_neg c, if_neg (by rw [decide_eq_true_eq]; exact c), inGo_inR lf rt len l]; rfl
theorem inR_in {a hi p : Int} {l : List Int} (h : a ≤ p ∧ p ≤ hi) : inR a hi (p :: l) = p :: inR a hi l := by
  unfold inR
  rw [List.filter_cons, if_pos (decide_eq_true h)]
theorem inR_out {a hi p : Int} {l : List Int} (h : ¬ (a ≤ p ∧ p ≤ hi)) : inR a hi (p :: l) = inR a hi l := by
  unfold inR
  rw [List.filter_cons, if_neg (by rw [decide_eq_true_eq]; exact h)]
theorem inR_step (a hi : Int) (h : a ≤ hi) : ∀ l : List Int, l.Pairwise (· < ·) → inR a hi l = (if a ∈ l then [a] else []) ++ inR (a + 1) hi l
  | [], _ => by simp [inR]
  | p :: l, hp => by
    obtain ⟨h1, h2⟩ := List.pairwise_cons.1 hp
    have ih := inR_step a hi h l h2
    rcases Int.lt_trichotomy p a with c | c | c
    · rw [inR_out (show ¬ (a ≤ p ∧ p ≤ hi) by omega), inR_out (show ¬ (a + 1 ≤ p ∧ p ≤ hi) by omega), ih]
      by_cases d : a ∈ l
      · rw [if_pos d, if_pos (List.mem_cons_of_mem _ d)]
      · rw [if_neg d, if_neg (fun z => by rcases List.mem_cons.1 z with z | z; · omega
                                          · exact d z)]
    · subst c
      have hn : p ∉ l := fun z => by have := h1 p z; omega
      rw [inR_in (show p ≤ p ∧ p ≤ hi by omega), inR_out (show ¬ (p + 1 ≤ p ∧ p ≤ hi) by omega), ih, if_neg hn, if_pos List.mem_cons_self]
      rfl
    · have hn : a ∉ l := fun z => by have := h1 a z; omega
      have hn2 : a ∉ p :: l := fun z => by rcases List.mem_cons.1 z with z | z; · omega
                                           · exact hn z
      rw [if_neg hn2, List.nil_append]
      rw [if_neg hn, List.nil_append] at ih
      by_cases c2 : p ≤ hi
      · rw [inR_in (show a ≤ p ∧ p ≤ hi by omega), inR_in (show a + 1 ≤ p ∧ p ≤ hi by omega), ih]
      · rw [inR_out (show ¬ (a ≤ p ∧ p ≤ hi) by omega), inR_out (show ¬ (a + 1 ≤ p ∧ p ≤ hi) by omega), ih]
theorem set1_get : ∀ (l o : List Int) (n : Nat), n < o.length → (∀ p ∈ l, 0 ≤ p) → (set1 l o).getD n 0 = if (n : Int) ∈ l then 1 else o.getD n 0
  | [], o, n, h, _ => by simp [set1]
  | p :: l, o, n, h, hp => by
    have h0 := hp p List.mem_cons_self
    rw [set1, set1_get l _ n (by simpa using h) (fun q hq => hp q (List.mem_cons_of_mem _ hq)), set_get _ _ _ _ h]
    by_cases c : (n : Int) ∈ l
    · rw [if_pos c, if_pos (List.mem_cons_of_mem _ c)]
    · rw [if_neg c]
      by_cases c2 : n = p.toNat
      · rw [if_pos c2, if_pos (by rw [c2, Int.toNat_of_nonneg h0]; exact List.mem_cons_self)]
      · rw [if_neg c2, if_neg]
        intro z
        rcases List.mem_cons.1 z with z | z
        · omega
        · exact c z
theorem refO_inR (o pts : List Int) (hi : Int) (hp : pts.Pairwise (· < ·)) (ho : ∀ n : Int, 0 ≤ n → n ≤ hi → (o.getD n.toNat 0 % 2 = 1 ↔ n ∈ pts)) : ∀ (f : Nat) (n : Int), 0 ≤ n → hi + 1 - n = f → refO o hi f n = inR n hi pts
  | 0, n, h0, hf => by
    unfold inR
    rw [List.filter_eq_nil_iff.2 (fun p _ => by rw [decide_eq_true_eq]; omega)]
    rfl
  | f + 1, n, h0, hf => by
    rw [refO, if_pos (by omega), inR_step n hi (by omega) pts hp, refO_inR o pts hi hp ho f (n + 1) (by omega) (by omega)]
    by_cases c : n ∈ pts
    · rw [if_pos ((ho n h0 (by omega)).2 c), if_pos c]; rfl
    · rw [if_neg (fun z => c ((ho n h0 (by omega)).1 z)), if_neg c]; rfl
theorem known_pts (lf rt : Int) (pts : List Int) (m : Nat) (h1 : 1 ≤ lf) (h2 : 1 ≤ rt) (hp : pts.Pairwise (· < ·)) (hb : ∀ p ∈ pts, 1 ≤ p ∧ p < (m : Int)) : inGo lf rt m pts = refO (set1 pts (List.replicate (m + 1) 0)) ((m : Int) - rt) ((m : Int) - rt + 1 - lf).toNat lf := by
  rw [inGo_inR]
  by_cases c : (m : Int) - rt + 1 - lf ≤ 0
  · rw [show ((m : Int) - rt + 1 - lf).toNat = 0 by omega]
    unfold inR
    rw [List.filter_eq_nil_iff.2 (fun p _ => by rw [decide_eq_true_eq]; omega)]
    rfl
  · refine (refO_inR _ pts _ hp (fun n h0 hn => ?_) _ lf (by omega) (by omega)).symm
    rw [set1_get pts _ n.toNat (by rw [List.length_replicate]; omega) (fun p hp => by have := hb p hp; omega), Int.toNat_of_nonneg h0, rep_get]
    split
    · simp_all
    · simp_all
theorem wordGo_ok : ∀ (rs L A M Q : List Int), wordGo rs L A = some (M, Q) → (∀ r ∈ rs, okR' r) → (∀ r ∈ L, okR' r) → ∀ r ∈ M, okR' r
  | [], L, A, M, Q, h, h1, h2 => by
    unfold wordGo at h
    split at h
    · cases h
    · simp only [Option.some.injEq, Prod.mk.injEq] at h
      obtain ⟨rfl, rfl⟩ := h
      exact h2
  | r :: rs, L, A, M, Q, h, h1, h2 => by
    have h3 : ∀ x ∈ rs, okR' x := fun x hx => h1 x (List.mem_cons_of_mem _ hx)
    unfold wordGo at h
    split at h
    · split at h
      · cases h
      · exact wordGo_ok rs _ _ M Q h h3 h2
    · split at h
      · refine wordGo_ok rs _ _ M Q h h3 (fun x hx => ?_)
        rcases List.mem_append.1 hx with hx | hx
        · exact h2 x hx
        · rw [List.mem_singleton.1 hx]; exact low_ok (h1 r List.mem_cons_self)
      · cases h
theorem wordD_ok (x : ByteArray) : ∀ r ∈ (wordD x).1, okR' r := by
  unfold wordD
  cases h : wordV x with
  | none => intro r hr; cases hr
  | some p =>
    obtain ⟨M, Q⟩ := p
    unfold wordV at h
    split at h
    · cases h
    · exact wordGo_ok _ _ _ M Q h (runes_ok (by omega)) (fun r hr => by cases hr)
theorem refW_kn (w : List Int) (hw : ∀ r ∈ w, okR' r) : ∀ (xs : List ByteArray) (o : List Int) (b : Bool) (f : ByteArray → Option (List Int)),
    (b = false ∧ f (strOfNums (flatB w)) = none) ∨ (b = true ∧ ∃ x, (wordD x).1 = w ∧ f (strOfNums (flatB w)) = some (wordD x).2 ∧ o = set1 (wordD x).2 (List.replicate (w.length + 1) 0)) →
    ((refW w xs o b).2 = false ∧ (xs.foldl (fun k x y => if y = wkey x then some (wordD x).2 else k y) f) (strOfNums (flatB w)) = none ∧ (refW w xs o b).1 = o) ∨
    ((refW w xs o b).2 = true ∧ ∃ x, (wordD x).1 = w ∧ (xs.foldl (fun k x y => if y = wkey x then some (wordD x).2 else k y) f) (strOfNums (flatB w)) = some (wordD x).2 ∧ (refW w xs o b).1 = set1 (wordD x).2 (List.replicate (w.length + 1) 0))
  | [], o, b, f, h => h.imp (fun z => ⟨z.1, z.2, rfl⟩) id
  | x :: xs, o, b, f, h => by
    rw [refW, List.foldl_cons]
    by_cases c : (wordD x).1 = w
    · rw [if_pos c]
      have hk : (fun y => if y = wkey x then some (wordD x).2 else f y) (strOfNums (flatB w)) = some (wordD x).2 := by
        show (if strOfNums (flatB w) = wkey x then _ else _) = _
        rw [if_pos (by unfold wkey; rw [c])]
      rcases refW_kn w hw xs (set1 (wordD x).2 (List.replicate (w.length + 1) 0)) true (fun y => if y = wkey x then some (wordD x).2 else f y) (.inr ⟨rfl, x, c, hk, rfl⟩) with h1 | h1
      · exfalso
        have key : ∀ (xs : List ByteArray) (o : List Int), (refW w xs o true).2 = true := by
          intro xs
          induction xs with
          | nil => intro o; rfl
          | cons y ys ih => intro o; rw [refW]; split <;> exact ih _
        rw [key] at h1
        exact absurd h1.1 (by decide)
      · exact .inr h1
    · rw [if_neg c]
      have hk : (fun y => if y = wkey x then some (wordD x).2 else f y) (strOfNums (flatB w)) = f (strOfNums (flatB w)) := by
        show (if strOfNums (flatB w) = wkey x then _ else _) = _
        rw [if_neg (fun z => c (flat_inj (wordD_ok x) hw z.symm))]
      exact refW_kn w hw xs o b (fun y => if y = wkey x then some (wordD x).2 else f y) (by
        have hk' : (if strOfNums (flatB w) = wkey x then some (wordD x).2 else f (strOfNums (flatB w))) = f (strOfNums (flatB w)) := hk
        rw [hk']
        exact h)
theorem word_eq {P W : List ByteArray} (hP : AllP P P.length) {T : List Nd} (hd : ∀ k, den T k = denV P k) (lf rt : Int) (h1 : 1 ≤ lf) (h2 : 1 ≤ rt) (w : List Int) (hw : ∀ r ∈ w, okR' r) : wordPts T (knV W) lf rt w = refWord P W lf rt w := by
  unfold wordPts refWord refOdd
  rcases refW_kn w hw W (List.replicate (w.length + 1) 0) false (fun _ => none) (.inl ⟨rfl, rfl⟩) with ⟨a, b, c⟩ | ⟨a, x, b, c, d⟩
  · have b' : knV W (strOfNums (flatB w)) = none := b
    rw [b', if_neg (by rw [a]; decide), c]
    exact tree_pts lf rt _ _ w.length (levels_len T w) h1 h2 (fun n hn => levels_eq hP hd w n (by rw [levels_len] at hn; exact hn))
  · have c' : knV W (strOfNums (flatB w)) = some (wordD x).2 := c
    rw [c', if_pos a, d]
    have hx := wordD_at x
    rw [b] at hx
    exact known_pts lf rt _ w.length h1 h2 hx.2 hx.1
theorem points_eq {P W : List ByteArray} (hP : AllP P P.length) {T : List Nd} (hd : ∀ k, den T k = denV P k) {lf rt : Int} (h1 : 1 ≤ lf) (h2 : 1 ≤ rt) (s : ByteArray) : pointsV T (knV W) lf rt s = refPts P W lf rt s := by
  unfold pointsV refPts
  split
  · rfl
  · rename_i c
    split
    · refine word_eq hP hd lf rt h1 h2 _ (fun r hr => ?_)
      obtain ⟨x, hx, rfl⟩ := List.mem_map.1 hr
      exact low_ok (runes_ok (by omega) x hx)
    · rfl
end Go.Proofs.Ytbeihfcjfkddcaa.Hy
