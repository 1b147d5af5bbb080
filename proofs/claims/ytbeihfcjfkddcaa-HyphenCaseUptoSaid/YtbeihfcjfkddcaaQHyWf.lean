/- Pruned by wip/prune.py. -/
import Derived.Test.YtbeihfcjfkddcaaQHyPts
namespace Go.Proofs.Ytbeihfcjfkddcaa.Hy
open Go Go.RowKit Go.Proofs.YtbeihfcjfkddcaaW.PrintWords Go.Proofs.Ytbeihfcjfkddcaa.Given Go.Proofs.Ytbeihfcjfkddcaa.Rn Go.Proofs.Ytbeihfcjfkddcaa.Sx
set_option linter.unusedVariables false
set_option linter.unusedSimpArgs false
def goT (T : List Nd) : Nat → List Int → Option Nat
  | a, [] => some a
  | a, r :: rs => match lk (T.getD a zNd).nx r with
    | none => none
    | some q => goT T q.toNat rs
def den (T : List Nd) (k : List Int) : List Int := match goT T 0 k with
  | some b => (T.getD b zNd).lv
  | none => []
theorem go_some {T : List Nd} {a : Nat} {r : Int} {q : Int} (h : lk (T.getD a zNd).nx r = some q) (rs : List Int) : goT T a (r :: rs) = goT T q.toNat rs := by
  rw [goT, h]
theorem go_none {T : List Nd} {a : Nat} {r : Int} (h : lk (T.getD a zNd).nx r = none) (rs : List Int) : goT T a (r :: rs) = none := by
  rw [goT, h]
theorem go_app (T : List Nd) : ∀ (rs ss : List Int) (a b : Nat), goT T a rs = some b → goT T a (rs ++ ss) = goT T b ss
  | [], ss, a, b, h => by injection h with h; subst h; rfl
  | r :: rs, ss, a, b, h => by
    rw [List.cons_append]
    cases e : lk (T.getD a zNd).nx r with
    | none => rw [go_none e] at h; cases h
    | some q => rw [go_some e] at h ⊢; exact go_app T rs ss _ _ h
theorem go_pth {T : List Nd} {pth : Nat → List Int} (hw : WfT T pth) : ∀ (rs : List Int) (a b : Nat), a < T.length → goT T a rs = some b → b < T.length ∧ pth b = pth a ++ rs
  | [], a, b, ha, h => by injection h with h; subst h; exact ⟨ha, by simp⟩
  | r :: rs, a, b, ha, h => by
    cases e : lk (T.getD a zNd).nx r with
    | none => rw [go_none e] at h; cases h
    | some q =>
      rw [go_some e] at h
      obtain ⟨h1, h2, h3⟩ := (hw.2 a ha).1 r q e
      obtain ⟨h4, h5⟩ := go_pth hw rs _ _ h2 h
      exact ⟨h4, by rw [h5, h3, List.append_assoc]; rfl⟩
def newT (T : List Nd) (a : Nat) (r : Int) : List Nd := T.set a { T.getD a zNd with nx := upd (T.getD a zNd).nx r (T.length : Int) } ++ [zNd]
theorem newT_get {T : List Nd} {a : Nat} (ha : a < T.length) (r : Int) (i : Nat) : (newT T a r).getD i zNd = if i < T.length then (if i = a then { T.getD a zNd with nx := upd (T.getD a zNd).nx r (T.length : Int) } else T.getD i zNd) else zNd := by
  unfold newT
  rw [getD_snoc, List.length_set, getD_set _ _ _ _ ha]
  split
  · rfl
  · split <;> rfl
theorem newT_len (T : List Nd) (a : Nat) (r : Int) : (newT T a r).length = T.length + 1 := by simp [newT]
theorem newT_lv {T : List Nd} {a : Nat} (ha : a < T.length) (r : Int) {i : Nat} (hi : i < T.length) : ((newT T a r).getD i zNd).lv = (T.getD i zNd).lv := by
  rw [newT_get ha, if_pos hi]
  split
  · rename_i e; rw [e]
  · rfl
theorem newT_lk {T : List Nd} {a : Nat} (ha : a < T.length) (r : Int) {i : Nat} (hi : i < T.length) (x : Int) : lk ((newT T a r).getD i zNd).nx x = if i = a ∧ x = r then some (T.length : Int) else lk (T.getD i zNd).nx x := by
  rw [newT_get ha, if_pos hi]
  by_cases c : i = a
  · rw [if_pos c]
    show lk (upd _ _ _) x = _
    rw [lk_upd]
    by_cases c2 : x = r
    · rw [if_pos c2, if_pos ⟨c, c2⟩]
    · rw [if_neg c2, if_neg (fun z => c2 z.2), c]
  · rw [if_neg c, if_neg (fun z => c z.1)]
theorem wf_new {T : List Nd} {pth : Nat → List Int} {a : Nat} {r : Int} (hw : WfT T pth) (ha : a < T.length) : WfT (newT T a r) (fun i => if i = T.length then pth a ++ [r] else pth i) := by
  refine ⟨by show (if 0 = T.length then _ else _) = _; rw [if_neg (by omega)]; exact hw.1, fun i hi => ?_⟩
  rw [newT_len] at hi ⊢
  by_cases c : i < T.length
  · refine ⟨fun x q hq => ?_, ?_⟩
    · rw [newT_lk ha r c] at hq
      show 0 ≤ q ∧ q.toNat < T.length + 1 ∧ (if q.toNat = T.length then _ else _) = (if i = T.length then _ else _) ++ [x]
      rw [if_neg (show ¬ i = T.length by omega)]
      by_cases c2 : i = a ∧ x = r
      · rw [if_pos c2] at hq
        injection hq with hq
        subst hq
        rw [Int.toNat_natCast, if_pos rfl, c2.1, c2.2]
        exact ⟨by omega, by omega, rfl⟩
      · rw [if_neg c2] at hq
        obtain ⟨h1, h2, h3⟩ := (hw.2 i c).1 x q hq
        rw [if_neg (by omega)]
        exact ⟨h1, by omega, h3⟩
    · rw [newT_lv ha r c]
      show _ ∨ _ = (if i = T.length then _ else _ : List Int).length + 1
      rw [if_neg (show ¬ i = T.length by omega)]
      exact (hw.2 i c).2
  · rw [newT_get ha, if_neg c]
    exact ⟨(fun x q hq => by cases hq), .inl rfl⟩
theorem go_new {T : List Nd} {a : Nat} {r : Int} (hn : Wn T) (ha : a < T.length) (hl : lk (T.getD a zNd).nx r = none) : ∀ (rs : List Int) (i : Nat), i < T.length → goT (newT T a r) i rs = goT T i rs ∨ (goT T i rs = none ∧ goT (newT T a r) i rs = some T.length)
  | [], i, hi => .inl rfl
  | x :: rs, i, hi => by
    have hk := newT_lk ha r hi x
    by_cases c : i = a ∧ x = r
    · rw [if_pos c] at hk
      rw [go_some hk, Int.toNat_natCast]
      have h0 : goT T i (x :: rs) = none := go_none (by rw [c.1, c.2]; exact hl) rs
      rw [h0]
      cases rs with
      | nil => exact .inr ⟨rfl, rfl⟩
      | cons y ys => exact .inl (go_none (by rw [newT_get ha, if_neg (by omega)]; rfl) ys)
    · rw [if_neg c] at hk
      cases e : lk (T.getD i zNd).nx x with
      | none => rw [e] at hk; rw [go_none hk, go_none e]; exact .inl rfl
      | some q =>
        rw [e] at hk
        rw [go_some hk, go_some e]
        exact go_new hn ha hl rs _ (hn i hi x q e).2
theorem den_new {T : List Nd} {pth : Nat → List Int} {a : Nat} {r : Int} (hw : WfT T pth) (ha : a < T.length) (hl : lk (T.getD a zNd).nx r = none) (k : List Int) : den (newT T a r) k = den T k := by
  unfold den
  rcases go_new (wf_wn hw) ha hl k 0 (by omega) with h | ⟨h1, h2⟩
  · rw [h]
    cases e : goT T 0 k with
    | none => rfl
    | some b => exact newT_lv ha r (go_pth hw k 0 b (by omega) e).1
  · rw [h1, h2]
    show ((newT T a r).getD T.length zNd).lv = []
    rw [newT_get ha, if_neg (by omega)]
    rfl
theorem go_lv {T : List Nd} {a : Nat} (lv : List Int) (ha : a < T.length) : ∀ (rs : List Int) (i : Nat), goT (T.set a { T.getD a zNd with lv := lv }) i rs = goT T i rs
  | [], i => rfl
  | x :: rs, i => by
    have hk : lk ((T.set a { T.getD a zNd with lv := lv }).getD i zNd).nx x = lk (T.getD i zNd).nx x := by
      rw [getD_set _ _ _ _ ha]
      split
      · rename_i e; rw [e]
      · rfl
    cases e : lk (T.getD i zNd).nx x with
    | none => rw [e] at hk; rw [go_none hk, go_none e]
    | some q => rw [e] at hk; rw [go_some hk, go_some e]; exact go_lv lv ha rs _
theorem put_den : ∀ (rs : List Int) (T : List Nd) (a : Nat) (ds lv : List Int) (pth : Nat → List Int), WfT T pth → a < T.length → goT T 0 ds = some a → lv.length = ds.length + rs.length + 1 →
    ∃ pth', WfT (putGo T a rs lv) pth' ∧ ∀ k, den (putGo T a rs lv) k = if k = ds ++ rs then lv else den T k
  | [], T, a, ds, lv, pth, hw, ha, hg, hl => by
    have hp := (go_pth hw ds 0 a (by omega) hg).2
    rw [hw.1, List.nil_append] at hp
    refine ⟨pth, ⟨hw.1, fun i hi => ?_⟩, fun k => ?_⟩
    · rw [putGo, List.length_set] at *
      rw [getD_set _ _ _ _ ha]
      by_cases c : i = a
      · subst c
        rw [if_pos rfl]
        exact ⟨(hw.2 i hi).1, .inr (by rw [hp]; simpa using hl)⟩
      · rw [if_neg c]
        exact hw.2 i hi
    · rw [putGo, List.append_nil]
      unfold den
      rw [go_lv lv ha]
      cases e : goT T 0 k with
      | none =>
        rw [if_neg (fun z => by rw [z, hg] at e; cases e)]
      | some b =>
        show ((T.set a _).getD b zNd).lv = _
        rw [getD_set _ _ _ _ ha]
        by_cases c : b = a
        · rw [if_pos c]
          have h2 := (go_pth hw k 0 b (by omega) e).2
          rw [hw.1, List.nil_append, c, hp] at h2
          rw [if_pos h2.symm]
        · rw [if_neg c, if_neg (fun z => by rw [z, hg] at e; injection e with e; exact c e.symm)]
  | r :: rs, T, a, ds, lv, pth, hw, ha, hg, hl => by
    have hl' : lv.length = (ds ++ [r]).length + rs.length + 1 := by simp only [List.length_append, List.length_cons, List.length_nil] at hl ⊢; omega
    have he : ds ++ [r] ++ rs = ds ++ r :: rs := by simp
    unfold putGo
    cases e : lk (T.getD a zNd).nx r with
    | some q =>
      have hq := (hw.2 a ha).1 r q e
      have h := put_den rs T q.toNat (ds ++ [r]) lv pth hw hq.2.1 (by rw [go_app T ds [r] 0 a hg, go_some e]; rfl) hl'
      rw [he] at h
      exact h
    | none =>
      have ha' : a < (newT T a r).length := by rw [newT_len]; omega
      have h0 : goT (newT T a r) 0 ds = some a := by
        rcases go_new (wf_wn hw) ha e ds 0 (by omega) with h | ⟨h1, _⟩
        · rw [h, hg]
        · rw [hg] at h1; cases h1
      have hk := newT_lk ha r ha r
      rw [if_pos ⟨rfl, rfl⟩] at hk
      have h := put_den rs (newT T a r) T.length (ds ++ [r]) lv _ (wf_new hw ha) (by rw [newT_len]; omega) (by rw [go_app _ ds [r] 0 a h0, go_some hk]; simp [goT]) hl'
      rw [he] at h
      obtain ⟨p, h1, h2⟩ := h
      refine ⟨p, h1, fun k => (h2 k).trans ?_⟩
      rw [den_new hw ha e]
/-- The levels of the last pattern with these letters. -/
def denV (P : List ByteArray) : List Int → List Int := P.foldl (fun f x k => if k = (patD x).1 then (patD x).2 else f k) (fun _ => [])
theorem patD_len {s : ByteArray} (h : patV s ≠ none) : (patD s).2.length = (patD s).1.length + 1 := by
  unfold patD
  cases e : patV s with
  | none => exact absurd e h
  | some p => obtain ⟨M, Q⟩ := p; exact (pat_size e).2
theorem treeV_wf (P : List ByteArray) (hP : AllP P P.length) : ∃ pth, WfT (treeV P) pth ∧ ∀ k, den (treeV P) k = denV P k := by
  have key : ∀ (P : List ByteArray), (∀ x ∈ P, patV x ≠ none) → ∀ (T : List Nd) (f : List Int → List Int) (pth : Nat → List Int), 0 < T.length → WfT T pth → (∀ k, den T k = f k) →
      ∃ pth', WfT (P.foldl (fun T x => putGo T 0 (patD x).1 (patD x).2) T) pth' ∧ ∀ k, den (P.foldl (fun T x => putGo T 0 (patD x).1 (patD x).2) T) k = P.foldl (fun f x k => if k = (patD x).1 then (patD x).2 else f k) f k := by
    intro P
    induction P with
    | nil => intro _ T f pth _ hw hd; exact ⟨pth, hw, hd⟩
    | cons x P ih =>
      intro hx T f pth h0 hw hd
      obtain ⟨p, h1, h2⟩ := put_den (patD x).1 T 0 [] (patD x).2 pth hw h0 rfl (by rw [patD_len (hx x List.mem_cons_self)]; simp)
      have h3 := putGo_len (patD x).1 T 0 (patD x).2
      exact ih (fun y hy => hx y (List.mem_cons_of_mem _ hy)) _ (fun k => if k = (patD x).1 then (patD x).2 else f k) p (Nat.lt_of_lt_of_le h0 h3.1) h1 (fun k => by rw [h2 k, List.nil_append, hd])
  refine key P (fun x hx => ?_) [zNd] (fun _ => []) (fun _ => []) (by simp) ⟨rfl, fun i hi => ?_⟩ (fun k => ?_)
  · obtain ⟨j, hj, rfl⟩ := List.getElem_of_mem hx
    have := hP j hj
    rwa [List.getD_eq_getElem?_getD, List.getElem?_eq_getElem hj] at this
  · obtain rfl : i = 0 := by simpa using hi
    exact ⟨(fun r q hq => by cases hq), .inl rfl⟩
  · unfold den
    cases k with
    | nil => rfl
    | cons r rs => rw [go_none (by rfl)]
theorem wordGo_size : ∀ (rs L A M Q : List Int), wordGo rs L A = some (M, Q) → Q.length ≤ A.length + rs.length ∧ M.length ≤ L.length + rs.length
  | [], L, A, M, Q, h => by
    unfold wordGo at h
    split at h
    · cases h
    · simp only [Option.some.injEq, Prod.mk.injEq] at h
      obtain ⟨rfl, rfl⟩ := h
      simp
  | r :: rs, L, A, M, Q, h => by
    unfold wordGo at h
    split at h
    · split at h
      · cases h
      · have := wordGo_size rs _ _ M Q h
        simp only [List.length_append, List.length_cons, List.length_nil] at this ⊢; omega
    · split at h
      · have := wordGo_size rs _ _ M Q h
        simp only [List.length_append, List.length_cons, List.length_nil] at this ⊢; omega
      · cases h
theorem wordD_len (s : ByteArray) : (wordD s).2.length ≤ 256 ∧ (wordD s).1.length ≤ 256 := by
  unfold wordD
  cases h : wordV s with
  | none => simp
  | some p =>
    obtain ⟨M, Q⟩ := p
    unfold wordV at h
    split at h
    · cases h
    · have h1 := wordGo_size _ _ _ M Q h
      have h2 := runes_len s
      simp only [List.length_nil] at h1
      show Q.length ≤ 256 ∧ M.length ≤ 256
      omega
theorem knV_len (W : List ByteArray) : ∀ y l, knV W y = some l → l.length ≤ 1000000000000 := by
  have key : ∀ (W : List ByteArray) (k : ByteArray → Option (List Int)), (∀ y l, k y = some l → l.length ≤ 1000000000000) → ∀ y l, W.foldl (fun k x y => if y = wkey x then some (wordD x).2 else k y) k y = some l → l.length ≤ 1000000000000 := by
    intro W
    induction W with
    | nil => intro k h; exact h
    | cons x W ih =>
      intro k h
      refine ih _ (fun y l e => ?_)
      replace e : (if y = wkey x then some (wordD x).2 else k y) = some l := e
      split at e
      · injection e with e
        subst e
        have := (wordD_len x).1
        omega
      · exact h y l e
  exact key W _ (fun y l e => by cases e)
theorem pts_len (T : List Nd) (W : List ByteArray) (lf rt : Int) (s : ByteArray) : (pointsV T (knV W) lf rt s).length ≤ 1000000000000 := pts_len0 T _ (knV_len W) lf rt s
def exP : List ByteArray := [ByteArray.mk #[49, 110, 97], ByteArray.mk #[110, 50, 97, 116]]
def exS : ByteArray := ByteArray.mk #[104, 121, 112, 104, 101, 110, 97, 116, 105, 111, 110]
theorem ex_good : GoodL exP [] 2 2 := by
  refine ⟨⟨by decide, by decide⟩, by decide, fun j hj => ?_, fun j hj => absurd hj (Nat.not_lt_zero _)⟩
  have : j = 0 ∨ j = 1 := by have : j < 2 := hj; omega
  rcases this with rfl | rfl <;> decide +kernel
theorem ex_points : pointsV (treeV exP) (knV []) 2 2 exS = [5] := by
  rw [pointsV_yes (by decide +kernel) (by decide +kernel)]
  show oddGo _ _ _ _ _ = _
  decide +kernel
end Go.Proofs.Ytbeihfcjfkddcaa.Hy
