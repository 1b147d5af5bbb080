/- Pruned by wip/prune.py. -/
import Derived.Test.YtbeihfcjfkddcaaQHyRead
import Derived.Test.YtbeihfcjfkddcaaQSxRange
import Derived.Test.YtbeihfcjfkddcaaQWAll
namespace Go.Proofs.Ytbeihfcjfkddcaa.Hy
open Go Go.RowKit Go.Proofs.YtbeihfcjfkddcaaW.PrintWords Go.Proofs.Ytbeihfcjfkddcaa.Given Go.Proofs.Ytbeihfcjfkddcaa.Rn Go.Proofs.Ytbeihfcjfkddcaa.Sx
set_option linter.unusedVariables false
set_option linter.unusedSimpArgs false
structure Nd where
  nx : List (Int × Int)
  lv : List Int
def zNd : Nd := ⟨[], []⟩
/-- A pattern into the tree. -/
def putGo (T : List Nd) (a : Nat) : List Int → List Int → List Nd
  | [], lv => T.set a { T.getD a zNd with lv := lv }
  | r :: rs, lv => match lk (T.getD a zNd).nx r with
    | some q => putGo T q.toNat rs lv
    | none => putGo (T.set a { T.getD a zNd with nx := upd (T.getD a zNd).nx r (T.length : Int) } ++ [zNd]) T.length rs lv
def lvPut : List Int → Nat → List Int → List Int
  | [], _, out => out
  | n :: lv, j, out => lvPut lv (j + 1) (out.set j (max (out.getD j 0) n))
def lvGo (T : List Nd) (fr : Nat) : List Int → Nat → List Int → List Int
  | [], _, out => out
  | r :: rs, a, out => match lk (T.getD a zNd).nx r with
    | none => out
    | some q => lvGo T fr rs q.toNat (lvPut (T.getD q.toNat zNd).lv fr out)
def lvAll (T : List Nd) : List Int → Nat → List Int → List Int
  | [], _, out => out
  | r :: rs, fr, out => lvAll T rs (fr + 1) (lvGo T fr (r :: rs) 0 out)
theorem lvPut_len : ∀ (lv : List Int) (j : Nat) (out : List Int), (lvPut lv j out).length = out.length
  | [], _, _ => rfl
  | n :: lv, j, out => by rw [lvPut, lvPut_len lv]; simp
theorem lvGo_len (T : List Nd) (fr : Nat) : ∀ (rs : List Int) (a : Nat) (out : List Int), (lvGo T fr rs a out).length = out.length
  | [], _, _ => rfl
  | r :: rs, a, out => by
    unfold lvGo
    split
    · rfl
    · rw [lvGo_len T fr rs, lvPut_len]
theorem lvAll_len (T : List Nd) : ∀ (rs : List Int) (fr : Nat) (out : List Int), (lvAll T rs fr out).length = out.length
  | [], _, _ => rfl
  | r :: rs, fr, out => by rw [lvAll, lvAll_len T rs, lvGo_len]
def rowOf (word : List Int) : List Int := [46] ++ word ++ [46]
def levelsV (T : List Nd) (word : List Int) : List Int := ((lvAll T (rowOf word) 0 (List.replicate (word.length + 3) 0)).take (word.length + 2)).drop 1
/-- Each node has its way from the root; what leads on leads to nodes; levels have one place more than the way. -/
def WfT (T : List Nd) (pth : Nat → List Int) : Prop := pth 0 = [] ∧ ∀ i, i < T.length → (∀ r q, lk (T.getD i zNd).nx r = some q → 0 ≤ q ∧ q.toNat < T.length ∧ pth q.toNat = pth i ++ [r]) ∧ ((T.getD i zNd).lv = [] ∨ (T.getD i zNd).lv.length = (pth i).length + 1)
theorem getD_set (L : List Nd) (a i : Nat) (x : Nd) (h : a < L.length) : (L.set a x).getD i zNd = if i = a then x else L.getD i zNd := by
  simp only [List.getD_eq_getElem?_getD, List.getElem?_set]
  by_cases e : a = i
  · subst e; simp [h]
  · rw [if_neg e, if_neg (fun z => e z.symm)]
theorem getD_snoc (L : List Nd) (i : Nat) (x : Nd) : (L ++ [x]).getD i zNd = if i < L.length then L.getD i zNd else if i = L.length then x else zNd := by
  simp only [List.getD_eq_getElem?_getD]
  by_cases e : i < L.length
  · rw [List.getElem?_append_left e, if_pos e]
  · rw [if_neg e, List.getElem?_append_right (by omega)]
    by_cases e2 : i = L.length
    · subst e2; simp
    · rw [if_neg e2, List.getElem?_eq_none (by simp; omega)]; rfl
/-- What leads on leads to nodes. -/
def Wn (T : List Nd) : Prop := ∀ i, i < T.length → ∀ r q, lk (T.getD i zNd).nx r = some q → 0 ≤ q ∧ q.toNat < T.length
theorem wn_new {T : List Nd} {a : Nat} {r : Int} (h : Wn T) (ha : a < T.length) : Wn (T.set a { T.getD a zNd with nx := upd (T.getD a zNd).nx r (T.length : Int) } ++ [zNd]) := by
  intro i hi x q hq
  simp only [List.length_append, List.length_set, List.length_cons, List.length_nil] at hi ⊢
  rw [getD_snoc, List.length_set, getD_set _ _ _ _ ha] at hq
  by_cases e : i < T.length
  · rw [if_pos e] at hq
    by_cases c : i = a
    · rw [if_pos c] at hq
      replace hq : lk (upd (T.getD a zNd).nx r (T.length : Int)) x = some q := hq
      rw [lk_upd] at hq
      by_cases c2 : x = r
      · rw [if_pos c2] at hq
        injection hq with hq
        omega
      · rw [if_neg c2] at hq
        have := h a ha x q hq
        omega
    · rw [if_neg c] at hq
      have := h i e x q hq
      omega
  · rw [if_neg e, if_pos (by omega)] at hq
    cases hq
theorem wn_lv {T : List Nd} {a : Nat} {lv : List Int} (h : Wn T) (ha : a < T.length) : Wn (T.set a { T.getD a zNd with lv := lv }) := by
  intro i hi x q hq
  rw [List.length_set] at hi ⊢
  rw [getD_set _ _ _ _ ha] at hq
  by_cases c : i = a
  · subst c
    rw [if_pos rfl] at hq
    exact h i hi x q hq
  · rw [if_neg c] at hq
    exact h i hi x q hq
structure NdH where
  m : Option Nat
  h : Hdr
def zNdH : NdH := ⟨none, ⟨none, 0, 0⟩⟩
def kNd : Kd NdH := Kd.iso (Kd.pair kMap kHdr) (fun x : NdH => (x.m, x.h))
theorem kNd_open {w : World} {x : NdH} {cs : List Value} (h : kNd.K w x cs) : cs = [.map x.m, .slice x.h.A x.h.n x.h.c] := by
  obtain ⟨_, _, rfl, rfl, rfl⟩ := h
  rfl
theorem kNd_openM {w : World} {base : Nat} {ok : Nat → Prop} {x : NdH} {cs : List Value} (h : kNd.M w base ok x cs) : cs = [.map x.m, .slice x.h.A x.h.n x.h.c] := by
  obtain ⟨_, _, rfl, rfl, rfl⟩ := h
  rfl
theorem kNd_mkM (w : World) (base : Nat) (ok : Nat → Prop) (x : NdH) : kNd.M w base ok x [.map x.m, .slice x.h.A x.h.n x.h.c] := ⟨[.map x.m], [.slice x.h.A x.h.n x.h.c], rfl, rfl, rfl⟩
theorem flatNd : Flat kNd := flat_iso _ (flat_pair flat_map flat_hdr)
/-- Rows that are written no more. -/
def HA (HL : List (Hdr × List Int)) (w : World) : Prop := ∀ p ∈ HL, p.1.n = p.2.length ∧ (Kd.int .i64).C w p.1.A p.1.n p.2
def hlib (HL : List (Hdr × List Int)) : HP where
  p := fun w F => Foot (HA HL) w F
  mono := fun hF h => Foot.mono h hF
  bound := fun h => Foot.bound h
  move := fun hm h => Foot.step h (fun k hk _ => hm k hk)
section
variable {w0 w : World} {F0 : Nat → Prop} {cs : List HP} {i : Nat} {HL : List (Hdr × List Int)}
theorem hlib_now (h : St w0 F0 cs w) (hi : cs[i]? = some (hlib HL)) : HA HL w := by
  obtain ⟨G, _, hg⟩ := st_get h hi
  exact Foot.now hg
theorem hlib_nil (h : St w0 F0 cs w) : St w0 F0 (hlib [] :: cs) w := st_free h fun W' _ p hp => by cases hp
theorem hlib_add {e c : Nat} {A : Option Addr} {L : List Int} (h : St w0 F0 (row (Kd.int .i64) e A c L :: hlib HL :: cs) w) : St w0 F0 (hlib ((⟨A, L.length, c⟩, L) :: HL) :: cs) w :=
  st_imp (st_star h) fun G hG => by
    obtain ⟨G1, h1, h2, h3⟩ := hG
    have h4 := Kd.R_F h2
    intro W' hW p hp
    rcases List.mem_cons.1 hp with rfl | hp
    · exact ⟨rfl, h4 W' (fun k hk hl => hW k (h1 k hk) hl)⟩
    · exact h3 W' (fun k hk hl => hW k hk.1 hl) p hp
end
def NodeOf (φ : Nat → Option (List (Int × Int))) (HL : List (Hdr × List Int)) (x : NdH) (y : Nd) : Prop :=
  (x.m = none → y.nx = []) ∧ (∀ g, x.m = some g → φ g = some y.nx) ∧ ((x.h = ⟨none, 0, 0⟩ ∧ y.lv = []) ∨ (x.h, y.lv) ∈ HL)
/-- The nodes in memory and the tree. -/
def Rel (NL : List NdH) (φ : Nat → Option (List (Int × Int))) (HL : List (Hdr × List Int)) (T : List Nd) : Prop :=
  NL.length = T.length ∧ (∀ i, i < T.length → NodeOf φ HL (NL.getD i zNdH) (T.getD i zNd)) ∧ (∀ i j g, i < T.length → j < T.length → (NL.getD i zNdH).m = some g → (NL.getD j zNdH).m = some g → i = j)
theorem getH_set (L : List NdH) (a i : Nat) (x : NdH) (h : a < L.length) : (L.set a x).getD i zNdH = if i = a then x else L.getD i zNdH := by
  simp only [List.getD_eq_getElem?_getD, List.getElem?_set]
  by_cases e : a = i
  · subst e; simp [h]
  · rw [if_neg e, if_neg (fun z => e z.symm)]
theorem getH_snoc (L : List NdH) (i : Nat) (x : NdH) : (L ++ [x]).getD i zNdH = if i < L.length then L.getD i zNdH else if i = L.length then x else zNdH := by
  simp only [List.getD_eq_getElem?_getD]
  by_cases e : i < L.length
  · rw [List.getElem?_append_left e, if_pos e]
  · rw [if_neg e, List.getElem?_append_right (by omega)]
    by_cases e2 : i = L.length
    · subst e2; simp
    · rw [if_neg e2, List.getElem?_eq_none (by simp; omega)]; rfl
section
variable {NL : List NdH} {φ : Nat → Option (List (Int × Int))} {HL : List (Hdr × List Int)} {T : List Nd} {a g : Nat}
theorem rel_one : Rel [zNdH] (fun _ => none) [] [zNd] := by
  refine ⟨rfl, fun i hi => ?_, fun i j g hi hj h => ?_⟩
  · obtain rfl : i = 0 := by simpa using hi
    exact ⟨fun _ => rfl, (fun g e => by cases e), .inl ⟨rfl, rfl⟩⟩
  · obtain rfl : i = 0 := by simpa using hi
    cases h
/-- A node gets a map of its own. -/
theorem rel_fresh (h : Rel NL φ HL T) (ha : a < T.length) (hm : (NL.getD a zNdH).m = none) (hg : φ g = none) : Rel (NL.set a ⟨some g, (NL.getD a zNdH).h⟩) (fun x => if x = g then some [] else φ x) HL T := by
  obtain ⟨h1, h2, h3⟩ := h
  refine ⟨by rw [List.length_set]; exact h1, fun i hi => ?_, fun i j g' hi hj e1 e2 => ?_⟩
  · rw [getH_set _ _ _ _ (by omega)]
    obtain ⟨k1, k2, k3⟩ := h2 i hi
    by_cases e : i = a
    · subst e
      rw [if_pos rfl]
      exact ⟨(fun z => by cases z), (fun g' e => by injection e with e; subst e; show (if g = g then some [] else φ g) = _; rw [if_pos rfl, k1 hm]), k3⟩
    · rw [if_neg e]
      refine ⟨k1, fun g' e => ?_, k3⟩
      have := k2 g' e
      show (if g' = g then _ else φ g') = _
      rw [if_neg (fun z => by rw [z, hg] at this; cases this)]
      exact this
  · rw [getH_set _ _ _ _ (by omega)] at e1 e2
    have hne : ∀ q, q < T.length → (NL.getD q zNdH).m = some g → False := fun q hq e => by
      have := (h2 q hq).2.1 g e
      rw [hg] at this
      cases this
    by_cases c1 : i = a
    · rw [if_pos c1] at e1
      injection e1 with e1
      subst e1
      by_cases c2 : j = a
      · rw [c1, c2]
      · rw [if_neg c2] at e2
        exact (hne j hj e2).elim
    · rw [if_neg c1] at e1
      by_cases c2 : j = a
      · rw [if_pos c2] at e2
        injection e2 with e2
        subst e2
        exact (hne i hi e1).elim
      · rw [if_neg c2] at e2
        exact h3 i j g' hi hj e1 e2
/-- A new node behind an old one. -/
theorem rel_new {r : Int} (h : Rel NL φ HL T) (ha : a < T.length) (hm : (NL.getD a zNdH).m = some g) :
    Rel (NL ++ [zNdH]) (fun x => if x = g then some (upd (T.getD a zNd).nx r (T.length : Int)) else φ x) HL (T.set a { T.getD a zNd with nx := upd (T.getD a zNd).nx r (T.length : Int) } ++ [zNd]) := by
  obtain ⟨h1, h2, h3⟩ := h
  refine ⟨by simp [h1], fun i hi => ?_, fun i j g' hi hj e1 e2 => ?_⟩
  · simp only [List.length_append, List.length_set, List.length_cons, List.length_nil] at hi
    rw [getH_snoc, getD_snoc, List.length_set, getD_set _ _ _ _ ha, h1]
    by_cases e : i < T.length
    · rw [if_pos e, if_pos e]
      obtain ⟨k1, k2, k3⟩ := h2 i e
      by_cases c : i = a
      · subst c
        rw [if_pos rfl]
        refine ⟨(fun z => by rw [hm] at z; cases z), fun g' e' => ?_, k3⟩
        rw [hm] at e'
        injection e' with e'
        subst e'
        simp
      · rw [if_neg c]
        refine ⟨k1, fun g' e' => ?_, k3⟩
        show (if g' = g then _ else φ g') = _
        rw [if_neg (fun z => c (h3 i a g e ha (by rw [← z]; exact e') hm))]
        exact k2 g' e'
    · rw [if_neg e, if_neg e, if_pos (by omega), if_pos (by omega)]
      exact ⟨fun _ => rfl, (fun g e => by cases e), .inl ⟨rfl, rfl⟩⟩
  · simp only [List.length_append, List.length_set, List.length_cons, List.length_nil] at hi hj
    rw [getH_snoc, h1] at e1 e2
    by_cases c1 : i < T.length
    · by_cases c2 : j < T.length
      · rw [if_pos c1] at e1
        rw [if_pos c2] at e2
        exact h3 i j g' c1 c2 e1 e2
      · rw [if_neg c2, if_pos (by omega)] at e2
        cases e2
    · rw [if_neg c1, if_pos (by omega)] at e1
      cases e1
/-- A node's levels. -/
theorem rel_levels {x : Hdr} {lv : List Int} (h : Rel NL φ HL T) (ha : a < T.length) : Rel (NL.set a ⟨(NL.getD a zNdH).m, x⟩) φ ((x, lv) :: HL) (T.set a { T.getD a zNd with lv := lv }) := by
  obtain ⟨h1, h2, h3⟩ := h
  refine ⟨by simp [h1], fun i hi => ?_, fun i j g' hi hj e1 e2 => ?_⟩
  · rw [List.length_set] at hi
    rw [getH_set _ _ _ _ (by omega), getD_set _ _ _ _ ha]
    obtain ⟨k1, k2, k3⟩ := h2 i hi
    by_cases c : i = a
    · subst c
      rw [if_pos rfl, if_pos rfl]
      exact ⟨k1, k2, .inr List.mem_cons_self⟩
    · rw [if_neg c, if_neg c]
      exact ⟨k1, k2, k3.imp id (fun z => List.mem_cons_of_mem _ z)⟩
  · rw [List.length_set] at hi hj
    rw [getH_set _ _ _ _ (by omega)] at e1 e2
    have hm : ∀ q, (if q = a then (⟨(NL.getD a zNdH).m, x⟩ : NdH) else NL.getD q zNdH).m = (NL.getD q zNdH).m := fun q => by
      split
      · rename_i e; rw [e]
      · rfl
    rw [hm] at e1 e2
    exact h3 i j g' hi hj e1 e2
theorem rel_map (h : Rel NL φ HL T) (ha : a < T.length) {g : Nat} (e : (NL.getD a zNdH).m = some g) : φ g = some (T.getD a zNd).nx := (h.2.1 a ha).2.1 g e
theorem rel_none (h : Rel NL φ HL T) (ha : a < T.length) (e : (NL.getD a zNdH).m = none) : (T.getD a zNd).nx = [] := (h.2.1 a ha).1 e
theorem rel_lv {w : World} (h : Rel NL φ HL T) (ha : a < T.length) (hH : HA HL w) : (NL.getD a zNdH).h.n = (T.getD a zNd).lv.length ∧ (Kd.int .i64).C w (NL.getD a zNdH).h.A (NL.getD a zNdH).h.n (T.getD a zNd).lv := by
  rcases (h.2.1 a ha).2.2 with ⟨e1, e2⟩ | e
  · rw [e1, e2]
    exact ⟨rfl, Kd.C_nil _ _⟩
  · exact hH _ e
end
theorem lkD (l : List (Int × Int)) (k : Int) : lkV (fun n : Int => Value.int .i64 n) (.int .i64 0) l k = .int .i64 ((lk l k).getD 0) := by
  unfold lkV
  cases lk l k <;> rfl
end Go.Proofs.Ytbeihfcjfkddcaa.Hy
