/- Pruned by wip/prune.py. -/
import Derived.Test.YtbeihfcjfkddcaaQHyTree
namespace Go.Proofs.Ytbeihfcjfkddcaa.Hy
open Go Go.RowKit Go.Proofs.YtbeihfcjfkddcaaW.PrintWords Go.Proofs.Ytbeihfcjfkddcaa.Given Go.Proofs.Ytbeihfcjfkddcaa.Rn Go.Proofs.Ytbeihfcjfkddcaa.Sx
set_option linter.unusedVariables false
set_option linter.unusedSimpArgs false
def pack (l : List HP) : HP where
  p := fun w F => Sep l w F
  mono := fun hF h => Sep_mono hF h
  bound := fun h => Sep_bound h
  move := fun hm h => Sep_move hm h
open Classical in
theorem sep_append : ∀ (l R : List HP) (w : World) (F : Nat → Prop), Sep (l ++ R) w F → ∃ G, (∀ k, G k → F k) ∧ Sep l w G ∧ Sep R w (fun k => F k ∧ ¬ G k)
  | [], R, w, F, h => ⟨fun _ => False, fun k hk => hk.elim, trivial, Sep_mono (fun k hk => ⟨hk, fun e => e⟩) h⟩
  | a :: l, R, w, F, ⟨G, h1, h2, h3⟩ => by
    obtain ⟨G2, g1, g2, g3⟩ := sep_append l R w _ h3
    refine ⟨fun k => G k ∨ G2 k, fun k hk => hk.elim (h1 k) (fun e => (g1 k e).1), ⟨G, fun k hk => .inl hk, h2, Sep_mono (fun k hk => ⟨.inr hk, (g1 k hk).2⟩) g2⟩, Sep_mono (fun k hk => ⟨hk.1.1, fun e => e.elim hk.1.2 hk.2⟩) g3⟩
theorem st_pack {w0 w : World} {F0 : Nat → Prop} {l R : List HP} (h : St w0 F0 (l ++ R) w) : St w0 F0 (pack l :: R) w := by
  obtain ⟨h1, h2, h3, h4, F, h5, h6, h7, h8⟩ := h
  obtain ⟨G, g1, g2, g3⟩ := sep_append l R w F h5
  exact ⟨h1, h2, h3, h4, F, ⟨G, g1, g2, g3⟩, h6, h7, h8⟩
structure BD where
  A : Option Addr
  c : Nat
  gk : Nat
  NL : List NdH
  φ : Nat → Option (List (Int × Int))
  HL : List (Hdr × List Int)
  KL : List (ByteArray × Hdr)
  HK : List (Hdr × List Int)
def bookl (g : Nat) (lf rt : Int) (D : BD) : List HP := [blk g [.slice D.A D.NL.length D.c, .map (some D.gk), .int .i64 lf, .int .i64 rt] 55, row kNd 51 D.A D.c D.NL, maps (keyInt .i32) (fun n_ : Int => Value.int .i64 n_) D.φ, hlib D.HL, mapo keyStr (fun h_ : Hdr => Value.slice h_.A h_.n h_.c) D.gk D.KL, hlib D.HK]
def bookp (g : Nat) (lf rt : Int) (D : BD) : HP := pack (bookl g lf rt D)
structure BookAt (w : World) (g : Nat) (lf rt : Int) (D : BD) : Prop where
  cell : ∀ j, w.cell? ⟨g, j, none⟩ = ([.slice D.A D.NL.length D.c, .map (some D.gk), .int .i64 lf, .int .i64 rt] : List Value)[j]?
  row : D.NL.length ≤ D.c ∧ kNd.C w D.A D.NL.length D.NL
  maps : ∀ gm l, D.φ gm = some l → MapAt (keyInt .i32) (fun n_ : Int => Value.int .i64 n_) w gm l
  lv : HA D.HL w
  known : MapAt keyStr (fun h_ : Hdr => Value.slice h_.A h_.n h_.c) w D.gk D.KL
  pts : HA D.HK w
theorem book_now {w0 w : World} {F0 : Nat → Prop} {cs : List HP} {i g : Nat} {lf rt : Int} {D : BD} (h : St w0 F0 cs w) (hi : cs[i]? = some (bookp g lf rt D)) : BookAt w g lf rt D := by
  obtain ⟨G, _, hg⟩ := st_get h hi
  replace hg : Sep (bookl g lf rt D) w G := hg
  obtain ⟨G0, _, e0, h0⟩ := Sep_get (i := 0) hg rfl
  obtain ⟨G1, _, e1⟩ := Sep_get (i := 1) hg rfl
  obtain ⟨G2, _, e2⟩ := Sep_get (i := 2) hg rfl
  obtain ⟨G3, _, e3⟩ := Sep_get (i := 3) hg rfl
  obtain ⟨G4, _, _, e4⟩ := Sep_get (i := 4) hg rfl
  obtain ⟨G5, _, e5⟩ := Sep_get (i := 5) hg rfl
  exact ⟨fun j => by simp [World.cell?, h0], (Kd.R_reads' e1).2, fun gm l e => (e2 gm l e).2, Foot.now e3, e4, Foot.now e5⟩
theorem book_reads {w0 : World} {F0 : Nat → Prop} {R : List HP} {j g : Nat} {lf rt : Int} {D : BD} (hj : R[j]? = some (bookp g lf rt D)) : ∀ cs w, St w0 F0 (cs ++ R) w → BookAt w g lf rt D := fun cs w h =>
  book_now (i := cs.length + j) h (by rw [List.getElem?_append_right (by omega), Nat.add_sub_cancel_left]; exact hj)
def treeV (P : List ByteArray) : List Nd := P.foldl (fun T x => putGo T 0 (patD x).1 (patD x).2) [zNd]
def wkey (x : ByteArray) : ByteArray := strOfNums (flatB (wordD x).1)
def knV (W : List ByteArray) : ByteArray → Option (List Int) := W.foldl (fun k x y => if y = wkey x then some (wordD x).2 else k y) (fun _ => none)
def RelK (KL : List (ByteArray × Hdr)) (HK : List (Hdr × List Int)) (kn : ByteArray → Option (List Int)) : Prop := ∀ y, (lk KL y = none ∧ kn y = none) ∨ ∃ h l, lk KL y = some h ∧ kn y = some l ∧ (h, l) ∈ HK
theorem relK_nil : RelK [] [] (fun _ => none) := fun y => .inl ⟨rfl, rfl⟩
theorem relK_put {KL : List (ByteArray × Hdr)} {HK : List (Hdr × List Int)} {kn : ByteArray → Option (List Int)} (h : RelK KL HK kn) (x : ByteArray) (v : Hdr) (l : List Int) : RelK (upd KL x v) ((v, l) :: HK) (fun y => if y = x then some l else kn y) := by
  intro y
  rw [lk_upd]
  by_cases c : y = x
  · rw [if_pos c]
    exact .inr ⟨v, l, rfl, by show (if y = x then _ else _) = _; rw [if_pos c], List.mem_cons_self⟩
  · rw [if_neg c]
    rcases h y with ⟨h1, h2⟩ | ⟨h1, l1, h2, h3, h4⟩
    · exact .inl ⟨h1, by show (if y = x then _ else _) = _; rw [if_neg c, h2]⟩
    · exact .inr ⟨h1, l1, h2, by show (if y = x then _ else _) = _; rw [if_neg c, h3], List.mem_cons_of_mem _ h4⟩
theorem foldl_take {α β : Type} (f : β → α → β) (b : β) (l : List α) (z : α) {i : Nat} (h : i < l.length) : (l.take (i + 1)).foldl f b = f ((l.take i).foldl f b) (l.getD i z) := by
  rw [List.take_add_one, List.getElem?_eq_getElem h, List.foldl_append, List.getD_eq_getElem?_getD, List.getElem?_eq_getElem h]
  rfl
theorem treeV_succ (P : List ByteArray) {i : Nat} (h : i < P.length) : treeV (P.take (i + 1)) = putGo (treeV (P.take i)) 0 (patD (P.getD i ByteArray.empty)).1 (patD (P.getD i ByteArray.empty)).2 := foldl_take _ _ P _ h
theorem knV_succ (W : List ByteArray) {i : Nat} (h : i < W.length) : knV (W.take (i + 1)) = fun y => if y = wkey (W.getD i ByteArray.empty) then some (wordD (W.getD i ByteArray.empty)).2 else knV (W.take i) y := foldl_take _ _ W _ h
theorem putGo_len : ∀ (rs : List Int) (T : List Nd) (a : Nat) (lv : List Int), T.length ≤ (putGo T a rs lv).length ∧ (putGo T a rs lv).length ≤ T.length + rs.length
  | [], T, a, lv => by simp [putGo]
  | r :: rs, T, a, lv => by
    unfold putGo
    split
    · have := putGo_len rs T ‹Int›.toNat lv
      simp only [List.length_cons]
      omega
    · have := putGo_len rs (T.set a { T.getD a zNd with nx := upd (T.getD a zNd).nx r (T.length : Int) } ++ [zNd]) T.length lv
      simp only [List.length_append, List.length_set, List.length_cons, List.length_nil] at this ⊢
      omega
theorem wn_put : ∀ (rs : List Int) (T : List Nd) (a : Nat) (lv : List Int), Wn T → a < T.length → Wn (putGo T a rs lv)
  | [], T, a, lv, h, ha => wn_lv h ha
  | r :: rs, T, a, lv, h, ha => by
    unfold putGo
    split
    · rename_i q hq
      exact wn_put rs T q.toNat lv h (h a ha _ _ hq).2
    · refine wn_put rs _ T.length lv (wn_new h ha) ?_
      simp
theorem wn_one : Wn [zNd] := by
  intro i hi r q hq
  obtain rfl : i = 0 := by simpa using hi
  cases hq
theorem patGo_size : ∀ (rs : List Int) (f : Bool) (L Lv : List Int) (dg re : Bool) (M Q : List Int), patGo rs f L Lv dg re = some (M, Q) → Lv.length = L.length + 1 → M.length ≤ L.length + rs.length ∧ Q.length = M.length + 1
  | [], f, L, Lv, dg, re, M, Q, h, hl => by
    unfold patGo at h
    split at h
    · simp only [Option.some.injEq, Prod.mk.injEq] at h
      obtain ⟨rfl, rfl⟩ := h
      exact ⟨by simp, hl⟩
    · cases h
  | r :: rs, f, L, Lv, dg, re, M, Q, h, hl => by
    unfold patGo at h
    split at h
    · split at h
      · cases h
      · have := patGo_size rs _ _ _ _ _ M Q h (by simpa using hl)
        simp only [List.length_cons]; omega
    · split at h
      · split at h
        · cases h
        · have := patGo_size rs _ _ _ _ _ M Q h (by simp [hl])
          simp only [List.length_append, List.length_cons, List.length_nil] at this ⊢; omega
      · split at h
        · have := patGo_size rs _ _ _ _ _ M Q h (by simp [hl])
          simp only [List.length_append, List.length_cons, List.length_nil] at this ⊢; omega
        · cases h
theorem pat_size {s : ByteArray} {M Q : List Int} (h : patV s = some (M, Q)) : M.length ≤ 256 ∧ Q.length = M.length + 1 := by
  unfold patV at h
  split at h
  · cases h
  · rename_i c
    have h1 := patGo_size _ _ _ _ _ _ M Q h rfl
    have h2 := runes_len s
    simp only [List.length_nil] at h1
    omega
theorem patD_size (s : ByteArray) : (patD s).1.length ≤ 256 := by
  unfold patD
  cases h : patV s with
  | none => simp
  | some p => obtain ⟨M, Q⟩ := p; exact (pat_size h).1
theorem treeV_len (P : List ByteArray) : 0 < (treeV P).length ∧ (treeV P).length ≤ 1 + 256 * P.length ∧ Wn (treeV P) := by
  have key : ∀ (P : List ByteArray) (T : List Nd), 0 < T.length → Wn T → 0 < (P.foldl (fun T x => putGo T 0 (patD x).1 (patD x).2) T).length ∧ (P.foldl (fun T x => putGo T 0 (patD x).1 (patD x).2) T).length ≤ T.length + 256 * P.length ∧ Wn (P.foldl (fun T x => putGo T 0 (patD x).1 (patD x).2) T) := by
    intro P
    induction P with
    | nil => intro T h1 h2; exact ⟨h1, by simp, h2⟩
    | cons x P ih =>
      intro T h1 h2
      have h3 := putGo_len (patD x).1 T 0 (patD x).2
      have h4 := patD_size x
      have h5 := ih (putGo T 0 (patD x).1 (patD x).2) (by omega) (wn_put _ _ _ _ h2 h1)
      simp only [List.foldl_cons, List.length_cons]
      exact ⟨h5.1, by omega, h5.2.2⟩
  have := key P [zNd] (by simp) wn_one
  exact ⟨this.1, by have h := this.2.1; simp only [List.length_cons, List.length_nil] at h; exact (by omega : _ ≤ _), this.2.2⟩
def AllP (P : List ByteArray) (n : Nat) : Prop := ∀ j, j < n → patV (P.getD j ByteArray.empty) ≠ none
def AllW (W : List ByteArray) (n : Nat) : Prop := ∀ j, j < n → wordV (W.getD j ByteArray.empty) ≠ none
def BadR (l r : Int) : Prop := l < 1 ∨ r < 1 ∨ 100 < l ∨ 100 < r
def IsCheck (P W : List ByteArray) (l r code place : Int) : Prop :=
  (BadR l r ∧ code = 1 ∧ place = 0) ∨ (¬ BadR l r ∧ ((8192 < P.length ∨ 8192 < W.length) ∧ code = 2 ∧ place = 0 ∨ (¬ (8192 < P.length ∨ 8192 < W.length) ∧
    ((∃ i, i < P.length ∧ AllP P i ∧ patV (P.getD i ByteArray.empty) = none ∧ code = 170 ∧ place = (i : Int)) ∨ (AllP P P.length ∧
      ((∃ i, i < W.length ∧ AllW W i ∧ wordV (W.getD i ByteArray.empty) = none ∧ code = 171 ∧ place = (P.length : Int) + (i : Int)) ∨ (AllW W W.length ∧ code = 0 ∧ place = 0)))))))
theorem first_same {Q : Nat → Prop} {n i j : Nat} (hi : ∀ k, k < i → Q k) (hj : ∀ k, k < j → Q k) (ni : ¬ Q i) (nj : ¬ Q j) : i = j := by
  rcases Nat.lt_trichotomy i j with h | h | h
  · exact absurd (hj i h) ni
  · exact h
  · exact absurd (hi j h) nj
theorem check_det {P W : List ByteArray} {l r c1 p1 c2 p2 : Int} (h1 : IsCheck P W l r c1 p1) (h2 : IsCheck P W l r c2 p2) : c1 = c2 ∧ p1 = p2 := by
  rcases h1 with ⟨a, rfl, rfl⟩ | ⟨a, h1⟩
  · rcases h2 with ⟨b, rfl, rfl⟩ | ⟨b, _⟩
    · exact ⟨rfl, rfl⟩
    · exact absurd a b
  rcases h2 with ⟨b, _⟩ | ⟨_, h2⟩
  · exact absurd b a
  rcases h1 with ⟨a, rfl, rfl⟩ | ⟨a, h1⟩
  · rcases h2 with ⟨b, rfl, rfl⟩ | ⟨b, _⟩
    · exact ⟨rfl, rfl⟩
    · exact absurd a b
  rcases h2 with ⟨b, _⟩ | ⟨_, h2⟩
  · exact absurd b a
  rcases h1 with ⟨i, a1, a2, a3, rfl, rfl⟩ | ⟨a, h1⟩
  · rcases h2 with ⟨j, b1, b2, b3, rfl, rfl⟩ | ⟨b, _⟩
    · obtain rfl := first_same (n := 0) a2 b2 (fun z => z a3) (fun z => z b3)
      exact ⟨rfl, rfl⟩
    · exact absurd a3 (b i a1)
  rcases h2 with ⟨j, b1, b2, b3, _, _⟩ | ⟨_, h2⟩
  · exact absurd b3 (a j b1)
  rcases h1 with ⟨i, a1, a2, a3, rfl, rfl⟩ | ⟨a, rfl, rfl⟩
  · rcases h2 with ⟨j, b1, b2, b3, rfl, rfl⟩ | ⟨b, _⟩
    · obtain rfl := first_same (n := 0) a2 b2 (fun z => z a3) (fun z => z b3)
      exact ⟨rfl, rfl⟩
    · exact absurd a3 (b i a1)
  · rcases h2 with ⟨j, b1, b2, b3, _, _⟩ | ⟨_, rfl, rfl⟩
    · exact absurd b3 (a j b1)
    · exact ⟨rfl, rfl⟩
theorem check_zero {P W : List ByteArray} {l r p : Int} (h : IsCheck P W l r 0 p) : ¬ BadR l r ∧ P.length ≤ 8192 ∧ W.length ≤ 8192 ∧ AllP P P.length ∧ AllW W W.length := by
  rcases h with ⟨_, e, _⟩ | ⟨h0, ⟨_, e, _⟩ | ⟨h1, ⟨i, _, _, _, e, _⟩ | ⟨h2, ⟨i, _, _, _, e, _⟩ | ⟨h3, _⟩⟩⟩⟩
  · omega
  · omega
  · omega
  · omega
  · exact ⟨h0, by omega, by omega, h2, h3⟩
theorem allP_succ {P : List ByteArray} {i : Nat} (h : AllP P i) (h1 : patV (P.getD i ByteArray.empty) ≠ none) : AllP P (i + 1) := fun j hj => by
  rcases Nat.lt_succ_iff_lt_or_eq.1 hj with h2 | rfl
  · exact h j h2
  · exact h1
theorem allW_succ {P : List ByteArray} {i : Nat} (h : AllW P i) (h1 : wordV (P.getD i ByteArray.empty) ≠ none) : AllW P (i + 1) := fun j hj => by
  rcases Nat.lt_succ_iff_lt_or_eq.1 hj with h2 | rfl
  · exact h j h2
  · exact h1
def GoodL (P W : List ByteArray) (l r : Int) : Prop := (P.length ≤ 60 ∧ W.length ≤ 30) ∧ (1 ≤ l ∧ l ≤ 100 ∧ 1 ≤ r ∧ r ≤ 100) ∧ AllP P P.length ∧ AllW W W.length
theorem patD_of {s : ByteArray} {M Q : List Int} (h : patV s = some (M, Q)) : (patD s).1 = M ∧ (patD s).2 = Q := by unfold patD; rw [h]; exact ⟨rfl, rfl⟩
theorem wordD_of {s : ByteArray} {M Q : List Int} (h : wordV s = some (M, Q)) : (wordD s).1 = M ∧ (wordD s).2 = Q := by unfold wordD; rw [h]; exact ⟨rfl, rfl⟩
theorem getD_small {P : List ByteArray} (h : ∀ x ∈ P, x.size ≤ 1000000000) (i : Nat) : (P.getD i ByteArray.empty).size ≤ 1000000000 := by
  rw [List.getD_eq_getElem?_getD]
  cases e : P[i]? with
  | none => show (0 : Nat) ≤ _; exact Nat.zero_le _
  | some x => exact h x (List.mem_of_getElem? e)
end Go.Proofs.Ytbeihfcjfkddcaa.Hy
