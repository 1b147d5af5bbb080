/- Pruned by wip/prune.py. -/
import Derived.Test.YtbeihfcjfkddcaaQHyWords
namespace Go.Proofs.Ytbeihfcjfkddcaa.Hy
open Go Go.RowKit Go.Proofs.YtbeihfcjfkddcaaW.PrintWords Go.Proofs.Ytbeihfcjfkddcaa.Given Go.Proofs.Ytbeihfcjfkddcaa.Rn Go.Proofs.Ytbeihfcjfkddcaa.Sx
set_option linter.unusedVariables false
set_option linter.unusedSimpArgs false
theorem par_take {s : ByteArray} {p e : Int} {l : List (Int × Int)} (h : Par s p l e) : ∀ i, i ≤ l.length → Par s p (l.take i) ((l.map (·.1) ++ [e]).getD i 0) ∧ Par s ((l.map (·.1) ++ [e]).getD i 0) (l.drop i) e := by
  induction h with
  | nil p => intro i hi; obtain rfl : i = 0 := by simpa using hi
             exact ⟨.nil _, .nil _⟩
  | @cons p e l h0 h1 hk h ih =>
    intro i hi
    cases i with
    | zero => exact ⟨.nil _, .cons h0 h1 hk h⟩
    | succ i =>
      have h2 := ih i (by simpa using hi)
      exact ⟨.cons h0 h1 hk h2.1, h2.2⟩
theorem map_take_getD (l : List (Int × Int)) (e : Int) {i : Nat} (hi : i ≤ l.length) (n : Nat) (hn : i + n ≤ l.length) : ((l.drop i).map (·.1) ++ [e]).getD n 0 = (l.map (·.1) ++ [e]).getD (i + n) 0 := by
  simp only [List.getD_eq_getElem?_getD]
  congr 1
  rcases Nat.lt_or_ge n (l.drop i).length with h | h
  · rw [List.getElem?_append_left (by rw [List.length_map]; exact h), List.getElem?_append_left (by rw [List.length_map]; rw [List.length_drop] at h; omega)]
    simp
  · rw [List.length_drop] at h
    rw [List.getElem?_append_right (by rw [List.length_map, List.length_drop]; omega), List.getElem?_append_right (by rw [List.length_map]; omega), List.length_map, List.length_map, List.length_drop]
    congr 1
    omega
/-- A part between runes: its runes and their places. -/
theorem part_par {s : ByteArray} (hr : (refV s).2 < 0) {i j : Nat} (hij : i ≤ j) (hj : j ≤ (refV s).1.length) : Par s (plcV s i) (((refV s).1.drop i).take (j - i)) (plcV s j) := by
  have h1 := (par_take (right_par hr) i (by omega)).2
  have h2 := (par_take h1 (j - i) (by rw [List.length_drop]; omega)).1
  rw [map_take_getD _ _ (by omega) _ (by omega), show i + (j - i) = j by omega] at h2
  exact h2
theorem part_ref {s : ByteArray} (hr : (refV s).2 < 0) {i j : Nat} (hij : i ≤ j) (hj : j ≤ (refV s).1.length) : refV (s.extract (plcV s i).toNat (plcV s j).toNat) = ((((refV s).1.drop i).take (j - i)).map (fun x => (x.1 - plcV s i, x.2)), -1) ∧ ((s.extract (plcV s i).toNat (plcV s j).toNat).size : Int) = plcV s j - plcV s i := by
  have h0 := plc_le hr (Nat.zero_le i) (by omega)
  have hz : 0 ≤ plcV s 0 := by
    rcases Nat.eq_zero_or_pos (refV s).1.length with c | c
    · have := plc_end s; rw [c] at this; omega
    · exact (plc_mono hr c).2
  have h1 := plc_le hr hij hj
  have h2 := plc_le hr hj (Nat.le_refl _)
  rw [plc_end] at h2
  refine ⟨par_refV (par_mid (by omega) (part_par hr hij hj) h2), ?_⟩
  rw [ByteArray.size_extract]
  omega
theorem part_runes {s : ByteArray} (hr : (refV s).2 < 0) {i j : Nat} (hij : i ≤ j) (hj : j ≤ (refV s).1.length) : runesL (s.extract (plcV s i).toNat (plcV s j).toNat) = ((runesL s).drop i).take (j - i) := by
  unfold runesL
  rw [(part_ref hr hij hj).1, List.map_map, List.map_take, List.map_drop]
  rfl
theorem part_plc {s : ByteArray} (hr : (refV s).2 < 0) {i j : Nat} (hij : i ≤ j) (hj : j ≤ (refV s).1.length) {n : Nat} (hn : n ≤ j - i) : plcV (s.extract (plcV s i).toNat (plcV s j).toNat) n = plcV s (i + n) - plcV s i := by
  obtain ⟨h1, h2⟩ := part_ref hr hij hj
  have hl : (((refV s).1.drop i).take (j - i)).length = j - i := by rw [List.length_take, List.length_drop]; omega
  unfold plcV at h1 h2 ⊢
  rw [h1, h2, List.map_map]
  rcases Nat.lt_or_ge n (j - i) with c | c
  · simp only [List.getD_eq_getElem?_getD]
    rw [List.getElem?_append_left (by rw [List.length_map, hl]; exact c)]
    have e1 : ((refV s).1.map (·.1) ++ [(s.size : Int)])[i + n]? = ((refV s).1.map (·.1))[i + n]? := List.getElem?_append_left (by rw [List.length_map]; omega)
    have e2 : i + n < (refV s).1.length := by omega
    rw [e1, List.getElem?_map, List.getElem?_map, List.getElem?_take, if_pos c, List.getElem?_drop, List.getElem?_eq_getElem e2]
    rfl
  · have e : n = j - i := by omega
    subst e
    rw [show i + (j - i) = j by omega]
    rw [List.getD_eq_getElem?_getD, List.getElem?_append_right (by rw [List.length_map, hl]; exact Nat.le_refl _), List.length_map, hl, Nat.sub_self]
    rfl
theorem oddGo_mem (lf rt len : Int) : ∀ (l : List Int) (n : Nat), (∀ x ∈ oddGo lf rt len l n, lf ≤ x ∧ x ≤ len - rt ∧ (n : Int) ≤ x) ∧ (oddGo lf rt len l n).Pairwise (· < ·)
  | [], n => ⟨fun x hx => (List.not_mem_nil hx).elim, List.Pairwise.nil⟩
  | x :: l, n => by
    obtain ⟨h1, h2⟩ := oddGo_mem lf rt len l (n + 1)
    rw [oddGo]
    split
    · rename_i c
      refine ⟨fun y hy => ?_, List.pairwise_cons.2 ⟨fun y hy => by have := h1 y hy; omega, h2⟩⟩
      rcases List.mem_cons.1 hy with rfl | hy
      · exact ⟨c.2.1, c.2.2, Int.le_refl _⟩
      · have := h1 y hy; omega
    · exact ⟨fun y hy => by have := h1 y hy; omega, h2⟩
theorem inGo_mem (lf rt len : Int) : ∀ (l : List Int), l.Pairwise (· < ·) → (∀ x ∈ inGo lf rt len l, x ∈ l ∧ lf ≤ x ∧ x ≤ len - rt) ∧ (inGo lf rt len l).Pairwise (· < ·)
  | [], _ => ⟨fun x hx => (List.not_mem_nil hx).elim, List.Pairwise.nil⟩
  | x :: l, hp => by
    obtain ⟨g1, g2⟩ := List.pairwise_cons.1 hp
    obtain ⟨h1, h2⟩ := inGo_mem lf rt len l g2
    rw [inGo]
    split
    · rename_i c
      refine ⟨fun y hy => ?_, List.pairwise_cons.2 ⟨fun y hy => g1 y (h1 y hy).1, h2⟩⟩
      rcases List.mem_cons.1 hy with rfl | hy
      · exact ⟨List.mem_cons_self, c⟩
      · exact ⟨List.mem_cons_of_mem _ (h1 y hy).1, (h1 y hy).2⟩
    · exact ⟨fun y hy => ⟨List.mem_cons_of_mem _ (h1 y hy).1, (h1 y hy).2⟩, h2⟩
/-- What a book's words are to be. -/
def KnOk (kn : ByteArray → Option (List Int)) : Prop := ∀ y l, kn y = some l → l.length ≤ 256 ∧ l.Pairwise (· < ·)
theorem knV_ok (W : List ByteArray) : KnOk (knV W) := by
  have key : ∀ (W : List ByteArray) (k : ByteArray → Option (List Int)), KnOk k → KnOk (W.foldl (fun k x y => if y = wkey x then some (wordD x).2 else k y) k) := by
    intro W
    induction W with
    | nil => intro k h; exact h
    | cons x W ih =>
      intro k h
      refine ih _ (fun y l e => ?_)
      replace e : (if y = wkey x then some (wordD x).2 else k y) = some l := e
      split at e
      · injection e with e
        subst e
        exact ⟨(wordD_len x).1, (wordD_at x).2⟩
      · exact h y l e
  exact key W _ (fun y l e => by cases e)
section
variable {T : List Nd} {kn : ByteArray → Option (List Int)} {lf rt : Int}
theorem pts_ok (hk : KnOk kn) (s : ByteArray) : (pointsV T kn lf rt s).length ≤ 300 ∧ (pointsV T kn lf rt s).Pairwise (· < ·) ∧ ∀ x ∈ pointsV T kn lf rt s, badV s < 0 ∧ lf ≤ x ∧ x ≤ (runesL s).length - rt := by
  unfold pointsV
  split
  · exact ⟨Nat.zero_le _, List.Pairwise.nil, fun x hx => (List.not_mem_nil hx).elim⟩
  · rename_i c
    split
    · unfold wordPts
      split
      · rename_i pts h
        have h1 := hk _ _ h
        have h2 := inGo_mem lf rt (((runesL s).map lowV).length) pts h1.2
        refine ⟨Nat.le_trans (inGo_len _ _ _ _) (by omega), h2.2, fun x hx => ?_⟩
        have := h2.1 x hx
        rw [List.length_map] at this
        omega
      · have h2 := oddGo_mem lf rt (((runesL s).map lowV).length) (levelsV T ((runesL s).map lowV)) 0
        refine ⟨Nat.le_trans (oddGo_len _ _ _ _ _) ?_, h2.2, fun x hx => ?_⟩
        · rw [levels_len, List.length_map]
          have := runes_len s
          omega
        · have := h2.1 x hx
          rw [List.length_map] at this
          omega
    · exact ⟨Nat.zero_le _, List.Pairwise.nil, fun x hx => (List.not_mem_nil hx).elim⟩
/-- The places of one word. -/
noncomputable def wordPl (F : ByteArray → List Int) (s : ByteArray) (x : Int × Int) : List Int := (F (s.extract x.1.toNat x.2.toNat)).map (fun n => x.1 + plcV (s.extract x.1.toNat x.2.toNat) n.toNat)
noncomputable def placesV (F : ByteArray → List Int) (s : ByteArray) : List Int := if 0 ≤ badV s then [] else (wordsV s).flatMap (wordPl F s)
end
theorem flatMap_step {α β : Type} (l : List α) (z : α) (f : α → List β) {i : Nat} (hi : i < l.length) (o : List β) : o ++ (l.drop i).flatMap f = (o ++ f (l.getD i z)) ++ (l.drop (i + 1)).flatMap f := by
  rw [drop_get l z hi, List.flatMap_cons, List.append_assoc]
theorem map_take_step {α β : Type} (l : List α) (z : α) (f : α → β) {i : Nat} (hi : i < l.length) : (l.take i).map f ++ [f (l.getD i z)] = (l.take (i + 1)).map f := by
  rw [List.take_add_one, List.getElem?_eq_getElem hi, List.getD_eq_getElem?_getD, List.getElem?_eq_getElem hi, List.map_append]
  rfl
theorem words_sorted0 {s : ByteArray} (hr : (refV s).2 < 0) : ∀ (n i : Nat) (f : Int) (o : List (Int × Int)), i + n = (refV s).1.length → (∀ x ∈ o, x.2 ≤ (if f < 0 then plcV s i else f)) → o.Pairwise (fun x y => x.2 ≤ y.1) → (0 ≤ f → f ≤ plcV s i) → (wordsGo s.size ((refV s).1.drop i) f o).Pairwise (fun x y => x.2 ≤ y.1)
  | 0, i, f, o, hi, ho, hp, hf => by
    obtain rfl : i = (refV s).1.length := by omega
    rw [List.drop_eq_nil_of_le (Nat.le_refl _), wordsGo]
    split
    · rename_i c
      refine List.pairwise_append.2 ⟨hp, List.pairwise_singleton _ _, fun x hx y hy => ?_⟩
      rw [List.mem_singleton.1 hy]
      have := ho x hx
      rw [if_neg (by omega)] at this
      exact this
    · exact hp
  | n + 1, i, f, o, hi, ho, hp, hf => by
    have hm := plc_mono hr (i := i) (by omega)
    rw [ref_drop (by omega), wordsGo]
    split
    · refine words_sorted0 hr n (i + 1) _ o (by omega) (fun x hx => ?_) hp (fun _ => ?_)
      · have := ho x hx
        by_cases c : f < 0
        · rw [if_pos c] at this
          rw [if_pos c, if_neg (by omega)]
          exact this
        · rw [if_neg c] at this ⊢
          rw [if_neg c]
          exact this
      · by_cases c : f < 0
        · rw [if_pos c]; omega
        · rw [if_neg c]; have := hf (by omega); omega
    · split
      · rename_i c
        refine words_sorted0 hr n (i + 1) (-1) _ (by omega) (fun x hx => ?_) (List.pairwise_append.2 ⟨hp, List.pairwise_singleton _ _, fun x hx y hy => ?_⟩) (fun z => absurd z (by decide))
        · rw [if_pos (by decide)]
          rcases List.mem_append.1 hx with hx | hx
          · have := ho x hx
            rw [if_neg (by omega)] at this
            have := hf c
            omega
          · rw [List.mem_singleton.1 hx]; show plcV s i ≤ _; omega
        · rw [List.mem_singleton.1 hy]
          have := ho x hx
          rw [if_neg (by omega)] at this
          exact this
      · refine words_sorted0 hr n (i + 1) f o (by omega) (fun x hx => ?_) hp (fun z => by omega)
        have := ho x hx
        rw [if_pos (by omega)] at this ⊢
        omega
theorem words_sorted {s : ByteArray} (hr : (refV s).2 < 0) : (wordsV s).Pairwise (fun x y => x.2 ≤ y.1) := by
  have := words_sorted0 hr (refV s).1.length 0 (-1) [] (by omega) (fun x hx => (List.not_mem_nil hx).elim) List.Pairwise.nil (fun z => absurd z (by decide))
  rw [List.drop_zero] at this
  exact this
/-- One word's places: runes' numbers. -/
theorem wordPl_ok {F : ByteArray → List Int} {s : ByteArray} {lf rt : Int} (hF : ∀ w, (F w).Pairwise (· < ·) ∧ ∀ x ∈ F w, lf ≤ x ∧ x ≤ (runesL w).length - rt) (h1 : 1 ≤ lf) (h2 : 1 ≤ rt) (hr : (refV s).2 < 0) {x : Int × Int} (hx : WOk s x) :
    ∃ K : List Nat, wordPl F s x = K.map (plcV s) ∧ K.Pairwise (· < ·) ∧ ∀ k ∈ K, x.1 ≤ plcV s k ∧ plcV s k < x.2 ∧ k < (refV s).1.length ∧ ∀ m : Nat, 1 ≤ m → (m : Int) ≤ lf → m ≤ k ∧ LetP ((runesL s).getD (k - m) 0) := by
  obtain ⟨i, j, h3, h4, rfl, h5⟩ := hx
  have hl : (runesL (s.extract (plcV s i).toNat (plcV s j).toNat)).length = j - i := by
    rw [part_runes hr (Nat.le_of_lt h3) h4, List.length_take, List.length_drop, runesL_len]; omega
  obtain ⟨g1, g2⟩ := hF (s.extract (plcV s i).toNat (plcV s j).toNat)
  rw [hl] at g2
  refine ⟨(F (s.extract (plcV s i).toNat (plcV s j).toNat)).map (fun n => i + n.toNat), ?_, ?_, ?_⟩
  · unfold wordPl
    rw [List.map_map]
    refine List.map_congr_left (fun n hn => ?_)
    have := g2 n hn
    show plcV s i + plcV (s.extract (plcV s i).toNat (plcV s j).toNat) n.toNat = plcV s (i + n.toNat)
    rw [part_plc hr (Nat.le_of_lt h3) h4 (by omega)]
    omega
  · rw [List.pairwise_map]
    refine List.Pairwise.imp_of_mem (fun {a b} ha hb hab => ?_) g1
    have := g2 a ha
    have := g2 b hb
    omega
  · intro k hk
    obtain ⟨n, hn, rfl⟩ := List.mem_map.1 hk
    have hb := g2 n hn
    have e1 := plc_le hr (show i ≤ i + n.toNat by omega) (by omega)
    have e2 := plc_le hr (show i + n.toNat + 1 ≤ j by omega) h4
    have e3 := (plc_mono hr (show i + n.toNat < (refV s).1.length by omega)).1
    exact ⟨e1, by show plcV s (i + n.toNat) < plcV s j; omega, by omega, fun m m1 m2 => ⟨by omega, h5 _ (by omega) (by omega)⟩⟩
theorem places_ok {F : ByteArray → List Int} {s : ByteArray} {lf rt : Int} (hF : ∀ w, (F w).Pairwise (· < ·) ∧ ∀ x ∈ F w, lf ≤ x ∧ x ≤ (runesL w).length - rt) (h1 : 1 ≤ lf) (h2 : 1 ≤ rt) (hr : (refV s).2 < 0) :
    ∃ K : List Nat, placesV F s = K.map (plcV s) ∧ K.Pairwise (· < ·) ∧ ∀ k ∈ K, k < (refV s).1.length ∧ ∀ m : Nat, 1 ≤ m → (m : Int) ≤ lf → m ≤ k ∧ LetP ((runesL s).getD (k - m) 0) := by
  have key : ∀ l : List (Int × Int), (∀ x ∈ l, WOk s x) → l.Pairwise (fun x y => x.2 ≤ y.1) → ∃ K : List Nat, l.flatMap (wordPl F s) = K.map (plcV s) ∧ K.Pairwise (· < ·) ∧ (∀ k ∈ K, k < (refV s).1.length ∧ ∀ m : Nat, 1 ≤ m → (m : Int) ≤ lf → m ≤ k ∧ LetP ((runesL s).getD (k - m) 0)) ∧ ∀ k ∈ K, ∃ x ∈ l, x.1 ≤ plcV s k := by
    intro l
    induction l with
    | nil => intro _ _; exact ⟨[], rfl, List.Pairwise.nil, fun k hk => (List.not_mem_nil hk).elim, fun k hk => (List.not_mem_nil hk).elim⟩
    | cons x l ih =>
      intro hw hp
      obtain ⟨p1, p2⟩ := List.pairwise_cons.1 hp
      obtain ⟨K1, a1, a2, a3⟩ := wordPl_ok hF h1 h2 hr (hw x List.mem_cons_self)
      obtain ⟨K2, b1, b2, b3, b4⟩ := ih (fun y hy => hw y (List.mem_cons_of_mem _ hy)) p2
      refine ⟨K1 ++ K2, by rw [List.flatMap_cons, a1, b1, List.map_append], List.pairwise_append.2 ⟨a2, b2, fun k hk m hm => ?_⟩, fun k hk => ?_, fun k hk => ?_⟩
      · obtain ⟨y, hy, hy2⟩ := b4 m hm
        have := p1 y hy
        have := a3 k hk
        rcases Nat.lt_or_ge k m with c | c
        · exact c
        · have := plc_le hr c (Nat.le_of_lt (a3 k hk).2.2.1)
          omega
      · rcases List.mem_append.1 hk with hk | hk
        · exact (a3 k hk).2.2
        · exact b3 k hk
      · rcases List.mem_append.1 hk with hk | hk
        · exact ⟨x, List.mem_cons_self, (a3 k hk).1⟩
        · obtain ⟨y, hy, h⟩ := b4 k hk
          exact ⟨y, List.mem_cons_of_mem _ hy, h⟩
  obtain ⟨K, k1, k2, k3, _⟩ := key (wordsV s) (word_ok hr) (words_sorted hr)
  refine ⟨K, ?_, k2, k3⟩
  unfold placesV
  rw [if_neg (by rw [bad_refV]; omega)]
  exact k1
def softB : ByteArray := ByteArray.mk #[194, 173]
def putT (s : ByteArray) : List Int → Nat → ByteArray
  | [], f => s.extract f s.size
  | a :: l, f => s.extract f a.toNat ++ softB ++ putT s l a.toNat
/-- Places in order, within the text. -/
def PlOk (s : ByteArray) (l : List Int) : Prop := l.Pairwise (· ≤ ·) ∧ ∀ a ∈ l, 0 ≤ a ∧ a ≤ s.size
theorem places_pl {F : ByteArray → List Int} {s : ByteArray} {lf rt : Int} (hF : ∀ w, (F w).Pairwise (· < ·) ∧ ∀ x ∈ F w, lf ≤ x ∧ x ≤ (runesL w).length - rt) (h1 : 1 ≤ lf) (h2 : 1 ≤ rt) : PlOk s (placesV F s) := by
  by_cases hr : (refV s).2 < 0
  · obtain ⟨K, k1, k2, k3⟩ := places_ok hF h1 h2 hr
    rw [k1]
    refine ⟨?_, fun a ha => ?_⟩
    · rw [List.pairwise_map]
      exact List.Pairwise.imp_of_mem (fun {a b} ha hb hab => plc_le hr (Nat.le_of_lt hab) (Nat.le_of_lt (k3 b hb).1)) k2
    · obtain ⟨k, hk, rfl⟩ := List.mem_map.1 ha
      have e1 := (plc_mono hr (k3 k hk).1).2
      have e2 := plc_le hr (Nat.le_of_lt (k3 k hk).1) (Nat.le_refl _)
      rw [plc_end] at e2
      exact ⟨e1, e2⟩
  · unfold placesV
    rw [if_pos (by rw [bad_refV]; omega)]
    exact ⟨List.Pairwise.nil, fun a ha => (List.not_mem_nil ha).elim⟩
theorem pl_get {s : ByteArray} {l : List Int} (h : PlOk s l) {i : Nat} (hi : i < l.length) : 0 ≤ l.getD i 0 ∧ l.getD i 0 ≤ s.size ∧ (∀ j, j < i → l.getD j 0 ≤ l.getD i 0) := by
  have hm := h.2 _ (getD_mem hi)
  refine ⟨hm.1, hm.2, fun j hj => ?_⟩
  have := List.pairwise_iff_getElem.1 h.1 j i (by omega) hi hj
  rw [List.getD_eq_getElem?_getD, List.getD_eq_getElem?_getD, List.getElem?_eq_getElem hi, List.getElem?_eq_getElem (by omega)]
  exact this
theorem bytesV_soft : bytesV 173 = [194, 173] := by decide
theorem str_soft : strOfNums [194, 173] = softB := by decide
theorem getDm_mem {l : List (Int × Int)} {i : Nat} (h : i < l.length) : l.getD i (0, 0) ∈ l := by
  rw [List.getD_eq_getElem?_getD, List.getElem?_eq_getElem h]
  exact List.getElem_mem _
theorem plc_bd {s : ByteArray} (hr : (refV s).2 < 0) {n : Nat} (hn : n ≤ (refV s).1.length) : 0 ≤ plcV s n ∧ plcV s n ≤ s.size := by
  have h0 : 0 ≤ plcV s 0 := by
    rcases Nat.eq_zero_or_pos (refV s).1.length with c | c
    · have := plc_end s; rw [c] at this; omega
    · exact (plc_mono hr c).2
  have h1 := plc_le hr (Nat.zero_le n) hn
  have h2 := plc_le hr hn (Nat.le_refl _)
  rw [plc_end] at h2
  omega
theorem nil_app (x : ByteArray) : ByteArray.empty ++ x = x := by
  apply ByteArray.ext
  rw [ByteArray.data_append]
  exact Array.empty_append
theorem put_step {s x : ByteArray} {o : List Int} {l : List Int} {f a : Int} (h : strOfNums o ++ (s.extract f.toNat a.toNat ++ softB ++ putT s l a.toNat) = x) : strOfNums (o ++ bytesOf (s.extract f.toNat a.toNat) ++ bytesV 173) ++ putT s l a.toNat = x := by
  rw [sn_app, sn_app, sn_bytes, bytesV_soft, str_soft]
  rw [← h]
  simp only [ByteArray.append_assoc]
theorem flat_len {α β : Type} (f : α → List β) (m : Nat) : ∀ l : List α, (∀ x ∈ l, (f x).length ≤ m) → (l.flatMap f).length ≤ m * l.length
  | [], _ => by simp
  | x :: l, h => by
    have h1 := h x List.mem_cons_self
    have h2 := flat_len f m l (fun y hy => h y (List.mem_cons_of_mem _ hy))
    rw [List.flatMap_cons, List.length_append, List.length_cons, Nat.mul_succ]
    omega
theorem places_len (T : List Nd) {kn : ByteArray → Option (List Int)} (hk : KnOk kn) (s : ByteArray) (lf rt : Int) : (placesV (pointsV T kn lf rt) s).length ≤ 300 * (s.size + 1) := by
  unfold placesV
  split
  · exact Nat.zero_le _
  · refine Nat.le_trans (flat_len _ 300 _ (fun x hx => ?_)) (Nat.mul_le_mul_left _ (words_len s))
    unfold wordPl
    rw [List.length_map]
    exact (pts_ok hk _).1
end Go.Proofs.Ytbeihfcjfkddcaa.Hy
