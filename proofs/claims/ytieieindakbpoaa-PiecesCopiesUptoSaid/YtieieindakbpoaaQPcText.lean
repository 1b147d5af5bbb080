/- Pruned by wip/prune.py. -/
import Derived.Test.YtieieindakbpoaaQPcBal
import Derived.Test.YtieieindakbpoaaQRunesParts
namespace Go.Proofs.Ytieieindakbpoaa.Pc
open Go Go.RowKit Go.Proofs.YtieieindakbpoaaW.PrintWords Go.Proofs.Ytieieindakbpoaa.Kinds Go.Proofs.Ytieieindakbpoaa.Given Go.Proofs.Ytieieindakbpoaa.Rn AT
set_option linter.unusedVariables false
set_option linter.unusedSimpArgs false
theorem ba_ext {a b : ByteArray} (hs : a.size = b.size) (h : ∀ i : Nat, i < a.size → bt a i = bt b i) : a = b := by
  apply ByteArray.ext
  apply Array.ext
  · exact hs
  · intro i h1 h2
    have := h i h1
    unfold bt at this
    rw [dif_pos (by simpa using h1), dif_pos (by simpa using (show i < b.size from h2))] at this
    have h3 : a[i].toNat = b[i].toNat := Int.ofNat_inj.1 (by simpa using this)
    exact UInt8.toNat_inj.1 h3
theorem ex_app (s : ByteArray) {a b c : Nat} (h1 : a ≤ b) (h2 : b ≤ c) : s.extract a b ++ s.extract b c = s.extract a c := by
  rw [ByteArray.extract_append_extract, Nat.min_eq_left h1, Nat.max_eq_right h2]
theorem ex_all (s : ByteArray) : s.extract 0 s.size = s := ByteArray.extract_zero_size
theorem size_zero {s : ByteArray} (h : s.size = 0) : s = ByteArray.empty := ba_ext (by rw [h]; rfl) (fun i hi => by omega)
theorem ext_left (A B : ByteArray) {x y : Nat} (h : y ≤ A.size) : (A ++ B).extract x y = A.extract x y := by
  apply ba_ext
  · rw [ByteArray.size_extract, ByteArray.size_extract, ByteArray.size_append]; omega
  · intro i hi
    rw [ByteArray.size_extract, ByteArray.size_append] at hi
    rw [bt_extract _ _ _ _ (by omega) (by omega) (by rw [ByteArray.size_append]; omega), bt_extract _ _ _ _ (by omega) (by omega) h, bt_append_left _ _ _ (by omega) (by omega)]
theorem ext_right (A B : ByteArray) {x y : Nat} (h : A.size ≤ x) (hy : y ≤ A.size + B.size) : (A ++ B).extract x y = B.extract (x - A.size) (y - A.size) := by
  apply ba_ext
  · rw [ByteArray.size_extract, ByteArray.size_extract, ByteArray.size_append]; omega
  · intro i hi
    rw [ByteArray.size_extract, ByteArray.size_append] at hi
    rw [bt_extract _ _ _ _ (by omega) (by omega) (by rw [ByteArray.size_append]; omega), bt_extract _ _ _ _ (by omega) (by omega) (by omega)]
    have := bt_append_right A B ((i : Int) + ((x - A.size : Nat) : Int)) (by omega)
    rw [← this]
    congr 1
    omega
theorem sn_app (a b : List Int) : strOfNums (a ++ b) = strOfNums a ++ strOfNums b := by
  unfold strOfNums
  apply ByteArray.ext
  simp [ByteArray.data_append]
theorem sn_size (a : List Int) : (strOfNums a).size = a.length := by
  unfold strOfNums
  show (List.toArray _).size = _
  simp
theorem sn_bytes (a : ByteArray) : strOfNums (bytesOf a) = a := by
  unfold strOfNums bytesOf
  cases a with
  | mk d =>
    congr 1
    apply Array.ext'
    simp [Function.comp_def]
theorem bo_app (a b : ByteArray) : bytesOf (a ++ b) = bytesOf a ++ bytesOf b := by
  unfold bytesOf
  rw [ByteArray.data_append, Array.toList_append, List.map_append]
def nlB (s : ByteArray) : Int := ((bytesOf s).count 10 : Nat)
theorem nlB_app (a b : ByteArray) : nlB (a ++ b) = nlB a + nlB b := by
  unfold nlB
  rw [bo_app, List.count_append]
  omega
theorem nlB_le (a : ByteArray) : 0 ≤ nlB a ∧ nlB a ≤ a.size := by
  unfold nlB
  have h1 := List.count_le_length (l := bytesOf a) (a := (10 : Int))
  rw [bytesOf_length] at h1
  omega
/-- Line ends from a place on. -/
def nlF (s : ByteArray) (p : Nat) : Nat := ((bytesOf s).drop p).count 10
theorem bo_get (s : ByteArray) (p : Nat) (h : p < s.size) : (bytesOf s)[p]? = some (bt s p) := by
  unfold bytesOf bt
  rw [List.getElem?_map, Array.getElem?_toList, Array.getElem?_eq_getElem (show p < s.data.size from h), dif_pos (by simpa using h)]
  rfl
theorem nlF_step (s : ByteArray) (p : Nat) (h : p < s.size) : nlF s p = (if bt s p = 10 then 1 else 0) + nlF s (p + 1) := by
  unfold nlF
  have h1 := bo_get s p h
  have hl : p < (bytesOf s).length := by rw [bytesOf_length]; exact h
  rw [List.drop_eq_getElem_cons hl, List.count_cons]
  rw [List.getElem?_eq_getElem hl] at h1
  injection h1 with h1
  rw [h1]
  by_cases c : bt s p = 10
  · rw [if_pos c, if_pos (by simpa using c)]; omega
  · rw [if_neg c, if_neg (by simpa using c)]; omega
theorem nlF_end (s : ByteArray) (p : Nat) (h : s.size ≤ p) : nlF s p = 0 := by
  unfold nlF
  rw [List.drop_eq_nil_of_le (by rw [bytesOf_length]; exact h)]
  rfl
theorem nlF_skip (s : ByteArray) : ∀ (k p : Nat), p + k ≤ s.size → (∀ q : Nat, p ≤ q → q < p + k → bt s q ≠ 10) → nlF s p = nlF s (p + k)
  | 0, p, _, _ => rfl
  | k + 1, p, h, hn => by
    rw [nlF_step s p (by omega), if_neg (hn p (by omega) (by omega)), nlF_skip s k (p + 1) (by omega) (fun q h1 h2 => hn q (by omega) (by omega)), show p + 1 + k = p + (k + 1) by omega]
    omega
/-- One rune read: it is a line end just if its first byte is, and then it is alone. -/
theorem nl_read (s : ByteArray) (p : Nat) (h : p < s.size) : nlF s p = (if ((Utf8.decode s p).1 : Int) = 10 then 1 else 0) + nlF s (p + (Utf8.decode s p).2) := by
  have hb := bt_nonneg s p
  by_cases c0 : bt s p < 128
  · have e : readV s p = (bt s p, 1) := by unfold readV; rw [if_pos c0]
    have hd : Utf8.decode s p = ((bt s p).toNat, 1) := by rw [decode_read, e]; rfl
    rw [hd, nlF_step s p h, show (((bt s p).toNat : Nat) : Int) = bt s p by omega]
  · by_cases c : (readV s p).2 = 0
    · have hd : Utf8.decode s p = (65533, 1) := by rw [decode_read, if_pos c]
      rw [hd, nlF_step s p h, if_neg (by omega), if_neg (by decide)]
    · have hd : Utf8.decode s p = ((readV s p).1.toNat, (readV s p).2.toNat) := by rw [decode_read, if_neg c]
      have hr := read_bounds s p (by omega) (by omega)
      have hf := first_not s p (by omega)
      have hbig : 128 ≤ (readV s p).1 := by
        revert c
        unfold readV
        rw [if_neg c0]
        split
        · rename_i q; intro _; have q2 := q.2; unfold m2 at q2; unfold v2; dsimp only; omega
        split
        · rename_i q; intro _; have q2 := q.2; unfold m3 at q2; unfold v3; dsimp only; omega
        split
        · rename_i q; intro _; have q2 := q.2; unfold m4 at q2; unfold v4; dsimp only; omega
        · intro q; exact absurd rfl q
      rw [hd, if_neg (by dsimp only; omega), Nat.zero_add]
      dsimp only
      refine nlF_skip s _ p (by omega) fun q h1 h2 => ?_
      by_cases e : q = p
      · subst e; omega
      · have := hf.2 ((q : Int) - p) (by omega) (by omega)
        rw [show (p : Int) + ((q : Int) - p) = q by omega] at this
        intro z
        rw [z] at this
        exact absurd this (by decide)
def txP (s0 : ByteArray) (L : List Int) (p : P1) : ByteArray := if p.f0 then strOfNums ((L.take (p.f1 + p.f2).toNat).drop p.f1.toNat) else s0.extract p.f1.toNat (p.f1 + p.f2).toNat
structure WfP (s0 : ByteArray) (L : List Int) (p : P1) : Prop where
  f0 : 0 ≤ p.f1
  f1 : 0 < p.f2
  f2 : p.f1 + p.f2 ≤ (if p.f0 then (L.length : Int) else (s0.size : Int))
  f3 : p.f3 = nlB (txP s0 L p)
def Wf (s0 : ByteArray) (L : List Int) (l : List P1) : Prop := ∀ p ∈ l, WfP s0 L p
def cat (s0 : ByteArray) (L : List Int) : List P1 → ByteArray
  | [] => ByteArray.empty
  | p :: l => txP s0 L p ++ cat s0 L l
section
variable {s0 : ByteArray} {L : List Int}
theorem cat_app (a b : List P1) : cat s0 L (a ++ b) = cat s0 L a ++ cat s0 L b := by
  induction a with
  | nil => simp [cat]
  | cons p a ih => simp only [List.cons_append, cat]; rw [ih, ByteArray.append_assoc]
theorem cat_one (p : P1) : cat s0 L [p] = txP s0 L p := by simp [cat]
theorem wf_app {a b : List P1} : Wf s0 L (a ++ b) ↔ Wf s0 L a ∧ Wf s0 L b := ⟨fun h => ⟨fun p hp => h p (List.mem_append_left _ hp), fun p hp => h p (List.mem_append_right _ hp)⟩, fun h p hp => (List.mem_append.1 hp).elim (h.1 p) (h.2 p)⟩
theorem wf_cons {p : P1} {b : List P1} : Wf s0 L (p :: b) ↔ WfP s0 L p ∧ Wf s0 L b := ⟨fun h => ⟨h p List.mem_cons_self, fun q hq => h q (List.mem_cons_of_mem _ hq)⟩, fun h q hq => (List.mem_cons.1 hq).elim (fun e => e ▸ h.1) (h.2 q)⟩
theorem wf_nil : Wf s0 L [] := fun p hp => by cases hp
theorem tx_size {p : P1} (h : WfP s0 L p) : ((txP s0 L p).size : Int) = p.f2 := by
  obtain ⟨h0, h1, h2, _⟩ := h
  unfold txP
  by_cases c : p.f0 = true
  · rw [if_pos c] at h2 ⊢
    rw [sn_size, List.length_drop, List.length_take]
    omega
  · rw [if_neg c] at h2 ⊢
    rw [ByteArray.size_extract]
    omega
theorem cat_size : ∀ {l : List P1}, Wf s0 L l → ((cat s0 L l).size : Int) = szF l
  | [], _ => rfl
  | p :: l, h => by
    obtain ⟨h1, h2⟩ := wf_cons.1 h
    have i := cat_size h2
    have j := tx_size h1
    simp only [cat]
    rw [szF_cons, ByteArray.size_append]
    omega
theorem cat_lines : ∀ {l : List P1}, Wf s0 L l → nlB (cat s0 L l) = lnF l
  | [], _ => rfl
  | p :: l, h => by
    obtain ⟨h1, h2⟩ := wf_cons.1 h
    have i := cat_lines h2
    simp only [cat]
    rw [lnF_cons, nlB_app, ← h1.f3, i]
theorem wf_len : ∀ {l : List P1}, Wf s0 L l → (l.length : Int) ≤ szF l
  | [], _ => Int.le_refl _
  | p :: l, h => by
    obtain ⟨h1, h2⟩ := wf_cons.1 h
    have i := wf_len h2
    have := h1.f1
    rw [szF_cons, List.length_cons]
    omega
theorem wf_sm {l : List P1} (h : Wf s0 L l) (hs : (cat s0 L l).size ≤ 200000) : Sm l := by
  have h1 := wf_len h
  have h2 := cat_size h
  refine ⟨by omega, fun p hp => ?_⟩
  have hw := h p hp
  have hz := tx_size hw
  have hn := nlB_le (txP s0 L p)
  have hle : (txP s0 L p).size ≤ (cat s0 L l).size := by
    obtain ⟨a, b, rfl⟩ := List.append_of_mem hp
    rw [cat_app]
    simp only [cat]
    rw [ByteArray.size_append, ByteArray.size_append]
    omega
  have := hw.f3
  have := hw.f1
  omega
/-- More is added: what was stays. -/
theorem tx_grow {p : P1} (h : WfP s0 L p) (M : List Int) : txP s0 (L ++ M) p = txP s0 L p := by
  obtain ⟨h0, h1, h2, _⟩ := h
  unfold txP
  by_cases c : p.f0 = true
  · rw [if_pos c] at h2
    rw [if_pos c, if_pos c, List.take_append_of_le_length (by omega)]
  · rw [if_neg c, if_neg c]
theorem wfp_grow {p : P1} (h : WfP s0 L p) (M : List Int) : WfP s0 (L ++ M) p := by
  have e := tx_grow h M
  obtain ⟨h0, h1, h2, h3⟩ := h
  refine ⟨h0, h1, ?_, by rw [e]; exact h3⟩
  split at h2
  · rename_i c; rw [if_pos c, List.length_append]; omega
  · rename_i c; rw [if_neg c]; omega
theorem wf_grow {l : List P1} (h : Wf s0 L l) (M : List Int) : Wf s0 (L ++ M) l := fun p hp => wfp_grow (h p hp) M
theorem cat_grow : ∀ {l : List P1}, Wf s0 L l → ∀ M : List Int, cat s0 (L ++ M) l = cat s0 L l
  | [], _, _ => rfl
  | p :: l, h, M => by
    obtain ⟨h1, h2⟩ := wf_cons.1 h
    simp only [cat]
    rw [tx_grow h1, cat_grow h2]
/-- A piece cut in two. -/
def cutA (s0 : ByteArray) (L : List Int) (p : P1) (at_ : Int) : P1 := ⟨p.f0, p.f1, at_, nlB (txP s0 L ⟨p.f0, p.f1, at_, p.f3⟩)⟩
def cutB (s0 : ByteArray) (L : List Int) (p : P1) (at_ : Int) : P1 := ⟨p.f0, p.f1 + at_, p.f2 - at_, p.f3 - nlB (txP s0 L ⟨p.f0, p.f1, at_, p.f3⟩)⟩
theorem cut_ok {p : P1} (h : WfP s0 L p) {k : Int} (h0 : 0 < k) (h1 : k < p.f2) : WfP s0 L (cutA s0 L p k) ∧ WfP s0 L (cutB s0 L p k) ∧ txP s0 L (cutA s0 L p k) ++ txP s0 L (cutB s0 L p k) = txP s0 L p := by
  obtain ⟨g0, g1, g2, g3⟩ := h
  have e : txP s0 L (cutA s0 L p k) = txP s0 L ⟨p.f0, p.f1, k, p.f3⟩ := rfl
  have hcat : txP s0 L (cutA s0 L p k) ++ txP s0 L (cutB s0 L p k) = txP s0 L p := by
    unfold cutA cutB txP
    dsimp only
    by_cases c : p.f0 = true
    · rw [if_pos c] at g2
      rw [if_pos c, if_pos c, if_pos c, ← sn_app]
      congr 1
      rw [show (p.f1 + k + (p.f2 - k)).toNat = (p.f1 + p.f2).toNat by omega]
      have : (L.take (p.f1 + k).toNat).drop p.f1.toNat ++ (L.take (p.f1 + p.f2).toNat).drop (p.f1 + k).toNat = (L.take (p.f1 + p.f2).toNat).drop p.f1.toNat := by
        have e1 : L.take (p.f1 + k).toNat = (L.take (p.f1 + p.f2).toNat).take (p.f1 + k).toNat := by rw [List.take_take, Nat.min_eq_left (by omega)]
        rw [e1]
        have e2 : (L.take (p.f1 + p.f2).toNat) = ((L.take (p.f1 + p.f2).toNat).take (p.f1 + k).toNat) ++ ((L.take (p.f1 + p.f2).toNat).drop (p.f1 + k).toNat) := (List.take_append_drop _ _).symm
        conv => rhs; rw [e2]
        rw [List.drop_append_of_le_length (by rw [List.length_take, List.length_take]; omega)]
      exact this
    · rw [if_neg c] at g2
      rw [if_neg c, if_neg c, if_neg c, show (p.f1 + k + (p.f2 - k)).toNat = (p.f1 + p.f2).toNat by omega, ex_app s0 (by omega) (by omega)]
  refine ⟨⟨g0, h0, ?_, rfl⟩, ⟨?_, ?_, ?_, ?_⟩, hcat⟩
  · show p.f1 + k ≤ (if p.f0 = true then (L.length : Int) else (s0.size : Int))
    split at g2 <;> rename_i c
    · rw [if_pos c]; omega
    · rw [if_neg c]; omega
  · show 0 ≤ p.f1 + k; omega
  · show 0 < p.f2 - k; omega
  · show p.f1 + k + (p.f2 - k) ≤ (if p.f0 = true then (L.length : Int) else (s0.size : Int))
    split at g2 <;> rename_i c
    · rw [if_pos c]; omega
    · rw [if_neg c]; omega
  · have hn := congrArg nlB hcat
    rw [nlB_app, ← g3, e] at hn
    show p.f3 - nlB (txP s0 L ⟨p.f0, p.f1, k, p.f3⟩) = _
    omega
/-- Within its buffer. -/
def Bd (s0 : ByteArray) (L : List Int) (p : P1) : Prop := 0 ≤ p.f1 ∧ 0 ≤ p.f2 ∧ p.f1 + p.f2 ≤ (if p.f0 = true then (L.length : Int) else (s0.size : Int))
theorem wf_bd {p : P1} (h : WfP s0 L p) : Bd s0 L p := ⟨h.f0, Int.le_of_lt h.f1, h.f2⟩
theorem cut_bd {p : P1} (h : WfP s0 L p) {k : Int} (h0 : 0 < k) (h1 : k < p.f2) : Bd s0 L ⟨p.f0, p.f1, k, p.f3⟩ := by
  obtain ⟨g0, g1, g2, g3⟩ := h
  refine ⟨g0, Int.le_of_lt h0, ?_⟩
  show p.f1 + k ≤ (if p.f0 = true then (L.length : Int) else (s0.size : Int))
  split at g2 <;> rename_i c
  · rw [if_pos c]; omega
  · rw [if_neg c]; omega
theorem nd_facts {g : Nat} {l r : AT} {p : P1} (h : Wf s0 L (fl (.nd g l p r))) : Wf s0 L (fl l) ∧ WfP s0 L p ∧ Wf s0 L (fl r) ∧ (cat s0 L (fl (.nd g l p r))).size = (cat s0 L (fl l)).size + (txP s0 L p).size + (cat s0 L (fl r)).size := by
  have h' : Wf s0 L (fl l ++ p :: fl r) := h
  obtain ⟨h1, h2⟩ := wf_app.1 h'
  obtain ⟨h3, h4⟩ := wf_cons.1 h2
  refine ⟨h1, h3, h4, ?_⟩
  show (cat s0 L (fl l ++ p :: fl r)).size = _
  rw [cat_app]
  simp only [cat]
  rw [ByteArray.size_append, ByteArray.size_append]
  omega
theorem wf_three {a b : List P1} {p : P1} (h1 : Wf s0 L a) (h2 : WfP s0 L p) (h3 : Wf s0 L b) : Wf s0 L (a ++ p :: b) := wf_app.2 ⟨h1, wf_cons.2 ⟨h2, h3⟩⟩
theorem sm_three {a b : List P1} {p : P1} (h1 : Wf s0 L a) (h2 : WfP s0 L p) (h3 : Wf s0 L b) (hs : (cat s0 L a).size + (txP s0 L p).size + (cat s0 L b).size ≤ 200000) : Sm (a ++ p :: b) := by
  refine wf_sm (wf_three h1 h2 h3) ?_
  rw [cat_app]
  simp only [cat]
  rw [ByteArray.size_append, ByteArray.size_append]
  omega
/-- What a tree split in two gives. -/
structure Two (s0 : ByteArray) (L : List Int) (l a b : List P1) (k : Int) : Prop where
  wa : Wf s0 L a
  wb : Wf s0 L b
  cat : cat s0 L a ++ cat s0 L b = cat s0 L l
  size : ((Pc.cat s0 L a).size : Int) = k
  len : a.length + b.length ≤ l.length + 1
theorem two_size {l a b : List P1} {k : Int} (h : Two s0 L l a b k) : (cat s0 L a).size + (cat s0 L b).size = (cat s0 L l).size := by
  have := congrArg ByteArray.size h.cat
  rwa [ByteArray.size_append] at this
theorem two_left {l r a b : List P1} {p : P1} {k : Int} (h : Two s0 L l a b k) (hp : WfP s0 L p) (hr : Wf s0 L r) : Two s0 L (l ++ p :: r) a (b ++ p :: r) k := by
  obtain ⟨h1, h2, h3, h4, h5⟩ := h
  refine ⟨h1, wf_three h2 hp hr, ?_, h4, by simp only [List.length_append, List.length_cons]; omega⟩
  rw [cat_app, cat_app, ← h3, ByteArray.append_assoc]
theorem two_right {l r a b : List P1} {p : P1} {k k' : Int} (h : Two s0 L r a b k) (hl : Wf s0 L l) (hp : WfP s0 L p) (hk : k' = szF l + p.f2 + k) : Two s0 L (l ++ p :: r) (l ++ p :: a) b k' := by
  obtain ⟨h1, h2, h3, h4, h5⟩ := h
  refine ⟨wf_three hl hp h1, h2, ?_, ?_, by simp only [List.length_append, List.length_cons]; omega⟩
  · rw [cat_app, cat_app]
    simp only [Pc.cat]
    rw [← h3]
    simp only [ByteArray.append_assoc]
  · have e1 := cat_size hl
    have e2 := tx_size hp
    rw [cat_app]
    simp only [Pc.cat]
    rw [ByteArray.size_append, ByteArray.size_append]
    omega
theorem two_mid {l r : List P1} {p a b : P1} {k k' : Int} (hl : Wf s0 L l) (hr : Wf s0 L r) (ha : WfP s0 L a) (hb : WfP s0 L b) (hab : txP s0 L a ++ txP s0 L b = txP s0 L p) (hk : a.f2 = k) (hk' : k' = szF l + k) : Two s0 L (l ++ p :: r) (l ++ [a]) (b :: r) k' := by
  refine ⟨wf_app.2 ⟨hl, wf_cons.2 ⟨ha, wf_nil⟩⟩, wf_cons.2 ⟨hb, hr⟩, ?_, ?_, by simp only [List.length_append, List.length_cons, List.length_nil]; omega⟩
  · rw [cat_app, cat_app, cat_one]
    simp only [Pc.cat]
    rw [← hab]
    simp only [ByteArray.append_assoc]
  · have e1 := cat_size hl
    have e2 := tx_size ha
    rw [cat_app, cat_one, ByteArray.size_append]
    omega
theorem two_nil : Two s0 L [] [] [] 0 := ⟨wf_nil, wf_nil, by simp [Pc.cat], rfl, by simp⟩
theorem tx_small (s0 : ByteArray) (L : List Int) (p : P1) (h0 : s0.size ≤ 1000000) (hL : L.length ≤ 1000000) : (txP s0 L p).size ≤ 1000000 := by
  unfold txP
  split
  · rw [sn_size, List.length_drop, List.length_take]; omega
  · rw [ByteArray.size_extract]; omega
theorem wf_small {p : P1} (h0 : s0.size ≤ 1000000) (hL : L.length ≤ 1000000) (h : WfP s0 L p) : p.f1 + p.f2 ≤ 1000000 ∧ p.f3 ≤ 1000000 := by
  obtain ⟨g0, g1, g2, g3⟩ := h
  have h1 := tx_small s0 L p h0 hL
  have h2 := nlB_le (txP s0 L p)
  refine ⟨?_, by omega⟩
  split at g2 <;> omega
end
end Go.Proofs.Ytieieindakbpoaa.Pc
