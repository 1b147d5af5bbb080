/- What a diff of right texts is: done to the first one it gives the second one, and it is the least that does. -/
import Derived.Test.YtbakllppgekmoaaCmpBest
import Derived.Test.YtbakllppgekmoaaCmpApply
import Derived.Test.YtbakllppgekmoaaRunesParts
namespace Go.Proofs.Ytbakllppgekmoaa.Cmp
open Go Go.RowKit Go.Proofs.Ytbakllppgekmoaa.Given Go.Proofs.Ytbakllppgekmoaa.Kinds Go.Proofs.Ytbakllppgekmoaa.Rn Go.Proofs.YtbakllppgekmoaaW.PrintWords
set_option linter.unusedVariables false
set_option linter.unusedSimpArgs false
/-! ### bytes -/
theorem ba_ext {a b : ByteArray} (hs : a.size = b.size) (h : ∀ i : Nat, i < a.size → bt a i = bt b i) : a = b := by
  apply ByteArray.ext
  apply Array.ext
  · exact hs
  · intro i h1 h2
    have := h i h1
    unfold bt at this
    rw [dif_pos (by simpa using h1), dif_pos (by simpa using (show i < b.size from h2))] at this
    have h3 : a[i].toNat = b[i].toNat := Int.ofNat_inj.1 (by simpa using this)
    exact UInt8.toNat_inj.1 h3
theorem ex_app (s : ByteArray) {a b c : Nat} (h1 : a ≤ b) (h2 : b ≤ c) : s.extract a b ++ s.extract b c = s.extract a c := by
  rw [ByteArray.extract_append_extract, Nat.min_eq_left h1, Nat.max_eq_right h2]
theorem ex_none (s : ByteArray) (a : Nat) : s.extract a a = ByteArray.empty := by
  apply ba_ext
  · rw [ByteArray.size_extract]; show _ = 0; omega
  · intro i hi
    rw [ByteArray.size_extract] at hi
    omega
theorem app_none (s : ByteArray) : s ++ ByteArray.empty = s := ByteArray.append_empty
theorem none_app (s : ByteArray) : ByteArray.empty ++ s = s := ByteArray.empty_append
theorem ex_all (s : ByteArray) : s.extract 0 s.size = s := ByteArray.extract_zero_size
/-! ### a text's runes and their places -/
theorem read_bytes {s : ByteArray} {p : Int} (h : 0 < (readV s p).2) : bytesV (readV s p).1 = bytesAt s (readV s p).2.toNat p ∧ 0 ≤ (readV s p).1 := by
  have hb := bt_nonneg s p
  have hb1 := bt_nonneg s (p + 1)
  have hb2 := bt_nonneg s (p + 2)
  have hb3 := bt_nonneg s (p + 3)
  have q2 : bytesAt s 2 p = [bt s p, bt s (p + 1)] := rfl
  have q3 : bytesAt s 3 p = [bt s p, bt s (p + 1), bt s (p + 2)] := by simp only [bytesAt]; rw [show p + 1 + 1 = p + 2 by omega]
  have q4 : bytesAt s 4 p = [bt s p, bt s (p + 1), bt s (p + 2), bt s (p + 3)] := by simp only [bytesAt]; rw [show p + 1 + 1 = p + 2 by omega, show p + 2 + 1 = p + 3 by omega]
  revert h
  unfold readV
  split
  · rename_i c
    intro _
    exact ⟨(b1 _ hb.1 hb.2).2 c, hb.1⟩
  split
  · rename_i c
    intro _
    exact ⟨((b2 _ _ hb.1 hb.2 hb1.1 hb1.2).2 c.2).trans q2.symm, by unfold v2; omega⟩
  split
  · rename_i c
    intro _
    exact ⟨((b3 _ _ _ hb.1 hb.2 hb1.1 hb1.2 hb2.1 hb2.2).2 c.2).trans q3.symm, by unfold v3; omega⟩
  split
  · rename_i c
    intro _
    exact ⟨((b4 _ _ _ _ hb.1 hb.2 hb1.1 hb1.2 hb2.1 hb2.2 hb3.1 hb3.2).2 c.2).trans q4.symm, by unfold v4; omega⟩
  · intro h
    exact absurd h (by decide)
/-- The places of a parse, and its end. -/
def plc (l : List (Int × Int)) (e : Int) (i : Nat) : Int := (l.map (·.1) ++ [e]).getD i 0
def rne (l : List (Int × Int)) (i : Nat) : Int := (l.map (·.2)).getD i 0
theorem plc_end (l : List (Int × Int)) (e : Int) : plc l e l.length = e := by
  unfold plc
  rw [List.getD_eq_getElem?_getD, List.getElem?_append_right (by rw [List.length_map]; exact Nat.le_refl _), List.length_map, Nat.sub_self]
  rfl
theorem par_places {s : ByteArray} {p e : Int} {l : List (Int × Int)} (h : Par s p l e) : plc l e 0 = p ∧ ∀ i, i < l.length → plc l e (i + 1) = plc l e i + ((bytesV (rne l i)).length : Int) ∧ 0 < (bytesV (rne l i)).length ∧ 0 ≤ rne l i ∧ ∀ q : Nat, q < (bytesV (rne l i)).length → bt s (plc l e i + (q : Int)) = (bytesV (rne l i)).getD q 0 := by
  induction h with
  | nil p => exact ⟨rfl, fun i hi => by simp at hi⟩
  | @cons p e l h0 h1 hk h ih =>
    obtain ⟨z, st⟩ := ih
    obtain ⟨rb, rn⟩ := read_bytes hk
    refine ⟨rfl, fun i hi => ?_⟩
    cases i with
    | zero =>
      have e1 : rne ((p, (readV s p).1) :: l) 0 = (readV s p).1 := rfl
      have e2 : plc ((p, (readV s p).1) :: l) e 0 = p := rfl
      have e3 : plc ((p, (readV s p).1) :: l) e 1 = plc l e 0 := rfl
      have el : (bytesV (readV s p).1).length = (readV s p).2.toNat := by rw [rb, bytesAt_len]
      rw [e1, e2, e3, z, el]
      refine ⟨by omega, by omega, rn, fun q hq => ?_⟩
      rw [rb, bytesAt_getD s _ p q hq]
    | succ i =>
      have e1 : rne ((p, (readV s p).1) :: l) (i + 1) = rne l i := rfl
      have e2 : plc ((p, (readV s p).1) :: l) e (i + 1) = plc l e i := rfl
      have e3 : plc ((p, (readV s p).1) :: l) e (i + 1 + 1) = plc l e (i + 1) := rfl
      rw [e1, e2, e3]
      exact st i (by simpa using hi)
theorem par_take {s : ByteArray} {p e : Int} {l : List (Int × Int)} (h : Par s p l e) : ∀ n, n ≤ l.length → Par s p (l.take n) (plc l e n) := by
  induction h with
  | nil p =>
    intro n hn
    obtain rfl : n = 0 := by simpa using hn
    exact .nil p
  | @cons p e l h0 h1 hk h ih =>
    intro n hn
    cases n with
    | zero => exact .nil p
    | succ n => exact .cons h0 h1 hk (ih n (by simpa using hn))
theorem par_drop {s : ByteArray} {p e : Int} {l : List (Int × Int)} (h : Par s p l e) : ∀ n, n ≤ l.length → Par s (plc l e n) (l.drop n) e := by
  induction h with
  | nil p =>
    intro n hn
    obtain rfl : n = 0 := by simpa using hn
    exact .nil p
  | @cons p e l h0 h1 hk h ih =>
    intro n hn
    cases n with
    | zero => exact .cons h0 h1 hk h
    | succ n => exact ih n (by simpa using hn)
theorem plc_take (l : List (Int × Int)) (e : Int) (i j : Nat) (hij : i ≤ j) (hj : j ≤ l.length) : plc (l.take j) (plc l e j) i = plc l e i := by
  show ((l.take j).map (·.1) ++ [plc l e j]).getD i 0 = (l.map (·.1) ++ [e]).getD i 0
  rw [List.getD_eq_getElem?_getD, List.getD_eq_getElem?_getD]
  by_cases c : i < j
  · rw [List.getElem?_append_left (by rw [List.length_map, List.length_take]; omega), List.getElem?_append_left (by rw [List.length_map]; omega), List.getElem?_map, List.getElem?_map, List.getElem?_take_of_lt c]
  · obtain rfl : i = j := by omega
    rw [List.getElem?_append_right (by rw [List.length_map, List.length_take]; omega), List.length_map, List.length_take, Nat.min_eq_left hj, Nat.sub_self]
    show plc l e i = _
    unfold plc
    rw [List.getD_eq_getElem?_getD]
theorem par_seg {s : ByteArray} {p e : Int} {l : List (Int × Int)} (h : Par s p l e) {i j : Nat} (hij : i ≤ j) (hj : j ≤ l.length) : Par s (plc l e i) ((l.take j).drop i) (plc l e j) := by
  have := par_drop (par_take h j hj) i (by rw [List.length_take]; omega)
  rwa [plc_take l e i j hij hj] at this
theorem plc_grow {s : ByteArray} {p e : Int} {l : List (Int × Int)} (h : Par s p l e) {i j : Nat} (hij : i ≤ j) (hj : j ≤ l.length) : plc l e i + ((j - i : Nat) : Int) ≤ plc l e j := by
  have := (par_le (par_seg h hij hj)).2
  rw [List.length_drop, List.length_take, Nat.min_eq_left hj] at this
  exact this
section
variable {s : ByteArray}
def rl (s : ByteArray) : List (Int × Int) := (refV s).1
theorem letters_right (h : (refV s).2 < 0) : lettersV s = (rl s).map (·.2) ∧ atsV s = (rl s).map (·.1) ++ [(s.size : Int)] := by
  have hp := right_par h
  have hn : ∀ x ∈ rl s, 0 ≤ x.1 ∧ 0 ≤ x.2 := fun x hx => by
    refine ⟨(par_mem hp x hx).1, ?_⟩
    obtain ⟨i, hi, rfl⟩ := List.getElem_of_mem (show x ∈ (refV s).1 from hx)
    have := ((par_places hp).2 i hi).2.2.1
    unfold rne at this
    rw [List.getD_eq_getElem?_getD, List.getElem?_map, List.getElem?_eq_getElem hi] at this
    exact this
  unfold lettersV atsV rv pv
  rw [par_runesV hp, List.map_map, List.map_map]
  constructor
  · refine List.map_congr_left fun x hx => ?_
    have := (hn x hx).2
    show ((x.2.toNat : Nat) : Int) = x.2
    omega
  · congr 1
    refine List.map_congr_left fun x hx => ?_
    have := (hn x hx).1
    show ((x.1.toNat : Nat) : Int) = x.1
    omega
theorem ats_plc (h : (refV s).2 < 0) (i : Nat) : (atsV s).getD i 0 = plc (rl s) s.size i := by rw [(letters_right h).2]; rfl
theorem let_rne (h : (refV s).2 < 0) (i : Nat) : (lettersV s).getD i 0 = rne (rl s) i := by rw [(letters_right h).1]; rfl
theorem let_len (h : (refV s).2 < 0) : (lettersV s).length = (rl s).length := by rw [(letters_right h).1, List.length_map]
/-- The place ahead of rune i. -/
def ax (s : ByteArray) (i : Nat) : Int := plc (rl s) s.size i
theorem ax_zero (h : (refV s).2 < 0) : ax s 0 = 0 := (par_places (right_par h)).1
theorem ax_end (s : ByteArray) : ax s (rl s).length = s.size := plc_end _ _
theorem ax_grow (h : (refV s).2 < 0) {i j : Nat} (hij : i ≤ j) (hj : j ≤ (rl s).length) : 0 ≤ ax s i ∧ ax s i + ((j - i : Nat) : Int) ≤ ax s j ∧ ax s j ≤ s.size := by
  have h1 : ax s i + ((j - i : Nat) : Int) ≤ ax s j := plc_grow (right_par h) hij hj
  have h2 : ax s 0 + ((i - 0 : Nat) : Int) ≤ ax s i := plc_grow (right_par h) (Nat.zero_le i) (Nat.le_trans hij hj)
  have h3 : ax s j + (((rl s).length - j : Nat) : Int) ≤ ax s (rl s).length := plc_grow (right_par h) hj (Nat.le_refl _)
  have h4 := ax_zero h
  have h5 := ax_end s
  omega
theorem ax_between (h : (refV s).2 < 0) {i : Nat} (hi : i ≤ (rl s).length) : BetweenP s (ax s i) := by
  by_cases c : i < (rl s).length
  · left
    unfold placesL ax plc
    have e : ((rl s).map (·.1) ++ [(s.size : Int)]).getD i 0 = ((rl s).map (·.1)).getD i 0 := by
      rw [List.getD_eq_getElem?_getD, List.getElem?_append_left (by rw [List.length_map]; exact c), ← List.getD_eq_getElem?_getD]
    rw [e]
    exact get_mem (i := i) (by rw [List.length_map]; exact c) rfl
  · right
    obtain rfl : i = (rl s).length := by omega
    exact ax_end s
/-- So many runes lie between. -/
theorem seg_count (h : (refV s).2 < 0) {i j : Nat} (hij : i ≤ j) (hj : j ≤ (rl s).length) : (runesV (s.extract (ax s i).toNat (ax s j).toNat)).length = j - i ∧ (refV (s.extract (ax s i).toNat (ax s j).toNat)).2 < 0 := by
  have hg := ax_grow h hij hj
  have hseg : Par s (ax s i) (((rl s).take j).drop i) (ax s j) := par_seg (right_par h) hij hj
  have hp := par_mid hg.1 hseg hg.2.2
  refine ⟨?_, par_right hp⟩
  rw [par_runesV hp, List.length_map, List.length_map, List.length_drop, List.length_take]
  show min j (rl s).length - i = j - i
  omega
end
section
variable {s t : ByteArray}
theorem seg_one (hs : (refV s).2 < 0) (ht : (refV t).2 < 0) {i j : Nat} (hi : i < (rl s).length) (hj : j < (rl t).length) (e : rne (rl s) i = rne (rl t) j) : s.extract (ax s i).toNat (ax s (i + 1)).toNat = t.extract (ax t j).toNat (ax t (j + 1)).toNat := by
  obtain ⟨a1, a2, _, a3⟩ := (par_places (right_par hs)).2 i hi
  obtain ⟨b1, b2, _, b3⟩ := (par_places (right_par ht)).2 j hj
  have g1 := ax_grow hs (Nat.le_succ i) hi
  have g2 := ax_grow ht (Nat.le_succ j) hj
  have e1 : ax s (i + 1) = ax s i + ((bytesV (rne (rl s) i)).length : Int) := a1
  have e2 : ax t (j + 1) = ax t j + ((bytesV (rne (rl t) j)).length : Int) := b1
  rw [← e] at e2
  apply ba_ext
  · rw [ByteArray.size_extract, ByteArray.size_extract]; simp only [Nat.succ_eq_add_one] at g1 g2; omega
  · intro q hq
    simp only [Nat.succ_eq_add_one] at g1 g2
    rw [ByteArray.size_extract] at hq
    rw [bt_extract s _ _ _ (by omega) (by omega) (by omega), bt_extract t _ _ _ (by omega) (by omega) (by omega)]
    have h1 := a3 q (by have : (bytesV (rne (rl s) i)).length = (bytesV (rne (refV s).1 i)).length := rfl
                        omega)
    have h2 := b3 q (by have : (bytesV (rne (rl s) i)).length = (bytesV (rne (refV t).1 j)).length := by rw [e]; rfl
                        omega)
    have f1 : plc (refV s).1 s.size i = ax s i := rfl
    have f2 : plc (refV t).1 t.size j = ax t j := rfl
    rw [f1] at h1
    rw [f2] at h2
    rw [show (q : Int) + ((ax s i).toNat : Int) = ax s i + q by omega, show (q : Int) + ((ax t j).toNat : Int) = ax t j + q by omega, h1, h2]
    have : rne (refV s).1 i = rne (refV t).1 j := e
    rw [this]
theorem seg_eq (hs : (refV s).2 < 0) (ht : (refV t).2 < 0) {i j : Nat} : ∀ n, i + n ≤ (rl s).length → j + n ≤ (rl t).length → (∀ q, q < n → rne (rl s) (i + q) = rne (rl t) (j + q)) → s.extract (ax s i).toNat (ax s (i + n)).toNat = t.extract (ax t j).toNat (ax t (j + n)).toNat
  | 0, h1, h2, h => by rw [Nat.add_zero, Nat.add_zero, ex_none, ex_none]
  | n + 1, h1, h2, h => by
    have ih := seg_eq hs ht n (by omega) (by omega) (fun q hq => h q (by omega))
    have o := seg_one hs ht (i := i + n) (j := j + n) (by omega) (by omega) (h n (by omega))
    have a1 := ax_grow hs (show i ≤ i + n by omega) (by omega)
    have a2 := ax_grow hs (show i + n ≤ i + n + 1 by omega) (by omega)
    have b1 := ax_grow ht (show j ≤ j + n by omega) (by omega)
    have b2 := ax_grow ht (show j + n ≤ j + n + 1 by omega) (by omega)
    rw [← ex_app s (b := (ax s (i + n)).toNat) (by omega) (by rw [show i + (n + 1) = i + n + 1 by omega]; omega), ← ex_app t (b := (ax t (j + n)).toNat) (by omega) (by rw [show j + (n + 1) = j + n + 1 by omega]; omega), ih]
    exact congrArg _ o
end
/-! ### edits done one behind the other -/
def stp (s : ByteArray) (st : ByteArray × Int) (e : Edit) : ByteArray × Int := (st.1 ++ s.extract st.2.toNat e.f0.toNat ++ e.f2, e.f1)
def accF (s : ByteArray) (st : ByteArray × Int) (l : List Edit) : ByteArray × Int := l.foldl (stp s) st
theorem accA_fold (s : ByteArray) (l : List Edit) : ∀ k, k ≤ l.length → accA s l k = accF s (ByteArray.empty, 0) (l.take k)
  | 0, _ => rfl
  | k + 1, h => by
    have ih := accA_fold s l k (by omega)
    have e : l.take (k + 1) = l.take k ++ [ge l k] := by
      rw [List.take_add_one, List.getElem?_eq_getElem (by omega)]
      unfold ge
      rw [List.getD_eq_getElem?_getD, List.getElem?_eq_getElem (by omega)]
      rfl
    rw [e]
    unfold accF
    rw [List.foldl_append]
    show accA s l (k + 1) = stp s (accF s (ByteArray.empty, 0) (l.take k)) (ge l k)
    rw [← ih]
    rfl
theorem done_fold (s : ByteArray) (l : List Edit) : doneV s l = (accF s (ByteArray.empty, 0) l).1 ++ s.extract (accF s (ByteArray.empty, 0) l).2.toNat s.size := by
  unfold doneV
  rw [accA_fold s l l.length (Nat.le_refl _), List.take_length]
/-- In order, with something between. -/
def SOrd (size : Int) : Int → List Edit → Prop
  | _, [] => True
  | lo, e :: l => lo ≤ e.f0 ∧ e.f0 ≤ e.f1 ∧ e.f1 ≤ size ∧ SOrd size (e.f1 + 1) l
theorem sord_low {size : Int} : ∀ {l : List Edit} {lo lo' : Int}, lo' ≤ lo → SOrd size lo l → SOrd size lo' l
  | [], _, _, _, _ => trivial
  | e :: l, lo, lo', h, hs => ⟨by have := hs.1; omega, hs.2⟩
theorem sord_ord {size : Int} : ∀ {l : List Edit} {lo : Int}, 0 ≤ lo → SOrd size lo l → ∀ i, i < l.length → lo ≤ (ge l i).f0 ∧ OkAt size l i
  | e :: l, lo, h0, hs, i, hi => by
    obtain ⟨a, b, c, d⟩ := hs
    cases i with
    | zero => exact ⟨a, by unfold OkAt; exact ⟨by simpa using (show (0 : Int) ≤ e.f0 by omega), b, c, fun h => by omega⟩⟩
    | succ i =>
      obtain ⟨h1, h2⟩ := sord_ord (l := l) (lo := e.f1 + 1) (by omega) d i (by simpa using hi)
      refine ⟨by show lo ≤ (ge l i).f0; omega, ?_⟩
      unfold OkAt at h2 ⊢
      have e1 : (e :: l).getD (i + 1) z33 = l.getD i z33 := rfl
      rw [e1, Nat.add_sub_cancel]
      refine ⟨h2.1, h2.2.1, h2.2.2.1, fun _ => ?_⟩
      cases i with
      | zero =>
        have e2 : (e :: l).getD 0 z33 = e := rfl
        rw [e2]
        have h3 : e.f1 + 1 ≤ (l.getD 0 z33).f0 := h1
        omega
      | succ i =>
        have e2 : (e :: l).getD (i + 1) z33 = l.getD i z33 := rfl
        rw [e2]
        have := h2.2.2.2 (by omega)
        rw [Nat.add_sub_cancel] at this
        exact this
theorem costN_take (s : ByteArray) (l : List Edit) : ∀ k, k ≤ l.length → costN s l k = ((l.take k).map (cost1 s)).sum
  | 0, _ => rfl
  | k + 1, h => by
    have ih := costN_take s l k (by omega)
    have e : l.take (k + 1) = l.take k ++ [ge l k] := by
      rw [List.take_add_one, List.getElem?_eq_getElem (by omega)]
      unfold ge
      rw [List.getD_eq_getElem?_getD, List.getElem?_eq_getElem (by omega)]
      rfl
    have e2 : costN s l (k + 1) = costN s l k + cost1 s (ge l k) := rfl
    rw [e2, e, List.map_append, List.sum_append, ih]
    simp
theorem costV_sum (s : ByteArray) (l : List Edit) : costV s l = (l.map (cost1 s)).sum := by
  unfold costV
  rw [costN_take s l l.length (Nat.le_refl _), List.take_length]
/-! ### the diff -/
section
variable {s a : ByteArray}
/-- What each edit of a diff is. -/
def Fine (s a : ByteArray) (e : Edit) : Prop := BetweenP s e.f0 ∧ BetweenP s e.f1 ∧ (refV e.f2).2 < 0
theorem edits_all (hs : (refV s).2 < 0) (ha : (refV a).2 < 0) {f mx my : Int} (hf : 0 ≤ f) (hX : f + mx ≤ (rl s).length) (hY : f + my ≤ (rl a).length) : ∀ (ps : List (Int × Int)) (i j : Int), 0 ≤ i → 0 ≤ j → Chain mx my i j (ps ++ [(mx, my)]) →
    (∀ q ∈ ps, rne (rl s) (f + q.1).toNat = rne (rl a) (f + q.2).toNat) →
    (SOrd s.size (ax s (f + i).toNat) (editsV (atsV s) (atsV a) a f (ps ++ [(mx, my)]) i j) ∧ (∀ e ∈ editsV (atsV s) (atsV a) a f (ps ++ [(mx, my)]) i j, Fine s a e) ∧
    ((editsV (atsV s) (atsV a) a f (ps ++ [(mx, my)]) i j).map (cost1 s)).sum = (mx - i) + (my - j) - 2 * ps.length ∧
    ∀ st : ByteArray × Int, 0 ≤ st.2 → st.2 ≤ ax s (f + i).toNat → st.1 ++ s.extract st.2.toNat (ax s (f + i).toNat).toNat = a.extract 0 (ax a (f + j).toNat).toNat →
      (accF s st (editsV (atsV s) (atsV a) a f (ps ++ [(mx, my)]) i j)).1 ++ s.extract (accF s st (editsV (atsV s) (atsV a) a f (ps ++ [(mx, my)]) i j)).2.toNat (ax s (f + mx).toNat).toNat = a.extract 0 (ax a (f + my).toNat).toNat ∧
      0 ≤ (accF s st (editsV (atsV s) (atsV a) a f (ps ++ [(mx, my)]) i j)).2 ∧ (accF s st (editsV (atsV s) (atsV a) a f (ps ++ [(mx, my)]) i j)).2 ≤ ax s (f + mx).toNat) := by
  -- one pair's gap
  have gap : ∀ (i j P Q : Int), 0 ≤ i → 0 ≤ j → i ≤ P → j ≤ Q → P ≤ mx → Q ≤ my → ∃ g : List Edit, (if P > i ∨ Q > j then [(⟨rdI (atsV s) (f + i), rdI (atsV s) (f + P), a.extract (rdI (atsV a) (f + j)).toNat (rdI (atsV a) (f + Q)).toNat⟩ : Edit)] else []) = g ∧
      (∀ T, SOrd s.size (ax s (f + P).toNat + 1) T → SOrd s.size (ax s (f + i).toNat) (g ++ T)) ∧ (∀ e ∈ g, Fine s a e) ∧ (g.map (cost1 s)).sum = (P - i) + (Q - j) ∧
      ∀ st : ByteArray × Int, 0 ≤ st.2 → st.2 ≤ ax s (f + i).toNat → st.1 ++ s.extract st.2.toNat (ax s (f + i).toNat).toNat = a.extract 0 (ax a (f + j).toNat).toNat →
        (accF s st g).1 ++ s.extract (accF s st g).2.toNat (ax s (f + P).toNat).toNat = a.extract 0 (ax a (f + Q).toNat).toNat ∧ 0 ≤ (accF s st g).2 ∧ (accF s st g).2 ≤ ax s (f + P).toNat := by
    intro i j P Q hi hj hP hQ hPm hQm
    have gx := ax_grow hs (i := (f + i).toNat) (j := (f + P).toNat) (by omega) (by omega)
    have gy := ax_grow ha (i := (f + j).toNat) (j := (f + Q).toNat) (by omega) (by omega)
    have e1 : rdI (atsV s) (f + i) = ax s (f + i).toNat := ats_plc hs _
    have e2 : rdI (atsV s) (f + P) = ax s (f + P).toNat := ats_plc hs _
    have e3 : rdI (atsV a) (f + j) = ax a (f + j).toNat := ats_plc ha _
    have e4 : rdI (atsV a) (f + Q) = ax a (f + Q).toNat := ats_plc ha _
    refine ⟨_, rfl, ?_⟩
    rw [e1, e2, e3, e4]
    by_cases c : P > i ∨ Q > j
    · rw [if_pos c]
      obtain ⟨n1, r1⟩ := seg_count hs (i := (f + i).toNat) (j := (f + P).toNat) (by omega) (by omega)
      obtain ⟨n2, r2⟩ := seg_count ha (i := (f + j).toNat) (j := (f + Q).toNat) (by omega) (by omega)
      refine ⟨fun T hT => ⟨Int.le_refl _, by show ax s (f + i).toNat ≤ ax s (f + P).toNat; omega, gx.2.2, hT⟩, fun e he => ?_, ?_, fun st h0 h1 h2 => ?_⟩
      · rw [List.mem_singleton.1 he]
        exact ⟨ax_between hs (by omega), ax_between hs (by omega), r2⟩
      · simp only [List.map_cons, List.map_nil, List.sum_cons, List.sum_nil]
        unfold cost1
        dsimp only
        rw [if_pos ⟨gx.1, by omega, gx.2.2⟩, n1, n2]
        omega
      · have eA : accF s st [(⟨ax s (f + i).toNat, ax s (f + P).toNat, a.extract (ax a (f + j).toNat).toNat (ax a (f + Q).toNat).toNat⟩ : Edit)] = (st.1 ++ s.extract st.2.toNat (ax s (f + i).toNat).toNat ++ a.extract (ax a (f + j).toNat).toNat (ax a (f + Q).toNat).toNat, ax s (f + P).toNat) := rfl
        rw [eA]
        dsimp only
        rw [ex_none, app_none, h2, ex_app a (Nat.zero_le _) (by omega)]
        exact ⟨rfl, by omega, Int.le_refl _⟩
    · rw [if_neg c]
      obtain rfl : P = i := by omega
      obtain rfl : Q = j := by omega
      refine ⟨fun T hT => sord_low (by omega) hT, fun e he => (by cases he), (by simp), fun st h0 h1 h2 => ⟨h2, h0, h1⟩⟩
  intro ps
  induction ps with
  | nil =>
    intro i j hi hj hc _
    obtain ⟨h1, h2, h3, h4, _⟩ := hc
    obtain ⟨g, hg, g1, g2, g3, g4⟩ := gap i j mx my hi hj h1 h2 (Int.le_refl _) (Int.le_refl _)
    have e : editsV (atsV s) (atsV a) a f ([] ++ [(mx, my)]) i j = g := by
      simp only [List.nil_append, editsV]
      rw [hg, List.append_nil]
    rw [e]
    refine ⟨by have := g1 [] trivial; rwa [List.append_nil] at this, g2, by rw [g3]; simp, g4⟩
  | cons p ps ih =>
    intro i j hi hj hc hm
    obtain ⟨h1, h2, h3, h4, h5⟩ := hc
    have hlt := chain_lt (p :: ps) i j ⟨h1, h2, h3, h4, h5⟩ p List.mem_cons_self
    obtain ⟨g, hg, g1, g2, g3, g4⟩ := gap i j p.1 p.2 hi hj h1 h2 h3 h4
    obtain ⟨i1, i2, i3, i4⟩ := ih (p.1 + 1) (p.2 + 1) (by omega) (by omega) h5 (fun q hq => hm q (List.mem_cons_of_mem _ hq))
    have e : editsV (atsV s) (atsV a) a f ((p :: ps) ++ [(mx, my)]) i j = g ++ editsV (atsV s) (atsV a) a f (ps ++ [(mx, my)]) (p.1 + 1) (p.2 + 1) := by
      simp only [List.cons_append, editsV]
      rw [hg]
    rw [e]
    have ex1 : (f + (p.1 + 1)).toNat = (f + p.1).toNat + 1 := by omega
    have ey1 : (f + (p.2 + 1)).toNat = (f + p.2).toNat + 1 := by omega
    have gx := ax_grow hs (i := (f + p.1).toNat) (j := (f + p.1).toNat + 1) (by omega) (by omega)
    have gy := ax_grow ha (i := (f + p.2).toNat) (j := (f + p.2).toNat + 1) (by omega) (by omega)
    have hone := seg_one hs ha (i := (f + p.1).toNat) (j := (f + p.2).toNat) (by omega) (by omega) (hm p List.mem_cons_self)
    rw [ex1] at i1 i4
    rw [ey1] at i4
    refine ⟨g1 _ (sord_low (by omega) i1), fun q hq => (List.mem_append.1 hq).elim (g2 q) (i2 q), ?_, fun st s0 s1 s2 => ?_⟩
    · rw [List.map_append, List.sum_append, g3, i3]
      simp only [List.length_cons]
      omega
    · obtain ⟨k1, k2, k3⟩ := g4 st s0 s1 s2
      have hF : accF s st (g ++ editsV (atsV s) (atsV a) a f (ps ++ [(mx, my)]) (p.1 + 1) (p.2 + 1)) = accF s (accF s st g) (editsV (atsV s) (atsV a) a f (ps ++ [(mx, my)]) (p.1 + 1) (p.2 + 1)) := by
        unfold accF
        rw [List.foldl_append]
      rw [hF]
      refine i4 (accF s st g) k2 (by omega) ?_
      rw [← ex_app s (b := (ax s (f + p.1).toNat).toNat) (by omega) (by omega), ← ByteArray.append_assoc, k1, hone, ex_app a (Nat.zero_le _) (by omega)]
theorem postN_same (X Y : List Int) (f : Int) : ∀ (n : Nat) (e : Int), ∀ q, e ≤ q → q < postN X Y f n e → rdI X ((X.length : Int) - 1 - q) = rdI Y ((Y.length : Int) - 1 - q)
  | 0, e, q, h1, h2 => by simp only [postN] at h2; omega
  | n + 1, e, q, h1, h2 => by
    simp only [postN] at h2
    split at h2
    · rename_i c
      by_cases he : q = e
      · subst he; exact c.2.2
      · exact postN_same X Y f n (e + 1) q (by omega) h2
    · omega
theorem pre_same (X Y : List Int) (q : Int) (h0 : 0 ≤ q) (h : q < preV X Y) : rdI X q = rdI Y q := by
  obtain ⟨_, _, _, d⟩ := slideN_facts X Y (X.length + 1) 0 0 (by omega) (by omega) (by omega)
  have := d q h0 h
  rwa [show q - 0 + 0 = q by omega] at this
theorem mid_at (X Y : List Int) (i : Int) (h0 : 0 ≤ i) : (i < (midX X Y).length → rdI (midX X Y) i = rdI X (preV X Y + i)) ∧ (i < (midY X Y).length → rdI (midY X Y) i = rdI Y (preV X Y + i)) := by
  have he := ends_facts X Y
  have hl := mid_len X Y
  constructor
  · intro h
    unfold rdI
    rw [List.getD_eq_getElem?_getD, List.getD_eq_getElem?_getD]
    unfold midX
    rw [List.getElem?_drop, List.getElem?_take_of_lt (by omega), show (preV X Y).toNat + i.toNat = (preV X Y + i).toNat by omega]
  · intro h
    unfold rdI
    rw [List.getD_eq_getElem?_getD, List.getD_eq_getElem?_getD]
    unfold midY
    rw [List.getElem?_drop, List.getElem?_take_of_lt (by omega), show (preV X Y).toNat + i.toNat = (preV X Y + i).toNat by omega]
theorem ext_rd {L M : List Int} (hl : L.length = M.length) (h : ∀ q : Int, 0 ≤ q → q < L.length → rdI L q = rdI M q) : L = M := by
  refine ext_getD 0 hl fun q hq => ?_
  have := h q (by omega) (by omega)
  unfold rdI at this
  rwa [Int.toNat_natCast] at this
theorem rd_take (L : List Int) (n : Nat) (q : Int) (h0 : 0 ≤ q) (h : q < n) : rdI (L.take n) q = rdI L q := by
  unfold rdI
  rw [List.getD_eq_getElem?_getD, List.getD_eq_getElem?_getD, List.getElem?_take_of_lt (by omega)]
theorem rd_drop (L : List Int) (n : Nat) (q : Int) (h0 : 0 ≤ q) : rdI (L.drop n) q = rdI L (q + n) := by
  unfold rdI
  rw [List.getD_eq_getElem?_getD, List.getD_eq_getElem?_getD, List.getElem?_drop, show n + q.toNat = (q + n).toNat by omega]
/-- Both lists begin alike, and end alike. -/
theorem parts_eq (X Y : List Int) : X = X.take (preV X Y).toNat ++ (midX X Y ++ X.drop ((X.length : Int) - postV X Y).toNat) ∧ Y = X.take (preV X Y).toNat ++ (midY X Y ++ X.drop ((X.length : Int) - postV X Y).toNat) := by
  have he := ends_facts X Y
  have hl := mid_len X Y
  have h1 : Y.take (preV X Y).toNat = X.take (preV X Y).toNat := by
    refine ext_rd (by rw [List.length_take, List.length_take]; omega) fun q h0 hq => ?_
    rw [List.length_take] at hq
    rw [rd_take _ _ _ h0 (by omega), rd_take _ _ _ h0 (by omega)]
    exact (pre_same X Y q h0 (by omega)).symm
  have h2 : Y.drop ((Y.length : Int) - postV X Y).toNat = X.drop ((X.length : Int) - postV X Y).toNat := by
    refine ext_rd (by rw [List.length_drop, List.length_drop]; omega) fun q h0 hq => ?_
    rw [List.length_drop] at hq
    rw [rd_drop _ _ _ h0, rd_drop _ _ _ h0]
    have := postN_same X Y (preV X Y) (X.length + 1) 0 (postV X Y - 1 - q) (by omega) (by show postV X Y - 1 - q < postV X Y; omega)
    rw [show (X.length : Int) - 1 - (postV X Y - 1 - q) = q + (((X.length : Int) - postV X Y).toNat : Int) by omega, show (Y.length : Int) - 1 - (postV X Y - 1 - q) = q + (((Y.length : Int) - postV X Y).toNat : Int) by omega] at this
    exact this.symm
  have split3 : ∀ (L : List Int) (a b : Nat), a ≤ b → L = L.take a ++ ((L.take b).drop a ++ L.drop b) := fun L a b h => by
    have e1 : (L.take b).take a ++ (L.take b).drop a = L.take b := List.take_append_drop a _
    rw [List.take_take, Nat.min_eq_left h] at e1
    rw [← List.append_assoc, e1, List.take_append_drop]
  refine ⟨split3 X _ _ (by omega), ?_⟩
  have := split3 Y (preV X Y).toNat ((Y.length : Int) - postV X Y).toNat (by omega)
  rw [h1, h2] at this
  exact this
theorem diff_all (hs : (refV s).2 < 0) (ha : (refV a).2 < 0) (h1 : s.size ≤ 300) (h2 : a.size ≤ 300) :
    InOrd s.size (diffV s a) ∧ doneV s (diffV s a) = a ∧ (∀ e ∈ diffV s a, Fine s a e) ∧ ∃ c : Nat, costV s (diffV s a) = (c : Int) ∧ Al (lettersV s) (lettersV a) c ∧ ∀ d, Al (lettersV s) (lettersV a) d → c ≤ d := by
  obtain ⟨f1, f2, f3, f4, f5, f6⟩ := ends_facts (lettersV s) (lettersV a)
  obtain ⟨m1, m2⟩ := mid_len (lettersV s) (lettersV a)
  have ls := letters_le s
  have la := letters_le a
  have es := let_len hs
  have ea := let_len ha
  obtain ⟨b1, b2, b3, b4, b5⟩ := pairs_best (A := midX (lettersV s) (lettersV a)) (B := midY (lettersV s) (lettersV a)) (by omega)
  have hch := pairs_chain (midX (lettersV s) (lettersV a)) (midY (lettersV s) (lettersV a))
  have hrd : ∀ q ∈ pairsV (midX (lettersV s) (lettersV a)) (midY (lettersV s) (lettersV a)), rne (rl s) (preV (lettersV s) (lettersV a) + q.1).toNat = rne (rl a) (preV (lettersV s) (lettersV a) + q.2).toNat := fun q hq => by
    obtain ⟨c1, c2, c3, c4, c5⟩ := b1 q hq
    rw [(mid_at _ _ q.1 c2).1 c4, (mid_at _ _ q.2 c3).2 c5] at c1
    rw [← let_rne hs, ← let_rne ha]
    exact c1
  obtain ⟨d1, d2, d3, d4⟩ := edits_all hs ha f1 (by omega) (by omega) (pairsV (midX (lettersV s) (lettersV a)) (midY (lettersV s) (lettersV a))) 0 0 (by omega) (by omega) hch hrd
  have e0 : diffV s a = editsV (atsV s) (atsV a) a (preV (lettersV s) (lettersV a)) (pairsV (midX (lettersV s) (lettersV a)) (midY (lettersV s) (lettersV a)) ++ [(((midX (lettersV s) (lettersV a)).length : Int), ((midY (lettersV s) (lettersV a)).length : Int))]) 0 0 := rfl
  rw [← e0] at d1 d2 d3 d4
  have hz := ax_zero hs
  have hza := ax_zero ha
  have g0 := ax_grow hs (i := 0) (j := (preV (lettersV s) (lettersV a) + 0).toNat) (by omega) (by omega)
  -- the beginning
  have hpre := seg_eq hs ha (i := 0) (j := 0) (preV (lettersV s) (lettersV a) + 0).toNat (by omega) (by omega) (fun q hq => by
    rw [← let_rne hs, ← let_rne ha]
    have := pre_same (lettersV s) (lettersV a) ((0 + q : Nat) : Int) (by omega) (by omega)
    unfold rdI at this
    rwa [Int.toNat_natCast] at this)
  rw [hz, hza, Nat.zero_add] at hpre
  obtain ⟨k1, k2, k3⟩ := d4 (ByteArray.empty, 0) (Int.le_refl _) (by omega) (by rw [none_app]; exact hpre)
  -- the end
  have hend := seg_eq hs ha (i := (preV (lettersV s) (lettersV a) + (midX (lettersV s) (lettersV a)).length).toNat) (j := (preV (lettersV s) (lettersV a) + (midY (lettersV s) (lettersV a)).length).toNat) (postV (lettersV s) (lettersV a)).toNat (by omega) (by omega) (fun q hq => by
    rw [← let_rne hs, ← let_rne ha]
    have := postN_same (lettersV s) (lettersV a) (preV (lettersV s) (lettersV a)) ((lettersV s).length + 1) 0 (postV (lettersV s) (lettersV a) - 1 - q) (by omega) (by show postV (lettersV s) (lettersV a) - 1 - q < postV (lettersV s) (lettersV a); omega)
    unfold rdI at this
    rw [show (((lettersV s).length : Int) - 1 - (postV (lettersV s) (lettersV a) - 1 - q)).toNat = (preV (lettersV s) (lettersV a) + (midX (lettersV s) (lettersV a)).length).toNat + q by omega, show (((lettersV a).length : Int) - 1 - (postV (lettersV s) (lettersV a) - 1 - q)).toNat = (preV (lettersV s) (lettersV a) + (midY (lettersV s) (lettersV a)).length).toNat + q by omega] at this
    exact this)
  have xe : (preV (lettersV s) (lettersV a) + (midX (lettersV s) (lettersV a)).length).toNat + (postV (lettersV s) (lettersV a)).toNat = (rl s).length := by omega
  have ye : (preV (lettersV s) (lettersV a) + (midY (lettersV s) (lettersV a)).length).toNat + (postV (lettersV s) (lettersV a)).toNat = (rl a).length := by omega
  rw [xe, ye, ax_end, ax_end] at hend
  have gx := ax_grow hs (i := (preV (lettersV s) (lettersV a) + (midX (lettersV s) (lettersV a)).length).toNat) (j := (rl s).length) (by omega) (by omega)
  have gy := ax_grow ha (i := (preV (lettersV s) (lettersV a) + (midY (lettersV s) (lettersV a)).length).toNat) (j := (rl a).length) (by omega) (by omega)
  rw [ax_end] at gx gy
  simp only [Int.toNat_natCast] at hend
  refine ⟨fun i hi => (sord_ord (by omega) d1 i hi).2, ?_, d2, (midX (lettersV s) (lettersV a)).length + (midY (lettersV s) (lettersV a)).length - 2 * (pairsV (midX (lettersV s) (lettersV a)) (midY (lettersV s) (lettersV a))).length, ?_, ?_, ?_⟩
  · rw [done_fold, ← ex_app s (b := (ax s (preV (lettersV s) (lettersV a) + (midX (lettersV s) (lettersV a)).length).toNat).toNat) (by omega) (by omega), ← ByteArray.append_assoc, k1, hend, ex_app a (Nat.zero_le _) (by omega), ex_all]
  · rw [costV_sum, d3]
    omega
  · obtain ⟨p1, p2⟩ := parts_eq (lettersV s) (lettersV a)
    have := al_front ((lettersV s).take (preV (lettersV s) (lettersV a)).toNat) (al_back ((lettersV s).drop (((lettersV s).length : Int) - postV (lettersV s) (lettersV a)).toNat) b2)
    rw [← p1, ← p2] at this
    exact this
  · intro d hd
    obtain ⟨p1, p2⟩ := parts_eq (lettersV s) (lettersV a)
    have hd2 : Al ((lettersV s).take (preV (lettersV s) (lettersV a)).toNat ++ (midX (lettersV s) (lettersV a) ++ (lettersV s).drop (((lettersV s).length : Int) - postV (lettersV s) (lettersV a)).toNat)) ((lettersV s).take (preV (lettersV s) (lettersV a)).toNat ++ (midY (lettersV s) (lettersV a) ++ (lettersV s).drop (((lettersV s).length : Int) - postV (lettersV s) (lettersV a)).toNat)) d := by
      rw [← p1, ← p2]; exact hd
    obtain ⟨x1, x2, x3⟩ := al_cuts _ hd2
    obtain ⟨y1, y2, y3⟩ := al_tails x3
    have := b5 y1 y3
    omega
end
theorem diff_self (a : ByteArray) : diffV a a = [] := by
  obtain ⟨f1, f2, f3, f4, f5, f6⟩ := ends_facts (lettersV a) (lettersV a)
  obtain ⟨m1, m2⟩ := mid_len (lettersV a) (lettersV a)
  have hmost := slideN_most (lettersV a) (lettersV a) ((lettersV a).length + 1) 0 0 (by omega)
  have e : slideN (lettersV a) (lettersV a) ((lettersV a).length + 1) 0 0 = preV (lettersV a) (lettersV a) := rfl
  rw [e] at hmost
  have hp : preV (lettersV a) (lettersV a) = (lettersV a).length := by
    refine Classical.byContradiction fun hn => hmost ?_
    rw [show preV (lettersV a) (lettersV a) - 0 + 0 = preV (lettersV a) (lettersV a) by omega]
    exact ⟨by omega, by omega, rfl⟩
  have hx : (midX (lettersV a) (lettersV a)).length = 0 := by omega
  have hy : (midY (lettersV a) (lettersV a)).length = 0 := by omega
  have hpl := pairs_len (midX (lettersV a) (lettersV a)) (midY (lettersV a) (lettersV a))
  have hpn : pairsV (midX (lettersV a) (lettersV a)) (midY (lettersV a) (lettersV a)) = [] := List.eq_nil_of_length_eq_zero (by omega)
  unfold diffV betweenV
  rw [hpn, hx, hy]
  rfl
end Go.Proofs.Ytbakllppgekmoaa.Cmp
