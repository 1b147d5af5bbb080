/- Pruned by wip/prune.py. -/
import Derived.Test.YtbakllppgekmoaaQCmpLaws
namespace Go.Proofs.Ytbakllppgekmoaa.Cmp
open Go Go.RowKit Go.Proofs.Ytbakllppgekmoaa.Given Go.Proofs.Ytbakllppgekmoaa.Kinds Go.Proofs.Ytbakllppgekmoaa.Rn Go.Proofs.YtbakllppgekmoaaW.PrintWords
set_option linter.unusedVariables false
set_option linter.unusedSimpArgs false
theorem ext_left (A B : ByteArray) {x y : Nat} (h : y ≤ A.size) : (A ++ B).extract x y = A.extract x y := by
  apply ba_ext
  · rw [ByteArray.size_extract, ByteArray.size_extract, ByteArray.size_append]; omega
  · intro i hi
    rw [ByteArray.size_extract, ByteArray.size_append] at hi
    rw [bt_extract _ _ _ _ (by omega) (by omega) (by rw [ByteArray.size_append]; omega), bt_extract _ _ _ _ (by omega) (by omega) h, bt_append_left _ _ _ (by omega) (by omega)]
theorem ext_right (A B : ByteArray) {x y : Nat} (h : A.size ≤ x) : (A ++ B).extract x y = B.extract (x - A.size) (y - A.size) := by
  apply ba_ext
  · rw [ByteArray.size_extract, ByteArray.size_extract, ByteArray.size_append]; omega
  · intro i hi
    rw [ByteArray.size_extract, ByteArray.size_append] at hi
    have hy : (A ++ B).extract x y = (A ++ B).extract x (min y (A ++ B).size) := by
      apply ba_ext
      · rw [ByteArray.size_extract, ByteArray.size_extract]; omega
      · intro j hj
        rw [ByteArray.size_extract, ByteArray.size_append] at hj
        unfold bt
        rw [dif_pos (by rw [ByteArray.size_extract, ByteArray.size_append]; omega), dif_pos (by rw [ByteArray.size_extract, ByteArray.size_append]; omega), ByteArray.getElem_extract, ByteArray.getElem_extract]
    have hz : B.extract (x - A.size) (y - A.size) = B.extract (x - A.size) (min (y - A.size) B.size) := by
      apply ba_ext
      · rw [ByteArray.size_extract, ByteArray.size_extract]; omega
      · intro j hj
        rw [ByteArray.size_extract] at hj
        unfold bt
        rw [dif_pos (by rw [ByteArray.size_extract]; omega), dif_pos (by rw [ByteArray.size_extract]; omega), ByteArray.getElem_extract, ByteArray.getElem_extract]
    rw [hy, hz, bt_extract _ _ _ _ (by omega) (by rw [ByteArray.size_append]; omega) (Nat.min_le_right _ _), bt_extract _ _ _ _ (by omega) (by omega) (Nat.min_le_right _ _)]
    have := bt_append_right A B ((i : Int) + ((x - A.size : Nat) : Int)) (by omega)
    rw [← this]
    congr 1
    omega
theorem ext_full (B : ByteArray) {y : Nat} (h : B.size ≤ y) : B.extract 0 y = B := by
  apply ba_ext
  · rw [ByteArray.size_extract]; omega
  · intro i hi
    rw [ByteArray.size_extract] at hi
    unfold bt
    rw [dif_pos (by rw [ByteArray.size_extract]; omega), dif_pos (by omega), ByteArray.getElem_extract]
    congr 2
    simp
def refL (s : ByteArray) : List Edit → ByteArray
  | [] => s
  | e :: l => (refL s l).extract 0 e.f0.toNat ++ e.f2 ++ (refL s l).extract e.f1.toNat (refL s l).size
def tl (s : ByteArray) : Int → List Edit → ByteArray
  | lo, [] => s.extract lo.toNat s.size
  | lo, e :: l => s.extract lo.toNat e.f0.toNat ++ e.f2 ++ tl s e.f1 l
def OrdL (size : Int) : Int → List Edit → Prop
  | _, [] => True
  | lo, e :: l => lo ≤ e.f0 ∧ e.f0 ≤ e.f1 ∧ e.f1 ≤ size ∧ OrdL size e.f1 l
theorem ordL_drop {size : Int} {l : List Edit} (h : InOrd size l) : ∀ (m k : Nat), k + m = l.length → OrdL size (if k = 0 then 0 else (ge l (k - 1)).f1) (l.drop k)
  | 0, k, hk => by rw [List.drop_eq_nil_of_le (by omega)]; exact trivial
  | m + 1, k, hk => by
    have ih := ordL_drop h m (k + 1) (by omega)
    obtain ⟨a, b, c, d⟩ := h k (by omega)
    rw [drop_ge (by omega)]
    rw [if_neg (by omega), Nat.add_sub_cancel] at ih
    refine ⟨?_, b, c, ih⟩
    split
    · exact a
    · exact (d (by omega)).1
theorem refL_tl (s : ByteArray) : ∀ (l : List Edit) (lo : Int), 0 ≤ lo → lo ≤ s.size → OrdL s.size lo l → refL s l = s.extract 0 lo.toNat ++ tl s lo l
  | [], lo, h0, h1, _ => by
    simp only [refL, tl]
    rw [ex_app s (Nat.zero_le _) (by omega), ex_all]
  | e :: l, lo, h0, h1, ⟨a, b, c, d⟩ => by
    have ih := refL_tl s l e.f1 (by omega) c d
    have hsz : (s.extract 0 e.f1.toNat).size = e.f1.toNat := by rw [ByteArray.size_extract]; omega
    simp only [refL, tl]
    rw [ih, ext_left _ _ (by rw [hsz]; omega), ext_right _ _ (by rw [hsz]; exact Nat.le_refl _), hsz, Nat.sub_self, ext_full (tl s e.f1 l) (by rw [ByteArray.size_append, hsz]; omega)]
    have e1 : (s.extract 0 e.f1.toNat).extract 0 e.f0.toNat = s.extract 0 e.f0.toNat := by
      have := ext_left (s.extract 0 e.f1.toNat) (s.extract e.f1.toNat s.size) (x := 0) (y := e.f0.toNat) (by rw [hsz]; omega)
      rw [← this, ex_app s (Nat.zero_le _) (by omega), ex_all]
    rw [e1, ← ex_app s (a := 0) (b := lo.toNat) (c := e.f0.toNat) (Nat.zero_le _) (by omega)]
    simp only [ByteArray.append_assoc]
theorem acc_tl (s : ByteArray) : ∀ (l : List Edit) (st : ByteArray × Int), (accF s st l).1 ++ s.extract (accF s st l).2.toNat s.size = st.1 ++ tl s st.2 l
  | [], st => rfl
  | e :: l, st => by
    have := acc_tl s l (stp s st e)
    have e1 : accF s st (e :: l) = accF s (stp s st e) l := rfl
    rw [e1, this]
    simp only [tl, stp, ByteArray.append_assoc]
theorem ref_done {s : ByteArray} {l : List Edit} (h : InOrd s.size l) : refL s l = doneV s l := by
  have h1 := ordL_drop h l.length 0 (by omega)
  rw [if_pos rfl, List.drop_zero] at h1
  rw [refL_tl s l 0 (by omega) (by omega) h1, done_fold, acc_tl]
  show s.extract 0 0 ++ _ = _
  rw [ex_none]
/-- Its size, on the way. -/
theorem refL_size (s : ByteArray) (m : Nat) : ∀ (l : List Edit) (lo : Int), 0 ≤ lo → lo ≤ s.size → OrdL s.size lo l → (∀ e ∈ l, e.f2.size ≤ m) → lo ≤ (refL s l).size ∧ (refL s l).size ≤ s.size + l.length * m
  | [], lo, h0, h1, _, _ => by simp [refL]; omega
  | e :: l, lo, h0, h1, ⟨a, b, c, d⟩, hm => by
    obtain ⟨i1, i2⟩ := refL_size s m l e.f1 (by omega) c d (fun q hq => hm q (List.mem_cons_of_mem _ hq))
    have h2 := hm e List.mem_cons_self
    simp only [refL, List.length_cons]
    rw [ByteArray.size_append, ByteArray.size_append, ByteArray.size_extract, ByteArray.size_extract, Nat.succ_mul]
    omega
theorem refL_room {s : ByteArray} {l : List Edit} (h : InOrd s.size l) (hs : s.size ≤ 300) (hF : FewE l) {k : Nat} (hk : k ≤ l.length) : (if k = 0 then 0 else (ge l (k - 1)).f1) ≤ ((refL s (l.drop k)).size : Int) ∧ (refL s (l.drop k)).size ≤ 100000 := by
  have h1 := ordL_drop h (l.length - k) k (by omega)
  have hb : 0 ≤ (if k = 0 then 0 else (ge l (k - 1)).f1) ∧ (if k = 0 then 0 else (ge l (k - 1)).f1) ≤ (s.size : Int) := by
    split
    · omega
    · obtain ⟨a, b, c, d⟩ := h (k - 1) (by omega)
      dsimp only [ge] at *
      omega
  obtain ⟨a, b⟩ := refL_size s 400 (l.drop k) _ hb.1 hb.2 h1 (fun e he => hF.2 e (List.mem_of_mem_drop he))
  refine ⟨a, ?_⟩
  have := hF.1
  have h3 : (l.drop k).length ≤ 60 := by rw [List.length_drop]; omega
  have h4 : (l.drop k).length * 400 ≤ 60 * 400 := Nat.mul_le_mul_right _ h3
  omega
def backStep (s : ByteArray) (e : Edit) (st : List Edit × Int) : List Edit × Int :=
  (if (0 : Int) ≤ (st.1.length : Int) - 1 ∧ (ge st.1 (st.1.length - 1)).f1 = e.f0 + st.2 then st.1.set (st.1.length - 1) ⟨(ge st.1 (st.1.length - 1)).f0, (ge st.1 (st.1.length - 1)).f1 + (e.f2.size : Int), (ge st.1 (st.1.length - 1)).f2 ++ s.extract e.f0.toNat e.f1.toNat⟩
   else st.1 ++ [⟨e.f0 + st.2, e.f0 + st.2 + (e.f2.size : Int), s.extract e.f0.toNat e.f1.toNat⟩], st.2 + ((e.f2.size : Int) - (e.f1 - e.f0)))
def backK (s : ByteArray) (l : List Edit) : Nat → List Edit × Int
  | 0 => ([], 0)
  | k + 1 => backStep s (ge l k) (backK s l k)
def backV (s : ByteArray) (l : List Edit) : List Edit := (backK s l l.length).1
def touchN (l : List Edit) : Nat → Int
  | 0 => 0
  | k + 1 => touchN l k + (if 0 < k ∧ (ge l k).f0 = (ge l (k - 1)).f1 then 1 else 0)
theorem touch_bound (l : List Edit) : ∀ k, 0 ≤ touchN l k ∧ touchN l k ≤ k
  | 0 => by simp [touchN]
  | k + 1 => by
    have := touch_bound l k
    simp only [touchN]
    split <;> omega
theorem accF_grow (A T : ByteArray) : ∀ (l : List Edit) (st : ByteArray × Int), (∀ e ∈ l, e.f0.toNat ≤ A.size) → accF (A ++ T) st l = accF A st l
  | [], st, _ => rfl
  | e :: l, st, h => by
    have e1 : stp (A ++ T) st e = stp A st e := by
      unfold stp
      rw [ext_left A T (h e List.mem_cons_self)]
    show accF (A ++ T) (stp (A ++ T) st e) l = accF A (stp A st e) l
    rw [e1]
    exact accF_grow A T l _ (fun q hq => h q (List.mem_cons_of_mem _ hq))
theorem accF_snoc (A : ByteArray) (l : List Edit) (e : Edit) (st : ByteArray × Int) : accF A st (l ++ [e]) = stp A (accF A st l) e := by
  unfold accF
  rw [List.foldl_append]
  rfl
def lastEnd : Int → List Edit → Int
  | lo, [] => lo
  | _, e :: l => lastEnd (e.f1 + 1) l
theorem sord_snoc {size : Int} : ∀ {l : List Edit} {lo : Int} {e : Edit}, SOrd size lo (l ++ [e]) ↔ SOrd size lo l ∧ lastEnd lo l ≤ e.f0 ∧ e.f0 ≤ e.f1 ∧ e.f1 ≤ size
  | [], lo, e => by simp [SOrd, lastEnd]
  | x :: l, lo, e => by
    simp only [List.cons_append, SOrd, lastEnd]
    rw [sord_snoc]
    constructor
    · rintro ⟨a, b, c, d, f⟩; exact ⟨⟨a, b, c, d⟩, f⟩
    · rintro ⟨⟨a, b, c, d⟩, f⟩; exact ⟨a, b, c, d, f⟩
theorem lastEnd_snoc : ∀ (l : List Edit) (lo : Int) (e : Edit), lastEnd lo (l ++ [e]) = e.f1 + 1
  | [], lo, e => rfl
  | x :: l, lo, e => lastEnd_snoc l _ e
theorem sord_size {size size' : Int} (h : size ≤ size') : ∀ {l : List Edit} {lo : Int}, SOrd size lo l → SOrd size' lo l
  | [], _, _ => trivial
  | e :: l, lo, ⟨a, b, c, d⟩ => ⟨a, b, by omega, sord_size h d⟩
theorem sord_mem {size : Int} : ∀ {l : List Edit} {lo : Int}, SOrd size lo l → ∀ e ∈ l, lo ≤ e.f0 ∧ e.f0 ≤ e.f1 ∧ e.f1 ≤ size
  | x :: l, lo, ⟨a, b, c, d⟩, e, he => by
    rcases List.mem_cons.1 he with rfl | he
    · exact ⟨a, b, c⟩
    · have := sord_mem d e he; omega
structure BInv (s : ByteArray) (l : List Edit) (k : Nat) : Prop where
  size : (accA s l k).2 + (backK s l k).2 = ((accA s l k).1.size : Int)
  ord : SOrd (accA s l k).1.size 0 (backK s l k).1
  done : (accF (accA s l k).1 (ByteArray.empty, 0) (backK s l k).1).1 ++ (accA s l k).1.extract (accF (accA s l k).1 (ByteArray.empty, 0) (backK s l k).1).2.toNat (accA s l k).1.size = s.extract 0 (accA s l k).2.toNat
  at0 : 0 ≤ (accF (accA s l k).1 (ByteArray.empty, 0) (backK s l k).1).2 ∧ (accF (accA s l k).1 (ByteArray.empty, 0) (backK s l k).1).2 ≤ (accA s l k).1.size
  len : ((backK s l k).1.length : Int) + touchN l k = k
  last : (k = 0 ∧ (backK s l k).1 = []) ∨ (0 < k ∧ ∃ o e, (backK s l k).1 = o ++ [e] ∧ e.f1 = ((accA s l k).1.size : Int))
theorem ge_snoc (o : List Edit) (e : Edit) : ge (o ++ [e]) ((o ++ [e]).length - 1) = e := by
  unfold ge
  rw [List.length_append, List.length_singleton, Nat.add_sub_cancel, List.getD_eq_getElem?_getD, List.getElem?_append_right (Nat.le_refl _), Nat.sub_self]
  rfl
theorem set_snoc (o : List Edit) (e x : Edit) : (o ++ [e]).set ((o ++ [e]).length - 1) x = o ++ [x] := by
  rw [List.length_append, List.length_singleton, Nat.add_sub_cancel, List.set_append_right _ _ (Nat.le_refl _), Nat.sub_self]
  rfl
theorem back_inv {s : ByteArray} {l : List Edit} (h : InOrd s.size l) : ∀ k, k ≤ l.length → BInv s l k
  | 0, _ => by
    refine ⟨rfl, trivial, ?_, ⟨Int.le_refl _, Int.le_refl _⟩, rfl, .inl ⟨rfl, rfl⟩⟩
    show ByteArray.empty ++ ByteArray.empty.extract 0 0 = s.extract 0 0
    rw [ex_none, ex_none, app_none]
  | k + 1, hk => by
    obtain ⟨i1, i2, i3, i4, i5, i6⟩ := back_inv h k (by omega)
    obtain ⟨o0, o1, o2, o3⟩ := h k (by omega)
    have oge : (l.getD k z33) = ge l k := rfl
    rw [oge] at o0 o1 o2 o3
    have hacc : accA s l (k + 1) = ((accA s l k).1 ++ s.extract (accA s l k).2.toNat (ge l k).f0.toNat ++ (ge l k).f2, (ge l k).f1) := rfl
    have hat : 0 ≤ (accA s l k).2 ∧ (accA s l k).2 ≤ (ge l k).f0 := by
      cases k with
      | zero => exact ⟨Int.le_refl _, o0⟩
      | succ k =>
        have e1 := acc_at s l (k + 1) (by omega)
        rw [Nat.add_sub_cancel] at e1
        obtain ⟨p0, p1, p2, _⟩ := h k (by omega)
        have pge : (l.getD k z33) = ge l k := rfl
        rw [pge] at p0 p1 p2
        have o4 := o3 (by omega)
        rw [Nat.add_sub_cancel, pge] at o4
        rw [e1]
        exact ⟨by omega, o4.1⟩
    have hb : backK s l (k + 1) = backStep s (ge l k) (backK s l k) := rfl
    generalize hA : (accA s l k).1 = A at *
    generalize hq : (accA s l k).2 = q at *
    generalize hO : (backK s l k).1 = O at *
    generalize hh : (backK s l k).2 = sh at *
    generalize he : ge l k = e at *
    have hmid : (s.extract q.toNat e.f0.toNat).size = e.f0.toNat - q.toNat := by rw [ByteArray.size_extract]; omega
    have hsz : (accA s l (k + 1)).1.size = A.size + (e.f0.toNat - q.toNat) + e.f2.size := by rw [hacc, ByteArray.size_append, ByteArray.size_append, hmid]
    have htouch : touchN l (k + 1) = touchN l k + (if 0 < k ∧ e.f0 = (ge l (k - 1)).f1 then 1 else 0) := by simp only [touchN]; rw [he]
    have hqk : 0 < k → q = (ge l (k - 1)).f1 := fun h0 => by rw [← hq]; exact acc_at s l k h0
    have hmem : ∀ x ∈ O, x.f0.toNat ≤ A.size := fun x hx => by have := sord_mem i2 x hx; omega
    have hgrow : ∀ st, accF (accA s l (k + 1)).1 st O = accF A st O := fun st => by
      rw [hacc]
      dsimp only
      rw [ByteArray.append_assoc]
      exact accF_grow A _ O st hmem
    have hb1 : (backK s l (k + 1)).1 = (if (0 : Int) ≤ (O.length : Int) - 1 ∧ (ge O (O.length - 1)).f1 = e.f0 + sh then O.set (O.length - 1) ⟨(ge O (O.length - 1)).f0, (ge O (O.length - 1)).f1 + (e.f2.size : Int), (ge O (O.length - 1)).f2 ++ s.extract e.f0.toNat e.f1.toNat⟩ else O ++ [⟨e.f0 + sh, e.f0 + sh + (e.f2.size : Int), s.extract e.f0.toNat e.f1.toNat⟩]) := by
      rw [hb]; unfold backStep; rw [hO, hh]
    have hb2 : (backK s l (k + 1)).2 = sh + ((e.f2.size : Int) - (e.f1 - e.f0)) := by rw [hb]; unfold backStep; rw [hh]
    have hend : s.extract 0 q.toNat ++ s.extract q.toNat e.f0.toNat ++ s.extract e.f0.toNat e.f1.toNat = s.extract 0 e.f1.toNat := by
      rw [ex_app s (Nat.zero_le _) (by omega), ex_app s (Nat.zero_le _) (by omega)]
    by_cases c : (0 : Int) ≤ (O.length : Int) - 1 ∧ (ge O (O.length - 1)).f1 = e.f0 + sh
    · -- touching
      rw [if_pos c] at hb1
      rcases i6 with ⟨_, hn⟩ | ⟨hk0, o, x, hox, hxe⟩
      · rw [hn] at c; simp at c
      subst hox
      rw [ge_snoc] at c hb1
      rw [set_snoc] at hb1
      have hf0 : e.f0 = q := by omega
      obtain ⟨j1, j2, j3, j4⟩ := sord_snoc.1 i2
      have hoA : accF A (ByteArray.empty, 0) (o ++ [x]) = stp A (accF A (ByteArray.empty, 0) o) x := accF_snoc A o x _
      have hgo : accF (accA s l (k + 1)).1 (ByteArray.empty, 0) o = accF A (ByteArray.empty, 0) o := by
        rw [hacc]
        dsimp only
        rw [ByteArray.append_assoc]
        exact accF_grow A _ o _ (fun y hy => hmem y (List.mem_append_left _ hy))
      rw [hoA] at i3 i4
      have hx0 : x.f0.toNat ≤ A.size := by omega
      have hnew : accF (accA s l (k + 1)).1 (ByteArray.empty, 0) (o ++ [(⟨x.f0, x.f1 + (e.f2.size : Int), x.f2 ++ s.extract e.f0.toNat e.f1.toNat⟩ : Edit)]) = ((accF A (ByteArray.empty, 0) o).1 ++ A.extract (accF A (ByteArray.empty, 0) o).2.toNat x.f0.toNat ++ (x.f2 ++ s.extract e.f0.toNat e.f1.toNat), x.f1 + (e.f2.size : Int)) := by
        rw [accF_snoc, hgo]
        unfold stp
        dsimp only
        rw [hacc]
        dsimp only
        rw [ByteArray.append_assoc (a := A), ext_left A _ hx0]
      have i3' : (accF A (ByteArray.empty, 0) o).1 ++ A.extract (accF A (ByteArray.empty, 0) o).2.toNat x.f0.toNat ++ x.f2 ++ A.extract x.f1.toNat A.size = s.extract 0 q.toNat := i3
      rw [show x.f1.toNat = A.size by omega, ex_none, app_none] at i3'
      refine ⟨?_, ?_, ?_, ?_, ?_, ?_⟩
      · rw [hb2, hsz, hacc]; dsimp only; omega
      · rw [hb1, hsz]
        exact sord_snoc.2 ⟨sord_size (by omega) j1, j2, by dsimp only; omega, by dsimp only; omega⟩
      · rw [hb1, hnew, hsz]
        dsimp only
        rw [show (x.f1 + (e.f2.size : Int)).toNat = A.size + (e.f0.toNat - q.toNat) + e.f2.size by omega, ex_none, app_none, ← ByteArray.append_assoc, i3', hacc]
        dsimp only
        rw [hf0, ex_app s (Nat.zero_le _) (by omega)]
      · rw [hb1, hnew, hsz]
        dsimp only
        omega
      · rw [hb1, htouch, if_pos ⟨hk0, by rw [hf0]; exact hqk hk0⟩]
        simp only [List.length_append, List.length_singleton] at i5 ⊢
        omega
      · exact .inr ⟨by omega, o, _, hb1, by rw [hsz]; dsimp only; omega⟩
    · -- apart
      rw [if_neg c] at hb1
      have hP : e.f0 + sh = ((A.size + (e.f0.toNat - q.toNat) : Nat) : Int) := by omega
      have hapart : ¬ (0 < k ∧ e.f0 = (ge l (k - 1)).f1) := by
        rintro ⟨hk0, hf⟩
        rw [← hqk hk0] at hf
        rcases i6 with ⟨hz, _⟩ | ⟨_, o, x, hox, hxe⟩
        · omega
        · apply c
          rw [hox, ge_snoc]
          refine ⟨by simp, by omega⟩
      have hlast : lastEnd 0 O ≤ e.f0 + sh := by
        rcases i6 with ⟨_, hn⟩ | ⟨hk0, o, x, hox, hxe⟩
        · rw [hn]; show (0 : Int) ≤ _; omega
        · rw [hox, lastEnd_snoc]
          have : e.f0 ≠ q := fun hz => hapart ⟨hk0, by rw [hz]; exact hqk hk0⟩
          omega
      have hnew : accF (accA s l (k + 1)).1 (ByteArray.empty, 0) (O ++ [(⟨e.f0 + sh, e.f0 + sh + (e.f2.size : Int), s.extract e.f0.toNat e.f1.toNat⟩ : Edit)]) = ((accF A (ByteArray.empty, 0) O).1 ++ A.extract (accF A (ByteArray.empty, 0) O).2.toNat A.size ++ s.extract q.toNat e.f0.toNat ++ s.extract e.f0.toNat e.f1.toNat, e.f0 + sh + (e.f2.size : Int)) := by
        rw [accF_snoc, hgrow]
        unfold stp
        dsimp only
        have ee : (accA s l (k + 1)).1.extract (accF A (ByteArray.empty, 0) O).2.toNat (e.f0 + sh).toNat = A.extract (accF A (ByteArray.empty, 0) O).2.toNat A.size ++ s.extract q.toNat e.f0.toNat := by
          rw [← ex_app (accA s l (k + 1)).1 (b := A.size) (by omega) (by omega), hacc]
          dsimp only
          rw [ByteArray.append_assoc, ext_left A _ (Nat.le_refl _), ext_right A _ (Nat.le_refl _), Nat.sub_self, show (e.f0 + sh).toNat - A.size = e.f0.toNat - q.toNat by omega, ext_left _ _ (by rw [hmid]; exact Nat.le_refl _), ext_full _ (by rw [hmid]; exact Nat.le_refl _)]
        rw [ee]
        simp only [ByteArray.append_assoc]
      refine ⟨?_, ?_, ?_, ?_, ?_, ?_⟩
      · rw [hb2, hsz, hacc]; dsimp only; omega
      · rw [hb1, hsz]
        exact sord_snoc.2 ⟨sord_size (by omega) i2, hlast, by dsimp only; omega, by dsimp only; omega⟩
      · rw [hb1, hnew, hsz]
        dsimp only
        rw [show (e.f0 + sh + (e.f2.size : Int)).toNat = A.size + (e.f0.toNat - q.toNat) + e.f2.size by omega, ex_none, app_none, i3, hend, hacc]
      · rw [hb1, hnew, hsz]
        dsimp only
        omega
      · rw [hb1, htouch, if_neg hapart]
        simp only [List.length_append, List.length_singleton]
        omega
      · exact .inr ⟨by omega, O, _, hb1, by rw [hsz]; dsimp only; omega⟩
/-- Undone. -/
theorem back_done {s : ByteArray} {l : List Edit} (h : InOrd s.size l) : applyV (doneV s l) (backV s l) = some s ∧ ((backV s l).length : Int) = l.length - touchN l l.length := by
  obtain ⟨i1, i2, i3, i4, i5, i6⟩ := back_inv h l.length (Nat.le_refl _)
  have hat : 0 ≤ (accA s l l.length).2 ∧ (accA s l l.length).2 ≤ s.size := by
    rcases Nat.eq_zero_or_pos l.length with h0 | h0
    · rw [h0]; exact ⟨Int.le_refl _, by show (0 : Int) ≤ s.size; omega⟩
    · rw [acc_at s l _ h0]
      obtain ⟨a, b, c, _⟩ := h (l.length - 1) (by omega)
      dsimp only [ge] at *
      omega
  have hd : doneV s l = (accA s l l.length).1 ++ s.extract (accA s l l.length).2.toNat s.size := rfl
  have hmem : ∀ x ∈ backV s l, x.f0.toNat ≤ (accA s l l.length).1.size := fun x hx => by have := sord_mem i2 x hx; omega
  refine ⟨?_, by unfold backV; omega⟩
  have ho : InOrd (doneV s l).size (backV s l) := fun i hi => (sord_ord (Int.le_refl _) (sord_size (by rw [hd, ByteArray.size_append]; omega) i2) i hi).2
  unfold applyV
  rw [if_pos ho]
  congr 1
  rw [done_fold]
  rw [hd] at *
  rw [accF_grow _ _ _ _ hmem]
  have e1 : ((accA s l l.length).1 ++ s.extract (accA s l l.length).2.toNat s.size).extract (accF (accA s l l.length).1 (ByteArray.empty, 0) (backV s l)).2.toNat ((accA s l l.length).1 ++ s.extract (accA s l l.length).2.toNat s.size).size = (accA s l l.length).1.extract (accF (accA s l l.length).1 (ByteArray.empty, 0) (backV s l)).2.toNat (accA s l l.length).1.size ++ s.extract (accA s l l.length).2.toNat s.size := by
    have i4' : 0 ≤ (accF (accA s l l.length).1 (ByteArray.empty, 0) (backV s l)).2 ∧ (accF (accA s l l.length).1 (ByteArray.empty, 0) (backV s l)).2 ≤ (accA s l l.length).1.size := i4
    rw [← ex_app _ (b := (accA s l l.length).1.size) (by omega) (by rw [ByteArray.size_append]; omega), ext_left _ _ (Nat.le_refl _), ext_right _ _ (Nat.le_refl _), Nat.sub_self, ext_full _ (by rw [ByteArray.size_append]; omega)]
  rw [e1, ← ByteArray.append_assoc]
  have i3' : (accF (accA s l l.length).1 (ByteArray.empty, 0) (backV s l)).1 ++ (accA s l l.length).1.extract (accF (accA s l l.length).1 (ByteArray.empty, 0) (backV s l)).2.toNat (accA s l l.length).1.size = s.extract 0 (accA s l l.length).2.toNat := i3
  rw [i3', ex_app s (Nat.zero_le _) (by omega), ex_all]
theorem apply_ord {s : ByteArray} {l : List Edit} (h : (applyV s l).isSome = true) : InOrd s.size l := by
  unfold applyV at h
  split at h
  · assumption
  · cases h
theorem getD_set0 {l : List Edit} {i : Nat} (x : Edit) (h : i < l.length) (z : Edit) : (l.set i x).getD i z = x := by
  rw [List.getD_eq_getElem?_getD, List.getElem?_set_self h]
  rfl
/-- What the walk must know of it. -/
theorem back_facts {s : ByteArray} {l : List Edit} (h : InOrd s.size l) (hs : s.size ≤ 300) (hF : FewE l) {k : Nat} (hk : k ≤ l.length) : -1000000000000 ≤ (backK s l k).2 ∧ (backK s l k).2 ≤ 1000000000000 ∧ (backK s l k).1.length ≤ k ∧ ∀ e ∈ (backK s l k).1, 0 ≤ e.f0 ∧ e.f0 ≤ e.f1 ∧ e.f1 ≤ 1000000000000 := by
  obtain ⟨i1, i2, i3, i4, i5, i6⟩ := back_inv h k hk
  have hr := acc_room s l (by omega) (by have := hF.1; omega) (fun e he => by have := hF.2 e he; omega) k hk
  have ht := touch_bound l k
  have hat : 0 ≤ (accA s l k).2 ∧ (accA s l k).2 ≤ s.size := by
    rcases Nat.eq_zero_or_pos k with h0 | h0
    · rw [h0]; exact ⟨Int.le_refl _, by show (0 : Int) ≤ s.size; omega⟩
    · rw [acc_at s l _ h0]
      obtain ⟨a, b, c, _⟩ := h (k - 1) (by omega)
      dsimp only [ge] at *
      omega
  refine ⟨by omega, by omega, by omega, fun e he => ?_⟩
  have := sord_mem i2 e he
  omega
theorem back_text0 {s : ByteArray} {l : List Edit} : ∀ k, ∀ e ∈ (backK s l k).1, e.f2.size ≤ k * s.size
  | 0, e, he => by cases he
  | k + 1, e, he => by
    have ih := back_text0 (s := s) (l := l) k
    have hx : (s.extract (ge l k).f0.toNat (ge l k).f1.toNat).size ≤ s.size := by rw [ByteArray.size_extract]; omega
    rw [Nat.succ_mul]
    have hb : backK s l (k + 1) = backStep s (ge l k) (backK s l k) := rfl
    rw [hb] at he
    unfold backStep at he
    dsimp only at he
    split at he
    · rename_i c
      rcases List.mem_or_eq_of_mem_set he with h | h
      · have := ih e h; omega
      · have hl := ih _ (ge_mem (l := (backK s l k).1) (i := (backK s l k).1.length - 1) (by omega))
        rw [h]
        dsimp only
        rw [ByteArray.size_append]
        omega
    · rcases List.mem_append.1 he with h | h
      · have := ih e h; omega
      · rw [List.mem_singleton.1 h]
        dsimp only
        omega
theorem back_text {s : ByteArray} {l : List Edit} (h : InOrd s.size l) (hs : s.size ≤ 300) (hF : FewE l) {k : Nat} (hk : k ≤ l.length) : ∀ e ∈ (backK s l k).1, e.f2.size ≤ 20000 := fun e he => by
  have h1 := back_text0 k e he
  have h2 := hF.1
  have : k * s.size ≤ 60 * 300 := Nat.mul_le_mul (by omega) hs
  omega
end Go.Proofs.Ytbakllppgekmoaa.Cmp
