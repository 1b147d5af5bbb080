/- Pruned by wip/prune.py. -/
import Derived.Test.YtbakllppgekmoaaQCmpLaws
namespace Go.Proofs.Ytbakllppgekmoaa.Cmp
open Go Go.RowKit Go.Proofs.Ytbakllppgekmoaa.Given Go.Proofs.Ytbakllppgekmoaa.Kinds Go.Proofs.Ytbakllppgekmoaa.Rn Go.Proofs.YtbakllppgekmoaaW.PrintWords
set_option linter.unusedVariables false
set_option linter.unusedSimpArgs false
theorem ext_left (A B : ByteArray) {x y : Nat} (h : y ≤ A.size) : (A ++ B).extract x y = A.extract x y := by
  apply ba_ext
  · rw [ByteArray.size_extract, ByteArray.size_extract, ByteArray.size_append]; omega
  · intro i hi
    rw [ByteArray.size_extract, ByteArray.size_append] at hi
    rw [bt_extract _ _ _ _ (by omega) (by omega) (by rw [ByteArray.size_append]; omega), bt_extract _ _ _ _ (by omega) (by omega) h, bt_append_left _ _ _ (by omega) (by omega)]
theorem ext_right (A B : ByteArray) {x y : Nat} (h : A.size ≤ x) : (A ++ B).extract x y = B.extract (x - A.size) (y - A.size) := by
  apply ba_ext
  · rw [ByteArray.size_extract, ByteArray.size_extract, ByteArray.size_append]; omega
  · intro i hi
    rw [ByteArray.size_extract, ByteArray.size_append] at hi
    have hy : (A ++ B).extract x y = (A ++ B).extract x (min y (A ++ B).size) := by
      apply ba_ext
      · rw [ByteArray.size_extract, ByteArray.size_extract]; omega
      · intro j hj
        rw [ByteArray.size_extract, ByteArray.size_append] at hj
        unfold bt
        rw [dif_pos (by rw [ByteArray.size_extract, ByteArray.size_append]; omega), dif_pos (by rw [ByteArray.size_extract, ByteArray.size_append]; omega), ByteArray.getElem_extract, ByteArray.getElem_extract]
    have hz : B.extract (x - A.size) (y - A.size) = B.extract (x - A.size) (min (y - A.size) B.size) := by
      apply ba_ext
      · rw [ByteArray.size_extract, ByteArray.size_extract]; omega
      · intro j hj
        rw [ByteArray.size_extract] at hj
        unfold bt
        rw [dif_pos (by rw [ByteArray.size_extract]; omega), dif_pos (by rw [ByteArray.size_extract]; omega), ByteArray.getElem_extract, ByteArray.getElem_extract]
    rw [hy, hz, bt_extract _ _ _ _ (by omega) (by rw [ByteArray.size_append]; omega) (Nat.min_le_right _ _), bt_extract _ _ _ _ (by omega) (by omega) (Nat.min_le_right _ _)]
    have := bt_append_right A B ((i : Int) + ((x - A.size : Nat) : Int)) (by omega)
    rw [← this]
    congr 1
    omega
theorem ext_full (B : ByteArray) {y : Nat} (h : B.size ≤ y) : B.extract 0 y = B := by
  apply ba_ext
  · rw [ByteArray.size_extract]; omega
  · intro i hi
    rw [ByteArray.size_extract] at hi
    unfold bt
    rw [dif_pos (by rw [ByteArray.size_extract]; omega), dif_pos (by omega), ByteArray.getElem_extract]
    congr 2
    simp
def refL (s : ByteArray) : List Edit → ByteArray
  | [] => s
  | e :: l => (refL s l).extract 0 e.f0.toNat ++ e.f2 ++ (refL s l).extract e.f1.toNat (refL s l).size
def tl (s : ByteArray) : Int → List Edit → ByteArray
  | lo, [] => s.extract lo.toNat s.size
  | lo, e :: l => s.extract lo.toNat e.f0.toNat ++ e.f2 ++ tl s e.f1 l
def OrdL (size : Int) : Int → List Edit → Prop
  | _, [] => True
  | lo, e :: l => lo ≤ e.f0 ∧ e.f0 ≤ e.f1 ∧ e.f1 ≤ size ∧ OrdL size e.f1 l
theorem ordL_drop {size : Int} {l : List Edit} (h : InOrd size l) : ∀ (m k : Nat), k + m = l.length → OrdL size (if k = 0 then 0 else (ge l (k - 1)).f1) (l.drop k)
  | 0, k, hk => by rw [List.drop_eq_nil_of_le (by omega)]; exact trivial
  | m + 1, k, hk => by
    have ih := ordL_drop h m (k + 1) (by omega)
    obtain ⟨a, b, c, d⟩ := h k (by omega)
    rw [drop_ge (by omega)]
    rw [if_neg (by omega), Nat.add_sub_cancel] at ih
    refine ⟨?_, b, c, ih⟩
    split
    · exact a
    · exact (d (by omega)).1
theorem refL_tl (s : ByteArray) : ∀ (l : List Edit) (lo : Int), 0 ≤ lo → lo ≤ s.size → OrdL s.size lo l → refL s l = s.extract 0 lo.toNat ++ tl s lo l
  | [], lo, h0, h1, _ => by
    simp only [refL, tl]
    rw [ex_app s (Nat.zero_le _) (by omega), ex_all]
  | e :: l, lo, h0, h1, ⟨a, b, c, d⟩ => by
    have ih := refL_tl s l e.f1 (by omega) c d
    have hsz : (s.extract 0 e.f1.toNat).size = e.f1.toNat := by rw [ByteArray.size_extract]; omega
    simp only [refL, tl]
    rw [ih, ext_left _ _ (by rw [hsz]; omega), ext_right _ _ (by rw [hsz]; exact Nat.le_refl _), hsz, Nat.sub_self, ext_full (tl s e.f1 l) (by rw [ByteArray.size_append, hsz]; omega)]
    have e1 : (s.extract 0 e.f1.toNat).extract 0 e.f0.toNat = s.extract 0 e.f0.toNat := by
      have := ext_left (s.extract 0 e.f1.toNat) (s.extract e.f1.toNat s.size) (x := 0) (y := e.f0.toNat) (by rw [hsz]; omega)
      rw [← this, ex_app s (Nat.zero_le _) (by omega), ex_all]
    rw [e1, ← ex_app s (a := 0) (b := lo.toNat) (c := e.f0.toNat) (Nat.zero_le _) (by omega)]
    simp only [ByteArray.append_assoc]
theorem acc_tl (s : ByteArray) : ∀ (l : List Edit) (st : ByteArray × Int), (accF s st l).1 ++ s.extract (accF s st l).2.toNat s.size = st.1 ++ tl s st.2 l
  | [], st => rfl
  | e :: l, st => by
    have := acc_tl s l (stp s st e)
    have e1 : accF s st (e :: l) = accF s (stp s st e) l := rfl
    rw [e1, this]
    simp only [tl, stp, ByteArray.append_assoc]
theorem ref_done {s : ByteArray} {l : List Edit} (h : InOrd s.size l) : refL s l = doneV s l := by
  have h1 := ordL_drop h l.length 0 (by omega)
  rw [if_pos rfl, List.drop_zero] at h1
  rw [refL_tl s l 0 (by omega) (by omega) h1, done_fold, acc_tl]
  show s.extract 0 0 ++ _ = _
  rw [ex_none]
theorem refL_step {s : ByteArray} {l : List Edit} {k : Nat} (h0 : 0 < k) (hk : k ≤ l.length) : refL s (l.drop (k - 1)) = (refL s (l.drop k)).extract 0 (ge l (k - 1)).f0.toNat ++ (ge l (k - 1)).f2 ++ (refL s (l.drop k)).extract (ge l (k - 1)).f1.toNat (refL s (l.drop k)).size := by
  rw [drop_ge (show k - 1 < l.length by omega), show k - 1 + 1 = k by omega]
  rfl
/-- Its size, on the way. -/
theorem refL_size (s : ByteArray) (m : Nat) : ∀ (l : List Edit) (lo : Int), 0 ≤ lo → lo ≤ s.size → OrdL s.size lo l → (∀ e ∈ l, e.f2.size ≤ m) → lo ≤ (refL s l).size ∧ (refL s l).size ≤ s.size + l.length * m
  | [], lo, h0, h1, _, _ => by simp [refL]; omega
  | e :: l, lo, h0, h1, ⟨a, b, c, d⟩, hm => by
    obtain ⟨i1, i2⟩ := refL_size s m l e.f1 (by omega) c d (fun q hq => hm q (List.mem_cons_of_mem _ hq))
    have h2 := hm e List.mem_cons_self
    simp only [refL, List.length_cons]
    rw [ByteArray.size_append, ByteArray.size_append, ByteArray.size_extract, ByteArray.size_extract, Nat.succ_mul]
    omega
theorem refL_room {s : ByteArray} {l : List Edit} (h : InOrd s.size l) (hs : s.size ≤ 300) (hF : FewE l) {k : Nat} (hk : k ≤ l.length) : (if k = 0 then 0 else (ge l (k - 1)).f1) ≤ ((refL s (l.drop k)).size : Int) ∧ (refL s (l.drop k)).size ≤ 100000 := by
  have h1 := ordL_drop h (l.length - k) k (by omega)
  have hb : 0 ≤ (if k = 0 then 0 else (ge l (k - 1)).f1) ∧ (if k = 0 then 0 else (ge l (k - 1)).f1) ≤ (s.size : Int) := by
    split
    · omega
    · obtain ⟨a, b, c, d⟩ := h (k - 1) (by omega)
      dsimp only [ge] at *
      omega
  obtain ⟨a, b⟩ := refL_size s 400 (l.drop k) _ hb.1 hb.2 h1 (fun e he => hF.2 e (List.mem_of_mem_drop he))
  refine ⟨a, ?_⟩
  have := hF.1
  have h3 : (l.drop k).length ≤ 60 := by rw [List.length_drop]; omega
  have h4 : (l.drop k).length * 400 ≤ 60 * 400 := Nat.mul_le_mul_right _ h3
  omega
def code1 (s : ByteArray) (e : Edit) : Int := if boundV s e.f0 ≠ 0 then boundV s e.f0 else if boundV s e.f1 ≠ 0 then boundV s e.f1 else checkV e.f2
def codeL (s : ByteArray) : List Edit → Int
  | [] => 0
  | e :: l => if code1 s e ≠ 0 then code1 s e else codeL s l
def codeV (s : ByteArray) (l : List Edit) : Int := if (applyV s l).isSome then codeL s l else 190
theorem codeL_next {s : ByteArray} {l : List Edit} {k : Nat} (hk : k < l.length) (h : code1 s (ge l k) = 0) : codeL s (l.drop k) = codeL s (l.drop (k + 1)) := by
  rw [drop_ge hk]
  simp only [codeL]
  rw [if_neg (by rw [h]; simp)]
theorem codeL_stop {s : ByteArray} {l : List Edit} {k : Nat} (hk : k < l.length) {c : Int} (h : code1 s (ge l k) = c) (hc : c ≠ 0) : codeL s (l.drop k) = c := by
  rw [drop_ge hk]
  simp only [codeL]
  rw [h, if_pos hc]
theorem codeL_end {s : ByteArray} {l : List Edit} {k : Nat} (hk : ¬ k < l.length) : codeL s (l.drop k) = 0 := by
  rw [List.drop_eq_nil_of_le (by omega)]
  rfl
theorem bound_between {s : ByteArray} (hs : (refV s).2 < 0) {a : Int} (h0 : 0 ≤ a) (h1 : a ≤ s.size) : boundV s a = if BetweenP s a then 0 else 21 := by
  have hp := par_place (right_par hs)
  unfold boundV
  rw [if_neg (by omega)]
  by_cases c : a < (s.size : Int)
  · have hpl := hp a h0 c
    by_cases b : BetweenP s a
    · rw [if_pos b, if_neg (fun z => ?_)]
      rcases between_or b with q | q
      · omega
      · rw [hpl.1 q] at z; exact absurd z.2 (by decide)
    · have hin : inside (bt s a) = true := by
        rw [← Bool.not_eq_false]
        intro hi
        obtain ⟨x, hx, hxa⟩ := hpl.2 hi
        exact b (.inl (List.mem_map.2 ⟨x, hx, hxa⟩))
      rw [if_neg b, if_pos ⟨c, hin⟩]
  · rw [if_neg (fun z => c z.1), if_pos (.inr (by omega))]
theorem check_right (t : ByteArray) : checkV t = if (refV t).2 < 0 then 0 else 20 := by
  unfold checkV
  rw [bad_ref]
  by_cases c : (refV t).2 < 0
  · rw [if_neg (by omega), if_pos c]
  · rw [if_pos (by omega), if_neg c]
theorem apply_ord {s : ByteArray} {l : List Edit} (h : (applyV s l).isSome = true) : InOrd s.size l := by
  unfold applyV at h
  split at h
  · assumption
  · cases h
end Go.Proofs.Ytbakllppgekmoaa.Cmp
