/- The laws of diffs and of merged edits, in plain Lean. -/
import Derived.Test.YtbakllppgekmoaaCmpDiff
namespace Go.Proofs.Ytbakllppgekmoaa.Cmp
open Go Go.RowKit Go.Proofs.Ytbakllppgekmoaa.Given Go.Proofs.Ytbakllppgekmoaa.Kinds Go.Proofs.Ytbakllppgekmoaa.Rn Go.Proofs.YtbakllppgekmoaaW.PrintWords
set_option linter.unusedVariables false
set_option linter.unusedSimpArgs false
def Tr (s : ByteArray) : Prop := s.size ≤ 300 ∧ (refV s).2 < 0
theorem tri {a b c : ByteArray} (ha : Tr a) (hb : Tr b) (hc : Tr c) : costV a (diffV a c) ≤ costV a (diffV a b) + costV b (diffV b c) ∧ costV a (diffV a b) = costV b (diffV b a) ∧ 0 ≤ costV a (diffV a b) ∧ costV a (diffV a b) ≤ 1000 ∧ 0 ≤ costV b (diffV b c) ∧ costV b (diffV b c) ≤ 1000 := by
  obtain ⟨_, _, _, x, hx, ax, mx⟩ := diff_all ha.2 hb.2 ha.1 hb.1
  obtain ⟨_, _, _, y, hy, ay, my⟩ := diff_all hb.2 hc.2 hb.1 hc.1
  obtain ⟨_, _, _, z, hz, az, mz⟩ := diff_all ha.2 hc.2 ha.1 hc.1
  obtain ⟨_, _, _, v, hv, av, mv⟩ := diff_all hb.2 ha.2 hb.1 ha.1
  obtain ⟨d, h1, h2⟩ := al_trans ax ay
  have h3 := mz d h2
  have h4 := mx v (al_symm av)
  have h5 := mv x (al_symm ax)
  have h6 := mx _ (al_all _ _)
  have h7 := my _ (al_all _ _)
  have l1 := letters_le a
  have l2 := letters_le b
  have l3 := letters_le c
  have := ha.1
  have := hb.1
  have := hc.1
  rw [hx, hy, hz, hv]
  omega
theorem diff_tiny {a b : ByteArray} (ha : Tr a) (hb : Tr b) : (diffV a b).length ≤ 1000 ∧ ∀ e ∈ diffV a b, e.f2.size ≤ 300 := by
  obtain ⟨h1, h2⟩ := diff_small a b
  have := ha.1
  have := hb.1
  exact ⟨by omega, fun e he => by have := h2 e he; omega⟩
/-! ### merged -/
theorem merge_nil1 : ∀ (l : List Edit), mergeV [] l = some l := by
  have : ∀ (n : Nat) (l : List Edit), l.length ≤ n → mergeN n [] l = some l := by
    intro n
    induction n with
    | zero => intro l h; cases l with
      | nil => rfl
      | cons x l => simp at h
    | succ n ih =>
      intro l h
      cases l with
      | nil => rfl
      | cons x l => simp only [mergeN]; rw [ih l (by simpa using h)]; rfl
  intro l
  unfold mergeV
  exact this _ l (by simp)
theorem merge_nil2 : ∀ (l : List Edit), mergeV l [] = some l := by
  have : ∀ (n : Nat) (l : List Edit), l.length ≤ n → mergeN n l [] = some l := by
    intro n
    induction n with
    | zero => intro l h; cases l with
      | nil => rfl
      | cons x l => simp at h
    | succ n ih =>
      intro l h
      cases l with
      | nil => rfl
      | cons x l => simp only [mergeN]; rw [ih l (by simpa using h)]; rfl
  intro l
  unfold mergeV
  exact this _ l (by simp)
theorem merge_same : ∀ (l : List Edit), mergeV l l = some l := by
  have : ∀ (n : Nat) (l : List Edit), l.length ≤ n → mergeN n l l = some l := by
    intro n
    induction n with
    | zero => intro l h; cases l with
      | nil => rfl
      | cons x l => simp at h
    | succ n ih =>
      intro l h
      cases l with
      | nil => rfl
      | cons x l => simp only [mergeN]; rw [if_pos True.intro, ih l (by simpa using h)]; rfl
  intro l
  unfold mergeV
  exact this _ l (by omega)
theorem srt_inord {size : Int} {l : List Edit} (h : Srt l) (hb : ∀ e ∈ l, 0 ≤ e.f0 ∧ e.f1 ≤ size) : InOrd size l := by
  intro i hi
  have hm := hb _ (ge_mem hi)
  have hv := h.2 _ (ge_mem hi)
  unfold OkAt
  refine ⟨hm.1, hv, hm.2, fun h0 => ?_⟩
  have hp := List.pairwise_iff_getElem.1 h.1 (i - 1) i (by omega) hi (by omega)
  have hg : ∀ j (hj : j < l.length), l.getD j z33 = l[j] := fun j hj => by rw [List.getD_eq_getElem?_getD, List.getElem?_eq_getElem hj]; rfl
  rw [← hg (i - 1) (by omega), ← hg i hi] at hp
  have hv2 := h.2 _ (ge_mem (show i - 1 < l.length by omega))
  unfold Ahead at hp
  unfold Vd at hv2
  dsimp only [ge] at *
  omega
theorem right_app {s t : ByteArray} (hs : (refV s).2 < 0) (ht : (refV t).2 < 0) : (refV (s ++ t)).2 < 0 := par_right (par_join (right_par hs) (right_par ht))
theorem right_none : (refV ByteArray.empty).2 < 0 := by decide +kernel
theorem between_zero {s : ByteArray} (hs : (refV s).2 < 0) : BetweenP s 0 := by
  have := ax_between hs (Nat.zero_le _)
  rwa [ax_zero hs] at this
theorem between_size (s : ByteArray) : BetweenP s s.size := .inr rfl
/-- Edits between runes, with right texts, leave a right text. -/
theorem fold_right {s : ByteArray} (hs : (refV s).2 < 0) : ∀ (l : List Edit) (st : ByteArray × Int), (∀ e ∈ l, Fine s s e) → (refV st.1).2 < 0 → BetweenP s st.2 → (∀ i, i < l.length → (ge l i).f0 ≤ (ge l i).f1 ∧ (if i = 0 then st.2 else (ge l (i - 1)).f1) ≤ (ge l i).f0) →
    (refV (accF s st l).1).2 < 0 ∧ BetweenP s (accF s st l).2
  | [], st, _, h1, h2, _ => ⟨h1, h2⟩
  | e :: l, st, hf, h1, h2, ho => by
    obtain ⟨f1, f2, f3⟩ := hf e List.mem_cons_self
    have h0 := ho 0 (by simp)
    have e0 : ge (e :: l) 0 = e := rfl
    rw [e0, if_pos rfl] at h0
    refine fold_right hs l (stp s st e) (fun q hq => hf q (List.mem_cons_of_mem _ hq)) ?_ f2 (fun i hi => ?_)
    · exact right_app (right_app h1 (sub_right hs h2 f1 h0.2)) f3
    · have := ho (i + 1) (by simpa using hi)
      have e1 : ge (e :: l) (i + 1) = ge l i := rfl
      rw [e1, if_neg (by omega), Nat.add_sub_cancel] at this
      refine ⟨this.1, ?_⟩
      cases i with
      | zero => rw [if_pos rfl]; exact this.2
      | succ i => rw [if_neg (by omega)]; exact this.2
theorem done_right {s : ByteArray} {l : List Edit} (hs : (refV s).2 < 0) (ho : InOrd s.size l) (hf : ∀ e ∈ l, Fine s s e) : (refV (doneV s l)).2 < 0 := by
  obtain ⟨h1, h2⟩ := fold_right hs l (ByteArray.empty, 0) hf right_none (between_zero hs) (fun i hi => by
    obtain ⟨a, b, c, d⟩ := ho i hi
    refine ⟨b, ?_⟩
    split
    · exact a
    · exact (d (by omega)).1)
  rw [done_fold]
  have hle := between_le hs h2
  have := sub_right hs h2 (between_size s) hle.2
  rw [Int.toNat_natCast] at this
  exact right_app h1 this
section
variable {s a b : ByteArray}
theorem three_some {x : ByteArray} (hs : Tr s) (ha : Tr a) (hb : Tr b) (h : threeV s a b = some x) : (refV x).2 < 0 := by
  obtain ⟨o1, _, n1, _⟩ := diff_all hs.2 ha.2 hs.1 ha.1
  obtain ⟨o2, _, n2, _⟩ := diff_all hs.2 hb.2 hs.1 hb.1
  unfold threeV at h
  obtain ⟨l, hl, hx⟩ := Option.bind_eq_some_iff.1 h
  have hm := mergeN_spec _ _ _ (Nat.le_refl _) (srt_of_ord o1) (srt_of_ord o2)
  unfold mergeV at hl
  rw [hl] at hm
  unfold applyV at hx
  split at hx
  · rename_i ho
    injection hx with hx
    rw [← hx]
    refine done_right hs.2 ho fun e he => ?_
    rcases (hm.2.1 e).1 he with h | h
    · exact n1 e h
    · exact n2 e h
  · cases hx
theorem three_symm (hs : Tr s) (ha : Tr a) (hb : Tr b) : threeV s b a = threeV s a b := by
  obtain ⟨o1, _, _, _⟩ := diff_all hs.2 ha.2 hs.1 ha.1
  obtain ⟨o2, _, _, _⟩ := diff_all hs.2 hb.2 hs.1 hb.1
  unfold threeV
  rw [merge_symm (srt_of_ord o1) (srt_of_ord o2)]
theorem apply_diff (hs : Tr s) (ha : Tr a) : applyV s (diffV s a) = some a := by
  obtain ⟨o1, d1, _, _⟩ := diff_all hs.2 ha.2 hs.1 ha.1
  unfold applyV
  rw [if_pos o1, d1]
theorem three_one (hs : Tr s) (ha : Tr a) : threeV s a s = some a ∧ threeV s s a = some a ∧ threeV s a a = some a := by
  unfold threeV
  rw [diff_self, merge_nil1, merge_nil2, merge_same]
  exact ⟨apply_diff hs ha, apply_diff hs ha, apply_diff hs ha⟩
theorem three_size (hs : Tr s) (ha : Tr a) (hb : Tr b) : ((threeV s a b).getD ByteArray.empty).size ≤ 300000000000 := by
  cases h : threeV s a b with
  | none => show ByteArray.empty.size ≤ _; decide
  | some x =>
    show x.size ≤ _
    have h1 := hs.1
    have h2 := ha.1
    have h3 := hb.1
    unfold threeV at h
    obtain ⟨l, hl, hx⟩ := Option.bind_eq_some_iff.1 h
    obtain ⟨m1, m2⟩ := merge_small hl (by omega) (by omega) (by omega)
    unfold applyV at hx
    split at hx
    · injection hx with hx
      have := acc_room s l (by omega) m1 m2 l.length (Nat.le_refl _)
      rw [← hx]
      unfold doneV
      rw [ByteArray.size_append, ByteArray.size_extract]
      omega
    · cases hx
theorem three_get (hs : Tr s) (ha : Tr a) (hb : Tr b) : (refV ((threeV s a b).getD ByteArray.empty)).2 < 0 := by
  cases h : threeV s a b with
  | none => exact right_none
  | some x => exact three_some hs ha hb h
end
end Go.Proofs.Ytbakllppgekmoaa.Cmp
