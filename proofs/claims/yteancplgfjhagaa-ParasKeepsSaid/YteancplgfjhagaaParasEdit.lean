/- Paragraphs of edited texts: plain laws over lists of bytes. -/
import Derived.Test.YteancplgfjhagaaParasTh
namespace Go.Proofs.Yteancplgfjhagaa.Paras
open Go Go.RowKit Go.Proofs.YteancplgfjhagaaW.PrintWords Go.Proofs.Yteancplgfjhagaa.Kinds
set_option linter.unusedVariables false
set_option linter.unusedSimpArgs false
/-- The lengths, from behind. -/
def lensB : List UInt8 → List Int
  | [] => []
  | b :: r => if b = 10 then 1 :: lensB r else match lensB r with
    | [] => [1]
    | n :: l => (n + 1) :: l
/-- No line end in it. -/
abbrev nn (u : List UInt8) : Prop := ∀ b ∈ u, b ≠ 10
/-- Empty, or a line end comes last. -/
def shut (u : List UInt8) : Prop := u = [] ∨ ∃ u', u = u' ++ [10]
theorem lensB_nil {u : List UInt8} : lensB u = [] ↔ u = [] := by
  cases u with
  | nil => simp [lensB]
  | cons b r =>
    simp only [lensB]
    constructor
    · intro h
      split at h
      · cases h
      · split at h <;> cases h
    · intro h; cases h
theorem shut_tail {b : UInt8} {r : List UInt8} (h : shut (b :: r)) (hr : r ≠ []) : shut r := by
  rcases h with h | ⟨u', h⟩
  · cases h
  · cases u' with
    | nil => simp at h; exact absurd h.2 hr
    | cons c u' => simp at h; exact .inr ⟨u', h.2⟩
theorem lensB_append : ∀ {u v : List UInt8}, shut u → lensB (u ++ v) = lensB u ++ lensB v
  | [], v, _ => rfl
  | b :: r, v, h => by
    by_cases hr : r = []
    · subst hr
      rcases h with h | ⟨u', h⟩
      · cases h
      · cases u' with
        | nil => simp at h; subst h; simp [lensB]
        | cons c u' => simp at h
    · have ih := lensB_append (v := v) (shut_tail h hr)
      simp only [List.cons_append, lensB]
      rw [ih]
      by_cases hb : b = 10
      · simp [hb]
      · rw [if_neg hb, if_neg hb]
        cases hl : lensB r with
        | nil => exact absurd (lensB_nil.1 hl) hr
        | cons n l => simp
theorem lensB_nn : ∀ {u : List UInt8}, nn u → u ≠ [] → lensB u = [(u.length : Int)]
  | [], _, h => absurd rfl h
  | [b], h, _ => by
    have := h b (by simp)
    simp [lensB, this]
  | b :: c :: r, h, _ => by
    have ih := lensB_nn (u := c :: r) (fun x hx => h x (List.mem_cons_of_mem _ hx)) (by simp)
    have hb := h b (by simp)
    rw [lensB, if_neg hb, ih]
    simp
theorem lensB_glue : ∀ {u v : List UInt8}, nn u → v ≠ [] → lensB (u ++ v) = (lensB v).set 0 ((lensB v).getD 0 0 + u.length)
  | [], v, _, hv => by
    cases hl : lensB v with
    | nil => exact absurd (lensB_nil.1 hl) hv
    | cons n l => simp [hl]
  | b :: r, v, h, hv => by
    have ih := lensB_glue (u := r) (v := v) (fun x hx => h x (List.mem_cons_of_mem _ hx)) hv
    have hb := h b (by simp)
    rw [List.cons_append, lensB, if_neg hb, ih]
    cases hl : lensB v with
    | nil => exact absurd (lensB_nil.1 hl) hv
    | cons n l => simp [Int.add_assoc]
theorem lensB_line {u : List UInt8} (h : nn u) : lensB (u ++ [10]) = [(u.length : Int) + 1] := by
  rw [lensB_glue h (by simp)]
  simp [lensB]; omega
/-- The first paragraph, and the rest. -/
theorem uncons (s : List UInt8) (hs : s ≠ []) : ∃ q r, s = q ++ r ∧ lensB s = (q.length : Int) :: lensB r ∧ ((nn q ∧ r = [] ∧ q ≠ []) ∨ ∃ q', q = q' ++ [10] ∧ nn q') := by
  induction s with
  | nil => exact absurd rfl hs
  | cons b s ih =>
    by_cases hb : b = 10
    · refine ⟨[b], s, rfl, by simp [lensB, hb], .inr ⟨[], by simp [hb], fun _ h => by cases h⟩⟩
    · by_cases h0 : s = []
      · subst h0
        exact ⟨[b], [], rfl, by simp [lensB, hb], .inl ⟨fun x hx => by simp at hx; rw [hx]; exact hb, rfl, by simp⟩⟩
      · obtain ⟨q, r, e, h1, h2⟩ := ih h0
        refine ⟨b :: q, r, by rw [e]; rfl, ?_, ?_⟩
        · rw [lensB, if_neg hb, h1]; simp
        · rcases h2 with ⟨h2, h3, h4⟩ | ⟨q', h2, h3⟩
          · exact .inl ⟨fun x hx => by rcases List.mem_cons.1 hx with rfl | hx; exact hb; exact h2 x hx, h3, by simp⟩
          · exact .inr ⟨b :: q', by rw [h2]; rfl, fun x hx => by rcases List.mem_cons.1 hx with rfl | hx; exact hb; exact h3 x hx⟩
theorem lensB_sum : ∀ s : List UInt8, (lensB s).sum = s.length
  | [] => rfl
  | b :: r => by
    have ih := lensB_sum r
    simp only [lensB]
    split
    · simp [ih]; omega
    · split
      · rename_i h; rw [h] at ih; simp at ih ⊢; simp [← List.length_eq_zero_iff] at *; omega
      · rename_i h; rw [h] at ih; simp at ih ⊢; omega
/-- Cut between paragraphs. -/
theorem cut_at : ∀ (p : Nat) (s : List UInt8), p ≤ (lensB s).length → ∃ u v, s = u ++ v ∧ lensB u = (lensB s).take p ∧ lensB v = (lensB s).drop p ∧ (shut u ∨ v = [])
  | 0, s, _ => ⟨[], s, rfl, by simp [lensB], by simp, .inl (.inl rfl)⟩
  | p + 1, s, h => by
    by_cases hs : s = []
    · subst hs; simp [lensB] at h
    · obtain ⟨q, r, e, h1, h2⟩ := uncons s hs
      rw [h1] at h ⊢
      simp only [List.length_cons] at h
      obtain ⟨u, v, e2, h3, h4, h5⟩ := cut_at p r (by omega)
      rcases h2 with ⟨h2, h6, h7⟩ | ⟨q', h2, h6⟩
      · subst h6
        have hu : u = [] ∧ v = [] := by simpa using e2.symm
        refine ⟨q, [], by simpa using e, ?_, by simp [hu.2] at h4 ⊢; exact h4, .inr rfl⟩
        rw [lensB_nn h2 h7, List.take_succ_cons, ← h3, hu.1]; rfl
      · have hq : shut q := .inr ⟨q', h2⟩
        refine ⟨q ++ u, v, by rw [e, e2, List.append_assoc], ?_, by simpa using h4, ?_⟩
        · rw [lensB_append hq, h2, lensB_line h6, List.take_succ_cons, ← h3]; simp
        · rcases h5 with h5 | h5
          · refine .inl ?_
            rcases h5 with h5 | ⟨u', h5⟩
            · rw [h5, List.append_nil]; exact hq
            · exact .inr ⟨q ++ u', by rw [h5, List.append_assoc]⟩
          · exact .inr h5
/-- One paragraph alone: its text has no line end but at the end. -/
theorem one_para {q : List UInt8} {n : Int} (h : lensB q = [n]) : n = q.length ∧ q ≠ [] ∧ (nn q ∨ ∃ q', q = q' ++ [10] ∧ nn q') := by
  have hq : q ≠ [] := fun e => by rw [e] at h; cases h
  obtain ⟨q1, r, e, h1, h2⟩ := uncons q hq
  rw [h1] at h
  injection h with h3 h4
  have hr := lensB_nil.1 h4
  subst hr
  rw [List.append_nil] at e
  subst e
  refine ⟨h3.symm, hq, ?_⟩
  rcases h2 with h2 | h2
  · exact .inl h2.1
  · exact .inr h2
/-- Text behind an open end goes on with the last paragraph. -/
theorem lensB_glueR {w q : List UInt8} (hw : ¬ shut w) (hq : nn q ∨ ∃ q', q = q' ++ [10] ∧ nn q') : lensB (w ++ q) = (lensB w).set ((lensB w).length - 1) ((lensB w).getD ((lensB w).length - 1) 0 + q.length) := by
  have hw0 : w ≠ [] := fun e => hw (.inl e)
  have hl : 0 < (lensB w).length := by
    rcases Nat.eq_zero_or_pos (lensB w).length with h | h
    · exact absurd (lensB_nil.1 (List.eq_nil_of_length_eq_zero h)) hw0
    · exact h
  obtain ⟨u, v, e, h1, h2, h3⟩ := cut_at ((lensB w).length - 1) w (by omega)
  have hv : lensB v = [(lensB w).getD ((lensB w).length - 1) 0] := by
    rw [h2, List.drop_eq_getElem_cons (by omega), List.drop_eq_nil_of_le (by omega)]
    simp [List.getD, show (lensB w).length - 1 < (lensB w).length by omega]
  obtain ⟨h4, h5, h6⟩ := one_para hv
  have hvn : nn v := by
    rcases h6 with h6 | ⟨v', h6, _⟩
    · exact h6
    · exact absurd (.inr ⟨u ++ v', by rw [e, h6, List.append_assoc]⟩) hw
  have hu : shut u := by
    rcases h3 with h3 | h3
    · exact h3
    · exact absurd h3 h5
  have e1 : lensB (v ++ q) = [(v.length : Int) + q.length] := by
    rcases hq with hq | ⟨q', hq, hq'⟩
    · rw [lensB_nn (fun b hb => (List.mem_append.1 hb).elim (hvn b) (hq b)) (by simp [h5])]; simp
    · rw [hq, ← List.append_assoc, lensB_line (fun b hb => (List.mem_append.1 hb).elim (hvn b) (hq' b))]; simp; omega
  have e2 : lensB w = lensB u ++ [(v.length : Int)] := by rw [e, lensB_append hu, hv, h4]
  rw [show w ++ q = u ++ (v ++ q) by rw [e, List.append_assoc], lensB_append hu, e1, e2]
  simp
theorem shut_last {u v : List UInt8} (hv : v ≠ []) : shut (u ++ v) ↔ shut v := by
  constructor
  · rintro (h | ⟨w, h⟩)
    · simp at h; exact absurd h.2 hv
    · obtain ⟨v', b, rfl⟩ : ∃ v' b, v = v' ++ [b] := ⟨v.dropLast, v.getLast hv, (List.dropLast_concat_getLast hv).symm⟩
      rw [← List.append_assoc] at h
      have := List.append_inj_right' h rfl
      simp at this
      exact .inr ⟨v', by rw [this]⟩
  · rintro (h | ⟨w, h⟩)
    · exact absurd h hv
    · exact .inr ⟨u ++ w, by rw [h, List.append_assoc]⟩
/-! ### the two ways to the lengths -/
def bs (s : ByteArray) : List UInt8 := s.data.toList
theorem bs_len (s : ByteArray) : (bs s).length = s.size := by unfold bs; rw [Array.length_toList]; rfl
theorem byte_at (s : ByteArray) (k : Nat) : Sx.byteAt s k = 10 ↔ (bs s).getD k 0 = 10 := by
  unfold Sx.byteAt bs
  constructor
  · intro h
    apply UInt8.toNat_inj.1
    have : ((s.data.toList.getD k 0).toNat : Int) = ((10 : UInt8).toNat : Int) := h
    omega
  · intro h; rw [h]; rfl
theorem cut_lensB (s : ByteArray) (k : Nat) (hk : k ≤ s.size) : lensB ((bs s).take (cut s k).2) = (cut s k).1 ∧ shut ((bs s).take (cut s k).2) ∧ nn (((bs s).take k).drop (cut s k).2) := by
  induction k with
  | zero => exact ⟨by simp [cut, lensB], .inl (by simp [cut]), fun b hb => by simp at hb⟩
  | succ k ih =>
    obtain ⟨h1, h2, h3⟩ := ih (by omega)
    have hle := (cut_le s k).1
    have hlen := bs_len s
    have et : (bs s).take (k + 1) = (bs s).take k ++ [(bs s).getD k 0] := by
      rw [List.take_succ_eq_append_getElem (by omega)]; simp [List.getD, show k < (bs s).length by omega]
    by_cases h : Sx.byteAt s k = 10
    · have hb := (byte_at s k).1 h
      rw [cut_nl h]
      simp only
      rw [hb] at et
      have e2 : (bs s).take k = (bs s).take (cut s k).2 ++ ((bs s).take k).drop (cut s k).2 := by
        conv => lhs; rw [← List.take_append_drop (cut s k).2 ((bs s).take k)]
        rw [List.take_take, Nat.min_eq_left hle]
      refine ⟨?_, ?_, ?_⟩
      · rw [et, e2, List.append_assoc, lensB_append h2, h1, lensB_line h3]
        congr 2
        simp only [List.length_drop, List.length_take]
        omega
      · rw [et]; exact .inr ⟨_, rfl⟩
      · rw [List.drop_eq_nil_of_le (by simp only [List.length_take]; omega)]; exact fun _ h => by cases h
    · have hb : ¬ (bs s).getD k 0 = 10 := fun e => h ((byte_at s k).2 e)
      rw [cut_no h]
      refine ⟨h1, h2, ?_⟩
      rw [et, List.drop_append_of_le_length (by simp only [List.length_take]; omega)]
      intro b hb2
      rcases List.mem_append.1 hb2 with hb2 | hb2
      · exact h3 b hb2
      · rw [List.mem_singleton.1 hb2]; exact hb
theorem lens_lensB (s : ByteArray) : lensOf s = lensB (bs s) := by
  obtain ⟨h1, h2, h3⟩ := cut_lensB s s.size (Nat.le_refl _)
  have hlen := bs_len s
  have hle := (cut_le s s.size).1
  have e : bs s = (bs s).take (cut s s.size).2 ++ (bs s).drop (cut s s.size).2 := (List.take_append_drop _ _).symm
  rw [List.take_of_length_le (by omega)] at h3
  unfold lensOf
  by_cases h : ((cut s s.size).2 : Int) < s.size
  · rw [if_pos h, e, lensB_append h2, h1, lensB_nn h3 (by intro e; have := congrArg List.length e; simp at this; omega)]
    congr 2
    simp only [List.length_drop]; omega
  · rw [if_neg h, e, List.drop_eq_nil_of_le (by omega), List.append_nil, h1]
theorem open_shut (s : ByteArray) : openOf s = true ↔ ¬ shut (bs s) := by
  rw [open_eq, decide_eq_true_iff]
  have hlen := bs_len s
  constructor
  · rintro ⟨h1, h2⟩ (h | ⟨u, h⟩)
    · rw [h] at hlen; simp at hlen; omega
    · apply h2
      rw [byte_at, h]
      rw [h] at hlen
      simp at hlen
      rw [← hlen]; simp [List.getD]
  · intro h
    have h0 : bs s ≠ [] := fun e => h (.inl e)
    have hl : 0 < s.size := by rw [← hlen]; exact List.length_pos_iff.2 h0
    refine ⟨hl, fun e => h (.inr ⟨(bs s).dropLast, ?_⟩)⟩
    have := List.dropLast_concat_getLast h0
    rw [byte_at, ← hlen] at e
    have e2 : (bs s).getLast h0 = (bs s).getD ((bs s).length - 1) 0 := by
      rw [List.getLast_eq_getElem]; simp [List.getD, show (bs s).length - 1 < (bs s).length by omega]
    rw [← e, ← e2]; exact this.symm
end Go.Proofs.Yteancplgfjhagaa.Paras
