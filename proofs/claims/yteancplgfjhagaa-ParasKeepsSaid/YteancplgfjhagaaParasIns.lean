/- A text put into a text: the paragraphs then. -/
import Derived.Test.YteancplgfjhagaaParasEdit
import Derived.Test.YteancplgfjhagaaSxParasB
import Derived.Test.YteancplgfjhagaaSxPlain
namespace Go.Proofs.Yteancplgfjhagaa.Paras.B
open Go Go.RowKit Go.Proofs.YteancplgfjhagaaW.PrintWords Go.Proofs.Yteancplgfjhagaa.Kinds Go.Proofs.Yteancplgfjhagaa.Paras Go.Proofs.Yteancplgfjhagaa.Paras.C
set_option linter.unusedVariables false
set_option linter.unusedSimpArgs false
theorem place_cases {s : ByteArray} {a : Int} (h0 : 0 ≤ a) (h1 : a ≤ s.size) :
    (a = s.size ∧ openOf s = false ∧ (placeI (ixOf s) a).1 = (lensOf s).length ∧ (placeI (ixOf s) a).2 = 0) ∨
    (a = s.size ∧ openOf s = true ∧ 0 < (lensOf s).length ∧ (placeI (ixOf s) a).1 = (((lensOf s).length - 1 : Nat) : Int) ∧ (placeI (ixOf s) a).2 = (lensOf s).getD ((lensOf s).length - 1) 0) ∨
    (a < s.size ∧ ∃ j : Nat, (placeI (ixOf s) a).1 = (j : Int) ∧ j < (lensOf s).length ∧ ((lensOf s).take j).sum = a - (placeI (ixOf s) a).2 ∧ 0 ≤ (placeI (ixOf s) a).2 ∧ (placeI (ixOf s) a).2 < (lensOf s).getD j 0) := by
  have hl := lensOf_ok s
  unfold placeI
  rw [ix_size, ix_lens, ix_open]
  by_cases h2 : a = s.size ∧ openOf s = false
  · rw [if_pos h2]; exact .inl ⟨h2.1, h2.2, rfl, rfl⟩
  · rw [if_neg h2]
    by_cases h3 : a = s.size
    · rw [if_pos h3]
      have ho : openOf s = true := by
        cases ho : openOf s with
        | true => rfl
        | false => exact absurd ⟨h3, ho⟩ h2
      have hp : 0 < (lensOf s).length := by
        rw [open_eq] at ho
        exact lens_pos (of_decide_eq_true ho).1
      exact .inr (.inl ⟨h3, ho, hp, by simp only; omega, rfl⟩)
    · rw [if_neg h3]
      have h4 := findP_spec (l := lensOf s) h0 (by omega) hl.2.2
      have h5 := sum_take_succ (lensOf s) (findP (lensOf s) a) h4.1
      refine .inr (.inr ⟨by omega, findP (lensOf s) a, rfl, h4.1, ?_, ?_, ?_⟩)
      · simp only; omega
      · simp only; omega
      · simp only; omega
theorem take_len {u v : List UInt8} {n : Nat} (h : n = u.length) : (u ++ v).take n = u := by subst h; exact List.take_left
theorem drop_len {u v : List UInt8} {n : Nat} (h : n = u.length) : (u ++ v).drop n = v := by subst h; exact List.drop_left
theorem nn_take {q : List UInt8} (k : Nat) (hq : nn q ∨ ∃ q', q = q' ++ [10] ∧ nn q') (h : k < q.length ∨ nn q) : nn (q.take k) := by
  rcases hq with hq | ⟨q', hq, hq'⟩
  · exact fun b hb => hq b (List.mem_of_mem_take hb)
  · rcases h with h | h
    · rw [hq] at h ⊢
      simp at h
      rw [List.take_append_of_le_length (by omega)]
      exact fun b hb => hq' b (List.mem_of_mem_take hb)
    · exact fun b hb => h b (List.mem_of_mem_take hb)
theorem para_drop {q : List UInt8} (k : Nat) (hq : nn q ∨ ∃ q', q = q' ++ [10] ∧ nn q') : nn (q.drop k) ∨ ∃ q', q.drop k = q' ++ [10] ∧ nn q' := by
  rcases hq with hq | ⟨q', hq, hq'⟩
  · exact .inl fun b hb => hq b (List.mem_of_mem_drop hb)
  · by_cases h : k ≤ q'.length
    · refine .inr ⟨q'.drop k, by rw [hq, List.drop_append_of_le_length h], fun b hb => hq' b (List.mem_of_mem_drop hb)⟩
    · refine .inl ?_
      rw [hq, List.drop_eq_nil_of_le (by simp; omega)]
      exact fun _ h => by cases h
theorem para_len {q : List UInt8} (hq : nn q ∨ ∃ q', q = q' ++ [10] ∧ nn q') (h : q ≠ []) : lensB q = [(q.length : Int)] := by
  rcases hq with hq | ⟨q', hq, hq'⟩
  · exact lensB_nn hq h
  · rw [hq, lensB_line hq']; simp
theorem open_of {s s' : ByteArray} (h : shut (bs s') ↔ shut (bs s)) : openOf s' = openOf s := by
  rw [Bool.eq_iff_iff, open_shut, open_shut, h]
theorem shut_app {u v : List UInt8} (hu : shut u) (hv : shut v) : shut (u ++ v) := by
  by_cases h : v = []
  · rw [h, List.append_nil]; exact hu
  · exact (shut_last h).2 hv
/-- The middle of it: a text within a paragraph. -/
theorem mid_lens {q t : List UInt8} {k : Nat} (hq : nn q ∨ ∃ q', q = q' ++ [10] ∧ nn q') (hk : k ≤ q.length) (hk2 : k < q.length ∨ nn q) (ht : t ≠ []) {op : Bool} (ho : op = true ↔ ¬ shut t) :
    lensB (q.take k ++ t ++ q.drop k) = insL (lensB t) (k : Int) ((q.length : Int) - k) op := by
  have h1 := nn_take k hq hk2
  have h2 := lensB_glue (v := t) h1 ht
  have h3 := para_drop k hq
  have hlk : ((q.take k).length : Int) = k := by simp; omega
  have hld : ((q.drop k).length : Int) = (q.length : Int) - k := by simp; omega
  rw [hlk] at h2
  unfold insL
  by_cases h4 : op = true
  · rw [if_pos h4]
    have h5 : ¬ shut (q.take k ++ t) := fun e => (ho.1 h4) ((shut_last ht).1 e)
    rw [lensB_glueR h5 h3, h2, hld]
    simp
  · rw [if_neg h4]
    have h5 : shut (q.take k ++ t) := (shut_last ht).2 (Classical.not_not.1 fun e => h4 (ho.2 e))
    rw [lensB_append h5, h2]
    by_cases h6 : q.drop k = []
    · have : (q.length : Int) - k = 0 := by rw [← hld, h6]; rfl
      rw [if_neg (by omega), h6]; simp [lensB]
    · have : 0 < (q.drop k).length := List.length_pos_iff.2 h6
      rw [if_pos (by omega), para_len h3 h6, hld]
theorem ins_eq {s t s' : ByteArray} {a : Int} (h0 : 0 ≤ a) (h1 : a ≤ s.size) (ht : 0 < t.size) (he : bs s' = (bs s).take a.toNat ++ bs t ++ (bs s).drop a.toNat) :
    chgI ⟨(ixOf s).lens, (ixOf s).size + t.size, newOI (ixOf s) a t⟩ (placeI (ixOf s) a).1 (oldI (ixOf s) a) (newLI (ixOf s) a t) = ixOf s' := by
  have hl := lensOf_ok s
  have hls := bs_len s
  have hlt := bs_len t
  have hls' := bs_len s'
  have htn : bs t ≠ [] := fun e => by rw [e] at hlt; simp at hlt; omega
  have hsz : (s'.size : Int) = s.size + t.size := by
    rw [← hls', ← hls, ← hlt, he]
    simp; omega
  have hLs := lens_lensB s
  have hLt := lens_lensB t
  have hLs' := lens_lensB s'
  have hop : newOI (ixOf s) a t = openOf s' := by
    unfold newOI
    rw [ix_size, ix_open, ix_lens]
    by_cases h2 : a = s.size
    · have hd : (bs s).drop a.toNat = [] := List.drop_eq_nil_of_le (by omega)
      rw [hd, List.append_nil] at he
      have h3 : ((lensOf s).length : Int) - 1 ≤ (placeI (ixOf s) a).1 := by
        rcases place_cases h0 h1 with h | h | h
        · omega
        · omega
        · omega
      rw [if_pos ⟨h3, h2⟩]
      refine (open_of ?_).symm
      rw [he, shut_last htn]
    · rw [if_neg (fun e => h2 e.2)]
      refine (open_of ?_).symm
      have hd : (bs s).drop a.toNat ≠ [] := fun e => by have := congrArg List.length e; simp at this; omega
      rw [he, shut_last hd]
      conv => rhs; rw [← List.take_append_drop a.toNat (bs s)]
      rw [shut_last hd]
  have hmain : (lensOf s).take (placeI (ixOf s) a).1.toNat ++ newLI (ixOf s) a t ++ (lensOf s).drop ((placeI (ixOf s) a).1 + oldI (ixOf s) a).toNat = lensOf s' := by
    have inside : ∀ (p : Nat) (k : Nat), (placeI (ixOf s) a).1 = (p : Int) → (placeI (ixOf s) a).2 = (k : Int) → p < (lensOf s).length → ((lensOf s).take p).sum = a - k → (k : Int) ≤ (lensOf s).getD p 0 → ((k : Int) < (lensOf s).getD p 0 ∨ (a = s.size ∧ openOf s = true)) →
        (lensOf s).take (placeI (ixOf s) a).1.toNat ++ newLI (ixOf s) a t ++ (lensOf s).drop ((placeI (ixOf s) a).1 + oldI (ixOf s) a).toNat = lensOf s' := by
      intro p k hp hk hpl hsum hk1 hk2
      obtain ⟨u, w, e1, e2, e3, e4⟩ := cut_at p (bs s) (by rw [← hLs]; omega)
      have hw : lensB w = (lensOf s).getD p 0 :: (lensOf s).drop (p + 1) := by
        rw [e3, ← hLs, List.drop_eq_getElem_cons hpl]; simp [List.getD, hpl]
      obtain ⟨q, v, f1, f2, f3, f4⟩ := cut_at 1 w (by rw [hw]; simp)
      rw [hw] at f2 f3
      have f2 : lensB q = [(lensOf s).getD p 0] := f2
      have f3 : lensB v = (lensOf s).drop (p + 1) := f3
      obtain ⟨g1, g2, g3⟩ := one_para f2
      have hwn : w ≠ [] := fun e => by rw [e] at f1; simp at f1; exact g2 f1.1
      have hu : shut u := e4.resolve_right hwn
      have hul : (u.length : Int) = a - k := by rw [← lensB_sum, e2, ← hLs]; exact hsum
      have hqv : ¬ ((k : Int) < (lensOf s).getD p 0) → v = [] ∧ nn q := by
        intro hn
        obtain ⟨ha, ho⟩ := hk2.resolve_left hn
        have hlen : (bs s).length = u.length + (q.length + v.length) := by rw [e1, f1]; simp
        have hv0 : v.length = 0 := by omega
        have hv : v = [] := List.eq_nil_of_length_eq_zero hv0
        refine ⟨hv, ?_⟩
        rcases g3 with g3 | ⟨q', g3, _⟩
        · exact g3
        · exfalso
          apply (open_shut s).1 ho
          rw [e1, f1, hv, List.append_nil, g3]
          exact .inr ⟨u ++ q', by rw [List.append_assoc]⟩
      have hkq : k ≤ q.length := by omega
      have hm := mid_lens (k := k) g3 hkq (by
        by_cases hn : (k : Int) < (lensOf s).getD p 0
        · exact .inl (by omega)
        · exact .inr (hqv hn).2) htn (open_shut t)
      have hat : (bs s).take a.toNat = u ++ q.take k := by
        rw [e1, f1, show a.toNat = u.length + k by omega, List.take_length_add_append, List.take_append_of_le_length hkq]
      have had : (bs s).drop a.toNat = q.drop k ++ v := by
        rw [e1, f1, show a.toNat = u.length + k by omega, List.drop_length_add_append, List.drop_append_of_le_length hkq]
      have hs' : bs s' = u ++ ((q.take k ++ bs t ++ q.drop k) ++ v) := by
        rw [he, hat, had]; simp
      have hmv : lensB ((q.take k ++ bs t ++ q.drop k) ++ v) = lensB (q.take k ++ bs t ++ q.drop k) ++ lensB v := by
        by_cases hv : v = []
        · rw [hv]; simp [lensB]
        · have hqs := f4.resolve_right hv
          refine lensB_append ?_
          have hlt2 : k < q.length := by
            rcases Nat.lt_or_ge k q.length with h | h
            · exact h
            · exact absurd (hqv (by omega)).1 hv
          have hdn : q.drop k ≠ [] := fun e => by have := congrArg List.length e; simp at this; omega
          rw [shut_last hdn]
          have := hqs
          rw [← List.take_append_drop k q, shut_last hdn] at this
          exact this
      have hnew : newLI (ixOf s) a t = lensB (q.take k ++ bs t ++ q.drop k) := by
        unfold newLI
        rw [ix_lens, hp, hk, if_pos (by omega), hm, hLt, Int.toNat_natCast, g1]
      have hold : oldI (ixOf s) a = 1 := by unfold oldI; rw [ix_lens, hp, if_pos (by omega)]
      rw [hLs', hs', lensB_append hu, hmv, hnew, hold, hp, e2, f3, ← hLs, Int.toNat_natCast, show ((p : Int) + 1).toNat = p + 1 by omega, List.append_assoc]
    rcases place_cases h0 h1 with h | h | h
    · obtain ⟨ha, ho, hp, hk⟩ := h
      have hsh : shut (bs s) := Classical.not_not.1 fun e => by have := (open_shut s).2 e; rw [ho] at this; cases this
      have hd : (bs s).drop a.toNat = [] := List.drop_eq_nil_of_le (by omega)
      have hta : (bs s).take a.toNat = bs s := List.take_of_length_le (by omega)
      have hnew : newLI (ixOf s) a t = lensOf t := by unfold newLI; rw [ix_lens, hp, if_neg (by omega)]
      have hold : oldI (ixOf s) a = 0 := by unfold oldI; rw [ix_lens, hp, if_neg (by omega)]
      rw [hLs', he, hd, hta, List.append_nil, lensB_append hsh, hnew, hold, hp, ← hLs, ← hLt, Int.toNat_natCast, show (((lensOf s).length : Int) + 0).toNat = (lensOf s).length by omega, List.take_length, List.drop_length, List.append_nil]
    · obtain ⟨ha, ho, hpos, hp, hk⟩ := h
      have hg := getD_le hl.2.2 ((lensOf s).length - 1) (by omega)
      have hs1 := sum_take_succ (lensOf s) ((lensOf s).length - 1) (by omega)
      rw [show (lensOf s).length - 1 + 1 = (lensOf s).length by omega, List.take_length] at hs1
      refine inside ((lensOf s).length - 1) ((lensOf s).getD ((lensOf s).length - 1) 0).toNat hp (by rw [hk]; omega) (by omega) (by omega) (by omega) (.inr ⟨ha, ho⟩)
    · obtain ⟨ha, j, hp, hj, hsum, hk0, hk1⟩ := h
      exact inside j (placeI (ixOf s) a).2.toNat hp (by omega) hj (by omega) (by omega) (.inl (by omega))
  show (⟨(lensOf s).take (placeI (ixOf s) a).1.toNat ++ newLI (ixOf s) a t ++ (lensOf s).drop ((placeI (ixOf s) a).1 + oldI (ixOf s) a).toNat, (s.size : Int) + t.size, newOI (ixOf s) a t⟩ : IX) = ⟨lensOf s', (s'.size : Int), openOf s'⟩
  rw [hmain, hop, hsz]
end Go.Proofs.Yteancplgfjhagaa.Paras.B
