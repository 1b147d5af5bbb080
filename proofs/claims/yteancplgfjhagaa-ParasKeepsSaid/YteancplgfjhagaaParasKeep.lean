/- What an edit leaves ahead and behind. -/
import Derived.Test.YteancplgfjhagaaSxStep
namespace Go.Proofs.Yteancplgfjhagaa.Paras.G
open Go Go.RowKit Go.Proofs.YteancplgfjhagaaW.PrintWords Go.Proofs.Yteancplgfjhagaa.Kinds Go.Proofs.Yteancplgfjhagaa.Paras Go.Proofs.Yteancplgfjhagaa.Paras.B Go.Proofs.Yteancplgfjhagaa.Paras.C Go.Proofs.Yteancplgfjhagaa.Paras.D Go.Proofs.Yteancplgfjhagaa.Paras.E Go.Proofs.Yteancplgfjhagaa.Paras.F
set_option linter.unusedVariables false
set_option linter.unusedSimpArgs false
theorem bs_inj {s t : ByteArray} (h : bs s = bs t) : s = t := by
  cases s; cases t
  unfold bs at h
  congr 1
  exact Array.toList_inj.1 h
/-- What is told of an edit: so much ahead and behind stays. -/
def K (s w : ByteArray) (iv : Int × Int × Int) : Prop :=
  0 ≤ iv.1 ∧ 0 ≤ iv.2.1 ∧ 0 ≤ iv.2.2 ∧ 0 < iv.2.1 + iv.2.2 ∧ iv.1 + iv.2.1 < (startsOf s).length ∧ iv.1 + iv.2.2 < (startsOf w).length ∧ ((startsOf s).length : Int) - iv.2.1 = (startsOf w).length - iv.2.2 ∧
  0 ≤ (startsOf s).getD iv.1.toNat 0 ∧ (startsOf s).getD iv.1.toNat 0 ≤ s.size ∧ 0 ≤ (startsOf w).getD iv.1.toNat 0 ∧ (startsOf w).getD iv.1.toNat 0 ≤ w.size ∧
  0 ≤ (startsOf s).getD (iv.1 + iv.2.1).toNat 0 ∧ (startsOf s).getD (iv.1 + iv.2.1).toNat 0 ≤ s.size ∧ 0 ≤ (startsOf w).getD (iv.1 + iv.2.2).toNat 0 ∧ (startsOf w).getD (iv.1 + iv.2.2).toNat 0 ≤ w.size ∧
  s.extract 0 ((startsOf s).getD iv.1.toNat 0).toNat = w.extract 0 ((startsOf w).getD iv.1.toNat 0).toNat ∧
  s.extract ((startsOf s).getD (iv.1 + iv.2.1).toNat 0).toNat s.size = w.extract ((startsOf w).getD (iv.1 + iv.2.2).toNat 0).toNat w.size
theorem keep {s w : ByteArray} {f o : Nat} {N : List Int} {S1 X Y S2 : List UInt8} (hw : lensOf w = (lensOf s).take f ++ N ++ (lensOf s).drop (f + o)) (hfo : f + o ≤ (lensOf s).length) (hs : bs s = S1 ++ X ++ S2) (hb : bs w = S1 ++ Y ++ S2)
    (h1 : ((lensOf s).take f).sum ≤ S1.length) (h2 : ((lensOf s).drop (f + o)).sum ≤ S2.length) (hon : 0 < o + N.length) : K s w ((f : Int), (o : Int), (N.length : Int)) := by
  have hl := lensOf_ok s
  have hlw := lensOf_ok w
  have hls := starts_len s
  have hlw2 := starts_len w
  have hlen : (lensOf w).length = f + N.length + ((lensOf s).length - (f + o)) := by rw [hw]; simp; omega
  have e1 := starts_at s f (by omega)
  have e2 := starts_at s (f + o) (by omega)
  have e3 := starts_at w f (by omega)
  have e4 := starts_at w (f + N.length) (by omega)
  have t1 : (lensOf w).take f = (lensOf s).take f := by rw [hw, List.append_assoc, List.take_append_of_le_length (by simp; omega), List.take_take, Nat.min_self]
  have t2 : (lensOf w).drop (f + N.length) = (lensOf s).drop (f + o) := by
    rw [hw, List.drop_append, List.drop_eq_nil_of_le (by simp; omega), List.nil_append]
    simp [show f + N.length - (min f (lensOf s).length + N.length) = 0 by omega]
  have b1 := sum_take_le hl.2.2 f
  have b2 := sum_take_le hl.2.2 (f + o)
  have b3 := sum_take_le hlw.2.2 f
  have b4 := sum_take_le hlw.2.2 (f + N.length)
  have s1 := sum_split (lensOf s) (f + o)
  have s2 := sum_split (lensOf w) (f + N.length)
  rw [t2] at s2
  rw [t1] at e3
  have lS := bs_len s
  have lW := bs_len w
  have lS2 : s.size = S1.length + X.length + S2.length := by rw [← lS, hs]; simp; omega
  have lW2 : w.size = S1.length + Y.length + S2.length := by rw [← lW, hb]; simp; omega
  unfold K
  simp only
  rw [Int.toNat_natCast, show ((f : Int) + (o : Int)).toNat = f + o by omega, show ((f : Int) + (N.length : Int)).toNat = f + N.length by omega, e1, e2, e3, e4]
  refine ⟨by omega, by omega, by omega, by omega, by omega, by omega, by omega, b1.1, by omega, b1.1, by omega, b2.1, by omega, b4.1, by omega, ?_, ?_⟩
  · apply bs_inj
    rw [bs_ext, bs_ext, hs, hb, List.drop_zero, List.drop_zero, List.append_assoc, List.append_assoc, List.take_append_of_le_length (by omega), List.take_append_of_le_length (by omega)]
  · apply bs_inj
    rw [bs_ext, bs_ext, ← lS, ← lW, List.take_length, List.take_length, hs, hb]
    have g1 : (((lensOf s).take (f + o)).sum).toNat = (S1 ++ X).length + (S2.length - (((lensOf s).drop (f + o)).sum).toNat) := by simp; omega
    have g2 : (((lensOf w).take (f + N.length)).sum).toNat = (S1 ++ Y).length + (S2.length - (((lensOf s).drop (f + o)).sum).toNat) := by simp; omega
    rw [g1, g2, List.drop_length_add_append, List.drop_length_add_append]
theorem del_keeps {s : ByteArray} {a b : Int} : ((delI (ixOf s) a b).2.2 ≠ 0 → delS s a b = s) ∧ ((delI (ixOf s) a b).2.2 = 0 → (delI (ixOf s) a b).2.1.2.1 + (delI (ixOf s) a b).2.1.2.2 = 0 → delS s a b = s) ∧
    ((delI (ixOf s) a b).2.2 = 0 → (delI (ixOf s) a b).2.1.2.1 + (delI (ixOf s) a b).2.1.2.2 ≠ 0 → K s (delS s a b) (delI (ixOf s) a b).2.1) := by
  have hbad := del_bad (s := s) (a := a) (b := b)
  by_cases he : errI (ixOf s) a b ≠ 0
  · have h := hbad.1 he
    exact ⟨fun _ => h.1, fun _ _ => h.1, fun e => absurd (h.2.2.2.2.symm.trans e) he⟩
  · by_cases hab : a = b
    · have h := hbad.2 he hab
      exact ⟨fun _ => h.1, fun _ _ => h.1, fun _ e => by omega⟩
    · have hiv := del_iv he hab
      have hl := lensOf_ok s
      have hd := del_eq (s := s) (s' := delS s a b) (a := a) (b := b) (by omega) (by omega) (by omega) (by rw [hiv.2.2.2.1]; exact del_bs)
      have e1 := find_eq s a.toNat (by omega)
      rw [show ((a.toNat : Nat) : Int) = a by omega] at e1
      have hA := findP_spec (l := lensOf s) (a := a) (by omega) (by omega) hl.2.2
      have hB := findP_spec (l := lensOf s) (a := b - 1) (by omega) (by omega) hl.2.2
      have e2 := find_eq s (b - 1).toNat (by omega)
      rw [show (((b - 1).toNat : Nat) : Int) = b - 1 by omega] at e2
      rw [e1] at hA
      rw [e2] at hB
      have hiv2 : (delI (ixOf s) a b).2.1 = (((findP (lensOf s) a : Nat) : Int), oldD (ixOf s) a b, ((newD (ixOf s) a b).length : Int)) := by unfold delI; rw [if_neg he, if_neg hab]; rfl
      have hst := starts_len s
      have hold : 0 < (delI (ixOf s) a b).2.1.2.1 := by rcases hiv.2.2.2.2.2.2.2.2.2 with h | h <;> omega
      refine ⟨fun e => absurd hiv.2.2.2.2.1 e, fun _ e => ?_, fun _ _ => ?_⟩
      · exfalso
        rw [hiv2] at e hold
        have e : oldD (ixOf s) a b + ((newD (ixOf s) a b).length : Int) = 0 := e
        have hold : 0 < oldD (ixOf s) a b := hold
        omega
      · have hlens : (lensOf s).take (((findP (lensOf s) a : Nat) : Int)).toNat ++ newD (ixOf s) a b ++ (lensOf s).drop (((findP (lensOf s) a : Nat) : Int) + oldD (ixOf s) a b).toNat = lensOf (delS s a b) := congrArg (fun x => x.lens) hd
        have ho : oldD (ixOf s) a b = (((oldD (ixOf s) a b).toNat : Nat) : Int) := by rw [hiv2] at hold; have hold : 0 < oldD (ixOf s) a b := hold; omega
        have ho2 : (delI (ixOf s) a b).2.1.2.1 = oldD (ixOf s) a b := by rw [hiv2]
        rw [hiv2, ho, e1]
        rw [e1, Int.toNat_natCast] at hlens
        have hidx : ((nlc s a.toNat : Int) + oldD (ixOf s) a b).toNat = nlc s a.toNat + (oldD (ixOf s) a b).toNat := by omega
        rw [hidx] at hlens
        have hge : nlc s (b - 1).toNat + 1 ≤ nlc s a.toNat + (oldD (ixOf s) a b).toNat := by
          rcases hiv.2.2.2.2.2.2.2.2.2 with h | h
          · have := h.2.1; omega
          · have := h.2.1; omega
        have hle : nlc s a.toNat + (oldD (ixOf s) a b).toNat ≤ (lensOf s).length := by
          rcases hiv.2.2.2.2.2.2.2.2.2 with h | h
          · have := h.1.2.2; have := h.2.1; omega
          · have := h.2.1; omega
        have hmono := sum_take_mono hl.2.2 hge
        have hsp := sum_split (lensOf s) (nlc s a.toNat + (oldD (ixOf s) a b).toNat)
        have lS := bs_len s
        refine keep (S1 := (bs s).take a.toNat) (X := ((bs s).drop a.toNat).take (b - a).toNat) (Y := []) (S2 := (bs s).drop b.toNat) hlens.symm hle ?_ ?_ ?_ ?_ (by omega)
        · have h7 : (bs s).drop b.toNat = ((bs s).drop a.toNat).drop (b - a).toNat := by rw [List.drop_drop]; congr 1; omega
          rw [h7, List.append_assoc, List.take_append_drop, List.take_append_drop]
        · rw [hiv.2.2.2.1, del_bs, List.append_nil]
        · rw [List.length_take]; omega
        · rw [List.length_drop]; omega
theorem ins_keeps {s t : ByteArray} {a : Int} : ((insI (ixOf s) a t).2.2 ≠ 0 → insS s a t = s) ∧ ((insI (ixOf s) a t).2.2 = 0 → (insI (ixOf s) a t).2.1.2.1 + (insI (ixOf s) a t).2.1.2.2 = 0 → insS s a t = s) ∧
    ((insI (ixOf s) a t).2.2 = 0 → (insI (ixOf s) a t).2.1.2.1 + (insI (ixOf s) a t).2.1.2.2 ≠ 0 → K s (insS s a t) (insI (ixOf s) a t).2.1) := by
  have hbad := ins_bad (s := s) (t := t) (a := a)
  by_cases h1 : a < 0 ∨ (s.size : Int) < a
  · have h := hbad.1 h1
    exact ⟨fun _ => h.1, fun _ _ => h.1, fun e => by omega⟩
  · by_cases h2 : t = ByteArray.mk #[]
    · have h := hbad.2.1 h1 h2
      exact ⟨fun _ => h.1, fun _ _ => h.1, fun _ e => by omega⟩
    · by_cases h3 : 65536 - (s.size : Int) < t.size
      · have h := hbad.2.2 h1 h2 h3
        exact ⟨fun _ => h.1, fun _ _ => h.1, fun e => by omega⟩
      · have hiv := ins_iv (s := s) (t := t) (a := a) (by omega) (by omega) h2 h3
        have hsz := size_pos h2
        have hl := lensOf_ok s
        have hbw : bs (insS s a t) = (bs s).take a.toNat ++ bs t ++ (bs s).drop a.toNat := by rw [hiv.1]; exact ins_bs (by omega)
        have hd := ins_eq (s := s) (t := t) (s' := insS s a t) (a := a) (by omega) (by omega) hsz hbw
        have hiv2 : (insI (ixOf s) a t).2.1 = ((placeI (ixOf s) a).1, oldI (ixOf s) a, ((newLI (ixOf s) a t).length : Int)) := by unfold insI; rw [if_neg (by rw [ix_size]; omega), if_neg h2, if_neg (by rw [ix_size]; exact h3)]
        have hlens : (lensOf s).take (placeI (ixOf s) a).1.toNat ++ newLI (ixOf s) a t ++ (lensOf s).drop ((placeI (ixOf s) a).1 + oldI (ixOf s) a).toNat = lensOf (insS s a t) := congrArg (fun x => x.lens) hd
        have hold : oldI (ixOf s) a = if (placeI (ixOf s) a).1 < (lensOf s).length then 1 else 0 := rfl
        have lS := bs_len s
        have hmain : 0 < (newLI (ixOf s) a t).length ∧ 0 ≤ (placeI (ixOf s) a).1 ∧ 0 ≤ oldI (ixOf s) a ∧ (placeI (ixOf s) a).1 + oldI (ixOf s) a ≤ (lensOf s).length ∧ ((lensOf s).take (placeI (ixOf s) a).1.toNat).sum ≤ a ∧ a ≤ ((lensOf s).take ((placeI (ixOf s) a).1 + oldI (ixOf s) a).toNat).sum := by
          have hnew : 0 < (newLI (ixOf s) a t).length := by
            have hg := lens_pos hsz
            unfold newLI insL
            split
            · split
              · simp; exact hg
              · split
                · simp
                · simp; exact hg
            · exact hg
          rcases place_cases (s := s) (a := a) (by omega) (by omega) with h | h | h
          · rw [if_neg (by omega)] at hold
            rw [h.2.2.1, hold, Int.toNat_natCast, show (((lensOf s).length : Int) + 0).toNat = (lensOf s).length by omega, List.take_length]
            exact ⟨hnew, by omega, by omega, by omega, by omega, by omega⟩
          · rw [if_pos (by omega)] at hold
            have hm := (sum_take_le hl.2.2 ((lensOf s).length - 1)).2
            rw [h.2.2.2.1, hold, Int.toNat_natCast, show ((((lensOf s).length - 1 : Nat) : Int) + 1).toNat = (lensOf s).length by omega, List.take_length]
            exact ⟨hnew, by omega, by omega, by omega, by omega, by omega⟩
          · obtain ⟨h4, j, h5, h6, h7, h8, h9⟩ := h
            rw [if_pos (by omega)] at hold
            have hs2 := sum_take_succ (lensOf s) j h6
            rw [h5, hold, Int.toNat_natCast, show ((j : Int) + 1).toNat = j + 1 by omega]
            exact ⟨hnew, by omega, by omega, by omega, by omega, by omega⟩
        obtain ⟨m1, m2, m3, m4, m5, m6⟩ := hmain
        refine ⟨fun e => absurd hiv.2.1 e, fun _ e => ?_, fun _ _ => ?_⟩
        · exfalso
          rw [hiv2] at e
          have e : oldI (ixOf s) a + ((newLI (ixOf s) a t).length : Int) = 0 := e
          omega
        · rw [hiv2]
          generalize (placeI (ixOf s) a).1 = p at *
          generalize oldI (ixOf s) a = o at *
          obtain ⟨p, rfl⟩ : ∃ p' : Nat, p = p' := ⟨p.toNat, by omega⟩
          obtain ⟨o, rfl⟩ : ∃ o' : Nat, o = o' := ⟨o.toNat, by omega⟩
          rw [Int.toNat_natCast, show ((p : Int) + (o : Int)).toNat = p + o by omega] at hlens
          rw [Int.toNat_natCast] at m5
          rw [show ((p : Int) + (o : Int)).toNat = p + o by omega] at m6
          have hsp := sum_split (lensOf s) (p + o)
          refine keep (S1 := (bs s).take a.toNat) (X := []) (Y := bs t) (S2 := (bs s).drop a.toNat) hlens.symm (by omega) ?_ hbw ?_ ?_ (by omega)
          · rw [List.append_nil, List.take_append_drop]
          · rw [List.length_take]; omega
          · rw [List.length_drop]; omega
end Go.Proofs.Yteancplgfjhagaa.Paras.G
