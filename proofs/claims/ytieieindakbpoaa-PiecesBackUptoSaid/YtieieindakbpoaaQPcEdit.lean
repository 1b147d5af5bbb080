/- Pruned by wip/prune.py. -/
import Derived.Test.YtieieindakbpoaaQSxWhole
namespace Go.Proofs.Ytieieindakbpoaa.PE
open Go Go.Lib Go.RowKit Go.Proofs.YtieieindakbpoaaW.PrintWords Go.Proofs.Ytieieindakbpoaa.Kinds Go.Proofs.Ytieieindakbpoaa.Given Go.Proofs.Ytieieindakbpoaa.Rn Go.Proofs.Ytieieindakbpoaa.Pc
set_option linter.unusedVariables false
set_option linter.unusedSimpArgs false
abbrev Op := S48
/-- A right text, not too long. -/
def Rt (C : ByteArray) : Prop := (refV C).2 < 0 ∧ C.size ≤ 65536
theorem right_app {a b : ByteArray} (ha : (refV a).2 < 0) (hb : (refV b).2 < 0) : (refV (a ++ b)).2 < 0 := par_right (par_join (right_par ha) (right_par hb))
theorem between_size (s : ByteArray) : BetweenP s s.size := .inr rfl
theorem between_zero {s : ByteArray} (hs : (refV s).2 < 0) : BetweenP s 0 := by
  have h := right_par hs
  rcases Nat.eq_zero_or_pos s.size with z | z
  · exact .inr (by omega)
  · cases hl : (refV s).1 with
    | nil => rw [hl] at h; generalize hx : (s.size : Int) = x at h; cases h; omega
    | cons x l =>
      have hx : x.1 = 0 := by rw [hl] at h; cases h; rfl
      exact .inl (List.mem_map.2 ⟨x, by rw [hl]; exact List.mem_cons_self, hx⟩)
theorem chk_between {C : ByteArray} {k : Int} (h : (refV C).2 < 0) (hk : RD.pchk C k = 0) : BetweenP C k := by
  obtain ⟨h0, h1⟩ := ED.chk0 hk
  by_cases c : k < (C.size : Int)
  · have hi : inside (bt C k) = false := by
      unfold RD.pchk at hk
      rw [if_neg (by omega)] at hk
      rw [← Bool.not_eq_true]
      intro z
      rw [if_pos ⟨c, z⟩] at hk
      omega
    obtain ⟨x, hx, hxa⟩ := (par_place (right_par h) k h0 c).2 hi
    exact .inl (List.mem_map.2 ⟨x, hx, hxa⟩)
  · exact .inr (by omega)
theorem between_chk {C : ByteArray} {k : Int} (h : (refV C).2 < 0) (hk : BetweenP C k) : RD.pchk C k = 0 := by
  obtain ⟨h0, h1⟩ := between_le h hk
  unfold RD.pchk
  rw [if_neg (by omega), if_neg (fun z => ?_)]
  rcases between_or hk with q | q
  · omega
  · rw [(par_place (right_par h) k h0 z.1).1 q] at z; exact absurd z.2 (by decide)
theorem cut_left {C : ByteArray} {k : Int} (h : (refV C).2 < 0) (hk : RD.pchk C k = 0) : (refV (C.extract 0 k.toNat)).2 < 0 := by
  have := sub_right h (between_zero h) (chk_between h hk) (ED.chk0 hk).1
  exact this
theorem cut_right {C : ByteArray} {k : Int} (h : (refV C).2 < 0) (hk : RD.pchk C k = 0) : (refV (C.extract k.toNat C.size)).2 < 0 := by
  have := sub_right h (chk_between h hk) (between_size C) (ED.chk0 hk).2
  rwa [Int.toNat_natCast] at this
theorem check_right {s : ByteArray} (h : checkV s = 0) : (refV s).2 < 0 := by
  rw [WH.check_ref] at h
  split at h
  · assumption
  · omega
theorem right_check {s : ByteArray} (h : (refV s).2 < 0) : checkV s = 0 := by rw [WH.check_ref, if_pos h]
theorem pins0 {C s : ByteArray} {k : Int} (h : ED.pins C k s = 0) : RD.pchk C k = 0 ∧ checkV s = 0 ∧ C.size + s.size ≤ 65536 := by
  unfold ED.pins at h
  split at h
  · omega
  · split at h
    · omega
    · split at h
      · omega
      · exact ⟨Classical.not_not.1 (by assumption), Classical.not_not.1 (by assumption), by omega⟩
theorem ins_rt {C s : ByteArray} {k : Int} (h : Rt C) : Rt (ED.insT C k s) := by
  unfold ED.insT
  split
  · rename_i e
    obtain ⟨e1, e2, e3⟩ := pins0 e
    have hk := ED.chk0 e1
    exact ⟨right_app (right_app (cut_left h.1 e1) (check_right e2)) (cut_right h.1 e1), by rw [ED.ins_size hk.1 hk.2]; exact e3⟩
  · exact h
theorem del_rt {C : ByteArray} {a b : Int} (h : Rt C) : Rt (ED.delT C a b) := by
  unfold ED.delT
  split
  · rename_i e
    obtain ⟨h0, h1, h2, h3, h4⟩ := ED.span0 e
    have := h.2
    exact ⟨right_app (cut_left h.1 h3) (cut_right h.1 h4), by rw [ED.del_size h0 h1 h2]; omega⟩
  · exact h
def edT (C : ByteArray) (o : Op) : ByteArray := if o.f0 = true then ED.delT C o.f1 o.f2 else ED.insT C o.f1 o.f3
theorem ed_rt {C : ByteArray} {o : Op} (h : Rt C) : Rt (edT C o) := by
  unfold edT
  split
  · exact del_rt h
  · exact ins_rt h
theorem ed_del {C : ByteArray} {o : Op} (h : o.f0 = true) : edT C o = ED.delT C o.f1 o.f2 := if_pos h
theorem ed_ins {C : ByteArray} {o : Op} (h : ¬ o.f0 = true) : edT C o = ED.insT C o.f1 o.f3 := if_neg h
def playT (s : ByteArray) (l : List Op) : ByteArray := l.foldl edT s
theorem play_rt : ∀ (l : List Op) {s : ByteArray}, Rt s → Rt (playT s l)
  | [], _, h => h
  | o :: l, s, h => play_rt l (s := edT s o) (ed_rt h)
theorem play_take (s : ByteArray) (l : List Op) (z : Op) (i : Nat) (h : i < l.length) : playT s (l.take (i + 1)) = edT (playT s (l.take i)) (l.getD i z) := by
  unfold playT
  rw [List.take_succ_eq_append_getElem h, List.foldl_append, List.getD_eq_getElem?_getD, List.getElem?_eq_getElem h]
  rfl
end Go.Proofs.Ytieieindakbpoaa.PE
