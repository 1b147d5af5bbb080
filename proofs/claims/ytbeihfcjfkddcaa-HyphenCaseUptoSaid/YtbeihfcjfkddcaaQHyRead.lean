/- Pruned by wip/prune.py. -/
import Derived.Test.YtbeihfcjfkddcaaQHyTh
namespace Go.Proofs.Ytbeihfcjfkddcaa.Hy
open Go Go.RowKit Go.Proofs.YtbeihfcjfkddcaaW.PrintWords Go.Proofs.Ytbeihfcjfkddcaa.Given Go.Proofs.Ytbeihfcjfkddcaa.Rn Go.Proofs.Ytbeihfcjfkddcaa.Sx
set_option linter.unusedVariables false
set_option linter.unusedSimpArgs false
def runesOf (l : List (Int × Int)) : List Int := l.map (·.2)
theorem par_nil {s : ByteArray} {q : Nat} {l : List (Int × Int)} (h : Par s q l s.size) : (l = [] ↔ q = s.size) := by
  constructor
  · rintro rfl
    generalize hq : (q : Int) = x at h
    cases h with
    | nil => omega
  · intro e
    exact par_stop h (by omega)
theorem asc_len {s : ByteArray} {r p : Int} {k : Nat} (h : bytesV r = bytesAt s k p) (h0 : 0 ≤ r) (h1 : r < 128) : k = 1 := by
  have e := congrArg List.length h
  rw [bytesAt_len] at e
  unfold bytesV at e
  rw [if_neg (by omega), if_pos h1] at e
  exact e.symm
def patGo : List Int → Bool → List Int → List Int → Bool → Bool → Option (List Int × List Int)
  | [], _, L, Lv, _, re => if re = true then some (L, Lv) else none
  | r :: rs, f, L, Lv, dg, re => if 48 ≤ r ∧ r ≤ 57 then (if dg = true then none else patGo rs false L (Lv.set L.length (r - 48)) true re)
    else if r = 46 then (if f = false ∧ rs ≠ [] then none else patGo rs false (L ++ [r]) (Lv ++ [0]) false re)
    else if LetP r ∧ lowV r = r then patGo rs false (L ++ [r]) (Lv ++ [0]) false true else none
def patV (s : ByteArray) : Option (List Int × List Int) := if 256 < s.size ∨ 0 ≤ badV s then none else patGo (runesL s) true [] [0] false false
theorem let_no {r : Int} (h : LetP r) : ¬ (48 ≤ r ∧ r ≤ 57) ∧ r ≠ 46 ∧ r ≠ 45 := by
  have q := lowV_eq r
  unfold LetP at h
  omega
section
variable {r : Int} {rs L Lv : List Int} {f dg re : Bool}
theorem patGo_dg (h : 48 ≤ r ∧ r ≤ 57) (hd : dg = false) : patGo (r :: rs) f L Lv dg re = patGo rs false L (Lv.set L.length (r - 48)) true re := by
  rw [patGo, if_pos h, if_neg (by rw [hd]; decide)]
theorem patGo_dg2 (h : 48 ≤ r ∧ r ≤ 57) (hd : dg = true) : patGo (r :: rs) f L Lv dg re = none := by
  rw [patGo, if_pos h, if_pos hd]
theorem patGo_pt (h : r = 46) (hf : f = true ∨ rs = []) : patGo (r :: rs) f L Lv dg re = patGo rs false (L ++ [r]) (Lv ++ [0]) false re := by
  rw [patGo, if_neg (by omega), if_pos h, if_neg]
  rintro ⟨h1, h2⟩
  rcases hf with h | h
  · rw [h] at h1; cases h1
  · exact h2 h
theorem patGo_pt2 (h : r = 46) (h1 : f = false) (h2 : rs ≠ []) : patGo (r :: rs) f L Lv dg re = none := by
  rw [patGo, if_neg (by omega), if_pos h, if_pos ⟨h1, h2⟩]
theorem patGo_let (h1 : LetP r) (h2 : lowV r = r) : patGo (r :: rs) f L Lv dg re = patGo rs false (L ++ [r]) (Lv ++ [0]) false true := by
  have q := let_no h1
  rw [patGo, if_neg q.1, if_neg q.2.1, if_pos ⟨h1, h2⟩]
theorem patGo_no (h0 : ¬ (48 ≤ r ∧ r ≤ 57)) (h1 : r ≠ 46) (h2 : ¬ (LetP r ∧ lowV r = r)) : patGo (r :: rs) f L Lv dg re = none := by
  rw [patGo, if_neg h0, if_neg h1, if_neg h2]
end
def BadW (L A : List Int) : Prop := L = [] ∨ (A ≠ [] ∧ A.getD (A.length - 1) 0 = (L.length : Int))
instance (L A : List Int) : Decidable (BadW L A) := by unfold BadW; infer_instance
def wordGo : List Int → List Int → List Int → Option (List Int × List Int)
  | [], L, A => if BadW L A then none else some (L, A)
  | r :: rs, L, A => if r = 45 then (if BadW L A then none else wordGo rs L (A ++ [(L.length : Int)])) else if LetP r then wordGo rs (L ++ [lowV r]) A else none
def wordV (s : ByteArray) : Option (List Int × List Int) := if 256 < s.size ∨ 0 ≤ badV s then none else wordGo (runesL s) [] []
section
variable {r : Int} {rs L A : List Int}
theorem wordGo_mk (h : r = 45) (hb : ¬ BadW L A) : wordGo (r :: rs) L A = wordGo rs L (A ++ [(L.length : Int)]) := by rw [wordGo, if_pos h, if_neg hb]
theorem wordGo_mk2 (h : r = 45) (hb : BadW L A) : wordGo (r :: rs) L A = none := by rw [wordGo, if_pos h, if_pos hb]
theorem wordGo_let (h : LetP r) : wordGo (r :: rs) L A = wordGo rs (L ++ [lowV r]) A := by rw [wordGo, if_neg (let_no h).2.2, if_pos h]
theorem wordGo_no (h : r ≠ 45) (h1 : ¬ LetP r) : wordGo (r :: rs) L A = none := by rw [wordGo, if_neg h, if_neg h1]
theorem badW_last (hL : L ≠ []) : BadW L (A ++ [(L.length : Int)]) := .inr ⟨by simp, by simp⟩
theorem badW_let {x : Int} (hA : ∀ a ∈ A, a ≤ (L.length : Int)) : ¬ BadW (L ++ [x]) A := by
  rintro (h | ⟨h1, h2⟩)
  · simp at h
  · have hl := List.length_pos_iff.2 h1
    have : A.getD (A.length - 1) 0 ∈ A := by
      rw [List.getD_eq_getElem?_getD, List.getElem?_eq_getElem (by omega)]
      exact List.getElem_mem _
    have := hA _ this
    rw [h2] at this
    simp at this
    omega
end
/-- The letters' bytes. -/
def flatB (L : List Int) : List Int := L.flatMap bytesV
theorem flatB_snoc (L : List Int) (x : Int) : flatB (L ++ [x]) = flatB L ++ bytesV x := by simp [flatB]
theorem par_ok {s : ByteArray} {p e : Int} {l : List (Int × Int)} (h : Par s p l e) : ∀ x ∈ l, 0 ≤ x.2 ∧ x.2 ≤ 1114111 ∧ ¬ (55296 ≤ x.2 ∧ x.2 ≤ 57343) := by
  induction h with
  | nil => intro x hx; cases hx
  | @cons p e l h0 h1 hk h ih =>
    intro x hx
    rcases List.mem_cons.1 hx with rfl | hx
    · refine bytesV_ok (r := (readV s p).1) ?_
      rw [read_bytes s p hk]
      intro z
      have := congrArg List.length z
      rw [bytesAt_len] at this
      simp at this
      omega
    · exact ih x hx
theorem runes_bd {s : ByteArray} (h : badV s < 0) (i : Nat) : 0 ≤ (runesL s).getD i 0 ∧ (runesL s).getD i 0 ≤ 1114111 := by
  rw [List.getD_eq_getElem?_getD]
  cases e : (runesL s)[i]? with
  | none => show (0 : Int) ≤ 0 ∧ (0 : Int) ≤ 1114111; decide
  | some r =>
    have hm := List.mem_of_getElem? e
    obtain ⟨x, hx, rfl⟩ := List.mem_map.1 hm
    have := par_ok (bad_par h) x hx
    exact ⟨this.1, this.2.1⟩
theorem runes_len (s : ByteArray) : (runesL s).length ≤ s.size := by
  unfold runesL
  rw [List.length_map]
  exact refV_room s
def patD (s : ByteArray) : List Int × List Int := (patV s).getD ([], [])
def wordD (s : ByteArray) : List Int × List Int := (wordV s).getD ([], [])
theorem same_iff {a b : List Int} (h : a.length = b.length) : (∀ j, j < a.length → a.getD j 0 = b.getD j 0) ↔ a = b :=
  ⟨fun g => ext_get0 h g, fun e j _ => by rw [e]⟩
end Go.Proofs.Ytbeihfcjfkddcaa.Hy
