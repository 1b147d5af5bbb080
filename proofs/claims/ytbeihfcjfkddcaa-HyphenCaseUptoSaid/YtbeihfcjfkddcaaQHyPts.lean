/- Pruned by wip/prune.py. -/
import Derived.Test.YtbeihfcjfkddcaaQHyBook
namespace Go.Proofs.Ytbeihfcjfkddcaa.Hy
open Go Go.RowKit Go.Proofs.YtbeihfcjfkddcaaW.PrintWords Go.Proofs.Ytbeihfcjfkddcaa.Given Go.Proofs.Ytbeihfcjfkddcaa.Rn Go.Proofs.Ytbeihfcjfkddcaa.Sx
set_option linter.unusedVariables false
set_option linter.unusedSimpArgs false
theorem hlib_mid {w0 w : World} {F0 : Nat → Prop} {cs : List HP} {e c lo hi : Nat} {A A' : Option Addr} {L : List Int} (c' : Nat) (h : St w0 F0 (row (Kd.int .i64) e A c L :: cs) w) (h1 : lo ≤ hi) (h2 : hi ≤ L.length) (hA : (if c = lo then A else A.map (·.add (lo * 1))) = A') :
    St w0 F0 (hlib [(⟨A', ((L.take hi).drop lo).length, c'⟩, (L.take hi).drop lo)] :: cs) w := by
  have hc := (row_reads (i := 0) h rfl).1
  refine st_imp h fun G hG => ?_
  have hF := Kd.R_F hG
  intro W' hW p hp
  rw [List.mem_singleton.1 hp]
  exact ⟨rfl, mid_C h1 h2 hc hA (hF W' hW)⟩
theorem wf_wn {T : List Nd} {pth : Nat → List Int} (h : WfT T pth) : Wn T := fun i hi r q hq => by
  have := (h.2 i hi).1 r q hq
  exact ⟨this.1, this.2.1⟩
theorem lvPut_nn : ∀ (lv : List Int) (j : Nat) (out : List Int), (∀ x ∈ out, 0 ≤ x) → ∀ x ∈ lvPut lv j out, 0 ≤ x
  | [], _, _, h => h
  | n :: lv, j, out, h => lvPut_nn lv (j + 1) _ (fun x hx => by
      rcases List.mem_or_eq_of_mem_set hx with hx | rfl
      · exact h x hx
      · have : 0 ≤ out.getD j 0 := by
          rw [List.getD_eq_getElem?_getD]
          cases e : out[j]? with
          | none => exact Int.le_refl _
          | some y => exact h y (List.mem_of_getElem? e)
        omega)
theorem lvGo_nn (T : List Nd) (fr : Nat) : ∀ (rs : List Int) (a : Nat) (out : List Int), (∀ x ∈ out, 0 ≤ x) → ∀ x ∈ lvGo T fr rs a out, 0 ≤ x
  | [], _, _, h => h
  | r :: rs, a, out, h => by
    unfold lvGo
    split
    · exact h
    · exact lvGo_nn T fr rs _ _ (lvPut_nn _ _ _ h)
theorem lvAll_nn (T : List Nd) : ∀ (rs : List Int) (fr : Nat) (out : List Int), (∀ x ∈ out, 0 ≤ x) → ∀ x ∈ lvAll T rs fr out, 0 ≤ x
  | [], _, _, h => h
  | r :: rs, fr, out, h => by rw [lvAll]; exact lvAll_nn T rs _ _ (lvGo_nn T fr _ _ _ h)
theorem levels_nn (T : List Nd) (word : List Int) (i : Nat) : 0 ≤ (levelsV T word).getD i 0 := by
  rw [List.getD_eq_getElem?_getD]
  cases e : (levelsV T word)[i]? with
  | none => exact Int.le_refl _
  | some y =>
    refine lvAll_nn T _ 0 _ (fun x hx => ?_) y (List.mem_of_mem_take (List.mem_of_mem_drop (List.mem_of_getElem? e)))
    rw [List.eq_of_mem_replicate hx]
    exact Int.le_refl _
theorem rowOf_len (word : List Int) : (rowOf word).length = word.length + 2 := by simp [rowOf]
theorem levels_len (T : List Nd) (word : List Int) : (levelsV T word).length = word.length + 1 := by
  unfold levelsV
  rw [List.length_drop, List.length_take, lvAll_len, List.length_replicate]
  omega
def oddGo (lf rt len : Int) : List Int → Nat → List Int
  | [], _ => []
  | x :: l, n => if x % 2 = 1 ∧ lf ≤ (n : Int) ∧ (n : Int) ≤ len - rt then (n : Int) :: oddGo lf rt len l (n + 1) else oddGo lf rt len l (n + 1)
def inGo (lf rt len : Int) : List Int → List Int
  | [] => []
  | n :: l => if lf ≤ n ∧ n ≤ len - rt then n :: inGo lf rt len l else inGo lf rt len l
def wordPts (T : List Nd) (kn : ByteArray → Option (List Int)) (lf rt : Int) (w : List Int) : List Int := match kn (strOfNums (flatB w)) with
  | some pts => inGo lf rt w.length pts
  | none => oddGo lf rt w.length (levelsV T w) 0
open Classical in
noncomputable def pointsV (T : List Nd) (kn : ByteArray → Option (List Int)) (lf rt : Int) (s : ByteArray) : List Int :=
  if 256 < s.size ∨ 0 ≤ badV s then [] else if ∀ r ∈ runesL s, LetP r then wordPts T kn lf rt ((runesL s).map lowV) else []
theorem pointsV_no {T : List Nd} {kn : ByteArray → Option (List Int)} {lf rt : Int} {s : ByteArray} (h : 256 < s.size ∨ 0 ≤ badV s) : pointsV T kn lf rt s = [] := by unfold pointsV; rw [if_pos h]
theorem pointsV_not {T : List Nd} {kn : ByteArray → Option (List Int)} {lf rt : Int} {s : ByteArray} {r : Int} (hr : r ∈ runesL s) (h : ¬ LetP r) : pointsV T kn lf rt s = [] := by
  unfold pointsV
  split
  · rfl
  · rw [if_neg (fun z => h (z r hr))]
theorem pointsV_yes {T : List Nd} {kn : ByteArray → Option (List Int)} {lf rt : Int} {s : ByteArray} (h : ¬ (256 < s.size ∨ 0 ≤ badV s)) (h2 : ∀ r ∈ runesL s, LetP r) : pointsV T kn lf rt s = wordPts T kn lf rt ((runesL s).map lowV) := by
  unfold pointsV
  rw [if_neg h, if_pos h2]
theorem oddGo_len (lf rt len : Int) : ∀ (l : List Int) (n : Nat), (oddGo lf rt len l n).length ≤ l.length
  | [], _ => Nat.le_refl _
  | x :: l, n => by
    have := oddGo_len lf rt len l (n + 1)
    rw [oddGo]
    split <;> simp only [List.length_cons] <;> omega
theorem inGo_len (lf rt len : Int) : ∀ (l : List Int), (inGo lf rt len l).length ≤ l.length
  | [] => Nat.le_refl _
  | x :: l => by
    have := inGo_len lf rt len l
    rw [inGo]
    split <;> simp only [List.length_cons] <;> omega
theorem pts_len0 (T : List Nd) (kn : ByteArray → Option (List Int)) (hk : ∀ y l, kn y = some l → l.length ≤ 1000000000000) (lf rt : Int) (s : ByteArray) : (pointsV T kn lf rt s).length ≤ 1000000000000 := by
  unfold pointsV
  split
  · exact Nat.zero_le _
  · split
    · rename_i c _
      unfold wordPts
      split
      · rename_i pts h
        exact Nat.le_trans (inGo_len _ _ _ _) (hk _ _ h)
      · refine Nat.le_trans (oddGo_len _ _ _ _ _) ?_
        rw [levels_len, List.length_map]
        have := runes_len s
        omega
    · exact Nat.zero_le _
end Go.Proofs.Ytbeihfcjfkddcaa.Hy
