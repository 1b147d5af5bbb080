/- Pruned by wip/prune.py. -/
import Derived.Test.YtbeihfcjfkddcaaQHyRef
namespace Go.Proofs.Ytbeihfcjfkddcaa.Hy
open Go Go.RowKit Go.Proofs.YtbeihfcjfkddcaaW.PrintWords Go.Proofs.Ytbeihfcjfkddcaa.Given Go.Proofs.Ytbeihfcjfkddcaa.Rn Go.Proofs.Ytbeihfcjfkddcaa.Sx
set_option linter.unusedVariables false
set_option linter.unusedSimpArgs false
theorem sn_app (a b : List Int) : strOfNums (a ++ b) = strOfNums a ++ strOfNums b := by
  unfold strOfNums
  apply ByteArray.ext
  simp [ByteArray.data_append]
theorem sn_size (a : List Int) : (strOfNums a).size = a.length := by
  unfold strOfNums
  show (a.map _).toArray.size = _
  simp
theorem sn_bytes (a : ByteArray) : strOfNums (bytesOf a) = a := by
  unfold strOfNums bytesOf
  apply ByteArray.ext
  simp [Function.comp_def]
theorem bt_sn {M : List Int} (h : ∀ x ∈ M, 0 ≤ x ∧ x < 256) {j : Nat} (hj : j < M.length) : bt (strOfNums M) j = M.getD j 0 := by
  have hs : (j : Int).toNat < (strOfNums M).data.size := by have := sn_size M; show _ < (strOfNums M).size; omega
  unfold bt
  rw [dif_pos (by simpa using hs)]
  have h1 := h M[j] (List.getElem_mem hj)
  have e : (strOfNums M).data[(j : Int).toNat]'hs = UInt8.ofNat (M[j].toNat) := by simp [strOfNums]
  rw [List.getD_eq_getElem?_getD, List.getElem?_eq_getElem hj, Option.getD_some]
  show (((strOfNums M).data[(j : Int).toNat]'hs).toNat : Int) = _
  rw [e, UInt8.toNat_ofNat']
  omega
def okR' (r : Int) : Prop := 0 ≤ r ∧ r ≤ 1114111 ∧ ¬ (55296 ≤ r ∧ r ≤ 57343)
theorem read_of {s : ByteArray} {p r : Int} (hr : okR' r) (h : ∀ j : Nat, j < (bytesV r).length → bt s (p + (j : Int)) = (bytesV r).getD j 0) (hp : p + ((bytesV r).length : Int) ≤ s.size) : readV s p = (r, ((bytesV r).length : Int)) := by
  obtain ⟨r0, r1, r2⟩ := hr
  by_cases c1 : r < 128
  · have e : bytesV r = [r] := by unfold bytesV; rw [if_neg (by omega), if_pos c1]
    rw [e] at h hp ⊢
    have h0 : bt s p = r := by simpa using h 0 (by simp)
    unfold readV
    rw [if_pos (by omega), h0]
    rfl
  by_cases c2 : r < 2048
  · have e : bytesV r = [192 + r / 64, 128 + r % 64] := by unfold bytesV; rw [if_neg (by omega), if_neg c1, if_pos c2]
    rw [e] at h hp ⊢
    have h0 : bt s p = 192 + r / 64 := by simpa using h 0 (by simp)
    have h1 : bt s (p + 1) = 128 + r % 64 := by simpa using h 1 (by simp)
    simp only [List.length_cons, List.length_nil] at hp ⊢
    unfold readV
    rw [if_neg (by omega), if_pos ⟨by omega, by unfold m2; omega⟩, h0, h1]
    unfold v2
    congr 1
    omega
  by_cases c3 : r < 65536
  · have e : bytesV r = [224 + r / 4096, 128 + r / 64 % 64, 128 + r % 64] := by unfold bytesV; rw [if_neg (by omega), if_neg c1, if_neg c2, if_pos c3]
    rw [e] at h hp ⊢
    have h0 : bt s p = 224 + r / 4096 := by simpa using h 0 (by simp)
    have h1 : bt s (p + 1) = 128 + r / 64 % 64 := by simpa using h 1 (by simp)
    have h2 : bt s (p + 2) = 128 + r % 64 := by simpa using h 2 (by simp)
    simp only [List.length_cons, List.length_nil] at hp ⊢
    unfold readV
    rw [if_neg (by omega), if_neg (by unfold m2; omega), if_pos ⟨by omega, by unfold m3; omega⟩, h0, h1, h2]
    unfold v3
    congr 1
    omega
  · have e : bytesV r = [240 + r / 262144, 128 + r / 4096 % 64, 128 + r / 64 % 64, 128 + r % 64] := by unfold bytesV; rw [if_neg (by omega), if_neg c1, if_neg c2, if_neg c3]
    rw [e] at h hp ⊢
    have h0 : bt s p = 240 + r / 262144 := by simpa using h 0 (by simp)
    have h1 : bt s (p + 1) = 128 + r / 4096 % 64 := by simpa using h 1 (by simp)
    have h2 : bt s (p + 2) = 128 + r / 64 % 64 := by simpa using h 2 (by simp)
    have h3 : bt s (p + 3) = 128 + r % 64 := by simpa using h 3 (by simp)
    simp only [List.length_cons, List.length_nil] at hp ⊢
    unfold readV
    rw [if_neg (by omega), if_neg (by unfold m2; omega), if_neg (by unfold m3; omega), if_pos ⟨by omega, by unfold m4; omega⟩, h0, h1, h2, h3]
    unfold v4
    congr 1
    omega
theorem bytesV_pos {r : Int} (h : okR' r) : 1 ≤ (bytesV r).length := by
  obtain ⟨r0, r1, r2⟩ := h
  unfold bytesV
  rw [if_neg (by omega)]
  repeat' split
  all_goals simp
theorem bytesV_bd (r : Int) : ∀ x ∈ bytesV r, 0 ≤ x ∧ x < 256 := by
  intro x hx
  unfold bytesV at hx
  split at hx
  · cases hx
  repeat' split at hx
  all_goals simp only [List.mem_cons, List.not_mem_nil, or_false] at hx
  all_goals omega
theorem flatB_bd (L : List Int) : ∀ x ∈ flatB L, 0 ≤ x ∧ x < 256 := by
  intro x hx
  obtain ⟨r, _, hx⟩ := List.mem_flatMap.1 hx
  exact bytesV_bd r x hx
theorem flatB_cons (r : Int) (L : List Int) : flatB (r :: L) = bytesV r ++ flatB L := by simp [flatB]
theorem flatB_app (L M : List Int) : flatB (L ++ M) = flatB L ++ flatB M := by simp [flatB]
theorem getD_app_left {a b : List Int} {j : Nat} (h : j < a.length) : (a ++ b).getD j 0 = a.getD j 0 := by
  rw [List.getD_eq_getElem?_getD, List.getElem?_append_left h, ← List.getD_eq_getElem?_getD]
theorem getD_app_right {a b : List Int} {j : Nat} : (a ++ b).getD (a.length + j) 0 = b.getD j 0 := by
  rw [List.getD_eq_getElem?_getD, List.getElem?_append_right (by omega), Nat.add_sub_cancel_left, ← List.getD_eq_getElem?_getD]
theorem par_at {s : ByteArray} : ∀ (L : List Int) (p : Nat), (∀ r ∈ L, okR' r) → (∀ j, j < (flatB L).length → bt s (((p + j : Nat)) : Int) = (flatB L).getD j 0) → p + (flatB L).length = s.size → ∃ l, Par s (p : Int) l s.size ∧ l.map (·.2) = L
  | [], p, _, _, h => ⟨[], by have : (p : Int) = s.size := by simpa [flatB] using congrArg (fun n : Nat => (n : Int)) h
                              rw [this]; exact .nil _, rfl⟩
  | r :: L, p, hv, hb, h => by
    have hr := hv r List.mem_cons_self
    have hk := bytesV_pos hr
    rw [flatB_cons, List.length_append] at h
    have hread := read_of (s := s) (p := (p : Int)) hr (fun j hj => by
      have := hb j (by rw [flatB_cons, List.length_append]; omega)
      rw [flatB_cons, getD_app_left hj] at this
      rw [← this]
      congr 1) (by omega)
    obtain ⟨l, h1, h2⟩ := par_at L (p + (bytesV r).length) (fun x hx => hv x (List.mem_cons_of_mem _ hx)) (fun j hj => by
      have := hb ((bytesV r).length + j) (by rw [flatB_cons, List.length_append]; omega)
      rw [flatB_cons, getD_app_right] at this
      rw [← this]
      congr 1
      omega) (by omega)
    refine ⟨((p : Int), r) :: l, ?_, by rw [List.map_cons, h2]⟩
    have hc := Par.cons (s := s) (p := (p : Int)) (e := s.size) (l := l) (by omega) (by omega) (by rw [hread]; show (0 : Int) < ((bytesV r).length : Int); omega) (by
      rw [hread]
      show Par s ((p : Int) + ((bytesV r).length : Int)) l s.size
      rw [show (p : Int) + ((bytesV r).length : Int) = ((p + (bytesV r).length : Nat) : Int) by omega]
      exact h1)
    rw [hread] at hc
    exact hc
/-- A text of runes is right and has these runes. -/
theorem flat_right {L : List Int} (hv : ∀ r ∈ L, okR' r) : badV (strOfNums (flatB L)) = -1 ∧ runesL (strOfNums (flatB L)) = L := by
  obtain ⟨l, h1, h2⟩ := par_at (s := strOfNums (flatB L)) L 0 hv (fun j hj => by rw [Nat.zero_add]; exact bt_sn (flatB_bd L) hj) (by rw [sn_size, Nat.zero_add])
  have h3 : Par (strOfNums (flatB L)) 0 l (strOfNums (flatB L)).size := h1
  refine ⟨par_bad h3, ?_⟩
  unfold runesL
  rw [par_refV h3]
  exact h2
theorem runes_ok {s : ByteArray} (h : badV s < 0) : ∀ r ∈ runesL s, okR' r := fun r hr => by
  obtain ⟨x, hx, rfl⟩ := List.mem_map.1 hr
  exact par_ok (bad_par h) x hx
/-- A right text is its runes' bytes. -/
theorem par_bytes {s : ByteArray} {p e : Int} {l : List (Int × Int)} (h : Par s p l e) : e = s.size → flatB (l.map (·.2)) = bytesAt s (s.size - p).toNat p := by
  induction h with
  | nil p => intro e; rw [e, Int.sub_self]; rfl
  | @cons p e l h0 h1 hk h ih =>
    intro he
    have hb := read_bounds s p h0 h1
    rw [List.map_cons, flatB_cons, ih he, read_bytes s p hk]
    have key : ∀ (n m : Nat) (q : Int), bytesAt s n q ++ bytesAt s m (q + (n : Int)) = bytesAt s (n + m) q := by
      intro n
      induction n with
      | zero => intro m q; simp [bytesAt]
      | succ n ih2 =>
        intro m q
        rw [show n + 1 + m = (n + m) + 1 by omega]
        simp only [bytesAt, List.cons_append]
        rw [show q + ((n + 1 : Nat) : Int) = q + 1 + (n : Int) by omega, ih2]
    have := key (readV s p).2.toNat ((s.size : Int) - (p + (readV s p).2)).toNat p
    rw [Int.toNat_of_nonneg hb.1] at this
    rw [this]
    congr 1
    omega
theorem bytesAt_of (s : ByteArray) : bytesAt s s.size 0 = bytesOf s := by
  apply List.ext_getElem?
  intro i
  by_cases h : i < s.size
  · have h1 : i < (bytesAt s s.size 0).length := by rw [bytesAt_len]; exact h
    have h2 : i < (bytesOf s).length := by rw [bytesOf_length]; exact h
    rw [List.getElem?_eq_getElem h1, List.getElem?_eq_getElem h2]
    have e1 := bytesAt_getD s s.size 0 i h
    rw [List.getD_eq_getElem?_getD, List.getElem?_eq_getElem h1, Int.zero_add] at e1
    have e2 := rd_bytesOf s (i : Int)
    unfold rd at e2
    have e1' : (bytesAt s s.size 0)[i] = bt s i := e1
    rw [e1', ← e2]
    simp [List.getD_eq_getElem?_getD, List.getElem?_eq_getElem h2]
  · rw [List.getElem?_eq_none (by rw [bytesAt_len]; omega), List.getElem?_eq_none (by rw [bytesOf_length]; omega)]
theorem flat_runes {s : ByteArray} (h : badV s < 0) : flatB (runesL s) = bytesOf s := by
  have := par_bytes (bad_par h) rfl
  rw [show ((s.size : Int) - 0).toNat = s.size by omega, bytesAt_of] at this
  exact this
theorem str_runes {s : ByteArray} (h : badV s < 0) : strOfNums (flatB (runesL s)) = s := by rw [flat_runes h, sn_bytes]
end Go.Proofs.Ytbeihfcjfkddcaa.Hy
