/- Pruned by wip/prune.py. -/
import Derived.Test.YtmlkajmlhmfdgaaQCaP
namespace Go.Proofs.Ytmlkajmlhmfdgaa.Ca
open Go Go.RowKit Go.Proofs.YtmlkajmlhmfdgaaW.PrintWords Go.Proofs.Ytmlkajmlhmfdgaa.Kinds Go.Proofs.Ytmlkajmlhmfdgaa.Runs Go.Proofs.Ytmlkajmlhmfdgaa.Sx
set_option linter.unusedVariables false
set_option linter.unusedSimpArgs false
structure RH where
  key : KV
  A : Option Addr
  c : Nat
  val : Int
def zRH : RH := ⟨z33, none, 0, 0⟩
def kRH : Kd RH := Kd.iso (Kd.pair kKH (Kd.int .i64)) (fun x : RH => ((⟨x.key, x.A, x.c⟩ : KH), x.val))
theorem flat_rh : Flat kRH := flat_iso _ (flat_pair flat_kh (flat_int _))
def cellsRH (x : RH) : List Value := [.string x.key.f0, .slice x.A x.key.f1.length x.c, .int .i64 x.key.f2, .int .i64 x.key.f3, .int .i64 x.key.f4.f0, .int .i64 x.key.f4.f1, .int .i64 x.key.f4.f2, .int .i64 x.key.f4.f3, .int .i64 x.key.f4.f4, .int .i64 x.key.f4.f5, .int .i64 x.key.f4.f6, .int .i64 x.val]
theorem kRH_open {w : World} {x : RH} {cs : List Value} (h : kRH.K w x cs) : cs = cellsRH x := by
  obtain ⟨_, _, rfl, h1, rfl⟩ := h
  rw [kKH_open h1]; rfl
theorem kRH_mkM (w : World) (base : Nat) (ok : Nat → Prop) (x : RH) : kRH.M w base ok x (cellsRH x) := ⟨_, [.int .i64 x.val], rfl, kKH_mkM w base ok ⟨x.key, x.A, x.c⟩, rfl⟩
def rlst (A : Option Addr) (L : List RH) : HP where
  p := fun w F => Foot (fun w => kRH.C w A L.length L) w F
  mono := fun hF h => Foot.mono h hF
  bound := fun h => Foot.bound h
  move := fun hm h => Foot.step h (fun k hk _ => hm k hk)
section
variable {w0 w : World} {F0 : Nat → Prop} {cs R : List HP} {i : Nat} {A : Option Addr} {L : List RH}
theorem rlst_now (h : St w0 F0 cs w) (hi : cs[i]? = some (rlst A L)) : kRH.C w A L.length L := by
  obtain ⟨G, _, hg⟩ := st_get h hi
  exact Foot.now hg
theorem rlst_at {j : Nat} (hj : R[j]? = some (rlst A L)) : ∀ cs w, St w0 F0 (cs ++ R) w → kRH.C w A L.length L := fun cs w h => rlst_now (i := cs.length + j) h (by rw [List.getElem?_append_right (by omega), Nat.add_sub_cancel_left]; exact hj)
theorem rlst_nil (h : St w0 F0 cs w) : St w0 F0 (rlst none [] :: cs) w := st_free h fun W' _ => Kd.C_nil _ _
theorem rlst_row {e c : Nat} (h : St w0 F0 (row kRH e A c L :: cs) w) : St w0 F0 (rlst A L :: cs) w := st_imp h fun G hG => by
  have h4 := Kd.R_F hG
  intro W' hW
  exact h4 W' (fun k hk hl => hW k hk hl)
theorem rlst_mid {c lo hi : Nat} {A' : Option Addr} (h : St w0 F0 (rlst A L :: cs) w) (h1 : lo ≤ hi) (h2 : hi ≤ L.length) (h3 : L.length ≤ c) (hA : (if c = lo then A else A.map (·.add (lo * kRH.sz))) = A') : St w0 F0 (rlst A' ((L.take hi).drop lo) :: cs) w := st_imp h fun G hG => by
  intro W' hW
  exact mid_C h1 h2 h3 hA (hG W' hW)
end
abbrev RMl (L : List RH) : LM Int := L.map fun x => (x.key, x.val)
def findZ (L : List RH) (k : KV) : Int := match findI (RMl L) k with
  | none => -1
  | some i => i
theorem findI_first {L : List RH} {k : KV} {i : Nat} (hi : i < L.length) (h : ∀ j, j < i → alikeB (L.getD j zRH).key k = false) (h1 : alikeB (L.getD i zRH).key k = true) : findI (RMl L) k = some i := by
  unfold findI
  rw [List.findIdx?_eq_some_iff_getElem]
  refine ⟨by simpa using hi, ?_, fun j hj => ?_⟩
  · have e : L.getD i zRH = L[i] := by rw [List.getD_eq_getElem?_getD, List.getElem?_eq_getElem hi]; rfl
    rw [e] at h1; simpa using h1
  · have hj' : j < L.length := by omega
    have e : L.getD j zRH = L[j] := by rw [List.getD_eq_getElem?_getD, List.getElem?_eq_getElem hj']; rfl
    have := h j hj
    rw [e] at this; simpa using this
theorem findI_no {L : List RH} {k : KV} (h : ∀ j, j < L.length → alikeB (L.getD j zRH).key k = false) : findI (RMl L) k = none := find_none (fun p hp => by
  obtain ⟨x, hx, rfl⟩ := List.mem_map.1 hp
  obtain ⟨j, hj, rfl⟩ := List.mem_iff_getElem.1 hx
  have := h j hj
  rw [List.getD_eq_getElem?_getD, List.getElem?_eq_getElem hj] at this
  exact this)
theorem findZ_bd (L : List RH) (k : KV) : (findI (RMl L) k = none ∧ findZ L k = -1) ∨ ∃ i : Nat, findI (RMl L) k = some i ∧ findZ L k = (i : Int) ∧ i < L.length := by
  unfold findZ
  cases h : findI (RMl L) k with
  | none => exact .inl ⟨rfl, rfl⟩
  | some i =>
    obtain ⟨p, hp, _⟩ := find_some h
    have := (List.getElem?_eq_some_iff.1 hp).1
    exact .inr ⟨i, rfl, rfl, by simpa using this⟩
/-- All but one place. -/
def skipL (L : List RH) (i : Int) (j : Nat) : List RH := if 0 ≤ i ∧ i < j then (L.take j).eraseIdx i.toNat else L.take j
theorem skip_take (L : List RH) {j : Nat} (h : j < L.length) : L.take (j + 1) = L.take j ++ [L.getD j zRH] := by
  rw [List.take_add_one, List.getElem?_eq_getElem h, List.getD_eq_getElem?_getD, List.getElem?_eq_getElem h]; rfl
theorem skip_keep {L : List RH} {i : Int} {j : Nat} (h : j < L.length) (hne : (j : Int) ≠ i) : skipL L i (j + 1) = skipL L i j ++ [L.getD j zRH] := by
  unfold skipL
  rw [skip_take L h]
  by_cases c : 0 ≤ i ∧ i < j
  · rw [if_pos c, if_pos ⟨c.1, by omega⟩, List.eraseIdx_append_of_lt_length (by rw [List.length_take]; omega)]
  · rw [if_neg c, if_neg (by omega)]
theorem skip_skip {L : List RH} {i : Int} {j : Nat} (h : j < L.length) (he : ¬ (j : Int) ≠ i) : skipL L i (j + 1) = skipL L i j := by
  unfold skipL
  rw [skip_take L h, if_pos (by omega), if_neg (by omega), List.eraseIdx_append_of_length_le (by rw [List.length_take]; omega)]
  rw [List.length_take, show i.toNat - min j L.length = 0 by omega]; simp
theorem skip_zero (L : List RH) (i : Int) : skipL L i 0 = [] := by
  unfold skipL
  rw [if_neg (by omega)]; rfl
theorem skip_len (L : List RH) (i : Int) (j : Nat) : (skipL L i j).length ≤ L.length := by
  unfold skipL
  split
  · refine Nat.le_trans (List.length_eraseIdx_le _ _) ?_; rw [List.length_take]; omega
  · rw [List.length_take]; omega
theorem skip_none (L : List RH) : skipL L (-1) L.length = L := by unfold skipL; rw [if_neg (by omega), List.take_length]
theorem skip_at {L : List RH} {i : Nat} (h : i < L.length) : skipL L (i : Int) L.length = L.eraseIdx i := by unfold skipL; rw [if_pos (by omega), List.take_length, Int.toNat_natCast]
theorem skip_sub {L : List RH} {i : Int} {j : Nat} : ∀ x ∈ skipL L i j, x ∈ L := fun x hx => by
  unfold skipL at hx
  split at hx
  · exact List.mem_of_mem_take ((List.eraseIdx_sublist _ _).subset hx)
  · exact List.mem_of_mem_take hx
theorem map_erase2 {γ ε : Type} (f : γ → ε) (l : List γ) (i : Nat) : (l.eraseIdx i).map f = (l.map f).eraseIdx i := map_erase f l i
theorem getD_get {L : List RH} {i : Nat} (h : i < L.length) : L[i]? = some (L.getD i zRH) := by rw [List.getD_eq_getElem?_getD, List.getElem?_eq_getElem h]; rfl
theorem ref_getM {L : List RH} {k : KV} {i : Nat} (h : findI (RMl L) k = some i) (hi : i < L.length) : getM (RMl L) k = (RMl (L.getD i zRH :: skipL L (i : Int) L.length), some (L.getD i zRH).val) := by
  unfold getM
  have e : (RMl L)[i]? = some ((L.getD i zRH).key, (L.getD i zRH).val) := by rw [List.getElem?_map, getD_get hi]; rfl
  simp only [h, e]
  rw [skip_at hi, RMl, RMl, List.map_cons, map_erase2]
theorem ref_getM0 {L : List RH} {k : KV} (h : findI (RMl L) k = none) : getM (RMl L) k = (RMl L, none) := by
  unfold getM
  simp only [h]
theorem ref_putM {L : List RH} {k : KV} {i : Nat} {room v : Int} (hr : room ≠ 0) (h : findI (RMl L) k = some i) (hi : i < L.length) : putM room (RMl L) k v = RMl (⟨(L.getD i zRH).key, (L.getD i zRH).A, (L.getD i zRH).c, v⟩ :: skipL L (i : Int) L.length) := by
  unfold putM
  have e : (RMl L)[i]? = some ((L.getD i zRH).key, (L.getD i zRH).val) := by rw [List.getElem?_map, getD_get hi]; rfl
  simp only [if_neg hr, h, e]
  rw [skip_at hi, RMl, RMl, List.map_cons, map_erase2]
theorem ref_putM0 {L : List RH} {k : KV} {room v : Int} {A : Option Addr} {c : Nat} (hr : room ≠ 0) (h : findI (RMl L) k = none) (hl : ¬ (L.length : Int) = room) : putM room (RMl L) k v = RMl (⟨k, A, c, v⟩ :: skipL L (-1) L.length) := by
  unfold putM
  simp only [if_neg hr, h]
  rw [if_neg (by simpa using hl), skip_none]
  rfl
theorem ref_putM1 {L : List RH} {k : KV} {room v : Int} {A : Option Addr} {c : Nat} (hr : room ≠ 0) (h : findI (RMl L) k = none) (hl : (L.length : Int) = room) : putM room (RMl L) k v = RMl ((⟨k, A, c, v⟩ :: skipL L (-1) L.length).take room.toNat) := by
  unfold putM
  simp only [if_neg hr, h]
  rw [if_pos (by simpa using hl), skip_none, show room.toNat = (L.length - 1) + 1 by omega, List.take_succ_cons]
  show _ = (k, v) :: RMl (L.take (L.length - 1))
  congr 1
  rw [List.dropLast_eq_take]
  simp [RMl, List.map_take]
abbrev OPS := S69
def fitsP (k : KV) : Prop := k.f0.size ≤ 200 ∧ k.f1.length ≤ 20 ∧ ∀ i, i < k.f1.length → (k.f1.getD i z50).f0 ≤ 1099511627776
instance (k : KV) : Decidable (fitsP k) := by unfold fitsP; exact inferInstance
theorem fits_small {k : KV} (h : fitsP k) : SmallK k := ⟨by have := h.2.1; omega, fun r hr => by
  obtain ⟨i, hi, rfl⟩ := List.mem_iff_getElem.1 hr
  have := h.2.2 i hi
  rwa [List.getD_eq_getElem?_getD, List.getElem?_eq_getElem hi] at this⟩
def stepV (room : Int) (s : LM Int × Int × Int) (o : OPS) : LM Int × Int × Int :=
  if fitsP o.f1 then
    if o.f0 = 0 then (putM room s.1 o.f1 o.f2, s.2.1, s.2.2)
    else if o.f0 = 1 then ((getM s.1 o.f1).1, (if (getM s.1 o.f1).2.isSome then s.2.1 + 1 else s.2.1), (if (getM s.1 o.f1).2.isSome then s.2.2 else s.2.2 + 1))
    else if o.f0 = 2 then ([], s.2.1, s.2.2)
    else s
  else s
def playV (room : Int) (l : List OPS) (i : Nat) : LM Int × Int × Int := (l.take i).foldl (stepV room) ([], 0, 0)
theorem playV_succ {room : Int} {l : List OPS} {i : Nat} (h : i < l.length) : playV room l (i + 1) = stepV room (playV room l i) (l.getD i z69) := by
  unfold playV
  rw [List.take_add_one, List.getElem?_eq_getElem h, List.foldl_append, List.getD_eq_getElem?_getD, List.getElem?_eq_getElem h]
  rfl
theorem getM_len {V : Type} (M : LM V) (k : KV) : (getM M k).1.length = M.length := by
  unfold getM
  split
  · rfl
  · rename_i i h
    obtain ⟨p, hp, _⟩ := find_some h
    have hi := (List.getElem?_eq_some_iff.1 hp).1
    simp only [hp, List.length_cons, List.length_eraseIdx, if_pos hi]
    omega
theorem putM_len {V : Type} (room : Int) (M : LM V) (k : KV) (v : V) (hr : 0 ≤ room) (h : (M.length : Int) ≤ room) : ((putM room M k v).length : Int) ≤ room ∧ (putM room M k v).length ≤ M.length + 1 ∧ (room ≠ 0 → 1 ≤ (putM room M k v).length) := by
  unfold putM
  split
  · exact ⟨h, by omega, fun e => absurd (by assumption) e⟩
  · split
    · split
      · rw [List.length_cons, List.length_dropLast]; exact ⟨by omega, by omega, fun _ => by omega⟩
      · rw [List.length_cons]; exact ⟨by omega, by omega, fun _ => by omega⟩
    · rename_i i h
      obtain ⟨p, hp, _⟩ := find_some h
      have hi := (List.getElem?_eq_some_iff.1 hp).1
      simp only [hp, List.length_cons, List.length_eraseIdx, if_pos hi]
      exact ⟨by omega, by omega, fun _ => by omega⟩
theorem play_bd {room : Int} (hr : 0 ≤ room) (l : List OPS) : ∀ i, i ≤ l.length → ((playV room l i).1.length : Int) ≤ room ∧ (playV room l i).1.length ≤ i ∧ 0 ≤ (playV room l i).2.1 ∧ (playV room l i).2.1 ≤ i ∧ 0 ≤ (playV room l i).2.2 ∧ (playV room l i).2.2 ≤ i
  | 0, _ => ⟨hr, Nat.le_refl _, Int.le_refl _, Int.le_refl _, Int.le_refl _, Int.le_refl _⟩
  | i + 1, h => by
    obtain ⟨a1, a2, a3, a4, a5, a6⟩ := play_bd hr l i (by omega)
    rw [playV_succ (by omega)]
    generalize playV room l i = s at *
    unfold stepV
    split
    · split
      · obtain ⟨b1, b2, _⟩ := putM_len room s.1 (l.getD i z69).f1 (l.getD i z69).f2 hr a1
        exact ⟨b1, Nat.le_trans b2 (by omega), a3, by show s.2.1 ≤ _; omega, a5, by show s.2.2 ≤ _; omega⟩
      · split
        · have e := getM_len s.1 (l.getD i z69).f1
          refine ⟨by rw [e]; exact a1, by rw [e]; omega, ?_, ?_, ?_, ?_⟩ <;> (show _ ≤ _; simp only; split <;> omega)
        · split
          · exact ⟨hr, Nat.zero_le _, a3, by show s.2.1 ≤ _; omega, a5, by show s.2.2 ≤ _; omega⟩
          · exact ⟨a1, by omega, a3, by omega, a5, by omega⟩
    · exact ⟨a1, by omega, a3, by omega, a5, by omega⟩
end Go.Proofs.Ytmlkajmlhmfdgaa.Ca
