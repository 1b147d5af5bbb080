/- Pruned by wip/prune.py. -/
import Derived.Test.YtieieindakbpoaaQPcEdit
namespace Go.Proofs.Ytieieindakbpoaa.PE
open Go Go.Lib Go.RowKit Go.Proofs.YtieieindakbpoaaW.PrintWords Go.Proofs.Ytieieindakbpoaa.Kinds Go.Proofs.Ytieieindakbpoaa.Given Go.Proofs.Ytieieindakbpoaa.Rn Go.Proofs.Ytieieindakbpoaa.Pc
set_option linter.unusedVariables false
set_option linter.unusedSimpArgs false
theorem ascii_right {s : ByteArray} (h : ∀ j : Nat, j < s.size → bt s j < 128) : (refV s).2 < 0 := by
  have key : ∀ (m p : Nat), p + m = s.size → ∃ l, Par s p l s.size := by
    intro m
    induction m with
    | zero => intro p hp; exact ⟨[], by rw [show (s.size : Int) = (p : Int) by omega]; exact Par.nil _⟩
    | succ m ih =>
      intro p hp
      obtain ⟨l, hl⟩ := ih (p + 1) (by omega)
      have e : readV s p = (bt s p, 1) := by unfold readV; rw [if_pos (h p (by omega))]
      refine ⟨_, Par.cons (l := l) (by omega) (by omega) (by rw [e]; show (0 : Int) < 1; decide) ?_⟩
      rw [e]
      exact hl
  obtain ⟨l, hl⟩ := key s.size 0 (by omega)
  exact par_right hl
theorem bo_sn {M : List Int} (h : Bytes M) : bytesOf (strOfNums M) = M := by
  apply List.ext_getElem?
  intro i
  rcases Nat.lt_or_ge i M.length with hi | hi
  · have hs : i < (strOfNums M).size := by rw [sn_size]; exact hi
    rw [bo_get _ _ hs, bt_sn h hi, List.getD_eq_getElem?_getD, List.getElem?_eq_getElem hi]
    rfl
  · rw [List.getElem?_eq_none (by rw [bytesOf_length, sn_size]; exact hi), List.getElem?_eq_none hi]
def rep (v : Int) (n : Nat) : ByteArray := strOfNums (List.replicate n v)
theorem rep_bytes {v : Int} (n : Nat) (h0 : 0 ≤ v) (h1 : v < 256) : Bytes (List.replicate n v) := fun x hx => by rw [List.eq_of_mem_replicate hx]; exact ⟨h0, h1⟩
theorem rep_size (v : Int) (n : Nat) : (rep v n).size = n := by unfold rep; rw [sn_size, List.length_replicate]
theorem rep_bt {v : Int} {n j : Nat} (h0 : 0 ≤ v) (h1 : v < 256) (hj : j < n) : bt (rep v n) j = v := by
  unfold rep
  rw [bt_sn (rep_bytes n h0 h1) (by rw [List.length_replicate]; exact hj), List.getD_eq_getElem?_getD, List.getElem?_replicate, if_pos hj]
  rfl
theorem rep_right {v : Int} (n : Nat) (h0 : 0 ≤ v) (h1 : v < 128) : (refV (rep v n)).2 < 0 := ascii_right fun j hj => by
  rw [rep_size] at hj
  rw [rep_bt h0 (by omega) hj]
  exact h1
theorem rep_nl (n : Nat) : nlB (rep 10 n) = n := by
  unfold nlB rep
  rw [bo_sn (rep_bytes n (by decide) (by decide)), List.count_replicate_self]
theorem rep_no (n : Nat) : nlB (rep 97 n) = 0 := by
  unfold nlB rep
  rw [bo_sn (rep_bytes n (by decide) (by decide)), List.count_replicate]
  rfl
theorem ins_nl {C s : ByteArray} {k : Int} (h0 : 0 ≤ k) (h1 : k ≤ C.size) : nlB (C.extract 0 k.toNat ++ s ++ C.extract k.toNat C.size) = nlB C + nlB s := by
  have e : C.extract 0 k.toNat ++ C.extract k.toNat C.size = C := by rw [ex_app _ (by omega) (by omega), ex_all]
  have e2 := congrArg nlB e
  rw [nlB_app] at e2
  rw [nlB_app, nlB_app]
  omega
/-- So many places are filled. -/
def fill (v : Int) (n i : Nat) : List Int := List.replicate i v ++ List.replicate (n - i) 0
theorem fill_none (v : Int) (n : Nat) : fill v n 0 = List.replicate n 0 := by simp [fill]
theorem fill_all (v : Int) (n : Nat) : fill v n n = List.replicate n v := by simp [fill]
theorem fill_len {v : Int} {n i : Nat} (h : i ≤ n) : (fill v n i).length = n := by simp [fill]; omega
theorem fill_set {v : Int} {n i : Nat} (h : i < n) : (fill v n i).set i v = fill v n (i + 1) := by
  unfold fill
  obtain ⟨m, hm⟩ : ∃ m, n - i = m + 1 := ⟨n - i - 1, by omega⟩
  rw [hm, show n - (i + 1) = m by omega, List.set_append_right _ _ (by simp)]
  rw [List.length_replicate, Nat.sub_self, show List.replicate (m + 1) (0 : Int) = 0 :: List.replicate m 0 from rfl, List.set_cons_zero, List.replicate_succ', List.append_assoc]
  rfl
section
variable {n m : Nat}
theorem rep_new (h : n ≤ 65536) : TX.newV (rep 97 n) = 0 := by
  rw [TX.newV_fit (by rw [rep_size]; exact h)]
  exact right_check (rep_right n (by decide) (by decide))
theorem rep_big (h : 65536 < n) : TX.newV (rep 97 n) = 31 := TX.newV_big (by rw [rep_size]; exact h)
theorem rep_chk {k : Int} (h0 : 0 ≤ k) (h1 : k ≤ n) : RD.pchk (rep 97 n) k = 0 := by
  unfold RD.pchk
  rw [rep_size, if_neg (by omega), if_neg (fun z => ?_)]
  obtain ⟨z1, z2⟩ := z
  have := rep_bt (v := 97) (n := n) (j := k.toNat) (by decide) (by decide) (by omega)
  rw [show ((k.toNat : Nat) : Int) = k by omega] at this
  rw [this] at z2
  exact absurd z2 (by decide)
theorem rep_ins {k : Int} (h0 : 0 ≤ k) (h1 : k ≤ n) : ED.pins (rep 97 n) k (rep 10 m) = if 65536 < n + m then 31 else 0 := by
  unfold ED.pins
  rw [rep_chk h0 h1, if_neg (by omega), right_check (rep_right m (by decide) (by decide)), if_neg (by omega), rep_size, rep_size]
theorem rep_insT {k : Int} (h0 : 0 ≤ k) (h1 : k ≤ n) (h : n + m ≤ 65536) : (ED.insT (rep 97 n) k (rep 10 m)).size = n + m ∧ nlB (ED.insT (rep 97 n) k (rep 10 m)) = m := by
  have e : ED.insT (rep 97 n) k (rep 10 m) = _ := if_pos (by rw [rep_ins h0 h1, if_neg (by omega)])
  rw [e, ED.ins_size h0 (by rw [rep_size]; exact h1), ins_nl h0 (by rw [rep_size]; exact h1), rep_no, rep_nl, rep_size, rep_size]
  omega
theorem rep_bad {k : Int} (h0 : 0 ≤ k) (h1 : k ≤ n) (h : 65536 < n + m) : ED.insT (rep 97 n) k (rep 10 m) = rep 97 n := if_neg (by rw [rep_ins h0 h1, if_pos h]; decide)
end
end Go.Proofs.Ytieieindakbpoaa.PE
