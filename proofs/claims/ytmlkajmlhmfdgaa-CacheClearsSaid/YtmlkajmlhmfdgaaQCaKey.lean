/- Pruned by wip/prune.py. -/
import Derived.Test.YtmlkajmlhmfdgaaQRunsTh
import Derived.Test.YtmlkajmlhmfdgaaQCaMem
namespace Go.Proofs.Ytmlkajmlhmfdgaa.Ca
open Go Go.RowKit Go.Proofs.YtmlkajmlhmfdgaaW.PrintWords Go.Proofs.Ytmlkajmlhmfdgaa.Kinds Go.Proofs.Ytmlkajmlhmfdgaa.Runs Go.Proofs.Ytmlkajmlhmfdgaa.Sx
set_option linter.unusedVariables false
set_option linter.unusedSimpArgs false
abbrev KV := S33
def mulA (m n : Int) : Int := IntKind.wrap .u64 ((Go.bits .xor .u64 m (IntKind.wrap .u64 n)) * 11400714819323198485)
def mixA (m n : Int) : Int := Go.bits .xor .u64 (mulA m n) (mulA m n / 536870912)
def rstep (x : Int × Int × Int) (r : Rn) : Int × Int × Int :=
  if r.f0 ≤ 0 then x else if r.f1 ≠ x.2.1 ∧ 0 < x.2.2 then (mixA (mixA x.1 x.2.1) x.2.2, r.f1, 0 + r.f0) else (x.1, r.f1, x.2.2 + r.f0)
def rfold (m : Int) (l : List Rn) : Int × Int × Int := l.foldl rstep (m, -1, 0)
def bfold (s : ByteArray) (k : Nat) : Int := (List.range k).foldl (fun m i => mixA m (byteAt s i)) 0
theorem bfold_succ (s : ByteArray) (k : Nat) : bfold s (k + 1) = mixA (bfold s k) (byteAt s k) := by unfold bfold; rw [List.range_succ, List.foldl_append]; rfl
def hashT (s : ByteArray) : Int := mixA (bfold s s.size) (s.size : Int)
def numsK (st sz : Int) (k : KV) : List Int := [st, sz, k.f2, k.f3, k.f4.f0, k.f4.f1, k.f4.f2, k.f4.f3, k.f4.f4, k.f4.f5, k.f4.f6]
def hashK (k : KV) : Int := (numsK (rfold (hashT k.f0) k.f1).2.1 (rfold (hashT k.f0) k.f1).2.2 k).foldl mixA (rfold (hashT k.f0) k.f1).1
theorem mix_succ (l : List Int) (m : Int) {i : Nat} (h : i < l.length) (z : Int) : (l.take (i + 1)).foldl mixA m = mixA ((l.take i).foldl mixA m) (l.getD i z) := by
  rw [List.take_add_one, List.getElem?_eq_getElem h, List.foldl_append, List.getD_eq_getElem?_getD, List.getElem?_eq_getElem h]
  rfl
theorem rfold_succ (m : Int) (l : List Rn) {i : Nat} (h : i < l.length) (z : Rn) : rfold m (l.take (i + 1)) = rstep (rfold m (l.take i)) (l.getD i z) := by
  unfold rfold
  rw [List.take_add_one, List.getElem?_eq_getElem h, List.foldl_append, List.getD_eq_getElem?_getD, List.getElem?_eq_getElem h]
  rfl
def rG (m : Int) (L : List Rn) : Int × Int × Int := match L.getLast? with
  | none => (m, -1, 0)
  | some r => (L.dropLast.foldl (fun m r => mixA (mixA m r.f1) r.f0) m, r.f1, r.f0)
theorem rG_nil (m : Int) : rG m [] = (m, -1, 0) := rfl
theorem rG_snoc (m : Int) (L : List Rn) (r : Rn) : rG m (L ++ [r]) = (L.foldl (fun m r => mixA (mixA m r.f1) r.f0) m, r.f1, r.f0) := by
  unfold rG
  rw [List.getLast?_concat, List.dropLast_concat]
theorem expand_snocR (l : List Rn) (r : Rn) : expand (l ++ [r]) = expand l ++ List.replicate r.f0.toNat r.f1 := by simp [expand]
theorem rn_ind {P : List Rn → Prop} (h0 : P []) (h1 : ∀ l r, P l → P (l ++ [r])) : ∀ l, P l := by
  intro l
  obtain ⟨m, rfl⟩ : ∃ m : List Rn, l = m.reverse := ⟨l.reverse, by simp⟩
  induction m with
  | nil => exact h0
  | cons r m ih => rw [List.reverse_cons]; exact h1 _ _ ih
theorem rfold_merged (m : Int) (l : List Rn) : rfold m l = rG m (runsOf (expand l)) := by
  induction l using rn_ind with
  | h0 => rfl
  | h1 l r ih =>
    have e1 : rfold m (l ++ [r]) = rstep (rfold m l) r := by unfold rfold; rw [List.foldl_append]; rfl
    rw [e1, ih, expand_snocR, runsOf_rep]
    have hpos := pos_runs (expand l)
    generalize runsOf (expand l) = L at hpos
    unfold rstep putL
    by_cases h0 : r.f0 ≤ 0
    · rw [if_pos h0, if_pos (show r.f0.toNat = 0 by omega)]
    · rw [if_neg h0, if_neg (show ¬ r.f0.toNat = 0 by omega)]
      have hn : ((r.f0.toNat : Nat) : Int) = r.f0 := by omega
      rw [hn]
      cases hL : L.getLast? with
      | none =>
        obtain rfl : L = [] := List.getLast?_eq_none_iff.1 hL
        rw [rG_nil, if_neg (fun e => absurd e.2 (by simp))]
        show _ = rG m ([] ++ [(⟨r.f0, r.f1⟩ : Rn)])
        rw [rG_snoc]
        simp
      | some q =>
        obtain ⟨M, rfl⟩ := List.getLast?_eq_some_iff.1 hL
        have hq := hpos q (by simp)
        rw [rG_snoc]
        simp only
        by_cases c : q.f1 = r.f1
        · rw [if_pos c, if_neg (fun e => e.1 c.symm), List.dropLast_concat, rG_snoc, c]
        · rw [if_neg c, if_pos ⟨fun e => c e.symm, by omega⟩, rG_snoc, List.foldl_append]
          simp
theorem rfold_bd (m : Int) (l : List Rn) : 0 ≤ (rfold m l).2.2 ∧ (rfold m l).2.2 ≤ (expand l).length := by
  rw [rfold_merged]
  have hpos := pos_runs (expand l)
  have hle := lenR_runs (expand l)
  generalize runsOf (expand l) = L at hpos hle
  unfold rG
  cases hL : L.getLast? with
  | none => exact ⟨by simp, by simp⟩
  | some q =>
    have hq : q ∈ L := List.mem_of_getLast? hL
    have h1 := hpos q hq
    have h2 := mem_lenR hpos hq
    rw [hle] at h2
    exact ⟨by show 0 ≤ q.f0; omega, h2⟩
def alikeP (a b : KV) : Prop := a.f0 = b.f0 ∧ a.f2 = b.f2 ∧ a.f3 = b.f3 ∧ a.f4 = b.f4 ∧ runsOf (expand a.f1) = runsOf (expand b.f1)
instance (a b : KV) : Decidable (alikeP a b) := by unfold alikeP; exact inferInstance
def alikeB (a b : KV) : Bool := decide (alikeP a b)
theorem alike_refl (a : KV) : alikeB a a = true := decide_eq_true ⟨rfl, rfl, rfl, rfl, rfl⟩
theorem alike_symm {a b : KV} (h : alikeB a b = true) : alikeB b a = true := by
  obtain ⟨h1, h2, h3, h4, h5⟩ := of_decide_eq_true h
  exact decide_eq_true ⟨h1.symm, h2.symm, h3.symm, h4.symm, h5.symm⟩
theorem alike_trans {a b c : KV} (h : alikeB a b = true) (h' : alikeB b c = true) : alikeB a c = true := by
  obtain ⟨h1, h2, h3, h4, h5⟩ := of_decide_eq_true h
  obtain ⟨g1, g2, g3, g4, g5⟩ := of_decide_eq_true h'
  exact decide_eq_true ⟨h1.trans g1, h2.trans g2, h3.trans g3, h4.trans g4, h5.trans g5⟩
theorem alike_comm (a b : KV) : alikeB a b = alikeB b a := by
  cases h : alikeB b a with
  | true => exact alike_symm h
  | false =>
    cases h' : alikeB a b with
    | false => rfl
    | true => rw [alike_symm h'] at h; cases h
theorem hash_alike {a b : KV} (h : alikeB a b = true) : hashK a = hashK b := by
  obtain ⟨h1, h2, h3, h4, h5⟩ := of_decide_eq_true h
  unfold hashK
  rw [rfold_merged, rfold_merged, h1, h5]
  unfold numsK
  rw [h2, h3, h4]
def SmallK (k : KV) : Prop := k.f1.length ≤ 1048576 ∧ ∀ r ∈ k.f1, r.f0 ≤ 1099511627776
theorem expand_small : ∀ (l : List Rn), (∀ r ∈ l, r.f0 ≤ 1099511627776) → (expand l).length ≤ l.length * 1099511627776
  | [], _ => by simp [expand]
  | r :: l, h => by
    have h1 := h r List.mem_cons_self
    have h2 := expand_small l (fun q hq => h q (List.mem_cons_of_mem _ hq))
    have e : (expand (r :: l)).length = r.f0.toNat + (expand l).length := by simp [expand]
    rw [e, List.length_cons]
    omega
theorem small_len {k : KV} (h : SmallK k) : (expand k.f1).length ≤ 1152921504606846976 ∧ k.f1.length ≤ 1099511627776 ∧ k.f1.length ≤ 1048576 := by
  have h1 := expand_small k.f1 h.2
  have h2 := h.1
  exact ⟨by omega, by omega, h2⟩
theorem exp_take (l : List Rn) (k : Nat) : (expand (l.take k)).length ≤ (expand l).length := posR_le l k
end Go.Proofs.Ytmlkajmlhmfdgaa.Ca
