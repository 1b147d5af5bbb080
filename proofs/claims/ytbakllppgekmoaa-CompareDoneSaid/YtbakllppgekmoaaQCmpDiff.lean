/- Pruned by wip/prune.py. -/
import Derived.Test.YtbakllppgekmoaaQCmpBest
import Derived.Test.YtbakllppgekmoaaQCmpApply
import Derived.Test.YtbakllppgekmoaaQRunesParts
namespace Go.Proofs.Ytbakllppgekmoaa.Cmp
open Go Go.RowKit Go.Proofs.Ytbakllppgekmoaa.Given Go.Proofs.Ytbakllppgekmoaa.Kinds Go.Proofs.Ytbakllppgekmoaa.Rn Go.Proofs.YtbakllppgekmoaaW.PrintWords
set_option linter.unusedVariables false
set_option linter.unusedSimpArgs false
theorem ba_ext {a b : ByteArray} (hs : a.size = b.size) (h : ∀ i : Nat, i < a.size → bt a i = bt b i) : a = b := by
  apply ByteArray.ext
  apply Array.ext
  · exact hs
  · intro i h1 h2
    have := h i h1
    unfold bt at this
    rw [dif_pos (by simpa using h1), dif_pos (by simpa using (show i < b.size from h2))] at this
    have h3 : a[i].toNat = b[i].toNat := Int.ofNat_inj.1 (by simpa using this)
    exact UInt8.toNat_inj.1 h3
theorem ex_app (s : ByteArray) {a b c : Nat} (h1 : a ≤ b) (h2 : b ≤ c) : s.extract a b ++ s.extract b c = s.extract a c := by
  rw [ByteArray.extract_append_extract, Nat.min_eq_left h1, Nat.max_eq_right h2]
theorem ex_none (s : ByteArray) (a : Nat) : s.extract a a = ByteArray.empty := by
  apply ba_ext
  · rw [ByteArray.size_extract]; show _ = 0; omega
  · intro i hi
    rw [ByteArray.size_extract] at hi
    omega
theorem ex_all (s : ByteArray) : s.extract 0 s.size = s := ByteArray.extract_zero_size
/-- The places of a parse, and its end. -/
def plc (l : List (Int × Int)) (e : Int) (i : Nat) : Int := (l.map (·.1) ++ [e]).getD i 0
section
variable {s : ByteArray}
def rl (s : ByteArray) : List (Int × Int) := (refV s).1
/-- The place ahead of rune i. -/
def ax (s : ByteArray) (i : Nat) : Int := plc (rl s) s.size i
end
section
variable {s t : ByteArray}
end
def stp (s : ByteArray) (st : ByteArray × Int) (e : Edit) : ByteArray × Int := (st.1 ++ s.extract st.2.toNat e.f0.toNat ++ e.f2, e.f1)
def accF (s : ByteArray) (st : ByteArray × Int) (l : List Edit) : ByteArray × Int := l.foldl (stp s) st
theorem accA_fold (s : ByteArray) (l : List Edit) : ∀ k, k ≤ l.length → accA s l k = accF s (ByteArray.empty, 0) (l.take k)
  | 0, _ => rfl
  | k + 1, h => by
    have ih := accA_fold s l k (by omega)
    have e : l.take (k + 1) = l.take k ++ [ge l k] := by
      rw [List.take_add_one, List.getElem?_eq_getElem (by omega)]
      unfold ge
      rw [List.getD_eq_getElem?_getD, List.getElem?_eq_getElem (by omega)]
      rfl
    rw [e]
    unfold accF
    rw [List.foldl_append]
    show accA s l (k + 1) = stp s (accF s (ByteArray.empty, 0) (l.take k)) (ge l k)
    rw [← ih]
    rfl
theorem done_fold (s : ByteArray) (l : List Edit) : doneV s l = (accF s (ByteArray.empty, 0) l).1 ++ s.extract (accF s (ByteArray.empty, 0) l).2.toNat s.size := by
  unfold doneV
  rw [accA_fold s l l.length (Nat.le_refl _), List.take_length]
section
variable {s a : ByteArray}
end
end Go.Proofs.Ytbakllppgekmoaa.Cmp
