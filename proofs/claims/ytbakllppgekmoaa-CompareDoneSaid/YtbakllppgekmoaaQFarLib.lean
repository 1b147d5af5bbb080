/- Pruned by wip/prune.py. -/
import Derived.Test.YtbakllppgekmoaaQSxIter
import Derived.Test.YtbakllppgekmoaaQCmpTh
import Derived.Test.YtbakllppgekmoaaQWAll
namespace Go.Proofs.Ytbakllppgekmoaa.Far
open Go Go.RowKit Go.Proofs.YtbakllppgekmoaaW.PrintWords
set_option linter.unusedVariables false
set_option linter.unusedSimpArgs false
open Sx
/-- It holds in every world that has what lies in some blocks. -/
def Ft (φ : World → Prop) (w : World) (F : Nat → Prop) : Prop := ∀ W' : World, (∀ k, F k → k < w.heap.size → W'.heap[k]? = w.heap[k]?) → φ W'
def lib (φ : World → Prop) : HP where
  p := fun w F => Ft φ w F
  mono := fun hF h W' hW => h W' fun k hk hl => hW k (hF k hk) hl
  bound := fun h W' hW => h W' fun k hk hl => hW k ⟨hk, hl⟩ hl
  move := fun {w w1 F} hm h W' hW => h W' fun k hk hl => by
    have h1 := hm k hk
    refine (hW k hk ?_).trans h1
    refine Classical.byContradiction fun hn => ?_
    rw [Array.getElem?_eq_none (by omega), Array.getElem?_eq_getElem hl] at h1
    cases h1
structure Hd where
  A : Option Addr
  n : Nat
  c : Nat
abbrev FR := List Int × Hd
def kF : Kd FR := Kd.iso (Kd.scalar (fun h : Hd => .slice h.A h.n h.c) (fun _ => rfl)) (fun p : FR => p.2)
def zF : FR := ([], ⟨none, 0, 0⟩)
theorem flatF : Flat kF := fun _ _ _ _ _ _ h => h
theorem kF_open {w : World} {p : FR} {cs : List Value} (h : kF.K w p cs) : cs = [.slice p.2.A p.2.n p.2.c] := h
theorem kF_mkM (w : World) (base : Nat) (ok : Nat → Prop) (p : FR) : kF.M w base ok p [.slice p.2.A p.2.n p.2.c] := rfl
abbrev kI : Kd Int := Kd.int .i64
def GF (w : World) (p : FR) : Prop := p.2.n = p.1.length ∧ p.1.length ≤ p.2.c ∧ kI.C w p.2.A p.1.length p.1
def AllF (Fs : List FR) (w : World) : Prop := ∀ p ∈ Fs, GF w p
section
variable {w0 w : World} {F0 : Nat → Prop} {cs : List HP} {i : Nat} {φ : World → Prop} {Fs : List FR}
theorem lib_now (h : St w0 F0 cs w) (hi : cs[i]? = some (lib φ)) : φ w := by
  obtain ⟨G, _, hg⟩ := st_get h hi
  exact hg w fun _ _ _ => rfl
theorem lib_nil (h : St w0 F0 cs w) : St w0 F0 (lib (AllF []) :: cs) w := st_free h fun W' _ p hp => by cases hp
theorem close_far {B : Option Addr} {c e : Nat} {L : List Int} (h : St w0 F0 (row kI e B c L :: lib (AllF Fs) :: cs) w) : St w0 F0 (lib (AllF (Fs ++ [(L, ⟨B, L.length, c⟩)])) :: cs) w := by
  have hc := (row_reads (i := 0) h rfl).1
  refine st_imp (st_star h) fun F hF => ?_
  obtain ⟨G1, i1, hrow, hS⟩ := hF
  have hF1 := Kd.R_F hrow
  intro W' hW p hp
  rcases List.mem_append.1 hp with hp | hp
  · exact hS W' (fun k hk hl => hW k hk.1 hl) p hp
  · rw [List.mem_singleton.1 hp]
    exact ⟨rfl, hc, hF1 W' fun k hk hl => hW k (i1 k hk) hl⟩
theorem far_get {x : FR} {Aw : Option Addr} {W : List Int} (h : St w0 F0 cs w) (hi : cs[i]? = some (lib (AllF Fs))) (hm : x ∈ Fs) (hA : Aw = x.2.A) (hW : W = x.1) : kI.C w Aw W.length W := by
  subst hA; subst hW
  exact (lib_now h hi x hm).2.2
theorem far_n {x : FR} (h : St w0 F0 cs w) (hi : cs[i]? = some (lib (AllF Fs))) (hm : x ∈ Fs) : x.2.n = x.1.length := (lib_now h hi x hm).1
end
theorem getD_mem {Fs : List FR} {i : Nat} (h : i < Fs.length) : Fs.getD i zF ∈ Fs := by
  rw [List.getD_eq_getElem?_getD, List.getElem?_eq_getElem h]
  exact List.getElem_mem _
theorem getD_fst (Fs : List FR) (i : Nat) : (Fs.getD i zF).1 = (Fs.map (·.1)).getD i [] := by
  simp only [List.getD_eq_getElem?_getD, List.getElem?_map]
  cases Fs[i]? <;> rfl
end Go.Proofs.Ytbakllppgekmoaa.Far
