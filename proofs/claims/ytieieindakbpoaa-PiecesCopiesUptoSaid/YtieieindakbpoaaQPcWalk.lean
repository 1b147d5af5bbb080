/- Pruned by wip/prune.py. -/
import Derived.Test.YtieieindakbpoaaQPcText
import Derived.Test.YtieieindakbpoaaQSxRange1
namespace Go.Proofs.Ytieieindakbpoaa.Pc
open Go Go.RowKit Go.Proofs.YtieieindakbpoaaW.PrintWords Go.Proofs.Ytieieindakbpoaa.Kinds Go.Proofs.Ytieieindakbpoaa.Given Go.Proofs.Ytieieindakbpoaa.Rn Go.Proofs.Ytieieindakbpoaa.Sx AT
set_option linter.unusedVariables false
theorem ft_in {φ : World → Prop} {w : World} {F : Nat → Prop} {g : Nat} {o : Obj} (h : Ft φ w F) (hg : ∀ W, φ W → W.heap[g]? = some o) : F g := by
  refine Classical.byContradiction fun hn => ?_
  have h1 := hg w (h w fun _ _ _ => rfl)
  obtain ⟨hl, _⟩ := Array.getElem?_eq_some_iff.1 h1
  have key : ∀ o' : Obj, o' = o := fun o' => by
    have h2 := hg (w.putObj g o') (h _ fun k hk _ => World.putObj_heap_other (fun e => hn (e ▸ hk)))
    rw [World.putObj_heap_same hl] at h2
    exact Option.some.inj h2
  have e1 := key (.deferred none)
  have e2 := key (.deferred (some []))
  rw [← e1] at e2
  cases e2
theorem stab_at {φ : World → Prop} {w w0 : World} {F0 : Nat → Prop} {gs : Gs} {vs : List (List Value)} {rest : List HP} {i : Nat} (h : St w0 F0 (pcs gs vs ++ rest) w) (hl : vs.length = gs.length) (hi : rest[i]? = some (lib φ)) :
    ∀ T : AT, (∀ W, φ W → At W T) → ∀ W', KC gs w W' → At W' T := by
  obtain ⟨h1, h2, h3, h4, F, h5, h6, h7, h8⟩ := h
  obtain ⟨s1, s2, s3, s4⟩ := sep_split hl h5
  obtain ⟨G, g1, g2⟩ := Sep_get s4 hi
  intro T
  induction T with
  | nil => intro _ _ _; trivial
  | nd g l p r il ir =>
    intro hT W' hk
    refine ⟨?_, il (fun W hW => (hT W hW).2.1) W' hk, ir (fun W hW => (hT W hW).2.2) W' hk⟩
    have hG := ft_in g2 (fun W hW => (hT W hW).1)
    exact hk.2 g _ (g1 g hG).2 (hT w (g2 w fun _ _ _ => rfl)).1 rfl
def chs (s0 : ByteArray) (L : List Int) (l : List P1) : List ByteArray := l.map (txP s0 L)
theorem chs_len (s0 : ByteArray) (L : List Int) (l : List P1) : (chs s0 L l).length = l.length := by simp [chs]
theorem chs_app (s0 : ByteArray) (L : List Int) (a b : List P1) : chs s0 L (a ++ b) = chs s0 L a ++ chs s0 L b := by simp [chs]
theorem chs_cons (s0 : ByteArray) (L : List Int) (p : P1) (b : List P1) : chs s0 L (p :: b) = txP s0 L p :: chs s0 L b := rfl
def catB : List ByteArray → ByteArray
  | [] => ByteArray.empty
  | x :: l => x ++ catB l
theorem catB_app (a b : List ByteArray) : catB (a ++ b) = catB a ++ catB b := by
  induction a with
  | nil => simp [catB]
  | cons p a ih => simp only [List.cons_append, catB]; rw [ih, ByteArray.append_assoc]
theorem catB_one (x : ByteArray) : catB [x] = x := by simp [catB]
theorem catB_chs (s0 : ByteArray) (L : List Int) (l : List P1) : catB (chs s0 L l) = cat s0 L l := by
  induction l with
  | nil => rfl
  | cons p l ih => simp only [chs, List.map_cons, catB, cat]; rw [← ih]; rfl
/-- What a walk left early has given. -/
theorem take_left {α : Type} {a b : List α} {k : Nat} (h : k ≤ a.length) : ∃ j, j ≤ (a ++ b).length ∧ (a ++ b).take j = a.take k := ⟨k, by rw [List.length_append]; omega, by rw [List.take_append_of_le_length h]⟩
theorem take_right {α : Type} {a b : List α} {k : Nat} (h : k ≤ b.length) : ∃ j, j ≤ (a ++ b).length ∧ (a ++ b).take j = a ++ b.take k := ⟨a.length + k, by rw [List.length_append]; omega, by rw [List.take_append, List.take_of_length_le (by omega), show a.length + k - a.length = k by omega]⟩
end Go.Proofs.Ytieieindakbpoaa.Pc
