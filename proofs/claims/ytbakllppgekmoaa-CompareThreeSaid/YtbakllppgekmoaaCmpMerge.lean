/- Two lists of edits together, in plain Lean. -/
import Derived.Test.YtbakllppgekmoaaCmpText
namespace Go.Proofs.Ytbakllppgekmoaa.Cmp
open Go Go.RowKit Go.Proofs.Ytbakllppgekmoaa.Given Go.Proofs.Ytbakllppgekmoaa.Kinds
set_option linter.unusedVariables false
set_option linter.unusedSimpArgs false
def Ahead (a b : Edit) : Prop := a.f1 < b.f0 ∨ (a.f1 = b.f0 ∧ a.f0 < a.f1)
instance (a b : Edit) : Decidable (Ahead a b) := by unfold Ahead; infer_instance
def Vd (e : Edit) : Prop := e.f0 ≤ e.f1
theorem ahead_irr {a : Edit} (h : Ahead a a) (hv : Vd a) : False := by unfold Ahead at h; unfold Vd at hv; omega
theorem ahead_asym {a b : Edit} (ha : Vd a) (hb : Vd b) (h : Ahead a b) (h2 : Ahead b a) : False := by unfold Ahead at h h2; unfold Vd at ha hb; omega
theorem ahead_trans {a b c : Edit} (ha : Vd a) (hb : Vd b) (hc : Vd c) (h : Ahead a b) (h2 : Ahead b c) : Ahead a c := by unfold Ahead at h h2 ⊢; unfold Vd at ha hb hc; omega
/-- May edits be of a text of so many bytes? -/
def OkAt (size : Int) (l : List Edit) (i : Nat) : Prop := 0 ≤ (l.getD i z33).f0 ∧ (l.getD i z33).f0 ≤ (l.getD i z33).f1 ∧ (l.getD i z33).f1 ≤ size ∧ (0 < i → (l.getD (i - 1) z33).f1 ≤ (l.getD i z33).f0 ∧ (l.getD i z33).f0 ≠ (l.getD (i - 1) z33).f0)
instance (size : Int) (l : List Edit) (i : Nat) : Decidable (OkAt size l i) := by unfold OkAt; infer_instance
def InOrd (size : Int) (l : List Edit) : Prop := ∀ i, i < l.length → OkAt size l i
instance (size : Int) (l : List Edit) : Decidable (InOrd size l) := by unfold InOrd; infer_instance
def Srt (l : List Edit) : Prop := l.Pairwise Ahead ∧ ∀ e ∈ l, Vd e
theorem srt_of_ord {size : Int} {l : List Edit} (h : InOrd size l) : Srt l := by
  have hv : ∀ i, i < l.length → Vd (l.getD i z33) := fun i hi => (h i hi).2.1
  have hstep : ∀ i, i + 1 < l.length → Ahead (l.getD i z33) (l.getD (i + 1) z33) := fun i hi => by
    have h1 := (h (i + 1) hi).2.2.2 (by omega)
    have h2 := (h i (by omega)).2.1
    rw [Nat.add_sub_cancel] at h1
    unfold Ahead
    omega
  have hall : ∀ d i, i + d + 1 < l.length → Ahead (l.getD i z33) (l.getD (i + d + 1) z33) := by
    intro d
    induction d with
    | zero => intro i hi; exact hstep i hi
    | succ d ih =>
      intro i hi
      exact ahead_trans (hv i (by omega)) (hv (i + d + 1) (by omega)) (hv (i + (d + 1) + 1) (by omega)) (ih i (by omega)) (hstep (i + d + 1) (by omega))
  have hg : ∀ i (hi : i < l.length), l.getD i z33 = l[i] := fun i hi => by rw [List.getD_eq_getElem?_getD, List.getElem?_eq_getElem hi]; rfl
  refine ⟨List.pairwise_iff_getElem.2 fun i j hi hj hij => ?_, fun e he => ?_⟩
  · have := hall (j - i - 1) i (by omega)
    rwa [show i + (j - i - 1) + 1 = j by omega, hg i hi, hg j hj] at this
  · obtain ⟨i, hi, rfl⟩ := List.getElem_of_mem he
    have := hv i hi
    rwa [hg i hi] at this
theorem srt_tail {x : Edit} {l : List Edit} (h : Srt (x :: l)) : Srt l := ⟨(List.pairwise_cons.1 h.1).2, fun e he => h.2 e (List.mem_cons_of_mem _ he)⟩
theorem srt_head {x : Edit} {l : List Edit} (h : Srt (x :: l)) : ∀ e ∈ l, Ahead x e := (List.pairwise_cons.1 h.1).1
theorem srt_cons {x : Edit} {l : List Edit} (h : Srt l) (hv : Vd x) (hx : ∀ e ∈ l, Ahead x e) : Srt (x :: l) := ⟨List.pairwise_cons.2 ⟨hx, h.1⟩, fun e he => (List.mem_cons.1 he).elim (fun z => z ▸ hv) (h.2 e)⟩
/-- Two such lists with the same edits are one. -/
theorem srt_eq : ∀ {a b : List Edit}, Srt a → Srt b → (∀ e, e ∈ a ↔ e ∈ b) → a = b
  | [], [], _, _, _ => rfl
  | [], y :: b, _, _, h => absurd ((h y).2 (List.mem_cons_self ..)) (by simp)
  | x :: a, [], _, _, h => absurd ((h x).1 (List.mem_cons_self ..)) (by simp)
  | x :: a, y :: b, ha, hb, h => by
    have hxy : x = y := by
      refine Classical.byContradiction fun hne => ?_
      have h1 : x ∈ b := ((List.mem_cons.1 ((h x).1 (List.mem_cons_self ..))).resolve_left hne)
      have h2 : y ∈ a := ((List.mem_cons.1 ((h y).2 (List.mem_cons_self ..))).resolve_left (fun z => hne z.symm))
      exact ahead_asym (ha.2 x (List.mem_cons_self ..)) (hb.2 y (List.mem_cons_self ..)) (srt_head ha y h2) (srt_head hb x h1)
    subst hxy
    congr 1
    refine srt_eq (srt_tail ha) (srt_tail hb) fun e => ?_
    constructor
    · intro he
      exact (List.mem_cons.1 ((h e).1 (List.mem_cons_of_mem _ he))).resolve_left fun z => by
        subst z
        exact ahead_irr (srt_head ha e he) (ha.2 e (List.mem_cons_self ..))
    · intro he
      exact (List.mem_cons.1 ((h e).2 (List.mem_cons_of_mem _ he))).resolve_left fun z => by
        subst z
        exact ahead_irr (srt_head hb e he) (hb.2 e (List.mem_cons_self ..))
def Compat (a b : List Edit) : Prop := ∀ x ∈ a, ∀ y ∈ b, x = y ∨ Ahead x y ∨ Ahead y x
instance (a b : List Edit) : Decidable (Compat a b) := by unfold Compat; infer_instance
theorem compat_symm {a b : List Edit} (h : Compat a b) : Compat b a := fun x hx y hy => (h y hy x hx).elim (fun e => .inl e.symm) (fun e => e.elim (fun e => .inr (.inr e)) (fun e => .inr (.inl e)))
/-- As compare.Merge has it: the two lists, from places on. -/
def mergeN : Nat → List Edit → List Edit → Option (List Edit)
  | 0, _, _ => some []
  | _ + 1, [], [] => some []
  | n + 1, [], y :: b => (mergeN n [] b).map (y :: ·)
  | n + 1, x :: a, [] => (mergeN n a []).map (x :: ·)
  | n + 1, x :: a, y :: b => if x = y then (mergeN n a b).map (x :: ·) else if Ahead x y then (mergeN n a (y :: b)).map (x :: ·) else if Ahead y x then (mergeN n (x :: a) b).map (y :: ·) else none
def mergeV (a b : List Edit) : Option (List Edit) := mergeN (a.length + b.length) a b
theorem mergeN_spec : ∀ (n : Nat) (a b : List Edit), a.length + b.length ≤ n → Srt a → Srt b → match mergeN n a b with
    | some l => Srt l ∧ (∀ e, e ∈ l ↔ e ∈ a ∨ e ∈ b) ∧ Compat a b
    | none => ¬ Compat a b
  | 0, [], [], _, _, _ => ⟨⟨List.Pairwise.nil, fun e h => by cases h⟩, fun e => by simp, fun x h => by cases h⟩
  | 0, x :: a, b, h, _, _ => by simp at h
  | 0, [], y :: b, h, _, _ => by simp at h
  | n + 1, [], [], _, _, _ => ⟨⟨List.Pairwise.nil, fun e h => by cases h⟩, fun e => by simp, fun x h => by cases h⟩
  | n + 1, [], y :: b, h, ha, hb => by
    have ih := mergeN_spec n [] b (by simp only [List.length_cons, List.length_nil] at h ⊢; omega) ha (srt_tail hb)
    simp only [mergeN]
    cases hq : mergeN n [] b with
    | none =>
      rw [hq] at ih
      exact absurd (fun x hx => by cases hx) ih
    | some l =>
      rw [hq] at ih
      obtain ⟨h1, h2, h3⟩ := ih
      refine ⟨srt_cons h1 (hb.2 y (List.mem_cons_self ..)) fun e he => srt_head hb e (((h2 e).1 he).resolve_left (by simp)), fun e => ?_, fun x hx => by cases hx⟩
      rw [List.mem_cons, h2 e, List.mem_cons]
      simp
  | n + 1, x :: a, [], h, ha, hb => by
    have ih := mergeN_spec n a [] (by simp only [List.length_cons, List.length_nil] at h ⊢; omega) (srt_tail ha) hb
    simp only [mergeN]
    cases hq : mergeN n a [] with
    | none =>
      rw [hq] at ih
      exact absurd (fun x hx y hy => by cases hy) ih
    | some l =>
      rw [hq] at ih
      obtain ⟨h1, h2, h3⟩ := ih
      refine ⟨srt_cons h1 (ha.2 x (List.mem_cons_self ..)) fun e he => srt_head ha e (((h2 e).1 he).resolve_right (by simp)), fun e => ?_, fun x hx y hy => by cases hy⟩
      rw [List.mem_cons, h2 e, List.mem_cons]
      simp
  | n + 1, x :: a, y :: b, h, ha, hb => by
    have vx := ha.2 x (List.mem_cons_self ..)
    have vy := hb.2 y (List.mem_cons_self ..)
    have hax := srt_head ha
    have hby := srt_head hb
    simp only [List.length_cons] at h
    simp only [mergeN]
    by_cases c1 : x = y
    · subst c1
      rw [if_pos rfl]
      have ih := mergeN_spec n a b (by omega) (srt_tail ha) (srt_tail hb)
      cases hq : mergeN n a b with
      | none =>
        rw [hq] at ih
        exact fun z => ih fun p hp q hq => z p (List.mem_cons_of_mem _ hp) q (List.mem_cons_of_mem _ hq)
      | some l =>
        rw [hq] at ih
        obtain ⟨h1, h2, h3⟩ := ih
        refine ⟨srt_cons h1 vx fun e he => ((h2 e).1 he).elim (hax e) (hby e), fun e => ?_, fun p hp q hq => ?_⟩
        · simp only [List.mem_cons, h2 e]
          constructor
          · rintro (h | h | h)
            · exact .inl (.inl h)
            · exact .inl (.inr h)
            · exact .inr (.inr h)
          · rintro ((h | h) | (h | h))
            · exact .inl h
            · exact .inr (.inl h)
            · exact .inl h
            · exact .inr (.inr h)
        · rcases List.mem_cons.1 hp with hp1 | hp2
          · rcases List.mem_cons.1 hq with hq1 | hq2
            · exact .inl (hp1.trans hq1.symm)
            · exact .inr (.inl (hp1 ▸ hby q hq2))
          · rcases List.mem_cons.1 hq with hq1 | hq2
            · exact .inr (.inr (hq1 ▸ hax p hp2))
            · exact h3 p hp2 q hq2
    rw [if_neg c1]
    by_cases c2 : Ahead x y
    · rw [if_pos c2]
      have ih := mergeN_spec n a (y :: b) (by simp only [List.length_cons]; omega) (srt_tail ha) hb
      have hxb : ∀ e ∈ y :: b, Ahead x e := fun e he => by
        rcases List.mem_cons.1 he with rfl | he
        · exact c2
        · exact ahead_trans vx vy (hb.2 e (List.mem_cons_of_mem _ he)) c2 (hby e he)
      cases hq : mergeN n a (y :: b) with
      | none =>
        rw [hq] at ih
        exact fun z => ih fun p hp q hq => z p (List.mem_cons_of_mem _ hp) q hq
      | some l =>
        rw [hq] at ih
        obtain ⟨h1, h2, h3⟩ := ih
        refine ⟨srt_cons h1 vx fun e he => ((h2 e).1 he).elim (hax e) (hxb e), fun e => ?_, fun p hp q hq => ?_⟩
        · rw [List.mem_cons, h2 e, List.mem_cons (a := e) (b := x)]
          constructor
          · rintro (h | h | h)
            · exact .inl (.inl h)
            · exact .inl (.inr h)
            · exact .inr h
          · rintro ((h | h) | h)
            · exact .inl h
            · exact .inr (.inl h)
            · exact .inr (.inr h)
        · rcases List.mem_cons.1 hp with rfl | hp
          · exact .inr (.inl (hxb q hq))
          · exact h3 p hp q hq
    rw [if_neg c2]
    by_cases c3 : Ahead y x
    · rw [if_pos c3]
      have ih := mergeN_spec n (x :: a) b (by simp only [List.length_cons]; omega) ha (srt_tail hb)
      have hya : ∀ e ∈ x :: a, Ahead y e := fun e he => by
        rcases List.mem_cons.1 he with rfl | he
        · exact c3
        · exact ahead_trans vy vx (ha.2 e (List.mem_cons_of_mem _ he)) c3 (hax e he)
      cases hq : mergeN n (x :: a) b with
      | none =>
        rw [hq] at ih
        exact fun z => ih fun p hp q hq => z p hp q (List.mem_cons_of_mem _ hq)
      | some l =>
        rw [hq] at ih
        obtain ⟨h1, h2, h3⟩ := ih
        refine ⟨srt_cons h1 vy fun e he => ((h2 e).1 he).elim (hya e) (hby e), fun e => ?_, fun p hp q hq => ?_⟩
        · rw [List.mem_cons, h2 e, List.mem_cons (a := e) (b := y)]
          constructor
          · rintro (h | h | h)
            · exact .inr (.inl h)
            · exact .inl h
            · exact .inr (.inr h)
          · rintro (h | h | h)
            · exact .inr (.inl h)
            · exact .inl h
            · exact .inr (.inr h)
        · rcases List.mem_cons.1 hq with rfl | hq
          · exact .inr (.inr (hya p hp))
          · exact h3 p hp q hq
    · rw [if_neg c3]
      intro z
      rcases z x (List.mem_cons_self ..) y (List.mem_cons_self ..) with h | h | h
      · exact c1 h
      · exact c2 h
      · exact c3 h
theorem merge_symm {a b : List Edit} (ha : Srt a) (hb : Srt b) : mergeV b a = mergeV a b := by
  have h1 := mergeN_spec (a.length + b.length) a b (Nat.le_refl _) ha hb
  have h2 := mergeN_spec (b.length + a.length) b a (Nat.le_refl _) hb ha
  unfold mergeV
  cases e1 : mergeN (a.length + b.length) a b with
  | none =>
    rw [e1] at h1
    cases e2 : mergeN (b.length + a.length) b a with
    | none => rfl
    | some l => rw [e2] at h2; exact absurd (compat_symm h2.2.2) h1
  | some l =>
    rw [e1] at h1
    cases e2 : mergeN (b.length + a.length) b a with
    | none => rw [e2] at h2; exact absurd (compat_symm h1.2.2) h2
    | some m =>
      rw [e2] at h2
      congr 1
      exact srt_eq h2.1 h1.1 fun e => by rw [h2.2.1 e, h1.2.1 e, or_comm]
/-! The reference -/
def posE (e : Edit) : List Edit → Nat
  | [] => 0
  | x :: l => if Ahead x e then posE e l + 1 else 0
theorem posE_le (e : Edit) : ∀ l, posE e l ≤ l.length
  | [] => Nat.le_refl _
  | x :: l => by
    simp only [posE]
    split
    · have := posE_le e l; simp only [List.length_cons]; omega
    · exact Nat.zero_le _
def insE (e : Edit) (l : List Edit) : List Edit := l.take (posE e l) ++ [e] ++ l.drop (posE e l)
def addE (a : List Edit) (out : List Edit) (e : Edit) : List Edit := if e ∈ a then out else insE e out
def refMergeV (a b : List Edit) : Option (List Edit) := if Compat a b then some (b.foldl (addE a) a) else none
theorem insE_cons (e x : Edit) (l : List Edit) : insE e (x :: l) = if Ahead x e then x :: insE e l else e :: x :: l := by
  unfold insE
  simp only [posE]
  split
  · simp
  · simp
theorem insE_mem (e : Edit) : ∀ (l : List Edit) (q : Edit), q ∈ insE e l ↔ q = e ∨ q ∈ l
  | [], q => by simp [insE, posE]
  | x :: l, q => by
    rw [insE_cons]
    split
    · rw [List.mem_cons, insE_mem e l q, List.mem_cons]
      constructor
      · rintro (h | h | h)
        · exact .inr (.inl h)
        · exact .inl h
        · exact .inr (.inr h)
      · rintro (h | h | h)
        · exact .inr (.inl h)
        · exact .inl h
        · exact .inr (.inr h)
    · rw [List.mem_cons]
theorem insE_srt (e : Edit) (hv : Vd e) : ∀ (l : List Edit), Srt l → (∀ x ∈ l, Ahead x e ∨ Ahead e x) → Srt (insE e l)
  | [], h, _ => srt_cons h hv (fun q hq => by cases hq)
  | x :: l, h, hc => by
    rw [insE_cons]
    split
    · rename_i c
      refine srt_cons (insE_srt e hv l (srt_tail h) fun q hq => hc q (List.mem_cons_of_mem _ hq)) (h.2 x (List.mem_cons_self ..)) fun q hq => ?_
      rcases (insE_mem e l q).1 hq with rfl | hq
      · exact c
      · exact srt_head h q hq
    · rename_i c
      have hx : Ahead e x := (hc x (List.mem_cons_self ..)).resolve_left c
      refine srt_cons h hv fun q hq => ?_
      rcases List.mem_cons.1 hq with rfl | hq
      · exact hx
      · exact ahead_trans hv (h.2 x (List.mem_cons_self ..)) (h.2 q (List.mem_cons_of_mem _ hq)) hx (srt_head h q hq)
theorem fold_spec {a : List Edit} : ∀ (b out : List Edit), Srt b → Srt out → (∀ q ∈ a, q ∈ out) → Compat a b → (∀ x ∈ out, x ∈ a ∨ ∀ y ∈ b, Ahead x y) → Srt (b.foldl (addE a) out) ∧ ∀ q, q ∈ b.foldl (addE a) out ↔ q ∈ out ∨ q ∈ b
  | [], out, _, ho, _, _, _ => ⟨ho, fun q => by simp⟩
  | e :: b, out, hb, ho, hsub, hc, hp => by
    have ve := hb.2 e (List.mem_cons_self ..)
    simp only [List.foldl_cons]
    by_cases c : e ∈ a
    · have e1 : addE a out e = out := by unfold addE; rw [if_pos c]
      rw [e1]
      obtain ⟨h1, h2⟩ := fold_spec b out (srt_tail hb) ho hsub (fun x hx y hy => hc x hx y (List.mem_cons_of_mem _ hy)) (fun x hx => (hp x hx).imp id fun z y hy => z y (List.mem_cons_of_mem _ hy))
      refine ⟨h1, fun q => ?_⟩
      rw [h2 q, List.mem_cons]
      constructor
      · rintro (h | h)
        · exact .inl h
        · exact .inr (.inr h)
      · rintro (h | rfl | h)
        · exact .inl h
        · exact .inl (hsub _ c)
        · exact .inr h
    · have e1 : addE a out e = insE e out := by unfold addE; rw [if_neg c]
      rw [e1]
      have hins : Srt (insE e out) := insE_srt e ve out ho fun x hx => by
        rcases hp x hx with h | h
        · rcases hc x h e (List.mem_cons_self ..) with h | h | h
          · subst h; exact absurd (by assumption) c
          · exact .inl h
          · exact .inr h
        · exact .inl (h e (List.mem_cons_self ..))
      obtain ⟨h1, h2⟩ := fold_spec b (insE e out) (srt_tail hb) hins (fun q hq => (insE_mem e out q).2 (.inr (hsub q hq))) (fun x hx y hy => hc x hx y (List.mem_cons_of_mem _ hy)) (fun x hx => by
        rcases (insE_mem e out x).1 hx with rfl | hx
        · exact .inr (srt_head hb)
        · exact (hp x hx).imp id fun z y hy => z y (List.mem_cons_of_mem _ hy))
      refine ⟨h1, fun q => ?_⟩
      rw [h2 q, insE_mem, List.mem_cons]
      constructor
      · rintro ((h | h) | h)
        · exact .inr (.inl h)
        · exact .inl h
        · exact .inr (.inr h)
      · rintro (h | h | h)
        · exact .inl (.inr h)
        · exact .inl (.inl h)
        · exact .inr h
theorem ref_same {a b : List Edit} (ha : Srt a) (hb : Srt b) : refMergeV a b = mergeV a b := by
  have h1 := mergeN_spec (a.length + b.length) a b (Nat.le_refl _) ha hb
  unfold refMergeV mergeV
  cases e1 : mergeN (a.length + b.length) a b with
  | none => rw [e1] at h1; rw [if_neg h1]
  | some l =>
    rw [e1] at h1
    rw [if_pos h1.2.2]
    congr 1
    obtain ⟨h2, h3⟩ := fold_spec b a hb ha (fun q h => h) h1.2.2 (fun x hx => .inl hx)
    exact srt_eq h2 h1.1 fun e => by rw [h3 e, h1.2.1 e]
end Go.Proofs.Ytbakllppgekmoaa.Cmp
