/- Every rune is to a line what the page says: the pure statement of RunesKinds. For every 32-bit number. -/
import Derived.Test.YtbbnhameafolgaaPAllx1
namespace Go.Proofs.Ytbbnhameafolgaa.Pure
open Go.RowKit Go.Proofs.Ytbbnhameafolgaa.PAll Go.Proofs.YtbbnhameafolgaaW.PrintWords Go.Proofs.YtbbnhameafolgaaW.PrintLast Go.Proofs.Ytbbnhameafolgaa.Given

theorem awake_ok (k : Nat) : regletlaw02_awake.f (k + 1) = some true := by
  have h1 : runes_Bad.f (⟨#[195, 40]⟩ : ByteArray) = some 0 := by decide +kernel
  have h2 : runes_Bad.f (⟨#[97, 195, 169, 98]⟩ : ByteArray) = some (-1) := by decide +kernel
  have h3 : runes_Boundary.f (k + 1) (⟨#[195, 169]⟩ : ByteArray) 1 = some 21 := by
    have e : runes_Inside.f (bt (⟨#[195, 169]⟩ : ByteArray) 1) = some true := by decide +kernel
    unfold runes_Boundary.f
    rw [if_neg (by decide +kernel)]
    simp only [runes_Boundary.j0]
    rw [if_neg (by decide +kernel), if_pos (by decide +kernel), if_pos (by decide +kernel), e]
    rfl
  unfold regletlaw02_awake.f
  rw [h1]
  simp only [Option.bind_some, if_true]
  rw [h2]
  simp only [Option.bind_some, if_true]
  rw [h3]
  rfl

theorem l0_in {k : Nat} {a0 : Int} {X : List (List Int)} {i : Int} (h : i < (X.length : Int)) : regletref02_Kind.l0 (k + 1) a0 X i = regletref02_Kind.l1 k a0 X i 0 := by
  simp only [regletref02_Kind.l0]; rw [if_pos h]
theorem l0_end {k : Nat} {a0 : Int} {X : List (List Int)} {i : Int} (h : ¬ i < (X.length : Int)) : regletref02_Kind.l0 (k + 1) a0 X i = some 0 := by
  simp only [regletref02_Kind.l0]; rw [if_neg h]
theorem l1_in {k : Nat} {a0 : Int} {X : List (List Int)} {i j v j' : Int} (h : 0 ≤ i ∧ i < (X.length : Int) ∧ j < ((rd_L1 X i).length : Int) ∧ 0 ≤ j ∧ rd (rd_L1 X i) j = v ∧ wrap64 (j + 1) = j') :
    regletref02_Kind.l1 (k + 1) a0 X i j = if v = a0 then some i else regletref02_Kind.l1 k a0 X i j' := by
  obtain ⟨h1, h2, h3, h4, h5, h6⟩ := h
  simp only [regletref02_Kind.l1]; rw [if_pos h1, if_pos h2, if_pos h3, if_pos h4, h5, h6]
theorem l1_end {k : Nat} {a0 : Int} {X : List (List Int)} {i j i' : Int} (h : 0 ≤ i ∧ i < (X.length : Int) ∧ ¬ j < ((rd_L1 X i).length : Int) ∧ wrap64 (i + 1) = i') :
    regletref02_Kind.l1 (k + 1) a0 X i j = regletref02_Kind.l0 k a0 X i' := by
  obtain ⟨h1, h2, h3, h4⟩ := h
  simp only [regletref02_Kind.l1]; rw [if_pos h1, if_pos h2, if_neg h3, h4]
theorem kinds (a0 : Int) : regletref02_Kind.f 30 a0 = some (kindV a0) := by
  unfold kindV regletref02_Kind.f
  rw [l0_in (by decide +kernel), l1_in (v := 32) (j' := 1) (by decide +kernel), l1_in (v := 9) (j' := 2) (by decide +kernel), l1_end (i' := 2) (by decide +kernel), l0_in (by decide +kernel), l1_in (v := 160) (j' := 1) (by decide +kernel), l1_in (v := 8239) (j' := 2) (by decide +kernel), l1_end (i' := 3) (by decide +kernel), l0_in (by decide +kernel), l1_in (v := 173) (j' := 1) (by decide +kernel), l1_end (i' := 4) (by decide +kernel), l0_in (by decide +kernel), l1_in (v := 8203) (j' := 1) (by decide +kernel), l1_end (i' := 5) (by decide +kernel), l0_in (by decide +kernel), l1_in (v := 8288) (j' := 1) (by decide +kernel), l1_in (v := 65279) (j' := 2) (by decide +kernel), l1_end (i' := 6) (by decide +kernel), l0_in (by decide +kernel), l1_in (v := 45) (j' := 1) (by decide +kernel), l1_in (v := 8208) (j' := 2) (by decide +kernel), l1_end (i' := 7) (by decide +kernel), l0_in (by decide +kernel), l1_in (v := 8232) (j' := 1) (by decide +kernel), l1_end (i' := 8) (by decide +kernel), l0_in (by decide +kernel), l1_in (v := 10) (j' := 1) (by decide +kernel), l1_end (i' := 9) (by decide +kernel), l0_end (by decide +kernel)]
  have e : ∀ r, (r = a0) = (a0 = r) := fun r => by simp [eq_comm]
  simp only [e, apply_ite (some : Int → Option Int)]

theorem RunesKinds : regletlaw02_RunesKinds.Pure := by
  intro a0 h
  have hw : wrap64 a0 = a0 := by
    simp only [Lit.wf, IntKind.min, IntKind.max, IntKind.signed, IntKind.bits, Bool.and_eq_true, decide_eq_true_eq, if_true] at h
    unfold wrap64
    omega
  refine ⟨30, ?_⟩
  unfold regletlaw02_RunesKinds.f
  rw [awake_ok]
  simp only [Option.bind_some, if_true, hw]
  rw [kinds]
  simp [runes_Kind.f]

end Go.Proofs.Ytbbnhameafolgaa.Pure
