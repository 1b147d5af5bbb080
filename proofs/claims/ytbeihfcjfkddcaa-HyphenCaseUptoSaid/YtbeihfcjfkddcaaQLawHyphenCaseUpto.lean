/- Pruned by wip/prune.py. -/
import Derived.Test.YtbeihfcjfkddcaaRows
import Derived.Test.YtbeihfcjfkddcaaQOpensKinds
import Derived.Test.YtbeihfcjfkddcaaQSxLHyphenCase
import Derived.WalkKit
import Derived.ProofKit
import Derived.OpenShut
import Derived.ShutString
import Derived.ChangeOld
import Derived.Below
import Derived.SizedLaws
import Derived.JoinedCond
import Derived.Test.YtbeihfcjfkddcaaQOpensUpK
import Derived.Test.YtbeihfcjfkddcaaQWAll
namespace Go.Proofs.Ytbeihfcjfkddcaa.hyphenCase
open Go.ChangeShapes Go.WideShapes Go.ChangeAt Go.RowKit Go.Proofs.Ytbeihfcjfkddcaa.Opens Go.Proofs.Ytbeihfcjfkddcaa.Kinds
open Go.ChangeMaps (open_string shut_string)
set_option linter.unusedSimpArgs false
set_option linter.unusedVariables false
theorem own : ownKnob Try.prog.godebug = none := by kernel_rfl
theorem laidOut : laidOutB Try.prog = true := by kernel_rfl
set_option maxRecDepth 100000 in
theorem lifted (os : Os) (started : os.Started) (H : Type) (enc : TypeId × Value → H) (F : Stop.Interp) :
    ReturnsInHanded {} Try.checked os 5 .any ((Rows.OpenSpec.upto Rows.hyphenCaseSpec).pre6 enc Try.prog Try.f5 Rows.hyphenCaseUptoRow.domain false) (((Rows.OpenSpec.upto Rows.hyphenCaseSpec).at F).post enc Try.prog Try.f5 false true false false) := by
  refine returnsInHanded_of_cond (C := Try.checked) (s := Rows.OpenSpec.upto Rows.hyphenCaseSpec) (k := Rows.uptoSmall) rfl own started (by kernel_rfl) Try.func5
    (OpenSpec.witness (enc := enc) (C := Try.checked) (s := Rows.OpenSpec.upto Rows.hyphenCaseSpec) (k := Rows.uptoSmall) rfl false ⟨#[], #[.agg #[.slice (none) (0) (0), .slice (none) (0) (0), .int .i64 (0), .int .i64 (0)], .string ByteArray.empty], []⟩ 8 (by kernel_rfl) (by kernel_rfl) (by kernel_rfl)
      (x := ([.agg [.nil, .nil, .lit (.int .i64 0), .lit (.int .i64 0)], .lit (.string [])], [], [])) (by kernel_rfl) rfl (by kernel_rfl)) ?_
  intro W base args ds gs before hval0 hW _ hk0 _
  have hk : Rows.uptoSmall H (ds ++ gs) = true := hk0
  have hval : ∀ (j : Nat) t v, Try.f5.params[j]? = some t → args[j]? = some v → Value.okWide Try.prog W .any base t v := hval0
  have hW' := hW
  obtain ⟨p, q, hA0, hV, rfl, hfz, hnd⟩ := hW
  have hA : DataW.TrodAll enc Try.prog W 0 (fun _ => true) true Try.f5.params.toList args.toList ds p := hA0
  rw [Try.params5] at hA hval
  obtain ⟨v0, vs0, d0, ds0, p0, q0, hargs, rfl, rfl, h0, r0⟩ := trodAll_cons hA
  obtain ⟨v1, vs1, d1, ds1, p1, q1, rfl, rfl, rfl, h1, r1⟩ := trodAll_cons r0
  obtain ⟨rfl, rfl, rfl⟩ := trodAll_nil r1
  obtain rfl : args = #[v0, v1] := by cases args; simp_all
  obtain ⟨rfl, rfl⟩ := trodVars_none hV
  have lt0 : ∀ x ∈ p0, x.block < W.heap.size := by obtain ⟨m, hm⟩ := h0; exact DataW.trod_lt m _ _ _ hm
  have lt1 : ∀ x ∈ p1, x.block < W.heap.size := by obtain ⟨m, hm⟩ := h1; exact DataW.trod_lt m _ _ _ hm
  obtain ⟨cs0, rfl, _⟩ := okWide_struct Try.underlying24 (hval 0 24 v0 rfl rfl)
  obtain ⟨x0, K0, g0⟩ := arg_any2 opens2_24 h0
  obtain ⟨A0_0, c0_0, A0_1, c0_1, e0, l0_0, K0_0, l0_1, K0_1⟩ := k24_open K0
  obtain rfl : cs0 = #[.slice (A0_0) (((x0).f0).length) (c0_0), .slice (A0_1) (((x0).f1).length) (c0_1), .int .i64 ((x0).f2), .int .i64 ((x0).f3)] := by have e_ := congrArg List.toArray e0; simpa [Value.cells] using e_
  obtain ⟨s1, rfl⟩ := okWide_string Try.underlying9 (hval 1 9 v1 rfl rfl)
  obtain ⟨t1, K1, g1⟩ := arg_any2 (opens2_string Try.underlying9 (by kernel_rfl)) h1
  obtain rfl : s1 = t1 := by injection K1 with K1 _; injection K1
  have hk1 : Rows.uptoBulkAll _ ≤ 1048576 := of_decide_eq_true hk
  simp only [List.cons_append, List.nil_append, List.append_nil, Rows.uptoBulkAll] at hk1
  clear hA0 hval0 hk hk0
  refine (L.HyphenCase_calls (R := []) x0 A0_0 c0_0 A0_1 c0_1 s1 (Sx.ro_self W) l0_0 K0_0 l0_1 K0_1 (Nat.le_trans g1.1 (by decide)) (fun o_ ho_ => Nat.le_trans (g0.1.2.2 o_ ho_).2 (by omega)) (fun o_ ho_ => Nat.le_trans (g0.2.1.2.2 o_ ho_).2 (by omega)) (Nat.le_trans g0.1.2.1 (by omega)) (Nat.le_trans g0.2.1.2.1 (by omega)) (Sx.st_start W)).mono fun e W' ⟨he, hst⟩ => ?_
  have bel := Sx.st_below0 hst
  subst he
  exact ⟨_, rfl, _, _, _, [], _, [], hW', trodAll_mk1 (shut_bool Try.underlying4 _), (trodAll_cons_mk (Below.trod laidOut (by kernel_rfl) (of_decide_eq_true (by kernel_rfl)) h0 bel lt0) (trodAll_cons_mk (Below.trod laidOut (by kernel_rfl) (of_decide_eq_true (by kernel_rfl)) h1 bel lt1) trodAll_mk0)), rfl, bel.frame _, fun h => by cases h⟩
theorem over : Rows.hyphenCaseUptoRow.holds Try.pinned (Rows.OpenSpec.upto Rows.hyphenCaseSpec) :=
  OpenClaim.holds_of_cond 5 Try.f5 rfl rfl rfl rfl rfl rfl rfl ⟨rfl, rfl, rfl, rfl, rfl⟩ rfl rfl rfl rfl rfl (by kernel_rfl) Try.func5 (by kernel_rfl)
    (of_decide_eq_true (by kernel_rfl)) (by unfold Func.isWrapper; first | (rw [if_pos (by decide +kernel)]; kernel_rfl) | (rw [if_neg (by decide +kernel)]; exact ⟨rfl, rfl⟩))
    (fun os started H enc _ F => lifted os started H enc F)
theorem proved : Rows.HyphenCaseUptoSaid := over
#print axioms proved
end Go.Proofs.Ytbeihfcjfkddcaa.hyphenCase
namespace Go.Proofs.Ytbeihfcjfkddcaa
/-- The row, under a short name, for the claim. -/
theorem hyphenCaseUpto_holds : Rows.HyphenCaseUptoSaid := hyphenCase.proved
end Go.Proofs.Ytbeihfcjfkddcaa
