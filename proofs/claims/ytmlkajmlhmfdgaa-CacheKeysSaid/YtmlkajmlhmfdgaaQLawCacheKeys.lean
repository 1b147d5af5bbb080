/- Pruned by wip/prune.py. -/
import Derived.Test.YtmlkajmlhmfdgaaRows
import Derived.Test.YtmlkajmlhmfdgaaQOpensKinds
import Derived.Test.YtmlkajmlhmfdgaaQSxLCacheKeys
import Derived.WalkKit
import Derived.ProofKit
import Derived.OpenShut
import Derived.ShutString
import Derived.ChangeOld
import Derived.Below
import Derived.SizedLaws
import Derived.Test.YtmlkajmlhmfdgaaQWAll
namespace Go.Proofs.Ytmlkajmlhmfdgaa.cacheKeys
open Go.ChangeShapes Go.WideShapes Go.ChangeAt Go.RowKit Go.Proofs.Ytmlkajmlhmfdgaa.Opens Go.Proofs.Ytmlkajmlhmfdgaa.Kinds
open Go.ChangeMaps (open_string shut_string)
set_option linter.unusedSimpArgs false
set_option linter.unusedVariables false
theorem own : ownKnob Try.prog.godebug = none := by kernel_rfl
theorem laidOut : laidOutB Try.prog = true := by kernel_rfl
set_option maxRecDepth 100000 in
theorem lifted (os : Os) (started : os.Started) (H : Type) (enc : TypeId × Value → H) :
    ReturnsInHanded {} Try.checked os 4 .any (Rows.cacheKeysSpec.pre6 enc Try.prog Try.f4 Rows.cacheKeysRow.domain false) (Rows.cacheKeysSpec.post enc Try.prog Try.f4 false true false false) := by
  refine returnsInHanded_of_change_sized (C := Try.checked) own started (by kernel_rfl) Try.func4
    (ChangeSpec.witness6 (enc := enc) (C := Try.checked) false ⟨#[], #[.agg #[.string (ByteArray.empty), .slice (none) (0) (0), .int .i64 (0), .int .i64 (0), .int .i64 (0), .int .i64 (0), .int .i64 (0), .int .i64 (0), .int .i64 (0), .int .i64 (0), .int .i64 (0)], .agg #[.string (ByteArray.empty), .slice (none) (0) (0), .int .i64 (0), .int .i64 (0), .int .i64 (0), .int .i64 (0), .int .i64 (0), .int .i64 (0), .int .i64 (0), .int .i64 (0), .int .i64 (0)]], []⟩ 8 (by kernel_rfl) (by kernel_rfl) (by kernel_rfl) (by kernel_rfl)) ?_
  intro W base args ds gs before hval0 hW hcnd hsz0 _
  have hval : ∀ (j : Nat) t v, Try.f4.params[j]? = some t → args[j]? = some v → Value.okWide Try.prog W .any base t v := hval0
  have hW' := hW
  obtain ⟨p, q, hA0, hV, rfl, hfz, hnd⟩ := hW
  have hA : DataW.TrodAll enc Try.prog W 0 (fun _ => true) true Try.f4.params.toList args.toList ds p := hA0
  rw [Try.params4] at hA hval
  obtain ⟨v0, vs0, d0, ds0, p0, q0, hargs, rfl, rfl, h0, r0⟩ := trodAll_cons hA
  obtain ⟨v1, vs1, d1, ds1, p1, q1, rfl, rfl, rfl, h1, r1⟩ := trodAll_cons r0
  obtain ⟨rfl, rfl, rfl⟩ := trodAll_nil r1
  obtain rfl : args = #[v0, v1] := by cases args; simp_all
  obtain ⟨rfl, rfl⟩ := trodVars_none hV
  have lt0 : ∀ x ∈ p0, x.block < W.heap.size := by obtain ⟨m, hm⟩ := h0; exact DataW.trod_lt m _ _ _ hm
  have lt1 : ∀ x ∈ p1, x.block < W.heap.size := by obtain ⟨m, hm⟩ := h1; exact DataW.trod_lt m _ _ _ hm
  obtain ⟨cs0, rfl, _⟩ := okWide_struct Try.underlying33 (hval 0 33 v0 rfl rfl)
  obtain ⟨x0, K0, g0⟩ := arg_any opens33 h0
  obtain ⟨A0_0, c0_0, e0, l0_0, K0_0⟩ := k33_open K0
  obtain rfl : cs0 = #[.string ((x0).f0), .slice (A0_0) (((x0).f1).length) (c0_0), .int .i64 ((x0).f2), .int .i64 ((x0).f3), .int .i64 (((x0).f4).f0), .int .i64 (((x0).f4).f1), .int .i64 (((x0).f4).f2), .int .i64 (((x0).f4).f3), .int .i64 (((x0).f4).f4), .int .i64 (((x0).f4).f5), .int .i64 (((x0).f4).f6)] := by have e_ := congrArg List.toArray e0; simpa [Value.cells] using e_
  obtain ⟨cs1, rfl, _⟩ := okWide_struct Try.underlying33 (hval 1 33 v1 rfl rfl)
  obtain ⟨x1, K1, g1⟩ := arg_any opens33 h1
  obtain ⟨A1_0, c1_0, e1, l1_0, K1_0⟩ := k33_open K1
  obtain rfl : cs1 = #[.string ((x1).f0), .slice (A1_0) (((x1).f1).length) (c1_0), .int .i64 ((x1).f2), .int .i64 ((x1).f3), .int .i64 (((x1).f4).f0), .int .i64 (((x1).f4).f1), .int .i64 (((x1).f4).f2), .int .i64 (((x1).f4).f3), .int .i64 (((x1).f4).f4), .int .i64 (((x1).f4).f5), .int .i64 (((x1).f4).f6)] := by have e_ := congrArg List.toArray e1; simpa [Value.cells] using e_
  clear hA0 hval0 hsz0
  refine (L.CacheKeys_calls (R := []) x0 A0_0 c0_0 x1 A1_0 c1_0 (Sx.ro_self W) l0_0 K0_0 l1_0 K1_0 (Sx.st_start W)).mono fun e W' ⟨he, hst⟩ => ?_
  have bel := Sx.st_below0 hst
  subst he
  exact ⟨_, rfl, _, _, _, [], _, [], hW', trodAll_mk1 (shut_bool Try.underlying4 _), (trodAll_cons_mk (Below.trod laidOut (by kernel_rfl) (of_decide_eq_true (by kernel_rfl)) h0 bel lt0) (trodAll_cons_mk (Below.trod laidOut (by kernel_rfl) (of_decide_eq_true (by kernel_rfl)) h1 bel lt1) trodAll_mk0)), rfl, bel.frame _, fun h => by cases h⟩
theorem over : Rows.cacheKeysRow.holds Try.pinned (OpenSpec.ofChange Rows.cacheKeysSpec) :=
  OpenClaim.holds_of_wide 4 Try.f4 rfl rfl rfl rfl rfl rfl rfl ⟨rfl, rfl, rfl, rfl, rfl⟩ rfl rfl rfl rfl rfl (by kernel_rfl) Try.func4 (by kernel_rfl)
    (of_decide_eq_true (by kernel_rfl)) (by unfold Func.isWrapper; first | (rw [if_pos (by decide +kernel)]; kernel_rfl) | (rw [if_neg (by decide +kernel)]; exact ⟨rfl, rfl⟩))
    (fun os started H enc _ => lifted os started H enc)
theorem proved : Rows.CacheKeysSaid := over
#print axioms proved
end Go.Proofs.Ytmlkajmlhmfdgaa.cacheKeys
namespace Go.Proofs.Ytmlkajmlhmfdgaa
/-- The row, under a short name, for the claim. -/
theorem cacheKeys_holds : Rows.CacheKeysSaid := cacheKeys.proved
end Go.Proofs.Ytmlkajmlhmfdgaa
