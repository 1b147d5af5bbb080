/- Pruned by wip/prune.py. -/
import Derived.Test.YtmlkajmlhmfdgaaRows
import Derived.Test.YtmlkajmlhmfdgaaQOpensKinds
import Derived.Test.YtmlkajmlhmfdgaaQSxLCacheClears
import Derived.WalkKit
import Derived.ProofKit
import Derived.OpenShut
import Derived.ShutString
import Derived.ChangeOld
import Derived.Below
import Derived.SizedLaws
import Derived.Test.YtmlkajmlhmfdgaaQWAll
namespace Go.Proofs.Ytmlkajmlhmfdgaa.cacheClears
open Go.ChangeShapes Go.WideShapes Go.ChangeAt Go.RowKit Go.Proofs.Ytmlkajmlhmfdgaa.Opens Go.Proofs.Ytmlkajmlhmfdgaa.Kinds
open Go.ChangeMaps (open_string shut_string)
set_option linter.unusedSimpArgs false
set_option linter.unusedVariables false
theorem own : ownKnob Try.prog.godebug = none := by kernel_rfl
theorem laidOut : laidOutB Try.prog = true := by kernel_rfl
set_option maxRecDepth 100000 in
theorem lifted (os : Os) (started : os.Started) (H : Type) (enc : TypeId × Value → H) :
    ReturnsInHanded {} Try.checked os 8 .any (Rows.cacheClearsSpec.pre6 enc Try.prog Try.f8 Rows.cacheClearsRow.domain false) (Rows.cacheClearsSpec.post enc Try.prog Try.f8 false true false false) := by
  refine returnsInHanded_of_change_sized (C := Try.checked) own started (by kernel_rfl) Try.func8
    (ChangeSpec.witness6 (enc := enc) (C := Try.checked) false ⟨#[], #[.int .i64 0, .slice none 0 0, .agg #[.string (ByteArray.empty), .slice (none) (0) (0), .int .i64 (0), .int .i64 (0), .int .i64 (0), .int .i64 (0), .int .i64 (0), .int .i64 (0), .int .i64 (0), .int .i64 (0), .int .i64 (0)]], []⟩ 8 (by kernel_rfl) (by kernel_rfl) (by kernel_rfl) (by kernel_rfl)) ?_
  intro W base args ds gs before hval0 hW hcnd hsz0 _
  have hval : ∀ (j : Nat) t v, Try.f8.params[j]? = some t → args[j]? = some v → Value.okWide Try.prog W .any base t v := hval0
  have hW' := hW
  obtain ⟨p, q, hA0, hV, rfl, hfz, hnd⟩ := hW
  have hA : DataW.TrodAll enc Try.prog W 0 (fun _ => true) true Try.f8.params.toList args.toList ds p := hA0
  rw [Try.params8] at hA hval
  obtain ⟨v0, vs0, d0, ds0, p0, q0, hargs, rfl, rfl, h0, r0⟩ := trodAll_cons hA
  obtain ⟨v1, vs1, d1, ds1, p1, q1, rfl, rfl, rfl, h1, r1⟩ := trodAll_cons r0
  obtain ⟨v2, vs2, d2, ds2, p2, q2, rfl, rfl, rfl, h2, r2⟩ := trodAll_cons r1
  obtain ⟨rfl, rfl, rfl⟩ := trodAll_nil r2
  obtain rfl : args = #[v0, v1, v2] := by cases args; simp_all
  obtain ⟨rfl, rfl⟩ := trodVars_none hV
  have lt0 : ∀ x ∈ p0, x.block < W.heap.size := by obtain ⟨m, hm⟩ := h0; exact DataW.trod_lt m _ _ _ hm
  have lt1 : ∀ x ∈ p1, x.block < W.heap.size := by obtain ⟨m, hm⟩ := h1; exact DataW.trod_lt m _ _ _ hm
  have lt2 : ∀ x ∈ p2, x.block < W.heap.size := by obtain ⟨m, hm⟩ := h2; exact DataW.trod_lt m _ _ _ hm
  obtain ⟨n0, rfl⟩ := okWide_int Try.underlying3 (hval 0 3 v0 rfl rfl)
  obtain ⟨A1, c1, xs1, rfl, m1, K1, g1⟩ := arg_slice Try.underlying55 (opens_slice Try.underlying55 (by kernel_rfl) opens69) (okWide_slice Try.underlying55 (hval 1 55 v1 rfl rfl)) h1
  obtain ⟨cs2, rfl, _⟩ := okWide_struct Try.underlying33 (hval 2 33 v2 rfl rfl)
  obtain ⟨x2, K2, g2⟩ := arg_any opens33 h2
  obtain ⟨A2_0, c2_0, e2, l2_0, K2_0⟩ := k33_open K2
  obtain rfl : cs2 = #[.string ((x2).f0), .slice (A2_0) (((x2).f1).length) (c2_0), .int .i64 ((x2).f2), .int .i64 ((x2).f3), .int .i64 (((x2).f4).f0), .int .i64 (((x2).f4).f1), .int .i64 (((x2).f4).f2), .int .i64 (((x2).f4).f3), .int .i64 (((x2).f4).f4), .int .i64 (((x2).f4).f5), .int .i64 (((x2).f4).f6)] := by have e_ := congrArg List.toArray e2; simpa [Value.cells] using e_
  clear hA0 hval0 hsz0
  refine (L.CacheClears_calls (R := []) n0 xs1 A1 c1 x2 A2_0 c2_0 (Sx.ro_self W) m1 K1 (Nat.le_trans g1.1 (by decide)) l2_0 K2_0 (Sx.st_start W)).mono fun e W' ⟨he, hst⟩ => ?_
  have bel := Sx.st_below0 hst
  subst he
  exact ⟨_, rfl, _, _, _, [], _, [], hW', trodAll_mk1 (shut_bool Try.underlying4 _), (trodAll_cons_mk (Below.trod laidOut (by kernel_rfl) (of_decide_eq_true (by kernel_rfl)) h0 bel lt0) (trodAll_cons_mk (Below.trod laidOut (by kernel_rfl) (of_decide_eq_true (by kernel_rfl)) h1 bel lt1) (trodAll_cons_mk (Below.trod laidOut (by kernel_rfl) (of_decide_eq_true (by kernel_rfl)) h2 bel lt2) trodAll_mk0))), rfl, bel.frame _, fun h => by cases h⟩
theorem over : Rows.cacheClearsRow.holds Try.pinned (OpenSpec.ofChange Rows.cacheClearsSpec) :=
  OpenClaim.holds_of_wide 8 Try.f8 rfl rfl rfl rfl rfl rfl rfl ⟨rfl, rfl, rfl, rfl, rfl⟩ rfl rfl rfl rfl rfl (by kernel_rfl) Try.func8 (by kernel_rfl)
    (of_decide_eq_true (by kernel_rfl)) (by unfold Func.isWrapper; first | (rw [if_pos (by decide +kernel)]; kernel_rfl) | (rw [if_neg (by decide +kernel)]; exact ⟨rfl, rfl⟩))
    (fun os started H enc _ => lifted os started H enc)
theorem proved : Rows.CacheClearsSaid := over
#print axioms proved
end Go.Proofs.Ytmlkajmlhmfdgaa.cacheClears
namespace Go.Proofs.Ytmlkajmlhmfdgaa
/-- The row, under a short name, for the claim. -/
theorem cacheClears_holds : Rows.CacheClearsSaid := cacheClears.proved
end Go.Proofs.Ytmlkajmlhmfdgaa
