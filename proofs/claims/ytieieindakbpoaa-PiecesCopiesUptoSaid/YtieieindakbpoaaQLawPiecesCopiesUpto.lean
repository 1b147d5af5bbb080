/- Pruned by wip/prune.py. -/
import Derived.Test.YtieieindakbpoaaRows
import Derived.Test.YtieieindakbpoaaQOpensKinds
import Derived.Test.YtieieindakbpoaaQSxLPiecesCopies
import Derived.WalkKit
import Derived.ProofKit
import Derived.OpenShut
import Derived.ShutString
import Derived.ChangeOld
import Derived.Below
import Derived.SizedLaws
import Derived.JoinedCond
import Derived.Test.YtieieindakbpoaaQOpensUpK
import Derived.Test.YtieieindakbpoaaQWAll
namespace Go.Proofs.Ytieieindakbpoaa.piecesCopies
open Go.ChangeShapes Go.WideShapes Go.ChangeAt Go.RowKit Go.Proofs.Ytieieindakbpoaa.Opens Go.Proofs.Ytieieindakbpoaa.Kinds
open Go.ChangeMaps (open_string shut_string)
set_option linter.unusedSimpArgs false
set_option linter.unusedVariables false
theorem own : ownKnob Try.prog.godebug = none := by kernel_rfl
theorem laidOut : laidOutB Try.prog = true := by kernel_rfl
set_option maxRecDepth 100000 in
theorem lifted (os : Os) (started : os.Started) (H : Type) (enc : TypeId × Value → H) (F : Stop.Interp) :
    ReturnsInHanded {} Try.checked os 8 .any ((Rows.OpenSpec.upto Rows.piecesCopiesSpec).pre6 enc Try.prog Try.f8 Rows.piecesCopiesUptoRow.domain false) (((Rows.OpenSpec.upto Rows.piecesCopiesSpec).at F).post enc Try.prog Try.f8 false true false false) := by
  refine returnsInHanded_of_cond (C := Try.checked) (s := Rows.OpenSpec.upto Rows.piecesCopiesSpec) (k := Rows.uptoSmall) rfl own started (by kernel_rfl) Try.func8
    (OpenSpec.witness (enc := enc) (C := Try.checked) (s := Rows.OpenSpec.upto Rows.piecesCopiesSpec) (k := Rows.uptoSmall) rfl false ⟨#[], #[.string ByteArray.empty, .slice none 0 0, .slice none 0 0], []⟩ 8 (by kernel_rfl) (by kernel_rfl) (by kernel_rfl)
      (x := ([.lit (.string []), .nil, .nil], [], [])) (by kernel_rfl) rfl (by kernel_rfl)) ?_
  intro W base args ds gs before hval0 hW _ hk0 _
  have hk : Rows.uptoSmall H (ds ++ gs) = true := hk0
  have hval : ∀ (j : Nat) t v, Try.f8.params[j]? = some t → args[j]? = some v → Value.okWide Try.prog W .any base t v := hval0
  have hW' := hW
  obtain ⟨p, q, hA0, hV, rfl, hfz, hnd⟩ := hW
  have hA : DataW.TrodAll enc Try.prog W 0 (fun _ => true) true Try.f8.params.toList args.toList ds p := hA0
  rw [Try.params8] at hA hval
  obtain ⟨v0, vs0, d0, ds0, p0, q0, hargs, rfl, rfl, h0, r0⟩ := trodAll_cons hA
  obtain ⟨v1, vs1, d1, ds1, p1, q1, rfl, rfl, rfl, h1, r1⟩ := trodAll_cons r0
  obtain ⟨v2, vs2, d2, ds2, p2, q2, rfl, rfl, rfl, h2, r2⟩ := trodAll_cons r1
  obtain ⟨rfl, rfl, rfl⟩ := trodAll_nil r2
  obtain rfl : args = #[v0, v1, v2] := by cases args; simp_all
  obtain ⟨rfl, rfl⟩ := trodVars_none hV
  have lt0 : ∀ x ∈ p0, x.block < W.heap.size := by obtain ⟨m, hm⟩ := h0; exact DataW.trod_lt m _ _ _ hm
  have lt1 : ∀ x ∈ p1, x.block < W.heap.size := by obtain ⟨m, hm⟩ := h1; exact DataW.trod_lt m _ _ _ hm
  have lt2 : ∀ x ∈ p2, x.block < W.heap.size := by obtain ⟨m, hm⟩ := h2; exact DataW.trod_lt m _ _ _ hm
  obtain ⟨s0, rfl⟩ := okWide_string Try.underlying9 (hval 0 9 v0 rfl rfl)
  obtain ⟨t0, K0, g0⟩ := arg_any2 (opens2_string Try.underlying9 (by kernel_rfl)) h0
  obtain rfl : s0 = t0 := by injection K0 with K0 _; injection K0
  obtain ⟨A1, c1, xs1, rfl, m1, K1, g1⟩ := arg_slice2 Try.underlying30 (opens2_slice Try.underlying30 (by kernel_rfl) opens2_48) (okWide_slice Try.underlying30 (hval 1 30 v1 rfl rfl)) h1
  obtain ⟨A2, c2, xs2, rfl, m2, K2, g2⟩ := arg_slice2 Try.underlying30 (opens2_slice Try.underlying30 (by kernel_rfl) opens2_48) (okWide_slice Try.underlying30 (hval 2 30 v2 rfl rfl)) h2
  have hk1 : Rows.uptoBulkAll _ ≤ 1048576 := of_decide_eq_true hk
  simp only [List.cons_append, List.nil_append, List.append_nil, Rows.uptoBulkAll] at hk1
  clear hA0 hval0 hk hk0
  refine (L.PiecesCopies_calls (R := []) s0 xs1 A1 c1 xs2 A2 c2 (Sx.ro_self W) (Nat.le_trans g0.1 (by decide)) m1 K1 (Nat.le_trans g1.1 (by decide)) m2 K2 (Nat.le_trans g2.1 (by decide)) (Nat.le_trans g1.2.1 (by omega)) (fun o_ ho_ => Nat.le_trans (g1.2.2 o_ ho_).2.2.2.2 (by omega)) (Nat.le_trans g2.2.1 (by omega)) (fun o_ ho_ => Nat.le_trans (g2.2.2 o_ ho_).2.2.2.2 (by omega)) (Sx.st_start W)).mono fun e W' ⟨he, hst⟩ => ?_
  have bel := Sx.st_below0 hst
  subst he
  exact ⟨_, rfl, _, _, _, [], _, [], hW', trodAll_mk1 (shut_bool Try.underlying4 _), (trodAll_cons_mk (Below.trod laidOut (by kernel_rfl) (of_decide_eq_true (by kernel_rfl)) h0 bel lt0) (trodAll_cons_mk (Below.trod laidOut (by kernel_rfl) (of_decide_eq_true (by kernel_rfl)) h1 bel lt1) (trodAll_cons_mk (Below.trod laidOut (by kernel_rfl) (of_decide_eq_true (by kernel_rfl)) h2 bel lt2) trodAll_mk0))), rfl, bel.frame _, fun h => by cases h⟩
theorem over : Rows.piecesCopiesUptoRow.holds Try.pinned (Rows.OpenSpec.upto Rows.piecesCopiesSpec) :=
  OpenClaim.holds_of_cond 8 Try.f8 rfl rfl rfl rfl rfl rfl rfl ⟨rfl, rfl, rfl, rfl, rfl⟩ rfl rfl rfl rfl rfl (by kernel_rfl) Try.func8 (by kernel_rfl)
    (of_decide_eq_true (by kernel_rfl)) (by unfold Func.isWrapper; first | (rw [if_pos (by decide +kernel)]; kernel_rfl) | (rw [if_neg (by decide +kernel)]; exact ⟨rfl, rfl⟩))
    (fun os started H enc _ F => lifted os started H enc F)
theorem proved : Rows.PiecesCopiesUptoSaid := over
#print axioms proved
end Go.Proofs.Ytieieindakbpoaa.piecesCopies
namespace Go.Proofs.Ytieieindakbpoaa
/-- The row, under a short name, for the claim. -/
theorem piecesCopiesUpto_holds : Rows.PiecesCopiesUptoSaid := piecesCopies.proved
end Go.Proofs.Ytieieindakbpoaa
