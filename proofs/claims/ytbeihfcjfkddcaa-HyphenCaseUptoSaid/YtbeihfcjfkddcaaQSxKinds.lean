/- Pruned by wip/prune.py. -/
import Derived.Test.YtbeihfcjfkddcaaQSxGlue
import Derived.Test.YtbeihfcjfkddcaaQSxRow
namespace Go.Proofs.Ytbeihfcjfkddcaa.Kinds
open Go Go.RowKit Go.Proofs.YtbeihfcjfkddcaaW.PrintWords Go.Proofs.Ytbeihfcjfkddcaa.Sx 
set_option linter.unusedVariables false
set_option linter.unusedSimpArgs false
structure S24 where
  f0 : (List ByteArray)
  f1 : (List ByteArray)
  f2 : Int
  f3 : Int
  deriving DecidableEq
def k24 : Kd S24 := Kd.iso (Kd.pair (Kd.slice 9 Kd.string) (Kd.pair (Kd.slice 9 Kd.string) (Kd.pair (Kd.int .i64) (Kd.int .i64)))) (fun x : S24 => (x.f0, (x.f1, (x.f2, x.f3))))
theorem k24_open {w : World} {x : S24} {cs : List Value} (h : k24.K w x cs) : ∃ (A0_ : Option Addr) (c0_ : Nat), ∃ (A1_ : Option Addr) (c1_ : Nat), cs = [.slice (A0_) (((x).f0).length) (c0_), .slice (A1_) (((x).f1).length) (c1_), .int .i64 ((x).f2), .int .i64 ((x).f3)] ∧ x.f0.length ≤ c0_ ∧ Kd.string.C w A0_ x.f0.length x.f0 ∧ x.f1.length ≤ c1_ ∧ Kd.string.C w A1_ x.f1.length x.f1 := by
  obtain ⟨_, _, rfl, ⟨A0_, c0_, rfl, hl0_, hc0_⟩, ⟨_, _, rfl, ⟨A1_, c1_, rfl, hl1_, hc1_⟩, ⟨_, _, rfl, rfl, rfl⟩⟩⟩ := h
  exact ⟨A0_, c0_, A1_, c1_, rfl, hl0_, hc0_, hl1_, hc1_⟩
end Go.Proofs.Ytbeihfcjfkddcaa.Kinds
