/- Pruned by wip/prune.py. -/
import Derived.Test.YtieieindakbpoaaQSxView
namespace Go.Proofs.Ytieieindakbpoaa.Kinds
open Go Go.RowKit Go.Proofs.YtieieindakbpoaaW.PrintWords 
set_option linter.unusedVariables false
set_option linter.unusedSimpArgs false
structure S77 where
  f0 : Bool
  f1 : Int
  f2 : Int
  f3 : Int
  deriving DecidableEq
structure S48 where
  f0 : Bool
  f1 : Int
  f2 : Int
  f3 : ByteArray
  deriving DecidableEq
def z48 : S48 := ⟨false, (0 : Int), (0 : Int), ByteArray.empty⟩
def k48 : Kd S48 := Kd.iso (Kd.pair Kd.bool (Kd.pair (Kd.int .i64) (Kd.pair (Kd.int .i64) Kd.string))) (fun x : S48 => (x.f0, (x.f1, (x.f2, x.f3))))
theorem k48_open {w : World} {x : S48} {cs : List Value} (h : k48.K w x cs) : cs = [.bool ((x).f0), .int .i64 ((x).f1), .int .i64 ((x).f2), .string ((x).f3)] := by
  obtain ⟨_, _, rfl, rfl, ⟨_, _, rfl, rfl, ⟨_, _, rfl, rfl, rfl⟩⟩⟩ := h
  exact rfl
theorem k48_mkM (w : World) (base : Nat) (ok : Nat → Prop) (x : S48) : k48.M w base ok x [.bool ((x).f0), .int .i64 ((x).f1), .int .i64 ((x).f2), .string ((x).f3)] := ⟨[.bool (x.f0)], [.int .i64 (x.f1), .int .i64 (x.f2), .string (x.f3)], rfl, rfl, ⟨[.int .i64 (x.f1)], [.int .i64 (x.f2), .string (x.f3)], rfl, rfl, ⟨[.int .i64 (x.f2)], [.string (x.f3)], rfl, rfl, rfl⟩⟩⟩
end Go.Proofs.Ytieieindakbpoaa.Kinds
