/- Pruned by wip/prune.py. -/
import Derived.Test.YtbakllppgekmoaaQSxView
namespace Go.Proofs.Ytbakllppgekmoaa.Kinds
open Go Go.RowKit Go.Proofs.YtbakllppgekmoaaW.PrintWords 
set_option linter.unusedVariables false
set_option linter.unusedSimpArgs false
structure S33 where
  f0 : Int
  f1 : Int
  f2 : ByteArray
  deriving DecidableEq
def z33 : S33 := ⟨(0 : Int), (0 : Int), ByteArray.empty⟩
def k33 : Kd S33 := Kd.iso (Kd.pair (Kd.int .i64) (Kd.pair (Kd.int .i64) Kd.string)) (fun x : S33 => (x.f0, (x.f1, x.f2)))
theorem k33_open {w : World} {x : S33} {cs : List Value} (h : k33.K w x cs) : cs = [.int .i64 ((x).f0), .int .i64 ((x).f1), .string ((x).f2)] := by
  obtain ⟨_, _, rfl, rfl, ⟨_, _, rfl, rfl, rfl⟩⟩ := h
  exact rfl
theorem k33_mkM (w : World) (base : Nat) (ok : Nat → Prop) (x : S33) : k33.M w base ok x [.int .i64 ((x).f0), .int .i64 ((x).f1), .string ((x).f2)] := ⟨[.int .i64 (x.f0)], [.int .i64 (x.f1), .string (x.f2)], rfl, rfl, ⟨[.int .i64 (x.f1)], [.string (x.f2)], rfl, rfl, rfl⟩⟩
theorem flat33 : Sx.Flat k33 := Sx.flat_iso _ (Sx.flat_pair (Sx.flat_int _) (Sx.flat_pair (Sx.flat_int _) Sx.flat_string))
end Go.Proofs.Ytbakllppgekmoaa.Kinds
