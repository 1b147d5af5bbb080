/- The kinds of the types. -/
import Derived.Test.YteancplgfjhagaaSxView
namespace Go.Proofs.Yteancplgfjhagaa.Kinds
open Go Go.RowKit Go.Proofs.YteancplgfjhagaaW.PrintWords 
set_option linter.unusedVariables false
set_option linter.unusedSimpArgs false

structure S41 where
  f0 : Int
  f1 : Int
  f2 : Int
  deriving DecidableEq
def z41 : S41 := ⟨(0 : Int), (0 : Int), (0 : Int)⟩
def k41 : Kd S41 := Kd.iso (Kd.pair (Kd.int .i64) (Kd.pair (Kd.int .i64) (Kd.int .i64))) (fun x : S41 => (x.f0, (x.f1, x.f2)))
theorem k41_open {w : World} {x : S41} {cs : List Value} (h : k41.K w x cs) : cs = [.int .i64 ((x).f0), .int .i64 ((x).f1), .int .i64 ((x).f2)] := by
  obtain ⟨_, _, rfl, rfl, ⟨_, _, rfl, rfl, rfl⟩⟩ := h
  exact rfl
theorem k41_openM {w : World} {base : Nat} {ok : Nat → Prop} {x : S41} {cs : List Value} (h : k41.M w base ok x cs) : cs = [.int .i64 ((x).f0), .int .i64 ((x).f1), .int .i64 ((x).f2)] := by
  obtain ⟨_, _, rfl, rfl, ⟨_, _, rfl, rfl, rfl⟩⟩ := h
  exact rfl
theorem k41_mkM (w : World) (base : Nat) (ok : Nat → Prop) (x : S41) : k41.M w base ok x [.int .i64 ((x).f0), .int .i64 ((x).f1), .int .i64 ((x).f2)] := ⟨[.int .i64 (x.f0)], [.int .i64 (x.f1), .int .i64 (x.f2)], rfl, rfl, ⟨[.int .i64 (x.f1)], [.int .i64 (x.f2)], rfl, rfl, rfl⟩⟩
theorem flat41 : Sx.Flat k41 := Sx.flat_iso _ (Sx.flat_pair (Sx.flat_int _) (Sx.flat_pair (Sx.flat_int _) (Sx.flat_int _)))
structure S49 where
  f0 : Bool
  f1 : Int
  f2 : Int
  f3 : ByteArray
  deriving DecidableEq
def z49 : S49 := ⟨false, (0 : Int), (0 : Int), ByteArray.empty⟩
def k49 : Kd S49 := Kd.iso (Kd.pair Kd.bool (Kd.pair (Kd.int .i64) (Kd.pair (Kd.int .i64) Kd.string))) (fun x : S49 => (x.f0, (x.f1, (x.f2, x.f3))))
theorem k49_open {w : World} {x : S49} {cs : List Value} (h : k49.K w x cs) : cs = [.bool ((x).f0), .int .i64 ((x).f1), .int .i64 ((x).f2), .string ((x).f3)] := by
  obtain ⟨_, _, rfl, rfl, ⟨_, _, rfl, rfl, ⟨_, _, rfl, rfl, rfl⟩⟩⟩ := h
  exact rfl
theorem k49_openM {w : World} {base : Nat} {ok : Nat → Prop} {x : S49} {cs : List Value} (h : k49.M w base ok x cs) : cs = [.bool ((x).f0), .int .i64 ((x).f1), .int .i64 ((x).f2), .string ((x).f3)] := by
  obtain ⟨_, _, rfl, rfl, ⟨_, _, rfl, rfl, ⟨_, _, rfl, rfl, rfl⟩⟩⟩ := h
  exact rfl
theorem k49_mkM (w : World) (base : Nat) (ok : Nat → Prop) (x : S49) : k49.M w base ok x [.bool ((x).f0), .int .i64 ((x).f1), .int .i64 ((x).f2), .string ((x).f3)] := ⟨[.bool (x.f0)], [.int .i64 (x.f1), .int .i64 (x.f2), .string (x.f3)], rfl, rfl, ⟨[.int .i64 (x.f1)], [.int .i64 (x.f2), .string (x.f3)], rfl, rfl, ⟨[.int .i64 (x.f2)], [.string (x.f3)], rfl, rfl, rfl⟩⟩⟩
theorem flat49 : Sx.Flat k49 := Sx.flat_iso _ (Sx.flat_pair Sx.flat_bool (Sx.flat_pair (Sx.flat_int _) (Sx.flat_pair (Sx.flat_int _) Sx.flat_string)))
end Go.Proofs.Yteancplgfjhagaa.Kinds
