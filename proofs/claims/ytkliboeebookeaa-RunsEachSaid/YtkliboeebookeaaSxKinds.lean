/- The kinds of the types. -/
import Derived.Test.YtkliboeebookeaaSxView
namespace Go.Proofs.Ytkliboeebookeaa.Kinds
open Go Go.RowKit Go.Proofs.YtkliboeebookeaaW.PrintWords 
set_option linter.unusedVariables false
set_option linter.unusedSimpArgs false

structure S66 where
  f0 : Int
  f1 : Int
  deriving DecidableEq
def z66 : S66 := ⟨(0 : Int), (0 : Int)⟩
def k66 : Kd S66 := Kd.iso (Kd.pair (Kd.int .i64) (Kd.int .i64)) (fun x : S66 => (x.f0, x.f1))
theorem k66_open {w : World} {x : S66} {cs : List Value} (h : k66.K w x cs) : cs = [.int .i64 ((x).f0), .int .i64 ((x).f1)] := by
  obtain ⟨_, _, rfl, rfl, rfl⟩ := h
  exact rfl
theorem k66_openM {w : World} {base : Nat} {ok : Nat → Prop} {x : S66} {cs : List Value} (h : k66.M w base ok x cs) : cs = [.int .i64 ((x).f0), .int .i64 ((x).f1)] := by
  obtain ⟨_, _, rfl, rfl, rfl⟩ := h
  exact rfl
theorem k66_mkM (w : World) (base : Nat) (ok : Nat → Prop) (x : S66) : k66.M w base ok x [.int .i64 ((x).f0), .int .i64 ((x).f1)] := ⟨[.int .i64 (x.f0)], [.int .i64 (x.f1)], rfl, rfl, rfl⟩
theorem flat66 : Sx.Flat k66 := Sx.flat_iso _ (Sx.flat_pair (Sx.flat_int _) (Sx.flat_int _))
structure S55 where
  f0 : Int
  f1 : Int
  f2 : Int
  f3 : Int
  f4 : (List S66)
  deriving DecidableEq
def z55 : S55 := ⟨(0 : Int), (0 : Int), (0 : Int), (0 : Int), []⟩
def k55 : Kd S55 := Kd.iso (Kd.pair (Kd.int .i64) (Kd.pair (Kd.int .i64) (Kd.pair (Kd.int .i64) (Kd.pair (Kd.int .i64) (Kd.slice 66 k66))))) (fun x : S55 => (x.f0, (x.f1, (x.f2, (x.f3, x.f4)))))
theorem k55_open {w : World} {x : S55} {cs : List Value} (h : k55.K w x cs) : ∃ (A0_ : Option Addr) (c0_ : Nat), cs = [.int .i64 ((x).f0), .int .i64 ((x).f1), .int .i64 ((x).f2), .int .i64 ((x).f3), .slice (A0_) (((x).f4).length) (c0_)] ∧ x.f4.length ≤ c0_ ∧ k66.C w A0_ x.f4.length x.f4 := by
  obtain ⟨_, _, rfl, rfl, ⟨_, _, rfl, rfl, ⟨_, _, rfl, rfl, ⟨_, _, rfl, rfl, ⟨A0_, c0_, rfl, hl0_, hc0_⟩⟩⟩⟩⟩ := h
  exact ⟨A0_, c0_, rfl, hl0_, hc0_⟩
end Go.Proofs.Ytkliboeebookeaa.Kinds
