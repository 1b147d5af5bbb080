/- Pruned by wip/prune.py. -/
import Derived.Test.YtmlkajmlhmfdgaaQSxView
namespace Go.Proofs.Ytmlkajmlhmfdgaa.Kinds
open Go Go.RowKit Go.Proofs.YtmlkajmlhmfdgaaW.PrintWords 
set_option linter.unusedVariables false
set_option linter.unusedSimpArgs false
structure S50 where
  f0 : Int
  f1 : Int
  deriving DecidableEq
def z50 : S50 := ⟨(0 : Int), (0 : Int)⟩
def k50 : Kd S50 := Kd.iso (Kd.pair (Kd.int .i64) (Kd.int .i64)) (fun x : S50 => (x.f0, x.f1))
theorem k50_open {w : World} {x : S50} {cs : List Value} (h : k50.K w x cs) : cs = [.int .i64 ((x).f0), .int .i64 ((x).f1)] := by
  obtain ⟨_, _, rfl, rfl, rfl⟩ := h
  exact rfl
theorem k50_openM {w : World} {base : Nat} {ok : Nat → Prop} {x : S50} {cs : List Value} (h : k50.M w base ok x cs) : cs = [.int .i64 ((x).f0), .int .i64 ((x).f1)] := by
  obtain ⟨_, _, rfl, rfl, rfl⟩ := h
  exact rfl
theorem k50_mkM (w : World) (base : Nat) (ok : Nat → Prop) (x : S50) : k50.M w base ok x [.int .i64 ((x).f0), .int .i64 ((x).f1)] := ⟨[.int .i64 (x.f0)], [.int .i64 (x.f1)], rfl, rfl, rfl⟩
theorem flat50 : Sx.Flat k50 := Sx.flat_iso _ (Sx.flat_pair (Sx.flat_int _) (Sx.flat_int _))
structure S31 where
  f0 : Int
  f1 : Int
  f2 : Int
  f3 : Int
  f4 : Int
  f5 : Int
  f6 : Int
  deriving DecidableEq
def z31 : S31 := ⟨(0 : Int), (0 : Int), (0 : Int), (0 : Int), (0 : Int), (0 : Int), (0 : Int)⟩
def k31 : Kd S31 := Kd.iso (Kd.pair (Kd.int .i64) (Kd.pair (Kd.int .i64) (Kd.pair (Kd.int .i64) (Kd.pair (Kd.int .i64) (Kd.pair (Kd.int .i64) (Kd.pair (Kd.int .i64) (Kd.int .i64))))))) (fun x : S31 => (x.f0, (x.f1, (x.f2, (x.f3, (x.f4, (x.f5, x.f6)))))))
theorem k31_open {w : World} {x : S31} {cs : List Value} (h : k31.K w x cs) : cs = [.int .i64 ((x).f0), .int .i64 ((x).f1), .int .i64 ((x).f2), .int .i64 ((x).f3), .int .i64 ((x).f4), .int .i64 ((x).f5), .int .i64 ((x).f6)] := by
  obtain ⟨_, _, rfl, rfl, ⟨_, _, rfl, rfl, ⟨_, _, rfl, rfl, ⟨_, _, rfl, rfl, ⟨_, _, rfl, rfl, ⟨_, _, rfl, rfl, rfl⟩⟩⟩⟩⟩⟩ := h
  exact rfl
theorem k31_mkM (w : World) (base : Nat) (ok : Nat → Prop) (x : S31) : k31.M w base ok x [.int .i64 ((x).f0), .int .i64 ((x).f1), .int .i64 ((x).f2), .int .i64 ((x).f3), .int .i64 ((x).f4), .int .i64 ((x).f5), .int .i64 ((x).f6)] := ⟨[.int .i64 (x.f0)], [.int .i64 (x.f1), .int .i64 (x.f2), .int .i64 (x.f3), .int .i64 (x.f4), .int .i64 (x.f5), .int .i64 (x.f6)], rfl, rfl, ⟨[.int .i64 (x.f1)], [.int .i64 (x.f2), .int .i64 (x.f3), .int .i64 (x.f4), .int .i64 (x.f5), .int .i64 (x.f6)], rfl, rfl, ⟨[.int .i64 (x.f2)], [.int .i64 (x.f3), .int .i64 (x.f4), .int .i64 (x.f5), .int .i64 (x.f6)], rfl, rfl, ⟨[.int .i64 (x.f3)], [.int .i64 (x.f4), .int .i64 (x.f5), .int .i64 (x.f6)], rfl, rfl, ⟨[.int .i64 (x.f4)], [.int .i64 (x.f5), .int .i64 (x.f6)], rfl, rfl, ⟨[.int .i64 (x.f5)], [.int .i64 (x.f6)], rfl, rfl, rfl⟩⟩⟩⟩⟩⟩
theorem flat31 : Sx.Flat k31 := Sx.flat_iso _ (Sx.flat_pair (Sx.flat_int _) (Sx.flat_pair (Sx.flat_int _) (Sx.flat_pair (Sx.flat_int _) (Sx.flat_pair (Sx.flat_int _) (Sx.flat_pair (Sx.flat_int _) (Sx.flat_pair (Sx.flat_int _) (Sx.flat_int _)))))))
structure S33 where
  f0 : ByteArray
  f1 : (List S50)
  f2 : Int
  f3 : Int
  f4 : S31
  deriving DecidableEq
def z33 : S33 := ⟨ByteArray.empty, [], (0 : Int), (0 : Int), z31⟩
def k33 : Kd S33 := Kd.iso (Kd.pair Kd.string (Kd.pair (Kd.slice 50 k50) (Kd.pair (Kd.int .i64) (Kd.pair (Kd.int .i64) k31)))) (fun x : S33 => (x.f0, (x.f1, (x.f2, (x.f3, x.f4)))))
theorem k33_open {w : World} {x : S33} {cs : List Value} (h : k33.K w x cs) : ∃ (A0_ : Option Addr) (c0_ : Nat), cs = [.string ((x).f0), .slice (A0_) (((x).f1).length) (c0_), .int .i64 ((x).f2), .int .i64 ((x).f3), .int .i64 (((x).f4).f0), .int .i64 (((x).f4).f1), .int .i64 (((x).f4).f2), .int .i64 (((x).f4).f3), .int .i64 (((x).f4).f4), .int .i64 (((x).f4).f5), .int .i64 (((x).f4).f6)] ∧ x.f1.length ≤ c0_ ∧ k50.C w A0_ x.f1.length x.f1 := by
  obtain ⟨_, _, rfl, rfl, ⟨_, _, rfl, ⟨A0_, c0_, rfl, hl0_, hc0_⟩, ⟨_, _, rfl, rfl, ⟨_, _, rfl, rfl, ⟨_, _, rfl, rfl, ⟨_, _, rfl, rfl, ⟨_, _, rfl, rfl, ⟨_, _, rfl, rfl, ⟨_, _, rfl, rfl, ⟨_, _, rfl, rfl, rfl⟩⟩⟩⟩⟩⟩⟩⟩⟩⟩ := h
  exact ⟨A0_, c0_, rfl, hl0_, hc0_⟩
structure S69 where
  f0 : Int
  f1 : S33
  f2 : Int
  deriving DecidableEq
def z69 : S69 := ⟨(0 : Int), z33, (0 : Int)⟩
def k69 : Kd S69 := Kd.iso (Kd.pair (Kd.int .i64) (Kd.pair k33 (Kd.int .i64))) (fun x : S69 => (x.f0, (x.f1, x.f2)))
theorem k69_open {w : World} {x : S69} {cs : List Value} (h : k69.K w x cs) : ∃ (A0_ : Option Addr) (c0_ : Nat), cs = [.int .i64 ((x).f0), .string (((x).f1).f0), .slice (A0_) ((((x).f1).f1).length) (c0_), .int .i64 (((x).f1).f2), .int .i64 (((x).f1).f3), .int .i64 ((((x).f1).f4).f0), .int .i64 ((((x).f1).f4).f1), .int .i64 ((((x).f1).f4).f2), .int .i64 ((((x).f1).f4).f3), .int .i64 ((((x).f1).f4).f4), .int .i64 ((((x).f1).f4).f5), .int .i64 ((((x).f1).f4).f6), .int .i64 ((x).f2)] ∧ x.f1.f1.length ≤ c0_ ∧ k50.C w A0_ x.f1.f1.length x.f1.f1 := by
  obtain ⟨_, _, rfl, rfl, ⟨_, _, rfl, ⟨_, _, rfl, rfl, ⟨_, _, rfl, ⟨A0_, c0_, rfl, hl0_, hc0_⟩, ⟨_, _, rfl, rfl, ⟨_, _, rfl, rfl, ⟨_, _, rfl, rfl, ⟨_, _, rfl, rfl, ⟨_, _, rfl, rfl, ⟨_, _, rfl, rfl, ⟨_, _, rfl, rfl, ⟨_, _, rfl, rfl, rfl⟩⟩⟩⟩⟩⟩⟩⟩⟩⟩, rfl⟩⟩ := h
  exact ⟨A0_, c0_, rfl, hl0_, hc0_⟩
end Go.Proofs.Ytmlkajmlhmfdgaa.Kinds
