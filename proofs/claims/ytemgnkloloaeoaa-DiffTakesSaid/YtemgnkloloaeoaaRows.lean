/-
  No cell of these rows narrows 'for every input' (looked for: loops, veiled, ifaces, maps, wideKeys, modest, calm, conditions, laid).
  DERIVED. THE GIVEN ROWS OF THIS SEAT. 5 by the template 'for every input the law returns true; each argument reads behind the call as it read before'; 0 by the template 'total and deterministic' (their statements: YtemgnkloloaeoaaTotals.lean).
  GIVEN WITH THE SEED: the statements are not yours to turn. If you find one false, say at which input.
  Laid BY PROGRAM, IN A SANDBOX (cutbox-rows.mjs): the forced cells as the released guide's own fill.sh prints them over the translation 74f141b226e75282… (all of the seat's roots in one cut). By AI agents, Wed Nov 11 2026. No macro, syntax, notation, axiom, sorry.
-/
import Derived.Test.YtemgnkloloaeoaaChecked
import GoSem.Claim
import GoSem.ClaimJoined
import GoSem.ClaimMapViews
import Derived.JoinedTies
import Derived.KernelRfl
namespace Go.Proofs.Ytemgnkloloaeoaa
/- THE CELL 'sum', in the pinned program and in every row, IS THE sha256 OF THE DUMP (.gsa) THAT YtemgnkloloaeoaaProg.lean LOADS. Nothing in Lean hashes anything: it is a label: what it is worth is what the hold of that sum in a sandbox is worth. -/
noncomputable def Try.pinned : Pinned := { name := "ytemgnkloloaeoaa", sum := "74f141b226e7528210d5d7901e3e594fdec182a296947bc1022c4f613677c4f5", checked := Try.checked }
namespace Rows
def none {H : Type} : Left H := { results := [], args := [] }

/-- 'regletlaw14.DiffCounts': WHATEVER THE INPUT: true; the input reads as it did. -/
def diffCountsSpec : ChangeSpec := { name := "diffCounts", fn := fun _ => fun
  | [d1, d2] => { results := [.lit (.bool true)], args := [d1, d2] }
  | _ => none }
def diffCountsRow : OpenClaim := { program := "ytemgnkloloaeoaa", sum := "74f141b226e7528210d5d7901e3e594fdec182a296947bc1022c4f613677c4f5", func := "reglet/regletlaw14.DiffCounts", spec := "diffCounts", apart := false }
def DiffCountsSaid : Prop := diffCountsRow.holds Try.pinned (OpenSpec.ofChange diffCountsSpec)

/-- ITS FALSE NEIGHBOUR: 'it returns false'. Refute it at one input. -/
def diffCountsWrong : ChangeSpec := { name := "diffCounts", fn := fun _ => fun
  | [d1, d2] => { results := [.lit (.bool false)], args := [d1, d2] }
  | _ => none }
def DiffCountsWrongFalsely : Prop := diffCountsRow.holds Try.pinned (OpenSpec.ofChange diffCountsWrong)

/-- 'regletlaw14.DiffLeast': WHATEVER THE INPUT: true; the input reads as it did. -/
def diffLeastSpec : ChangeSpec := { name := "diffLeast", fn := fun _ => fun
  | [d1, d2] => { results := [.lit (.bool true)], args := [d1, d2] }
  | _ => none }
def diffLeastRow : OpenClaim := { program := "ytemgnkloloaeoaa", sum := "74f141b226e7528210d5d7901e3e594fdec182a296947bc1022c4f613677c4f5", func := "reglet/regletlaw14.DiffLeast", spec := "diffLeast", apart := false }
def DiffLeastSaid : Prop := diffLeastRow.holds Try.pinned (OpenSpec.ofChange diffLeastSpec)

/-- ITS FALSE NEIGHBOUR: 'it returns false'. Refute it at one input. -/
def diffLeastWrong : ChangeSpec := { name := "diffLeast", fn := fun _ => fun
  | [d1, d2] => { results := [.lit (.bool false)], args := [d1, d2] }
  | _ => none }
def DiffLeastWrongFalsely : Prop := diffLeastRow.holds Try.pinned (OpenSpec.ofChange diffLeastWrong)

/-- 'regletlaw14.DiffPatches': WHATEVER THE INPUT: true; the input reads as it did. -/
def diffPatchesSpec : ChangeSpec := { name := "diffPatches", fn := fun _ => fun
  | [d1, d2] => { results := [.lit (.bool true)], args := [d1, d2] }
  | _ => none }
def diffPatchesRow : OpenClaim := { program := "ytemgnkloloaeoaa", sum := "74f141b226e7528210d5d7901e3e594fdec182a296947bc1022c4f613677c4f5", func := "reglet/regletlaw14.DiffPatches", spec := "diffPatches", apart := false }
def DiffPatchesSaid : Prop := diffPatchesRow.holds Try.pinned (OpenSpec.ofChange diffPatchesSpec)

/-- ITS FALSE NEIGHBOUR: 'it returns false'. Refute it at one input. -/
def diffPatchesWrong : ChangeSpec := { name := "diffPatches", fn := fun _ => fun
  | [d1, d2] => { results := [.lit (.bool false)], args := [d1, d2] }
  | _ => none }
def DiffPatchesWrongFalsely : Prop := diffPatchesRow.holds Try.pinned (OpenSpec.ofChange diffPatchesWrong)

/-- 'regletlaw14.DiffTakes': WHATEVER THE INPUT: true; the input reads as it did. -/
def diffTakesSpec : ChangeSpec := { name := "diffTakes", fn := fun _ => fun
  | [d1, d2] => { results := [.lit (.bool true)], args := [d1, d2] }
  | _ => none }
def diffTakesRow : OpenClaim := { program := "ytemgnkloloaeoaa", sum := "74f141b226e7528210d5d7901e3e594fdec182a296947bc1022c4f613677c4f5", func := "reglet/regletlaw14.DiffTakes", spec := "diffTakes", apart := false }
def DiffTakesSaid : Prop := diffTakesRow.holds Try.pinned (OpenSpec.ofChange diffTakesSpec)

/-- ITS FALSE NEIGHBOUR: 'it returns false'. Refute it at one input. -/
def diffTakesWrong : ChangeSpec := { name := "diffTakes", fn := fun _ => fun
  | [d1, d2] => { results := [.lit (.bool false)], args := [d1, d2] }
  | _ => none }
def DiffTakesWrongFalsely : Prop := diffTakesRow.holds Try.pinned (OpenSpec.ofChange diffTakesWrong)

/-- 'regletlaw14.DiffChains': WHATEVER THE INPUT: true; the input reads as it did. -/
def diffChainsSpec : ChangeSpec := { name := "diffChains", fn := fun _ => fun
  | [d1, d2, d3] => { results := [.lit (.bool true)], args := [d1, d2, d3] }
  | _ => none }
def diffChainsRow : OpenClaim := { program := "ytemgnkloloaeoaa", sum := "74f141b226e7528210d5d7901e3e594fdec182a296947bc1022c4f613677c4f5", func := "reglet/regletlaw14.DiffChains", spec := "diffChains", apart := false }
def DiffChainsSaid : Prop := diffChainsRow.holds Try.pinned (OpenSpec.ofChange diffChainsSpec)

/-- ITS FALSE NEIGHBOUR: 'it returns false'. Refute it at one input. -/
def diffChainsWrong : ChangeSpec := { name := "diffChains", fn := fun _ => fun
  | [d1, d2, d3] => { results := [.lit (.bool false)], args := [d1, d2, d3] }
  | _ => none }
def DiffChainsWrongFalsely : Prop := diffChainsRow.holds Try.pinned (OpenSpec.ofChange diffChainsWrong)

/- THE SECOND FORM. 'bulk': how many values and letters a reading holds, each counted each time it is reached (what is shared counts as often as it is met; a slice's spare places count too). A statement '..UptoSaid' is the law's where the arguments, and the package variables that the reading takes, are together of bulk at most 1048576: NARROWER than '..Said'. Prove '..Said' where nothing that the law and all that it calls make is longer than what came in: it says more and counts as full. Else prove '..UptoSaid'. A law counts once. -/
mutual
def uptoBulk {H : Type} : DataW H → Nat
  | .lit (.string bytes) => bytes.length + 1
  | .lit _ => 1
  | .nil => 1
  | .ptr d => uptoBulk d + 1
  | .slice elems spare => uptoBulkAll elems + uptoBulkAll spare + 1
  | .agg parts => uptoBulkAll parts + 1
  | .iface _ d => uptoBulk d + 1
  | .map entries => uptoBulkEntries entries + 1
  | .held _ => 1
def uptoBulkAll {H : Type} : List (DataW H) → Nat
  | [] => 0
  | d :: r => uptoBulk d + uptoBulkAll r
def uptoBulkEntries {H : Type} : List (Lit × DataW H) → Nat
  | [] => 0
  | x :: r => uptoBulkEntry x + uptoBulkEntries r
def uptoBulkEntry {H : Type} : Lit × DataW H → Nat
  | (.string bytes, d) => bytes.length + uptoBulk d + 1
  | (_, d) => uptoBulk d + 1
 end
def uptoSmall : (H : Type) → List (DataW H) → Bool := fun _ ds => decide (uptoBulkAll ds ≤ 1048576)
def OpenSpec.upto (s : _root_.Go.ChangeSpec) : _root_.Go.OpenSpec := { _root_.Go.OpenSpec.ofChange s with cond := some uptoSmall }

/-- 'regletlaw14.DiffCounts', WHERE WHAT IT READS IS OF BULK AT MOST 1048576: true; the input reads as it did. -/
def diffCountsUptoRow : OpenClaim := { program := "ytemgnkloloaeoaa", sum := "74f141b226e7528210d5d7901e3e594fdec182a296947bc1022c4f613677c4f5", func := "reglet/regletlaw14.DiffCounts", spec := "diffCounts", apart := false, narrowed := true }
def DiffCountsUptoSaid : Prop := diffCountsUptoRow.holds Try.pinned (OpenSpec.upto diffCountsSpec)

/-- 'regletlaw14.DiffLeast', WHERE WHAT IT READS IS OF BULK AT MOST 1048576: true; the input reads as it did. -/
def diffLeastUptoRow : OpenClaim := { program := "ytemgnkloloaeoaa", sum := "74f141b226e7528210d5d7901e3e594fdec182a296947bc1022c4f613677c4f5", func := "reglet/regletlaw14.DiffLeast", spec := "diffLeast", apart := false, narrowed := true }
def DiffLeastUptoSaid : Prop := diffLeastUptoRow.holds Try.pinned (OpenSpec.upto diffLeastSpec)

/-- 'regletlaw14.DiffPatches', WHERE WHAT IT READS IS OF BULK AT MOST 1048576: true; the input reads as it did. -/
def diffPatchesUptoRow : OpenClaim := { program := "ytemgnkloloaeoaa", sum := "74f141b226e7528210d5d7901e3e594fdec182a296947bc1022c4f613677c4f5", func := "reglet/regletlaw14.DiffPatches", spec := "diffPatches", apart := false, narrowed := true }
def DiffPatchesUptoSaid : Prop := diffPatchesUptoRow.holds Try.pinned (OpenSpec.upto diffPatchesSpec)

/-- 'regletlaw14.DiffTakes', WHERE WHAT IT READS IS OF BULK AT MOST 1048576: true; the input reads as it did. -/
def diffTakesUptoRow : OpenClaim := { program := "ytemgnkloloaeoaa", sum := "74f141b226e7528210d5d7901e3e594fdec182a296947bc1022c4f613677c4f5", func := "reglet/regletlaw14.DiffTakes", spec := "diffTakes", apart := false, narrowed := true }
def DiffTakesUptoSaid : Prop := diffTakesUptoRow.holds Try.pinned (OpenSpec.upto diffTakesSpec)

/-- 'regletlaw14.DiffChains', WHERE WHAT IT READS IS OF BULK AT MOST 1048576: true; the input reads as it did. -/
def diffChainsUptoRow : OpenClaim := { program := "ytemgnkloloaeoaa", sum := "74f141b226e7528210d5d7901e3e594fdec182a296947bc1022c4f613677c4f5", func := "reglet/regletlaw14.DiffChains", spec := "diffChains", apart := false, narrowed := true }
def DiffChainsUptoSaid : Prop := diffChainsUptoRow.holds Try.pinned (OpenSpec.upto diffChainsSpec)

end Rows
end Go.Proofs.Ytemgnkloloaeoaa
