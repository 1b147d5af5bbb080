/-
  No cell of these rows narrows 'for every input' (looked for: loops, veiled, ifaces, maps, wideKeys, modest, calm, conditions, laid).
  DERIVED. THE GIVEN ROWS OF THIS SEAT. 6 by the template 'for every input the law returns true; each argument reads behind the call as it read before'; 0 by the template 'total and deterministic' (their statements: YtbakllppgekmoaaTotals.lean).
  GIVEN WITH THE SEED: the statements are not yours to turn. If you find one false, say at which input.
  Laid BY PROGRAM, IN A SANDBOX (cutbox-rows.mjs): the forced cells as the released guide's own fill.sh prints them over the translation 903664dce65043a2… (all of the seat's roots in one cut). By AI agents, Wed Nov 11 2026. No macro, syntax, notation, axiom, sorry.
-/
import Derived.Test.YtbakllppgekmoaaChecked
import GoSem.Claim
import GoSem.ClaimJoined
import GoSem.ClaimMapViews
import Derived.JoinedTies
import Derived.KernelRfl
namespace Go.Proofs.Ytbakllppgekmoaa
/- THE CELL 'sum', in the pinned program and in every row, IS THE sha256 OF THE DUMP (.gsa) THAT YtbakllppgekmoaaProg.lean LOADS. Nothing in Lean hashes anything: it is a label: what it is worth is what the hold of that sum in a sandbox is worth. -/
noncomputable def Try.pinned : Pinned := { name := "ytbakllppgekmoaa", sum := "903664dce65043a27aaff80d075f4ba1aa8589ebdf750df0810d3eb93d5adc4c", checked := Try.checked }
namespace Rows
def none {H : Type} : Left H := { results := [], args := [] }

/-- 'regletlaw19.CompareMerges': WHATEVER THE INPUT: true; the input reads as it did. -/
def compareMergesSpec : ChangeSpec := { name := "compareMerges", fn := fun _ => fun
  | [d1, d2] => { results := [.lit (.bool true)], args := [d1, d2] }
  | _ => none }
def compareMergesRow : OpenClaim := { program := "ytbakllppgekmoaa", sum := "903664dce65043a27aaff80d075f4ba1aa8589ebdf750df0810d3eb93d5adc4c", func := "reglet/regletlaw19.CompareMerges", spec := "compareMerges", apart := false }
def CompareMergesSaid : Prop := compareMergesRow.holds Try.pinned (OpenSpec.ofChange compareMergesSpec)

/-- ITS FALSE NEIGHBOUR: 'it returns false'. Refute it at one input. -/
def compareMergesWrong : ChangeSpec := { name := "compareMerges", fn := fun _ => fun
  | [d1, d2] => { results := [.lit (.bool false)], args := [d1, d2] }
  | _ => none }
def CompareMergesWrongFalsely : Prop := compareMergesRow.holds Try.pinned (OpenSpec.ofChange compareMergesWrong)

/-- 'regletlaw19.CompareThree': WHATEVER THE INPUT: true; the input reads as it did. -/
def compareThreeSpec : ChangeSpec := { name := "compareThree", fn := fun _ => fun
  | [d1, d2, d3] => { results := [.lit (.bool true)], args := [d1, d2, d3] }
  | _ => none }
def compareThreeRow : OpenClaim := { program := "ytbakllppgekmoaa", sum := "903664dce65043a27aaff80d075f4ba1aa8589ebdf750df0810d3eb93d5adc4c", func := "reglet/regletlaw19.CompareThree", spec := "compareThree", apart := false }
def CompareThreeSaid : Prop := compareThreeRow.holds Try.pinned (OpenSpec.ofChange compareThreeSpec)

/-- ITS FALSE NEIGHBOUR: 'it returns false'. Refute it at one input. -/
def compareThreeWrong : ChangeSpec := { name := "compareThree", fn := fun _ => fun
  | [d1, d2, d3] => { results := [.lit (.bool false)], args := [d1, d2, d3] }
  | _ => none }
def CompareThreeWrongFalsely : Prop := compareThreeRow.holds Try.pinned (OpenSpec.ofChange compareThreeWrong)

/-- 'regletlaw19.CompareCosts': WHATEVER THE INPUT: true; the input reads as it did. -/
def compareCostsSpec : ChangeSpec := { name := "compareCosts", fn := fun _ => fun
  | [d1, d2] => { results := [.lit (.bool true)], args := [d1, d2] }
  | _ => none }
def compareCostsRow : OpenClaim := { program := "ytbakllppgekmoaa", sum := "903664dce65043a27aaff80d075f4ba1aa8589ebdf750df0810d3eb93d5adc4c", func := "reglet/regletlaw19.CompareCosts", spec := "compareCosts", apart := false }
def CompareCostsSaid : Prop := compareCostsRow.holds Try.pinned (OpenSpec.ofChange compareCostsSpec)

/-- ITS FALSE NEIGHBOUR: 'it returns false'. Refute it at one input. -/
def compareCostsWrong : ChangeSpec := { name := "compareCosts", fn := fun _ => fun
  | [d1, d2] => { results := [.lit (.bool false)], args := [d1, d2] }
  | _ => none }
def CompareCostsWrongFalsely : Prop := compareCostsRow.holds Try.pinned (OpenSpec.ofChange compareCostsWrong)

/-- 'regletlaw19.CompareTriangle': WHATEVER THE INPUT: true; the input reads as it did. -/
def compareTriangleSpec : ChangeSpec := { name := "compareTriangle", fn := fun _ => fun
  | [d1, d2, d3] => { results := [.lit (.bool true)], args := [d1, d2, d3] }
  | _ => none }
def compareTriangleRow : OpenClaim := { program := "ytbakllppgekmoaa", sum := "903664dce65043a27aaff80d075f4ba1aa8589ebdf750df0810d3eb93d5adc4c", func := "reglet/regletlaw19.CompareTriangle", spec := "compareTriangle", apart := false }
def CompareTriangleSaid : Prop := compareTriangleRow.holds Try.pinned (OpenSpec.ofChange compareTriangleSpec)

/-- ITS FALSE NEIGHBOUR: 'it returns false'. Refute it at one input. -/
def compareTriangleWrong : ChangeSpec := { name := "compareTriangle", fn := fun _ => fun
  | [d1, d2, d3] => { results := [.lit (.bool false)], args := [d1, d2, d3] }
  | _ => none }
def CompareTriangleWrongFalsely : Prop := compareTriangleRow.holds Try.pinned (OpenSpec.ofChange compareTriangleWrong)

/-- 'regletlaw19.CompareBack': WHATEVER THE INPUT: true; the input reads as it did. -/
def compareBackSpec : ChangeSpec := { name := "compareBack", fn := fun _ => fun
  | [d1, d2] => { results := [.lit (.bool true)], args := [d1, d2] }
  | _ => none }
def compareBackRow : OpenClaim := { program := "ytbakllppgekmoaa", sum := "903664dce65043a27aaff80d075f4ba1aa8589ebdf750df0810d3eb93d5adc4c", func := "reglet/regletlaw19.CompareBack", spec := "compareBack", apart := false }
def CompareBackSaid : Prop := compareBackRow.holds Try.pinned (OpenSpec.ofChange compareBackSpec)

/-- ITS FALSE NEIGHBOUR: 'it returns false'. Refute it at one input. -/
def compareBackWrong : ChangeSpec := { name := "compareBack", fn := fun _ => fun
  | [d1, d2] => { results := [.lit (.bool false)], args := [d1, d2] }
  | _ => none }
def CompareBackWrongFalsely : Prop := compareBackRow.holds Try.pinned (OpenSpec.ofChange compareBackWrong)

/-- 'regletlaw19.CompareDone': WHATEVER THE INPUT: true; the input reads as it did. -/
def compareDoneSpec : ChangeSpec := { name := "compareDone", fn := fun _ => fun
  | [d1, d2] => { results := [.lit (.bool true)], args := [d1, d2] }
  | _ => none }
def compareDoneRow : OpenClaim := { program := "ytbakllppgekmoaa", sum := "903664dce65043a27aaff80d075f4ba1aa8589ebdf750df0810d3eb93d5adc4c", func := "reglet/regletlaw19.CompareDone", spec := "compareDone", apart := false }
def CompareDoneSaid : Prop := compareDoneRow.holds Try.pinned (OpenSpec.ofChange compareDoneSpec)

/-- ITS FALSE NEIGHBOUR: 'it returns false'. Refute it at one input. -/
def compareDoneWrong : ChangeSpec := { name := "compareDone", fn := fun _ => fun
  | [d1, d2] => { results := [.lit (.bool false)], args := [d1, d2] }
  | _ => none }
def CompareDoneWrongFalsely : Prop := compareDoneRow.holds Try.pinned (OpenSpec.ofChange compareDoneWrong)

/- THE SECOND FORM. 'bulk': how many values and letters a reading holds, each counted each time it is reached (what is shared counts as often as it is met; a slice's spare places count too). A statement '..UptoSaid' is the law's where the arguments, and the package variables that the reading takes, are together of bulk at most 1048576: NARROWER than '..Said'. Prove '..Said' where nothing that the law and all that it calls make is longer than what came in: it says more and counts as full. Else prove '..UptoSaid'. A law counts once. -/
mutual
def uptoBulk {H : Type} : DataW H → Nat
  | .lit (.string bytes) => bytes.length + 1
  | .lit _ => 1
  | .nil => 1
  | .ptr d => uptoBulk d + 1
  | .slice elems spare => uptoBulkAll elems + uptoBulkAll spare + 1
  | .agg parts => uptoBulkAll parts + 1
  | .iface _ d => uptoBulk d + 1
  | .map entries => uptoBulkEntries entries + 1
  | .held _ => 1
def uptoBulkAll {H : Type} : List (DataW H) → Nat
  | [] => 0
  | d :: r => uptoBulk d + uptoBulkAll r
def uptoBulkEntries {H : Type} : List (Lit × DataW H) → Nat
  | [] => 0
  | x :: r => uptoBulkEntry x + uptoBulkEntries r
def uptoBulkEntry {H : Type} : Lit × DataW H → Nat
  | (.string bytes, d) => bytes.length + uptoBulk d + 1
  | (_, d) => uptoBulk d + 1
 end
def uptoSmall : (H : Type) → List (DataW H) → Bool := fun _ ds => decide (uptoBulkAll ds ≤ 1048576)
def OpenSpec.upto (s : _root_.Go.ChangeSpec) : _root_.Go.OpenSpec := { _root_.Go.OpenSpec.ofChange s with cond := some uptoSmall }

/-- 'regletlaw19.CompareMerges', WHERE WHAT IT READS IS OF BULK AT MOST 1048576: true; the input reads as it did. -/
def compareMergesUptoRow : OpenClaim := { program := "ytbakllppgekmoaa", sum := "903664dce65043a27aaff80d075f4ba1aa8589ebdf750df0810d3eb93d5adc4c", func := "reglet/regletlaw19.CompareMerges", spec := "compareMerges", apart := false, narrowed := true }
def CompareMergesUptoSaid : Prop := compareMergesUptoRow.holds Try.pinned (OpenSpec.upto compareMergesSpec)

/-- 'regletlaw19.CompareThree', WHERE WHAT IT READS IS OF BULK AT MOST 1048576: true; the input reads as it did. -/
def compareThreeUptoRow : OpenClaim := { program := "ytbakllppgekmoaa", sum := "903664dce65043a27aaff80d075f4ba1aa8589ebdf750df0810d3eb93d5adc4c", func := "reglet/regletlaw19.CompareThree", spec := "compareThree", apart := false, narrowed := true }
def CompareThreeUptoSaid : Prop := compareThreeUptoRow.holds Try.pinned (OpenSpec.upto compareThreeSpec)

/-- 'regletlaw19.CompareCosts', WHERE WHAT IT READS IS OF BULK AT MOST 1048576: true; the input reads as it did. -/
def compareCostsUptoRow : OpenClaim := { program := "ytbakllppgekmoaa", sum := "903664dce65043a27aaff80d075f4ba1aa8589ebdf750df0810d3eb93d5adc4c", func := "reglet/regletlaw19.CompareCosts", spec := "compareCosts", apart := false, narrowed := true }
def CompareCostsUptoSaid : Prop := compareCostsUptoRow.holds Try.pinned (OpenSpec.upto compareCostsSpec)

/-- 'regletlaw19.CompareTriangle', WHERE WHAT IT READS IS OF BULK AT MOST 1048576: true; the input reads as it did. -/
def compareTriangleUptoRow : OpenClaim := { program := "ytbakllppgekmoaa", sum := "903664dce65043a27aaff80d075f4ba1aa8589ebdf750df0810d3eb93d5adc4c", func := "reglet/regletlaw19.CompareTriangle", spec := "compareTriangle", apart := false, narrowed := true }
def CompareTriangleUptoSaid : Prop := compareTriangleUptoRow.holds Try.pinned (OpenSpec.upto compareTriangleSpec)

/-- 'regletlaw19.CompareBack', WHERE WHAT IT READS IS OF BULK AT MOST 1048576: true; the input reads as it did. -/
def compareBackUptoRow : OpenClaim := { program := "ytbakllppgekmoaa", sum := "903664dce65043a27aaff80d075f4ba1aa8589ebdf750df0810d3eb93d5adc4c", func := "reglet/regletlaw19.CompareBack", spec := "compareBack", apart := false, narrowed := true }
def CompareBackUptoSaid : Prop := compareBackUptoRow.holds Try.pinned (OpenSpec.upto compareBackSpec)

/-- 'regletlaw19.CompareDone', WHERE WHAT IT READS IS OF BULK AT MOST 1048576: true; the input reads as it did. -/
def compareDoneUptoRow : OpenClaim := { program := "ytbakllppgekmoaa", sum := "903664dce65043a27aaff80d075f4ba1aa8589ebdf750df0810d3eb93d5adc4c", func := "reglet/regletlaw19.CompareDone", spec := "compareDone", apart := false, narrowed := true }
def CompareDoneUptoSaid : Prop := compareDoneUptoRow.holds Try.pinned (OpenSpec.upto compareDoneSpec)

end Rows
end Go.Proofs.Ytbakllppgekmoaa
