/-
  No cell of these rows narrows 'for every input' (looked for: loops, veiled, ifaces, maps, wideKeys, modest, calm, conditions, laid).
  DERIVED. THE GIVEN ROWS OF THIS SEAT. 8 by the template 'for every input the law returns true; each argument reads behind the call as it read before'; 0 by the template 'total and deterministic' (their statements: YtkliboeebookeaaTotals.lean).
  GIVEN WITH THE SEED: the statements are not yours to turn. If you find one false, say at which input.
  Laid BY PROGRAM, IN A SANDBOX (cutbox-rows.mjs): the forced cells as the released guide's own fill.sh prints them over the translation 21924e1d7f1271fa… (all of the seat's roots in one cut). By AI agents, Wed Nov 11 2026. No macro, syntax, notation, axiom, sorry.
-/
import Derived.Test.YtkliboeebookeaaChecked
import GoSem.Claim
import GoSem.ClaimJoined
import GoSem.ClaimMapViews
import Derived.JoinedTies
import Derived.KernelRfl
namespace Go.Proofs.Ytkliboeebookeaa
/- THE CELL 'sum', in the pinned program and in every row, IS THE sha256 OF THE DUMP (.gsa) THAT YtkliboeebookeaaProg.lean LOADS. Nothing in Lean hashes anything: it is a label: what it is worth is what the hold of that sum in a sandbox is worth. -/
noncomputable def Try.pinned : Pinned := { name := "ytkliboeebookeaa", sum := "21924e1d7f1271fac0e06a55907b7e344336f07e7ed890497dd2deb896c75248", checked := Try.checked }
namespace Rows
def none {H : Type} : Left H := { results := [], args := [] }

/-- 'regletlaw05.RunsPlays': WHATEVER THE INPUT: true; the input reads as it did. -/
def runsPlaysSpec : ChangeSpec := { name := "runsPlays", fn := fun _ => fun
  | [d1, d2, d3] => { results := [.lit (.bool true)], args := [d1, d2, d3] }
  | _ => none }
def runsPlaysRow : OpenClaim := { program := "ytkliboeebookeaa", sum := "21924e1d7f1271fac0e06a55907b7e344336f07e7ed890497dd2deb896c75248", func := "reglet/regletlaw05.RunsPlays", spec := "runsPlays", apart := false }
def RunsPlaysSaid : Prop := runsPlaysRow.holds Try.pinned (OpenSpec.ofChange runsPlaysSpec)

/-- ITS FALSE NEIGHBOUR: 'it returns false'. Refute it at one input. -/
def runsPlaysWrong : ChangeSpec := { name := "runsPlays", fn := fun _ => fun
  | [d1, d2, d3] => { results := [.lit (.bool false)], args := [d1, d2, d3] }
  | _ => none }
def RunsPlaysWrongFalsely : Prop := runsPlaysRow.holds Try.pinned (OpenSpec.ofChange runsPlaysWrong)

/-- 'regletlaw05.RunsSlices': WHATEVER THE INPUT: true; the input reads as it did. -/
def runsSlicesSpec : ChangeSpec := { name := "runsSlices", fn := fun _ => fun
  | [d1, d2, d3] => { results := [.lit (.bool true)], args := [d1, d2, d3] }
  | _ => none }
def runsSlicesRow : OpenClaim := { program := "ytkliboeebookeaa", sum := "21924e1d7f1271fac0e06a55907b7e344336f07e7ed890497dd2deb896c75248", func := "reglet/regletlaw05.RunsSlices", spec := "runsSlices", apart := false }
def RunsSlicesSaid : Prop := runsSlicesRow.holds Try.pinned (OpenSpec.ofChange runsSlicesSpec)

/-- ITS FALSE NEIGHBOUR: 'it returns false'. Refute it at one input. -/
def runsSlicesWrong : ChangeSpec := { name := "runsSlices", fn := fun _ => fun
  | [d1, d2, d3] => { results := [.lit (.bool false)], args := [d1, d2, d3] }
  | _ => none }
def RunsSlicesWrongFalsely : Prop := runsSlicesRow.holds Try.pinned (OpenSpec.ofChange runsSlicesWrong)

/-- 'regletlaw05.RunsBegins': WHATEVER THE INPUT: true; the input reads as it did. -/
def runsBeginsSpec : ChangeSpec := { name := "runsBegins", fn := fun _ => fun
  | [d1, d2] => { results := [.lit (.bool true)], args := [d1, d2] }
  | _ => none }
def runsBeginsRow : OpenClaim := { program := "ytkliboeebookeaa", sum := "21924e1d7f1271fac0e06a55907b7e344336f07e7ed890497dd2deb896c75248", func := "reglet/regletlaw05.RunsBegins", spec := "runsBegins", apart := false }
def RunsBeginsSaid : Prop := runsBeginsRow.holds Try.pinned (OpenSpec.ofChange runsBeginsSpec)

/-- ITS FALSE NEIGHBOUR: 'it returns false'. Refute it at one input. -/
def runsBeginsWrong : ChangeSpec := { name := "runsBegins", fn := fun _ => fun
  | [d1, d2] => { results := [.lit (.bool false)], args := [d1, d2] }
  | _ => none }
def RunsBeginsWrongFalsely : Prop := runsBeginsRow.holds Try.pinned (OpenSpec.ofChange runsBeginsWrong)

/-- 'regletlaw05.RunsTells': WHATEVER THE INPUT: true; the input reads as it did. -/
def runsTellsSpec : ChangeSpec := { name := "runsTells", fn := fun _ => fun
  | [d1, d2, d3] => { results := [.lit (.bool true)], args := [d1, d2, d3] }
  | _ => none }
def runsTellsRow : OpenClaim := { program := "ytkliboeebookeaa", sum := "21924e1d7f1271fac0e06a55907b7e344336f07e7ed890497dd2deb896c75248", func := "reglet/regletlaw05.RunsTells", spec := "runsTells", apart := false }
def RunsTellsSaid : Prop := runsTellsRow.holds Try.pinned (OpenSpec.ofChange runsTellsSpec)

/-- ITS FALSE NEIGHBOUR: 'it returns false'. Refute it at one input. -/
def runsTellsWrong : ChangeSpec := { name := "runsTells", fn := fun _ => fun
  | [d1, d2, d3] => { results := [.lit (.bool false)], args := [d1, d2, d3] }
  | _ => none }
def RunsTellsWrongFalsely : Prop := runsTellsRow.holds Try.pinned (OpenSpec.ofChange runsTellsWrong)

/-- 'regletlaw05.RunsBack': WHATEVER THE INPUT: true; the input reads as it did. -/
def runsBackSpec : ChangeSpec := { name := "runsBack", fn := fun _ => fun
  | [d1, d2, d3] => { results := [.lit (.bool true)], args := [d1, d2, d3] }
  | _ => none }
def runsBackRow : OpenClaim := { program := "ytkliboeebookeaa", sum := "21924e1d7f1271fac0e06a55907b7e344336f07e7ed890497dd2deb896c75248", func := "reglet/regletlaw05.RunsBack", spec := "runsBack", apart := false }
def RunsBackSaid : Prop := runsBackRow.holds Try.pinned (OpenSpec.ofChange runsBackSpec)

/-- ITS FALSE NEIGHBOUR: 'it returns false'. Refute it at one input. -/
def runsBackWrong : ChangeSpec := { name := "runsBack", fn := fun _ => fun
  | [d1, d2, d3] => { results := [.lit (.bool false)], args := [d1, d2, d3] }
  | _ => none }
def RunsBackWrongFalsely : Prop := runsBackRow.holds Try.pinned (OpenSpec.ofChange runsBackWrong)

/-- 'regletlaw05.RunsEach': WHATEVER THE INPUT: true; the input reads as it did. -/
def runsEachSpec : ChangeSpec := { name := "runsEach", fn := fun _ => fun
  | [d1, d2, d3] => { results := [.lit (.bool true)], args := [d1, d2, d3] }
  | _ => none }
def runsEachRow : OpenClaim := { program := "ytkliboeebookeaa", sum := "21924e1d7f1271fac0e06a55907b7e344336f07e7ed890497dd2deb896c75248", func := "reglet/regletlaw05.RunsEach", spec := "runsEach", unfollowed := true, recurses := true, apart := false }
def RunsEachSaid : Prop := runsEachRow.holds Try.pinned (OpenSpec.ofChange runsEachSpec)

/-- ITS FALSE NEIGHBOUR: 'it returns false'. Refute it at one input. -/
def runsEachWrong : ChangeSpec := { name := "runsEach", fn := fun _ => fun
  | [d1, d2, d3] => { results := [.lit (.bool false)], args := [d1, d2, d3] }
  | _ => none }
def RunsEachWrongFalsely : Prop := runsEachRow.holds Try.pinned (OpenSpec.ofChange runsEachWrong)

/-- 'regletlaw05.RunsSame': WHATEVER THE INPUT: true; the input reads as it did. -/
def runsSameSpec : ChangeSpec := { name := "runsSame", fn := fun _ => fun
  | [d1, d2] => { results := [.lit (.bool true)], args := [d1, d2] }
  | _ => none }
def runsSameRow : OpenClaim := { program := "ytkliboeebookeaa", sum := "21924e1d7f1271fac0e06a55907b7e344336f07e7ed890497dd2deb896c75248", func := "reglet/regletlaw05.RunsSame", spec := "runsSame", apart := false }
def RunsSameSaid : Prop := runsSameRow.holds Try.pinned (OpenSpec.ofChange runsSameSpec)

/-- ITS FALSE NEIGHBOUR: 'it returns false'. Refute it at one input. -/
def runsSameWrong : ChangeSpec := { name := "runsSame", fn := fun _ => fun
  | [d1, d2] => { results := [.lit (.bool false)], args := [d1, d2] }
  | _ => none }
def RunsSameWrongFalsely : Prop := runsSameRow.holds Try.pinned (OpenSpec.ofChange runsSameWrong)

/-- 'regletlaw05.RunsSplits': WHATEVER THE INPUT: true; the input reads as it did. -/
def runsSplitsSpec : ChangeSpec := { name := "runsSplits", fn := fun _ => fun
  | [d1, d2, d3] => { results := [.lit (.bool true)], args := [d1, d2, d3] }
  | _ => none }
def runsSplitsRow : OpenClaim := { program := "ytkliboeebookeaa", sum := "21924e1d7f1271fac0e06a55907b7e344336f07e7ed890497dd2deb896c75248", func := "reglet/regletlaw05.RunsSplits", spec := "runsSplits", apart := false }
def RunsSplitsSaid : Prop := runsSplitsRow.holds Try.pinned (OpenSpec.ofChange runsSplitsSpec)

/-- ITS FALSE NEIGHBOUR: 'it returns false'. Refute it at one input. -/
def runsSplitsWrong : ChangeSpec := { name := "runsSplits", fn := fun _ => fun
  | [d1, d2, d3] => { results := [.lit (.bool false)], args := [d1, d2, d3] }
  | _ => none }
def RunsSplitsWrongFalsely : Prop := runsSplitsRow.holds Try.pinned (OpenSpec.ofChange runsSplitsWrong)

/- THE SECOND FORM. 'bulk': how many values and letters a reading holds, each counted each time it is reached (what is shared counts as often as it is met; a slice's spare places count too). A statement '..UptoSaid' is the law's where the arguments, and the package variables that the reading takes, are together of bulk at most 1048576: NARROWER than '..Said'. Prove '..Said' where nothing that the law and all that it calls make is longer than what came in: it says more and counts as full. Else prove '..UptoSaid'. A law counts once. -/
mutual
def uptoBulk {H : Type} : DataW H → Nat
  | .lit (.string bytes) => bytes.length + 1
  | .lit _ => 1
  | .nil => 1
  | .ptr d => uptoBulk d + 1
  | .slice elems spare => uptoBulkAll elems + uptoBulkAll spare + 1
  | .agg parts => uptoBulkAll parts + 1
  | .iface _ d => uptoBulk d + 1
  | .map entries => uptoBulkEntries entries + 1
  | .held _ => 1
def uptoBulkAll {H : Type} : List (DataW H) → Nat
  | [] => 0
  | d :: r => uptoBulk d + uptoBulkAll r
def uptoBulkEntries {H : Type} : List (Lit × DataW H) → Nat
  | [] => 0
  | x :: r => uptoBulkEntry x + uptoBulkEntries r
def uptoBulkEntry {H : Type} : Lit × DataW H → Nat
  | (.string bytes, d) => bytes.length + uptoBulk d + 1
  | (_, d) => uptoBulk d + 1
 end
def uptoSmall : (H : Type) → List (DataW H) → Bool := fun _ ds => decide (uptoBulkAll ds ≤ 1048576)
def OpenSpec.upto (s : _root_.Go.ChangeSpec) : _root_.Go.OpenSpec := { _root_.Go.OpenSpec.ofChange s with cond := some uptoSmall }

/-- 'regletlaw05.RunsPlays', WHERE WHAT IT READS IS OF BULK AT MOST 1048576: true; the input reads as it did. -/
def runsPlaysUptoRow : OpenClaim := { program := "ytkliboeebookeaa", sum := "21924e1d7f1271fac0e06a55907b7e344336f07e7ed890497dd2deb896c75248", func := "reglet/regletlaw05.RunsPlays", spec := "runsPlays", apart := false, narrowed := true }
def RunsPlaysUptoSaid : Prop := runsPlaysUptoRow.holds Try.pinned (OpenSpec.upto runsPlaysSpec)

/-- 'regletlaw05.RunsSlices', WHERE WHAT IT READS IS OF BULK AT MOST 1048576: true; the input reads as it did. -/
def runsSlicesUptoRow : OpenClaim := { program := "ytkliboeebookeaa", sum := "21924e1d7f1271fac0e06a55907b7e344336f07e7ed890497dd2deb896c75248", func := "reglet/regletlaw05.RunsSlices", spec := "runsSlices", apart := false, narrowed := true }
def RunsSlicesUptoSaid : Prop := runsSlicesUptoRow.holds Try.pinned (OpenSpec.upto runsSlicesSpec)

/-- 'regletlaw05.RunsBegins', WHERE WHAT IT READS IS OF BULK AT MOST 1048576: true; the input reads as it did. -/
def runsBeginsUptoRow : OpenClaim := { program := "ytkliboeebookeaa", sum := "21924e1d7f1271fac0e06a55907b7e344336f07e7ed890497dd2deb896c75248", func := "reglet/regletlaw05.RunsBegins", spec := "runsBegins", apart := false, narrowed := true }
def RunsBeginsUptoSaid : Prop := runsBeginsUptoRow.holds Try.pinned (OpenSpec.upto runsBeginsSpec)

/-- 'regletlaw05.RunsTells', WHERE WHAT IT READS IS OF BULK AT MOST 1048576: true; the input reads as it did. -/
def runsTellsUptoRow : OpenClaim := { program := "ytkliboeebookeaa", sum := "21924e1d7f1271fac0e06a55907b7e344336f07e7ed890497dd2deb896c75248", func := "reglet/regletlaw05.RunsTells", spec := "runsTells", apart := false, narrowed := true }
def RunsTellsUptoSaid : Prop := runsTellsUptoRow.holds Try.pinned (OpenSpec.upto runsTellsSpec)

/-- 'regletlaw05.RunsBack', WHERE WHAT IT READS IS OF BULK AT MOST 1048576: true; the input reads as it did. -/
def runsBackUptoRow : OpenClaim := { program := "ytkliboeebookeaa", sum := "21924e1d7f1271fac0e06a55907b7e344336f07e7ed890497dd2deb896c75248", func := "reglet/regletlaw05.RunsBack", spec := "runsBack", apart := false, narrowed := true }
def RunsBackUptoSaid : Prop := runsBackUptoRow.holds Try.pinned (OpenSpec.upto runsBackSpec)

/-- 'regletlaw05.RunsEach', WHERE WHAT IT READS IS OF BULK AT MOST 1048576: true; the input reads as it did. -/
def runsEachUptoRow : OpenClaim := { program := "ytkliboeebookeaa", sum := "21924e1d7f1271fac0e06a55907b7e344336f07e7ed890497dd2deb896c75248", func := "reglet/regletlaw05.RunsEach", spec := "runsEach", unfollowed := true, recurses := true, apart := false, narrowed := true }
def RunsEachUptoSaid : Prop := runsEachUptoRow.holds Try.pinned (OpenSpec.upto runsEachSpec)

/-- 'regletlaw05.RunsSame', WHERE WHAT IT READS IS OF BULK AT MOST 1048576: true; the input reads as it did. -/
def runsSameUptoRow : OpenClaim := { program := "ytkliboeebookeaa", sum := "21924e1d7f1271fac0e06a55907b7e344336f07e7ed890497dd2deb896c75248", func := "reglet/regletlaw05.RunsSame", spec := "runsSame", apart := false, narrowed := true }
def RunsSameUptoSaid : Prop := runsSameUptoRow.holds Try.pinned (OpenSpec.upto runsSameSpec)

/-- 'regletlaw05.RunsSplits', WHERE WHAT IT READS IS OF BULK AT MOST 1048576: true; the input reads as it did. -/
def runsSplitsUptoRow : OpenClaim := { program := "ytkliboeebookeaa", sum := "21924e1d7f1271fac0e06a55907b7e344336f07e7ed890497dd2deb896c75248", func := "reglet/regletlaw05.RunsSplits", spec := "runsSplits", apart := false, narrowed := true }
def RunsSplitsUptoSaid : Prop := runsSplitsUptoRow.holds Try.pinned (OpenSpec.upto runsSplitsSpec)

end Rows
end Go.Proofs.Ytkliboeebookeaa
