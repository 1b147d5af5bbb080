/-
  No cell of these rows narrows 'for every input' (looked for: loops, veiled, ifaces, maps, wideKeys, modest, calm, conditions, laid).
  DERIVED. THE GIVEN ROWS OF THIS SEAT. 9 by the template 'for every input the law returns true; each argument reads behind the call as it read before'; 0 by the template 'total and deterministic' (their statements: YtbbnhameafolgaaTotals.lean).
  GIVEN WITH THE SEED: the statements are not yours to turn. If you find one false, say at which input.
  Laid BY PROGRAM, IN A SANDBOX (cutbox-rows.mjs): the forced cells as the released guide's own fill.sh prints them over the translation 8f0283ff619ac836… (all of the seat's roots in one cut). By AI agents, Wed Nov 11 2026. No macro, syntax, notation, axiom, sorry.
-/
import Derived.Test.YtbbnhameafolgaaChecked
import GoSem.Claim
import GoSem.ClaimJoined
import GoSem.ClaimMapViews
import Derived.JoinedTies
import Derived.KernelRfl
namespace Go.Proofs.Ytbbnhameafolgaa
/- THE CELL 'sum', in the pinned program and in every row, IS THE sha256 OF THE DUMP (.gsa) THAT YtbbnhameafolgaaProg.lean LOADS. Nothing in Lean hashes anything: it is a label: what it is worth is what the hold of that sum in a sandbox is worth. -/
noncomputable def Try.pinned : Pinned := { name := "ytbbnhameafolgaa", sum := "8f0283ff619ac8360e2bbac9e5151bcf8618c5f72148d91e264c1e9f359950cc", checked := Try.checked }
namespace Rows
def none {H : Type} : Left H := { results := [], args := [] }

/-- 'regletlaw02.RunesKinds': WHATEVER THE INPUT: true; the input reads as it did. -/
def runesKindsSpec : ChangeSpec := { name := "runesKinds", fn := fun _ => fun
  | [d] => { results := [.lit (.bool true)], args := [d] }
  | _ => none }
def runesKindsRow : OpenClaim := { program := "ytbbnhameafolgaa", sum := "8f0283ff619ac8360e2bbac9e5151bcf8618c5f72148d91e264c1e9f359950cc", func := "reglet/regletlaw02.RunesKinds", spec := "runesKinds", apart := false }
def RunesKindsSaid : Prop := runesKindsRow.holds Try.pinned (OpenSpec.ofChange runesKindsSpec)

/-- ITS FALSE NEIGHBOUR: 'it returns false'. Refute it at one input. -/
def runesKindsWrong : ChangeSpec := { name := "runesKinds", fn := fun _ => fun
  | [d] => { results := [.lit (.bool false)], args := [d] }
  | _ => none }
def RunesKindsWrongFalsely : Prop := runesKindsRow.holds Try.pinned (OpenSpec.ofChange runesKindsWrong)

/-- 'regletlaw02.RunesPlaces': WHATEVER THE INPUT: true; the input reads as it did. -/
def runesPlacesSpec : ChangeSpec := { name := "runesPlaces", fn := fun _ => fun
  | [d1, d2] => { results := [.lit (.bool true)], args := [d1, d2] }
  | _ => none }
def runesPlacesRow : OpenClaim := { program := "ytbbnhameafolgaa", sum := "8f0283ff619ac8360e2bbac9e5151bcf8618c5f72148d91e264c1e9f359950cc", func := "reglet/regletlaw02.RunesPlaces", spec := "runesPlaces", apart := false }
def RunesPlacesSaid : Prop := runesPlacesRow.holds Try.pinned (OpenSpec.ofChange runesPlacesSpec)

/-- ITS FALSE NEIGHBOUR: 'it returns false'. Refute it at one input. -/
def runesPlacesWrong : ChangeSpec := { name := "runesPlaces", fn := fun _ => fun
  | [d1, d2] => { results := [.lit (.bool false)], args := [d1, d2] }
  | _ => none }
def RunesPlacesWrongFalsely : Prop := runesPlacesRow.holds Try.pinned (OpenSpec.ofChange runesPlacesWrong)

/-- 'regletlaw02.RunesRight': WHATEVER THE INPUT: true; the input reads as it did. -/
def runesRightSpec : ChangeSpec := { name := "runesRight", fn := fun _ => fun
  | [d] => { results := [.lit (.bool true)], args := [d] }
  | _ => none }
def runesRightRow : OpenClaim := { program := "ytbbnhameafolgaa", sum := "8f0283ff619ac8360e2bbac9e5151bcf8618c5f72148d91e264c1e9f359950cc", func := "reglet/regletlaw02.RunesRight", spec := "runesRight", apart := false }
def RunesRightSaid : Prop := runesRightRow.holds Try.pinned (OpenSpec.ofChange runesRightSpec)

/-- ITS FALSE NEIGHBOUR: 'it returns false'. Refute it at one input. -/
def runesRightWrong : ChangeSpec := { name := "runesRight", fn := fun _ => fun
  | [d] => { results := [.lit (.bool false)], args := [d] }
  | _ => none }
def RunesRightWrongFalsely : Prop := runesRightRow.holds Try.pinned (OpenSpec.ofChange runesRightWrong)

/-- 'regletlaw02.RunesInside': WHATEVER THE INPUT: true; the input reads as it did. -/
def runesInsideSpec : ChangeSpec := { name := "runesInside", fn := fun _ => fun
  | [d] => { results := [.lit (.bool true)], args := [d] }
  | _ => none }
def runesInsideRow : OpenClaim := { program := "ytbbnhameafolgaa", sum := "8f0283ff619ac8360e2bbac9e5151bcf8618c5f72148d91e264c1e9f359950cc", func := "reglet/regletlaw02.RunesInside", spec := "runesInside", apart := false }
def RunesInsideSaid : Prop := runesInsideRow.holds Try.pinned (OpenSpec.ofChange runesInsideSpec)

/-- ITS FALSE NEIGHBOUR: 'it returns false'. Refute it at one input. -/
def runesInsideWrong : ChangeSpec := { name := "runesInside", fn := fun _ => fun
  | [d] => { results := [.lit (.bool false)], args := [d] }
  | _ => none }
def RunesInsideWrongFalsely : Prop := runesInsideRow.holds Try.pinned (OpenSpec.ofChange runesInsideWrong)

/-- 'regletlaw02.RunesCuts': WHATEVER THE INPUT: true; the input reads as it did. -/
def runesCutsSpec : ChangeSpec := { name := "runesCuts", fn := fun _ => fun
  | [d1, d2] => { results := [.lit (.bool true)], args := [d1, d2] }
  | _ => none }
def runesCutsRow : OpenClaim := { program := "ytbbnhameafolgaa", sum := "8f0283ff619ac8360e2bbac9e5151bcf8618c5f72148d91e264c1e9f359950cc", func := "reglet/regletlaw02.RunesCuts", spec := "runesCuts", apart := false }
def RunesCutsSaid : Prop := runesCutsRow.holds Try.pinned (OpenSpec.ofChange runesCutsSpec)

/-- ITS FALSE NEIGHBOUR: 'it returns false'. Refute it at one input. -/
def runesCutsWrong : ChangeSpec := { name := "runesCuts", fn := fun _ => fun
  | [d1, d2] => { results := [.lit (.bool false)], args := [d1, d2] }
  | _ => none }
def RunesCutsWrongFalsely : Prop := runesCutsRow.holds Try.pinned (OpenSpec.ofChange runesCutsWrong)

/-- 'regletlaw02.RunesJoins': WHATEVER THE INPUT: true; the input reads as it did. -/
def runesJoinsSpec : ChangeSpec := { name := "runesJoins", fn := fun _ => fun
  | [d1, d2, d3] => { results := [.lit (.bool true)], args := [d1, d2, d3] }
  | _ => none }
def runesJoinsRow : OpenClaim := { program := "ytbbnhameafolgaa", sum := "8f0283ff619ac8360e2bbac9e5151bcf8618c5f72148d91e264c1e9f359950cc", func := "reglet/regletlaw02.RunesJoins", spec := "runesJoins", apart := false }
def RunesJoinsSaid : Prop := runesJoinsRow.holds Try.pinned (OpenSpec.ofChange runesJoinsSpec)

/-- ITS FALSE NEIGHBOUR: 'it returns false'. Refute it at one input. -/
def runesJoinsWrong : ChangeSpec := { name := "runesJoins", fn := fun _ => fun
  | [d1, d2, d3] => { results := [.lit (.bool false)], args := [d1, d2, d3] }
  | _ => none }
def RunesJoinsWrongFalsely : Prop := runesJoinsRow.holds Try.pinned (OpenSpec.ofChange runesJoinsWrong)

/-- 'regletlaw02.RunesAt': WHATEVER THE INPUT: true; the input reads as it did. -/
def runesAtSpec : ChangeSpec := { name := "runesAt", fn := fun _ => fun
  | [d1, d2] => { results := [.lit (.bool true)], args := [d1, d2] }
  | _ => none }
def runesAtRow : OpenClaim := { program := "ytbbnhameafolgaa", sum := "8f0283ff619ac8360e2bbac9e5151bcf8618c5f72148d91e264c1e9f359950cc", func := "reglet/regletlaw02.RunesAt", spec := "runesAt", apart := false }
def RunesAtSaid : Prop := runesAtRow.holds Try.pinned (OpenSpec.ofChange runesAtSpec)

/-- ITS FALSE NEIGHBOUR: 'it returns false'. Refute it at one input. -/
def runesAtWrong : ChangeSpec := { name := "runesAt", fn := fun _ => fun
  | [d1, d2] => { results := [.lit (.bool false)], args := [d1, d2] }
  | _ => none }
def RunesAtWrongFalsely : Prop := runesAtRow.holds Try.pinned (OpenSpec.ofChange runesAtWrong)

/-- 'regletlaw02.RunesBack': WHATEVER THE INPUT: true; the input reads as it did. -/
def runesBackSpec : ChangeSpec := { name := "runesBack", fn := fun _ => fun
  | [d1, d2] => { results := [.lit (.bool true)], args := [d1, d2] }
  | _ => none }
def runesBackRow : OpenClaim := { program := "ytbbnhameafolgaa", sum := "8f0283ff619ac8360e2bbac9e5151bcf8618c5f72148d91e264c1e9f359950cc", func := "reglet/regletlaw02.RunesBack", spec := "runesBack", apart := false }
def RunesBackSaid : Prop := runesBackRow.holds Try.pinned (OpenSpec.ofChange runesBackSpec)

/-- ITS FALSE NEIGHBOUR: 'it returns false'. Refute it at one input. -/
def runesBackWrong : ChangeSpec := { name := "runesBack", fn := fun _ => fun
  | [d1, d2] => { results := [.lit (.bool false)], args := [d1, d2] }
  | _ => none }
def RunesBackWrongFalsely : Prop := runesBackRow.holds Try.pinned (OpenSpec.ofChange runesBackWrong)

/-- 'regletlaw02.RunesEnds': WHATEVER THE INPUT: true; the input reads as it did. -/
def runesEndsSpec : ChangeSpec := { name := "runesEnds", fn := fun _ => fun
  | [d] => { results := [.lit (.bool true)], args := [d] }
  | _ => none }
def runesEndsRow : OpenClaim := { program := "ytbbnhameafolgaa", sum := "8f0283ff619ac8360e2bbac9e5151bcf8618c5f72148d91e264c1e9f359950cc", func := "reglet/regletlaw02.RunesEnds", spec := "runesEnds", apart := false }
def RunesEndsSaid : Prop := runesEndsRow.holds Try.pinned (OpenSpec.ofChange runesEndsSpec)

/-- ITS FALSE NEIGHBOUR: 'it returns false'. Refute it at one input. -/
def runesEndsWrong : ChangeSpec := { name := "runesEnds", fn := fun _ => fun
  | [d] => { results := [.lit (.bool false)], args := [d] }
  | _ => none }
def RunesEndsWrongFalsely : Prop := runesEndsRow.holds Try.pinned (OpenSpec.ofChange runesEndsWrong)

/- THE SECOND FORM. 'bulk': how many values and letters a reading holds, each counted each time it is reached (what is shared counts as often as it is met; a slice's spare places count too). A statement '..UptoSaid' is the law's where the arguments, and the package variables that the reading takes, are together of bulk at most 1048576: NARROWER than '..Said'. Prove '..Said' where nothing that the law and all that it calls make is longer than what came in: it says more and counts as full. Else prove '..UptoSaid'. A law counts once. -/
mutual
def uptoBulk {H : Type} : DataW H → Nat
  | .lit (.string bytes) => bytes.length + 1
  | .lit _ => 1
  | .nil => 1
  | .ptr d => uptoBulk d + 1
  | .slice elems spare => uptoBulkAll elems + uptoBulkAll spare + 1
  | .agg parts => uptoBulkAll parts + 1
  | .iface _ d => uptoBulk d + 1
  | .map entries => uptoBulkEntries entries + 1
  | .held _ => 1
def uptoBulkAll {H : Type} : List (DataW H) → Nat
  | [] => 0
  | d :: r => uptoBulk d + uptoBulkAll r
def uptoBulkEntries {H : Type} : List (Lit × DataW H) → Nat
  | [] => 0
  | x :: r => uptoBulkEntry x + uptoBulkEntries r
def uptoBulkEntry {H : Type} : Lit × DataW H → Nat
  | (.string bytes, d) => bytes.length + uptoBulk d + 1
  | (_, d) => uptoBulk d + 1
 end
def uptoSmall : (H : Type) → List (DataW H) → Bool := fun _ ds => decide (uptoBulkAll ds ≤ 1048576)
def OpenSpec.upto (s : _root_.Go.ChangeSpec) : _root_.Go.OpenSpec := { _root_.Go.OpenSpec.ofChange s with cond := some uptoSmall }

/-- 'regletlaw02.RunesKinds', WHERE WHAT IT READS IS OF BULK AT MOST 1048576: true; the input reads as it did. -/
def runesKindsUptoRow : OpenClaim := { program := "ytbbnhameafolgaa", sum := "8f0283ff619ac8360e2bbac9e5151bcf8618c5f72148d91e264c1e9f359950cc", func := "reglet/regletlaw02.RunesKinds", spec := "runesKinds", apart := false, narrowed := true }
def RunesKindsUptoSaid : Prop := runesKindsUptoRow.holds Try.pinned (OpenSpec.upto runesKindsSpec)

/-- 'regletlaw02.RunesPlaces', WHERE WHAT IT READS IS OF BULK AT MOST 1048576: true; the input reads as it did. -/
def runesPlacesUptoRow : OpenClaim := { program := "ytbbnhameafolgaa", sum := "8f0283ff619ac8360e2bbac9e5151bcf8618c5f72148d91e264c1e9f359950cc", func := "reglet/regletlaw02.RunesPlaces", spec := "runesPlaces", apart := false, narrowed := true }
def RunesPlacesUptoSaid : Prop := runesPlacesUptoRow.holds Try.pinned (OpenSpec.upto runesPlacesSpec)

/-- 'regletlaw02.RunesRight', WHERE WHAT IT READS IS OF BULK AT MOST 1048576: true; the input reads as it did. -/
def runesRightUptoRow : OpenClaim := { program := "ytbbnhameafolgaa", sum := "8f0283ff619ac8360e2bbac9e5151bcf8618c5f72148d91e264c1e9f359950cc", func := "reglet/regletlaw02.RunesRight", spec := "runesRight", apart := false, narrowed := true }
def RunesRightUptoSaid : Prop := runesRightUptoRow.holds Try.pinned (OpenSpec.upto runesRightSpec)

/-- 'regletlaw02.RunesInside', WHERE WHAT IT READS IS OF BULK AT MOST 1048576: true; the input reads as it did. -/
def runesInsideUptoRow : OpenClaim := { program := "ytbbnhameafolgaa", sum := "8f0283ff619ac8360e2bbac9e5151bcf8618c5f72148d91e264c1e9f359950cc", func := "reglet/regletlaw02.RunesInside", spec := "runesInside", apart := false, narrowed := true }
def RunesInsideUptoSaid : Prop := runesInsideUptoRow.holds Try.pinned (OpenSpec.upto runesInsideSpec)

/-- 'regletlaw02.RunesCuts', WHERE WHAT IT READS IS OF BULK AT MOST 1048576: true; the input reads as it did. -/
def runesCutsUptoRow : OpenClaim := { program := "ytbbnhameafolgaa", sum := "8f0283ff619ac8360e2bbac9e5151bcf8618c5f72148d91e264c1e9f359950cc", func := "reglet/regletlaw02.RunesCuts", spec := "runesCuts", apart := false, narrowed := true }
def RunesCutsUptoSaid : Prop := runesCutsUptoRow.holds Try.pinned (OpenSpec.upto runesCutsSpec)

/-- 'regletlaw02.RunesJoins', WHERE WHAT IT READS IS OF BULK AT MOST 1048576: true; the input reads as it did. -/
def runesJoinsUptoRow : OpenClaim := { program := "ytbbnhameafolgaa", sum := "8f0283ff619ac8360e2bbac9e5151bcf8618c5f72148d91e264c1e9f359950cc", func := "reglet/regletlaw02.RunesJoins", spec := "runesJoins", apart := false, narrowed := true }
def RunesJoinsUptoSaid : Prop := runesJoinsUptoRow.holds Try.pinned (OpenSpec.upto runesJoinsSpec)

/-- 'regletlaw02.RunesAt', WHERE WHAT IT READS IS OF BULK AT MOST 1048576: true; the input reads as it did. -/
def runesAtUptoRow : OpenClaim := { program := "ytbbnhameafolgaa", sum := "8f0283ff619ac8360e2bbac9e5151bcf8618c5f72148d91e264c1e9f359950cc", func := "reglet/regletlaw02.RunesAt", spec := "runesAt", apart := false, narrowed := true }
def RunesAtUptoSaid : Prop := runesAtUptoRow.holds Try.pinned (OpenSpec.upto runesAtSpec)

/-- 'regletlaw02.RunesBack', WHERE WHAT IT READS IS OF BULK AT MOST 1048576: true; the input reads as it did. -/
def runesBackUptoRow : OpenClaim := { program := "ytbbnhameafolgaa", sum := "8f0283ff619ac8360e2bbac9e5151bcf8618c5f72148d91e264c1e9f359950cc", func := "reglet/regletlaw02.RunesBack", spec := "runesBack", apart := false, narrowed := true }
def RunesBackUptoSaid : Prop := runesBackUptoRow.holds Try.pinned (OpenSpec.upto runesBackSpec)

/-- 'regletlaw02.RunesEnds', WHERE WHAT IT READS IS OF BULK AT MOST 1048576: true; the input reads as it did. -/
def runesEndsUptoRow : OpenClaim := { program := "ytbbnhameafolgaa", sum := "8f0283ff619ac8360e2bbac9e5151bcf8618c5f72148d91e264c1e9f359950cc", func := "reglet/regletlaw02.RunesEnds", spec := "runesEnds", apart := false, narrowed := true }
def RunesEndsUptoSaid : Prop := runesEndsUptoRow.holds Try.pinned (OpenSpec.upto runesEndsSpec)

end Rows
end Go.Proofs.Ytbbnhameafolgaa
