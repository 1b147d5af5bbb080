/-
  No cell of these rows narrows 'for every input' (looked for: loops, veiled, ifaces, maps, wideKeys, modest, calm, conditions, laid).
  DERIVED. THE GIVEN ROWS OF THIS SEAT. 6 by the template 'for every input the law returns true; each argument reads behind the call as it read before'; 0 by the template 'total and deterministic' (their statements: YtbeihfcjfkddcaaTotals.lean).
  GIVEN WITH THE SEED: the statements are not yours to turn. If you find one false, say at which input.
  Laid BY PROGRAM, IN A SANDBOX (cutbox-rows.mjs): the forced cells as the released guide's own fill.sh prints them over the translation edaaf23fcc33d014… (all of the seat's roots in one cut). By AI agents, Wed Nov 11 2026. No macro, syntax, notation, axiom, sorry.
-/
import Derived.Test.YtbeihfcjfkddcaaChecked
import GoSem.Claim
import GoSem.ClaimJoined
import GoSem.ClaimMapViews
import Derived.JoinedTies
import Derived.KernelRfl
namespace Go.Proofs.Ytbeihfcjfkddcaa
/- THE CELL 'sum', in the pinned program and in every row, IS THE sha256 OF THE DUMP (.gsa) THAT YtbeihfcjfkddcaaProg.lean LOADS. Nothing in Lean hashes anything: it is a label: what it is worth is what the hold of that sum in a sandbox is worth. -/
noncomputable def Try.pinned : Pinned := { name := "ytbeihfcjfkddcaa", sum := "edaaf23fcc33d0141c58c91d051b8a6108a6449672fd29bed6c3da4c0189667a", checked := Try.checked }
namespace Rows
def none {H : Type} : Left H := { results := [], args := [] }

/-- 'regletlaw17.HyphenTakes': WHATEVER THE INPUT: true; the input reads as it did. -/
def hyphenTakesSpec : ChangeSpec := { name := "hyphenTakes", fn := fun _ => fun
  | [d] => { results := [.lit (.bool true)], args := [d] }
  | _ => none }
def hyphenTakesRow : OpenClaim := { program := "ytbeihfcjfkddcaa", sum := "edaaf23fcc33d0141c58c91d051b8a6108a6449672fd29bed6c3da4c0189667a", func := "reglet/regletlaw17.HyphenTakes", spec := "hyphenTakes", apart := false }
def HyphenTakesSaid : Prop := hyphenTakesRow.holds Try.pinned (OpenSpec.ofChange hyphenTakesSpec)

/-- ITS FALSE NEIGHBOUR: 'it returns false'. Refute it at one input. -/
def hyphenTakesWrong : ChangeSpec := { name := "hyphenTakes", fn := fun _ => fun
  | [d] => { results := [.lit (.bool false)], args := [d] }
  | _ => none }
def HyphenTakesWrongFalsely : Prop := hyphenTakesRow.holds Try.pinned (OpenSpec.ofChange hyphenTakesWrong)

/-- 'regletlaw17.HyphenPoints': WHATEVER THE INPUT: true; the input reads as it did. -/
def hyphenPointsSpec : ChangeSpec := { name := "hyphenPoints", fn := fun _ => fun
  | [d1, d2] => { results := [.lit (.bool true)], args := [d1, d2] }
  | _ => none }
def hyphenPointsRow : OpenClaim := { program := "ytbeihfcjfkddcaa", sum := "edaaf23fcc33d0141c58c91d051b8a6108a6449672fd29bed6c3da4c0189667a", func := "reglet/regletlaw17.HyphenPoints", spec := "hyphenPoints", apart := false }
def HyphenPointsSaid : Prop := hyphenPointsRow.holds Try.pinned (OpenSpec.ofChange hyphenPointsSpec)

/-- ITS FALSE NEIGHBOUR: 'it returns false'. Refute it at one input. -/
def hyphenPointsWrong : ChangeSpec := { name := "hyphenPoints", fn := fun _ => fun
  | [d1, d2] => { results := [.lit (.bool false)], args := [d1, d2] }
  | _ => none }
def HyphenPointsWrongFalsely : Prop := hyphenPointsRow.holds Try.pinned (OpenSpec.ofChange hyphenPointsWrong)

/-- 'regletlaw17.HyphenCase': WHATEVER THE INPUT: true; the input reads as it did. -/
def hyphenCaseSpec : ChangeSpec := { name := "hyphenCase", fn := fun _ => fun
  | [d1, d2] => { results := [.lit (.bool true)], args := [d1, d2] }
  | _ => none }
def hyphenCaseRow : OpenClaim := { program := "ytbeihfcjfkddcaa", sum := "edaaf23fcc33d0141c58c91d051b8a6108a6449672fd29bed6c3da4c0189667a", func := "reglet/regletlaw17.HyphenCase", spec := "hyphenCase", apart := false }
def HyphenCaseSaid : Prop := hyphenCaseRow.holds Try.pinned (OpenSpec.ofChange hyphenCaseSpec)

/-- ITS FALSE NEIGHBOUR: 'it returns false'. Refute it at one input. -/
def hyphenCaseWrong : ChangeSpec := { name := "hyphenCase", fn := fun _ => fun
  | [d1, d2] => { results := [.lit (.bool false)], args := [d1, d2] }
  | _ => none }
def HyphenCaseWrongFalsely : Prop := hyphenCaseRow.holds Try.pinned (OpenSpec.ofChange hyphenCaseWrong)

/-- 'regletlaw17.HyphenWords': WHATEVER THE INPUT: true; the input reads as it did. -/
def hyphenWordsSpec : ChangeSpec := { name := "hyphenWords", fn := fun _ => fun
  | [d] => { results := [.lit (.bool true)], args := [d] }
  | _ => none }
def hyphenWordsRow : OpenClaim := { program := "ytbeihfcjfkddcaa", sum := "edaaf23fcc33d0141c58c91d051b8a6108a6449672fd29bed6c3da4c0189667a", func := "reglet/regletlaw17.HyphenWords", spec := "hyphenWords", apart := false }
def HyphenWordsSaid : Prop := hyphenWordsRow.holds Try.pinned (OpenSpec.ofChange hyphenWordsSpec)

/-- ITS FALSE NEIGHBOUR: 'it returns false'. Refute it at one input. -/
def hyphenWordsWrong : ChangeSpec := { name := "hyphenWords", fn := fun _ => fun
  | [d] => { results := [.lit (.bool false)], args := [d] }
  | _ => none }
def HyphenWordsWrongFalsely : Prop := hyphenWordsRow.holds Try.pinned (OpenSpec.ofChange hyphenWordsWrong)

/-- 'regletlaw17.HyphenPlaces': WHATEVER THE INPUT: true; the input reads as it did. -/
def hyphenPlacesSpec : ChangeSpec := { name := "hyphenPlaces", fn := fun _ => fun
  | [d1, d2] => { results := [.lit (.bool true)], args := [d1, d2] }
  | _ => none }
def hyphenPlacesRow : OpenClaim := { program := "ytbeihfcjfkddcaa", sum := "edaaf23fcc33d0141c58c91d051b8a6108a6449672fd29bed6c3da4c0189667a", func := "reglet/regletlaw17.HyphenPlaces", spec := "hyphenPlaces", apart := false }
def HyphenPlacesSaid : Prop := hyphenPlacesRow.holds Try.pinned (OpenSpec.ofChange hyphenPlacesSpec)

/-- ITS FALSE NEIGHBOUR: 'it returns false'. Refute it at one input. -/
def hyphenPlacesWrong : ChangeSpec := { name := "hyphenPlaces", fn := fun _ => fun
  | [d1, d2] => { results := [.lit (.bool false)], args := [d1, d2] }
  | _ => none }
def HyphenPlacesWrongFalsely : Prop := hyphenPlacesRow.holds Try.pinned (OpenSpec.ofChange hyphenPlacesWrong)

/-- 'regletlaw17.HyphenBack': WHATEVER THE INPUT: true; the input reads as it did. -/
def hyphenBackSpec : ChangeSpec := { name := "hyphenBack", fn := fun _ => fun
  | [d1, d2] => { results := [.lit (.bool true)], args := [d1, d2] }
  | _ => none }
def hyphenBackRow : OpenClaim := { program := "ytbeihfcjfkddcaa", sum := "edaaf23fcc33d0141c58c91d051b8a6108a6449672fd29bed6c3da4c0189667a", func := "reglet/regletlaw17.HyphenBack", spec := "hyphenBack", apart := false }
def HyphenBackSaid : Prop := hyphenBackRow.holds Try.pinned (OpenSpec.ofChange hyphenBackSpec)

/-- ITS FALSE NEIGHBOUR: 'it returns false'. Refute it at one input. -/
def hyphenBackWrong : ChangeSpec := { name := "hyphenBack", fn := fun _ => fun
  | [d1, d2] => { results := [.lit (.bool false)], args := [d1, d2] }
  | _ => none }
def HyphenBackWrongFalsely : Prop := hyphenBackRow.holds Try.pinned (OpenSpec.ofChange hyphenBackWrong)

/- THE SECOND FORM. 'bulk': how many values and letters a reading holds, each counted each time it is reached (what is shared counts as often as it is met; a slice's spare places count too). A statement '..UptoSaid' is the law's where the arguments, and the package variables that the reading takes, are together of bulk at most 1048576: NARROWER than '..Said'. Prove '..Said' where nothing that the law and all that it calls make is longer than what came in: it says more and counts as full. Else prove '..UptoSaid'. A law counts once. -/
mutual
def uptoBulk {H : Type} : DataW H → Nat
  | .lit (.string bytes) => bytes.length + 1
  | .lit _ => 1
  | .nil => 1
  | .ptr d => uptoBulk d + 1
  | .slice elems spare => uptoBulkAll elems + uptoBulkAll spare + 1
  | .agg parts => uptoBulkAll parts + 1
  | .iface _ d => uptoBulk d + 1
  | .map entries => uptoBulkEntries entries + 1
  | .held _ => 1
def uptoBulkAll {H : Type} : List (DataW H) → Nat
  | [] => 0
  | d :: r => uptoBulk d + uptoBulkAll r
def uptoBulkEntries {H : Type} : List (Lit × DataW H) → Nat
  | [] => 0
  | x :: r => uptoBulkEntry x + uptoBulkEntries r
def uptoBulkEntry {H : Type} : Lit × DataW H → Nat
  | (.string bytes, d) => bytes.length + uptoBulk d + 1
  | (_, d) => uptoBulk d + 1
 end
def uptoSmall : (H : Type) → List (DataW H) → Bool := fun _ ds => decide (uptoBulkAll ds ≤ 1048576)
def OpenSpec.upto (s : _root_.Go.ChangeSpec) : _root_.Go.OpenSpec := { _root_.Go.OpenSpec.ofChange s with cond := some uptoSmall }

/-- 'regletlaw17.HyphenTakes', WHERE WHAT IT READS IS OF BULK AT MOST 1048576: true; the input reads as it did. -/
def hyphenTakesUptoRow : OpenClaim := { program := "ytbeihfcjfkddcaa", sum := "edaaf23fcc33d0141c58c91d051b8a6108a6449672fd29bed6c3da4c0189667a", func := "reglet/regletlaw17.HyphenTakes", spec := "hyphenTakes", apart := false, narrowed := true }
def HyphenTakesUptoSaid : Prop := hyphenTakesUptoRow.holds Try.pinned (OpenSpec.upto hyphenTakesSpec)

/-- 'regletlaw17.HyphenPoints', WHERE WHAT IT READS IS OF BULK AT MOST 1048576: true; the input reads as it did. -/
def hyphenPointsUptoRow : OpenClaim := { program := "ytbeihfcjfkddcaa", sum := "edaaf23fcc33d0141c58c91d051b8a6108a6449672fd29bed6c3da4c0189667a", func := "reglet/regletlaw17.HyphenPoints", spec := "hyphenPoints", apart := false, narrowed := true }
def HyphenPointsUptoSaid : Prop := hyphenPointsUptoRow.holds Try.pinned (OpenSpec.upto hyphenPointsSpec)

/-- 'regletlaw17.HyphenCase', WHERE WHAT IT READS IS OF BULK AT MOST 1048576: true; the input reads as it did. -/
def hyphenCaseUptoRow : OpenClaim := { program := "ytbeihfcjfkddcaa", sum := "edaaf23fcc33d0141c58c91d051b8a6108a6449672fd29bed6c3da4c0189667a", func := "reglet/regletlaw17.HyphenCase", spec := "hyphenCase", apart := false, narrowed := true }
def HyphenCaseUptoSaid : Prop := hyphenCaseUptoRow.holds Try.pinned (OpenSpec.upto hyphenCaseSpec)

/-- 'regletlaw17.HyphenWords', WHERE WHAT IT READS IS OF BULK AT MOST 1048576: true; the input reads as it did. -/
def hyphenWordsUptoRow : OpenClaim := { program := "ytbeihfcjfkddcaa", sum := "edaaf23fcc33d0141c58c91d051b8a6108a6449672fd29bed6c3da4c0189667a", func := "reglet/regletlaw17.HyphenWords", spec := "hyphenWords", apart := false, narrowed := true }
def HyphenWordsUptoSaid : Prop := hyphenWordsUptoRow.holds Try.pinned (OpenSpec.upto hyphenWordsSpec)

/-- 'regletlaw17.HyphenPlaces', WHERE WHAT IT READS IS OF BULK AT MOST 1048576: true; the input reads as it did. -/
def hyphenPlacesUptoRow : OpenClaim := { program := "ytbeihfcjfkddcaa", sum := "edaaf23fcc33d0141c58c91d051b8a6108a6449672fd29bed6c3da4c0189667a", func := "reglet/regletlaw17.HyphenPlaces", spec := "hyphenPlaces", apart := false, narrowed := true }
def HyphenPlacesUptoSaid : Prop := hyphenPlacesUptoRow.holds Try.pinned (OpenSpec.upto hyphenPlacesSpec)

/-- 'regletlaw17.HyphenBack', WHERE WHAT IT READS IS OF BULK AT MOST 1048576: true; the input reads as it did. -/
def hyphenBackUptoRow : OpenClaim := { program := "ytbeihfcjfkddcaa", sum := "edaaf23fcc33d0141c58c91d051b8a6108a6449672fd29bed6c3da4c0189667a", func := "reglet/regletlaw17.HyphenBack", spec := "hyphenBack", apart := false, narrowed := true }
def HyphenBackUptoSaid : Prop := hyphenBackUptoRow.holds Try.pinned (OpenSpec.upto hyphenBackSpec)

end Rows
end Go.Proofs.Ytbeihfcjfkddcaa
