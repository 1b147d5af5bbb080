/-
  No cell of these rows narrows 'for every input' (looked for: loops, veiled, ifaces, maps, wideKeys, modest, calm, conditions, laid).
  DERIVED. THE GIVEN ROWS OF THIS SEAT. 8 by the template 'for every input the law returns true; each argument reads behind the call as it read before'; 0 by the template 'total and deterministic' (their statements: YteancplgfjhagaaTotals.lean).
  GIVEN WITH THE SEED: the statements are not yours to turn. If you find one false, say at which input.
  Laid BY PROGRAM, IN A SANDBOX (cutbox-rows.mjs): the forced cells as the released guide's own fill.sh prints them over the translation 142c89f415d2b133… (all of the seat's roots in one cut). By AI agents, Wed Nov 11 2026. No macro, syntax, notation, axiom, sorry.
-/
import Derived.Test.YteancplgfjhagaaChecked
import GoSem.Claim
import GoSem.ClaimJoined
import GoSem.ClaimMapViews
import Derived.JoinedTies
import Derived.KernelRfl
namespace Go.Proofs.Yteancplgfjhagaa
/- THE CELL 'sum', in the pinned program and in every row, IS THE sha256 OF THE DUMP (.gsa) THAT YteancplgfjhagaaProg.lean LOADS. Nothing in Lean hashes anything: it is a label: what it is worth is what the hold of that sum in a sandbox is worth. -/
noncomputable def Try.pinned : Pinned := { name := "yteancplgfjhagaa", sum := "142c89f415d2b1334b818fb38e4c56d156c91479eed59787237cacc3a6bbe78b", checked := Try.checked }
namespace Rows
def none {H : Type} : Left H := { results := [], args := [] }

/-- 'regletlaw06.ParasSplits': WHATEVER THE INPUT: true; the input reads as it did. -/
def parasSplitsSpec : ChangeSpec := { name := "parasSplits", fn := fun _ => fun
  | [d] => { results := [.lit (.bool true)], args := [d] }
  | _ => none }
def parasSplitsRow : OpenClaim := { program := "yteancplgfjhagaa", sum := "142c89f415d2b1334b818fb38e4c56d156c91479eed59787237cacc3a6bbe78b", func := "reglet/regletlaw06.ParasSplits", spec := "parasSplits", apart := false }
def ParasSplitsSaid : Prop := parasSplitsRow.holds Try.pinned (OpenSpec.ofChange parasSplitsSpec)

/-- ITS FALSE NEIGHBOUR: 'it returns false'. Refute it at one input. -/
def parasSplitsWrong : ChangeSpec := { name := "parasSplits", fn := fun _ => fun
  | [d] => { results := [.lit (.bool false)], args := [d] }
  | _ => none }
def ParasSplitsWrongFalsely : Prop := parasSplitsRow.holds Try.pinned (OpenSpec.ofChange parasSplitsWrong)

/-- 'regletlaw06.ParasFinds': WHATEVER THE INPUT: true; the input reads as it did. -/
def parasFindsSpec : ChangeSpec := { name := "parasFinds", fn := fun _ => fun
  | [d1, d2] => { results := [.lit (.bool true)], args := [d1, d2] }
  | _ => none }
def parasFindsRow : OpenClaim := { program := "yteancplgfjhagaa", sum := "142c89f415d2b1334b818fb38e4c56d156c91479eed59787237cacc3a6bbe78b", func := "reglet/regletlaw06.ParasFinds", spec := "parasFinds", apart := false }
def ParasFindsSaid : Prop := parasFindsRow.holds Try.pinned (OpenSpec.ofChange parasFindsSpec)

/-- ITS FALSE NEIGHBOUR: 'it returns false'. Refute it at one input. -/
def parasFindsWrong : ChangeSpec := { name := "parasFinds", fn := fun _ => fun
  | [d1, d2] => { results := [.lit (.bool false)], args := [d1, d2] }
  | _ => none }
def ParasFindsWrongFalsely : Prop := parasFindsRow.holds Try.pinned (OpenSpec.ofChange parasFindsWrong)

/-- 'regletlaw06.ParasSpans': WHATEVER THE INPUT: true; the input reads as it did. -/
def parasSpansSpec : ChangeSpec := { name := "parasSpans", fn := fun _ => fun
  | [d1, d2] => { results := [.lit (.bool true)], args := [d1, d2] }
  | _ => none }
def parasSpansRow : OpenClaim := { program := "yteancplgfjhagaa", sum := "142c89f415d2b1334b818fb38e4c56d156c91479eed59787237cacc3a6bbe78b", func := "reglet/regletlaw06.ParasSpans", spec := "parasSpans", unfollowed := true, recurses := true, apart := false }
def ParasSpansSaid : Prop := parasSpansRow.holds Try.pinned (OpenSpec.ofChange parasSpansSpec)

/-- ITS FALSE NEIGHBOUR: 'it returns false'. Refute it at one input. -/
def parasSpansWrong : ChangeSpec := { name := "parasSpans", fn := fun _ => fun
  | [d1, d2] => { results := [.lit (.bool false)], args := [d1, d2] }
  | _ => none }
def ParasSpansWrongFalsely : Prop := parasSpansRow.holds Try.pinned (OpenSpec.ofChange parasSpansWrong)

/-- 'regletlaw06.ParasOver': WHATEVER THE INPUT: true; the input reads as it did. -/
def parasOverSpec : ChangeSpec := { name := "parasOver", fn := fun _ => fun
  | [d1, d2, d3] => { results := [.lit (.bool true)], args := [d1, d2, d3] }
  | _ => none }
def parasOverRow : OpenClaim := { program := "yteancplgfjhagaa", sum := "142c89f415d2b1334b818fb38e4c56d156c91479eed59787237cacc3a6bbe78b", func := "reglet/regletlaw06.ParasOver", spec := "parasOver", apart := false }
def ParasOverSaid : Prop := parasOverRow.holds Try.pinned (OpenSpec.ofChange parasOverSpec)

/-- ITS FALSE NEIGHBOUR: 'it returns false'. Refute it at one input. -/
def parasOverWrong : ChangeSpec := { name := "parasOver", fn := fun _ => fun
  | [d1, d2, d3] => { results := [.lit (.bool false)], args := [d1, d2, d3] }
  | _ => none }
def ParasOverWrongFalsely : Prop := parasOverRow.holds Try.pinned (OpenSpec.ofChange parasOverWrong)

/-- 'regletlaw06.ParasKeeps': WHATEVER THE INPUT: true; the input reads as it did. -/
def parasKeepsSpec : ChangeSpec := { name := "parasKeeps", fn := fun _ => fun
  | [d1, d2] => { results := [.lit (.bool true)], args := [d1, d2] }
  | _ => none }
def parasKeepsRow : OpenClaim := { program := "yteancplgfjhagaa", sum := "142c89f415d2b1334b818fb38e4c56d156c91479eed59787237cacc3a6bbe78b", func := "reglet/regletlaw06.ParasKeeps", spec := "parasKeeps", apart := false }
def ParasKeepsSaid : Prop := parasKeepsRow.holds Try.pinned (OpenSpec.ofChange parasKeepsSpec)

/-- ITS FALSE NEIGHBOUR: 'it returns false'. Refute it at one input. -/
def parasKeepsWrong : ChangeSpec := { name := "parasKeeps", fn := fun _ => fun
  | [d1, d2] => { results := [.lit (.bool false)], args := [d1, d2] }
  | _ => none }
def ParasKeepsWrongFalsely : Prop := parasKeepsRow.holds Try.pinned (OpenSpec.ofChange parasKeepsWrong)

/-- 'regletlaw06.ParasPlays': WHATEVER THE INPUT: true; the input reads as it did. -/
def parasPlaysSpec : ChangeSpec := { name := "parasPlays", fn := fun _ => fun
  | [d1, d2] => { results := [.lit (.bool true)], args := [d1, d2] }
  | _ => none }
def parasPlaysRow : OpenClaim := { program := "yteancplgfjhagaa", sum := "142c89f415d2b1334b818fb38e4c56d156c91479eed59787237cacc3a6bbe78b", func := "reglet/regletlaw06.ParasPlays", spec := "parasPlays", apart := false }
def ParasPlaysSaid : Prop := parasPlaysRow.holds Try.pinned (OpenSpec.ofChange parasPlaysSpec)

/-- ITS FALSE NEIGHBOUR: 'it returns false'. Refute it at one input. -/
def parasPlaysWrong : ChangeSpec := { name := "parasPlays", fn := fun _ => fun
  | [d1, d2] => { results := [.lit (.bool false)], args := [d1, d2] }
  | _ => none }
def ParasPlaysWrongFalsely : Prop := parasPlaysRow.holds Try.pinned (OpenSpec.ofChange parasPlaysWrong)

/-- 'regletlaw06.ParasBack': WHATEVER THE INPUT: true; the input reads as it did. -/
def parasBackSpec : ChangeSpec := { name := "parasBack", fn := fun _ => fun
  | [d1, d2] => { results := [.lit (.bool true)], args := [d1, d2] }
  | _ => none }
def parasBackRow : OpenClaim := { program := "yteancplgfjhagaa", sum := "142c89f415d2b1334b818fb38e4c56d156c91479eed59787237cacc3a6bbe78b", func := "reglet/regletlaw06.ParasBack", spec := "parasBack", apart := false }
def ParasBackSaid : Prop := parasBackRow.holds Try.pinned (OpenSpec.ofChange parasBackSpec)

/-- ITS FALSE NEIGHBOUR: 'it returns false'. Refute it at one input. -/
def parasBackWrong : ChangeSpec := { name := "parasBack", fn := fun _ => fun
  | [d1, d2] => { results := [.lit (.bool false)], args := [d1, d2] }
  | _ => none }
def ParasBackWrongFalsely : Prop := parasBackRow.holds Try.pinned (OpenSpec.ofChange parasBackWrong)

/-- 'regletlaw06.ParasCopies': WHATEVER THE INPUT: true; the input reads as it did. -/
def parasCopiesSpec : ChangeSpec := { name := "parasCopies", fn := fun _ => fun
  | [d1, d2, d3] => { results := [.lit (.bool true)], args := [d1, d2, d3] }
  | _ => none }
def parasCopiesRow : OpenClaim := { program := "yteancplgfjhagaa", sum := "142c89f415d2b1334b818fb38e4c56d156c91479eed59787237cacc3a6bbe78b", func := "reglet/regletlaw06.ParasCopies", spec := "parasCopies", apart := false }
def ParasCopiesSaid : Prop := parasCopiesRow.holds Try.pinned (OpenSpec.ofChange parasCopiesSpec)

/-- ITS FALSE NEIGHBOUR: 'it returns false'. Refute it at one input. -/
def parasCopiesWrong : ChangeSpec := { name := "parasCopies", fn := fun _ => fun
  | [d1, d2, d3] => { results := [.lit (.bool false)], args := [d1, d2, d3] }
  | _ => none }
def ParasCopiesWrongFalsely : Prop := parasCopiesRow.holds Try.pinned (OpenSpec.ofChange parasCopiesWrong)

/- THE SECOND FORM. 'bulk': how many values and letters a reading holds, each counted each time it is reached (what is shared counts as often as it is met; a slice's spare places count too). A statement '..UptoSaid' is the law's where the arguments, and the package variables that the reading takes, are together of bulk at most 1048576: NARROWER than '..Said'. Prove '..Said' where nothing that the law and all that it calls make is longer than what came in: it says more and counts as full. Else prove '..UptoSaid'. A law counts once. -/
mutual
def uptoBulk {H : Type} : DataW H → Nat
  | .lit (.string bytes) => bytes.length + 1
  | .lit _ => 1
  | .nil => 1
  | .ptr d => uptoBulk d + 1
  | .slice elems spare => uptoBulkAll elems + uptoBulkAll spare + 1
  | .agg parts => uptoBulkAll parts + 1
  | .iface _ d => uptoBulk d + 1
  | .map entries => uptoBulkEntries entries + 1
  | .held _ => 1
def uptoBulkAll {H : Type} : List (DataW H) → Nat
  | [] => 0
  | d :: r => uptoBulk d + uptoBulkAll r
def uptoBulkEntries {H : Type} : List (Lit × DataW H) → Nat
  | [] => 0
  | x :: r => uptoBulkEntry x + uptoBulkEntries r
def uptoBulkEntry {H : Type} : Lit × DataW H → Nat
  | (.string bytes, d) => bytes.length + uptoBulk d + 1
  | (_, d) => uptoBulk d + 1
 end
def uptoSmall : (H : Type) → List (DataW H) → Bool := fun _ ds => decide (uptoBulkAll ds ≤ 1048576)
def OpenSpec.upto (s : _root_.Go.ChangeSpec) : _root_.Go.OpenSpec := { _root_.Go.OpenSpec.ofChange s with cond := some uptoSmall }

/-- 'regletlaw06.ParasSplits', WHERE WHAT IT READS IS OF BULK AT MOST 1048576: true; the input reads as it did. -/
def parasSplitsUptoRow : OpenClaim := { program := "yteancplgfjhagaa", sum := "142c89f415d2b1334b818fb38e4c56d156c91479eed59787237cacc3a6bbe78b", func := "reglet/regletlaw06.ParasSplits", spec := "parasSplits", apart := false, narrowed := true }
def ParasSplitsUptoSaid : Prop := parasSplitsUptoRow.holds Try.pinned (OpenSpec.upto parasSplitsSpec)

/-- 'regletlaw06.ParasFinds', WHERE WHAT IT READS IS OF BULK AT MOST 1048576: true; the input reads as it did. -/
def parasFindsUptoRow : OpenClaim := { program := "yteancplgfjhagaa", sum := "142c89f415d2b1334b818fb38e4c56d156c91479eed59787237cacc3a6bbe78b", func := "reglet/regletlaw06.ParasFinds", spec := "parasFinds", apart := false, narrowed := true }
def ParasFindsUptoSaid : Prop := parasFindsUptoRow.holds Try.pinned (OpenSpec.upto parasFindsSpec)

/-- 'regletlaw06.ParasSpans', WHERE WHAT IT READS IS OF BULK AT MOST 1048576: true; the input reads as it did. -/
def parasSpansUptoRow : OpenClaim := { program := "yteancplgfjhagaa", sum := "142c89f415d2b1334b818fb38e4c56d156c91479eed59787237cacc3a6bbe78b", func := "reglet/regletlaw06.ParasSpans", spec := "parasSpans", unfollowed := true, recurses := true, apart := false, narrowed := true }
def ParasSpansUptoSaid : Prop := parasSpansUptoRow.holds Try.pinned (OpenSpec.upto parasSpansSpec)

/-- 'regletlaw06.ParasOver', WHERE WHAT IT READS IS OF BULK AT MOST 1048576: true; the input reads as it did. -/
def parasOverUptoRow : OpenClaim := { program := "yteancplgfjhagaa", sum := "142c89f415d2b1334b818fb38e4c56d156c91479eed59787237cacc3a6bbe78b", func := "reglet/regletlaw06.ParasOver", spec := "parasOver", apart := false, narrowed := true }
def ParasOverUptoSaid : Prop := parasOverUptoRow.holds Try.pinned (OpenSpec.upto parasOverSpec)

/-- 'regletlaw06.ParasKeeps', WHERE WHAT IT READS IS OF BULK AT MOST 1048576: true; the input reads as it did. -/
def parasKeepsUptoRow : OpenClaim := { program := "yteancplgfjhagaa", sum := "142c89f415d2b1334b818fb38e4c56d156c91479eed59787237cacc3a6bbe78b", func := "reglet/regletlaw06.ParasKeeps", spec := "parasKeeps", apart := false, narrowed := true }
def ParasKeepsUptoSaid : Prop := parasKeepsUptoRow.holds Try.pinned (OpenSpec.upto parasKeepsSpec)

/-- 'regletlaw06.ParasPlays', WHERE WHAT IT READS IS OF BULK AT MOST 1048576: true; the input reads as it did. -/
def parasPlaysUptoRow : OpenClaim := { program := "yteancplgfjhagaa", sum := "142c89f415d2b1334b818fb38e4c56d156c91479eed59787237cacc3a6bbe78b", func := "reglet/regletlaw06.ParasPlays", spec := "parasPlays", apart := false, narrowed := true }
def ParasPlaysUptoSaid : Prop := parasPlaysUptoRow.holds Try.pinned (OpenSpec.upto parasPlaysSpec)

/-- 'regletlaw06.ParasBack', WHERE WHAT IT READS IS OF BULK AT MOST 1048576: true; the input reads as it did. -/
def parasBackUptoRow : OpenClaim := { program := "yteancplgfjhagaa", sum := "142c89f415d2b1334b818fb38e4c56d156c91479eed59787237cacc3a6bbe78b", func := "reglet/regletlaw06.ParasBack", spec := "parasBack", apart := false, narrowed := true }
def ParasBackUptoSaid : Prop := parasBackUptoRow.holds Try.pinned (OpenSpec.upto parasBackSpec)

/-- 'regletlaw06.ParasCopies', WHERE WHAT IT READS IS OF BULK AT MOST 1048576: true; the input reads as it did. -/
def parasCopiesUptoRow : OpenClaim := { program := "yteancplgfjhagaa", sum := "142c89f415d2b1334b818fb38e4c56d156c91479eed59787237cacc3a6bbe78b", func := "reglet/regletlaw06.ParasCopies", spec := "parasCopies", apart := false, narrowed := true }
def ParasCopiesUptoSaid : Prop := parasCopiesUptoRow.holds Try.pinned (OpenSpec.upto parasCopiesSpec)

end Rows
end Go.Proofs.Yteancplgfjhagaa
