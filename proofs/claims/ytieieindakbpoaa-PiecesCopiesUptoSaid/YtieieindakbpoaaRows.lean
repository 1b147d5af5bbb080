/-
  No cell of these rows narrows 'for every input' (looked for: loops, veiled, ifaces, maps, wideKeys, modest, calm, conditions, laid).
  DERIVED. THE GIVEN ROWS OF THIS SEAT. 9 by the template 'for every input the law returns true; each argument reads behind the call as it read before'; 0 by the template 'total and deterministic' (their statements: YtieieindakbpoaaTotals.lean).
  GIVEN WITH THE SEED: the statements are not yours to turn. If you find one false, say at which input.
  Laid BY PROGRAM, IN A SANDBOX (cutbox-rows.mjs): the forced cells as the released guide's own fill.sh prints them over the translation 69afde9c7e8817a5… (all of the seat's roots in one cut). By AI agents, Wed Nov 11 2026. No macro, syntax, notation, axiom, sorry.
-/
import Derived.Test.YtieieindakbpoaaChecked
import GoSem.Claim
import GoSem.ClaimJoined
import GoSem.ClaimMapViews
import Derived.JoinedTies
import Derived.KernelRfl
namespace Go.Proofs.Ytieieindakbpoaa
/- THE CELL 'sum', in the pinned program and in every row, IS THE sha256 OF THE DUMP (.gsa) THAT YtieieindakbpoaaProg.lean LOADS. Nothing in Lean hashes anything: it is a label: what it is worth is what the hold of that sum in a sandbox is worth. -/
noncomputable def Try.pinned : Pinned := { name := "ytieieindakbpoaa", sum := "69afde9c7e8817a5e4bb06a86343e838ffddf1dc76f50ef572b9d7d98968cd5f", checked := Try.checked }
namespace Rows
def none {H : Type} : Left H := { results := [], args := [] }

/-- 'regletlaw03.PiecesBegins': WHATEVER THE INPUT: true; the input reads as it did. -/
def piecesBeginsSpec : ChangeSpec := { name := "piecesBegins", fn := fun _ => fun
  | [d] => { results := [.lit (.bool true)], args := [d] }
  | _ => none }
def piecesBeginsRow : OpenClaim := { program := "ytieieindakbpoaa", sum := "69afde9c7e8817a5e4bb06a86343e838ffddf1dc76f50ef572b9d7d98968cd5f", func := "reglet/regletlaw03.PiecesBegins", spec := "piecesBegins", unfollowed := true, recurses := true, apart := false }
def PiecesBeginsSaid : Prop := piecesBeginsRow.holds Try.pinned (OpenSpec.ofChange piecesBeginsSpec)

/-- ITS FALSE NEIGHBOUR: 'it returns false'. Refute it at one input. -/
def piecesBeginsWrong : ChangeSpec := { name := "piecesBegins", fn := fun _ => fun
  | [d] => { results := [.lit (.bool false)], args := [d] }
  | _ => none }
def PiecesBeginsWrongFalsely : Prop := piecesBeginsRow.holds Try.pinned (OpenSpec.ofChange piecesBeginsWrong)

/-- 'regletlaw03.PiecesChunks': WHATEVER THE INPUT: true; the input reads as it did. -/
def piecesChunksSpec : ChangeSpec := { name := "piecesChunks", fn := fun _ => fun
  | [d1, d2, d3] => { results := [.lit (.bool true)], args := [d1, d2, d3] }
  | _ => none }
def piecesChunksRow : OpenClaim := { program := "ytieieindakbpoaa", sum := "69afde9c7e8817a5e4bb06a86343e838ffddf1dc76f50ef572b9d7d98968cd5f", func := "reglet/regletlaw03.PiecesChunks", spec := "piecesChunks", unfollowed := true, recurses := true, apart := false }
def PiecesChunksSaid : Prop := piecesChunksRow.holds Try.pinned (OpenSpec.ofChange piecesChunksSpec)

/-- ITS FALSE NEIGHBOUR: 'it returns false'. Refute it at one input. -/
def piecesChunksWrong : ChangeSpec := { name := "piecesChunks", fn := fun _ => fun
  | [d1, d2, d3] => { results := [.lit (.bool false)], args := [d1, d2, d3] }
  | _ => none }
def PiecesChunksWrongFalsely : Prop := piecesChunksRow.holds Try.pinned (OpenSpec.ofChange piecesChunksWrong)

/-- 'regletlaw03.PiecesPlays': WHATEVER THE INPUT: true; the input reads as it did. -/
def piecesPlaysSpec : ChangeSpec := { name := "piecesPlays", fn := fun _ => fun
  | [d1, d2] => { results := [.lit (.bool true)], args := [d1, d2] }
  | _ => none }
def piecesPlaysRow : OpenClaim := { program := "ytieieindakbpoaa", sum := "69afde9c7e8817a5e4bb06a86343e838ffddf1dc76f50ef572b9d7d98968cd5f", func := "reglet/regletlaw03.PiecesPlays", spec := "piecesPlays", unfollowed := true, recurses := true, apart := false }
def PiecesPlaysSaid : Prop := piecesPlaysRow.holds Try.pinned (OpenSpec.ofChange piecesPlaysSpec)

/-- ITS FALSE NEIGHBOUR: 'it returns false'. Refute it at one input. -/
def piecesPlaysWrong : ChangeSpec := { name := "piecesPlays", fn := fun _ => fun
  | [d1, d2] => { results := [.lit (.bool false)], args := [d1, d2] }
  | _ => none }
def PiecesPlaysWrongFalsely : Prop := piecesPlaysRow.holds Try.pinned (OpenSpec.ofChange piecesPlaysWrong)

/-- 'regletlaw03.PiecesShape': WHATEVER THE INPUT: true; the input reads as it did. -/
def piecesShapeSpec : ChangeSpec := { name := "piecesShape", fn := fun _ => fun
  | [d1, d2] => { results := [.lit (.bool true)], args := [d1, d2] }
  | _ => none }
def piecesShapeRow : OpenClaim := { program := "ytieieindakbpoaa", sum := "69afde9c7e8817a5e4bb06a86343e838ffddf1dc76f50ef572b9d7d98968cd5f", func := "reglet/regletlaw03.PiecesShape", spec := "piecesShape", unfollowed := true, recurses := true, apart := false }
def PiecesShapeSaid : Prop := piecesShapeRow.holds Try.pinned (OpenSpec.ofChange piecesShapeSpec)

/-- ITS FALSE NEIGHBOUR: 'it returns false'. Refute it at one input. -/
def piecesShapeWrong : ChangeSpec := { name := "piecesShape", fn := fun _ => fun
  | [d1, d2] => { results := [.lit (.bool false)], args := [d1, d2] }
  | _ => none }
def PiecesShapeWrongFalsely : Prop := piecesShapeRow.holds Try.pinned (OpenSpec.ofChange piecesShapeWrong)

/-- 'regletlaw03.PiecesSize': WHATEVER THE INPUT: true; the input reads as it did. -/
def piecesSizeSpec : ChangeSpec := { name := "piecesSize", fn := fun _ => fun
  | [d1, d2] => { results := [.lit (.bool true)], args := [d1, d2] }
  | _ => none }
def piecesSizeRow : OpenClaim := { program := "ytieieindakbpoaa", sum := "69afde9c7e8817a5e4bb06a86343e838ffddf1dc76f50ef572b9d7d98968cd5f", func := "reglet/regletlaw03.PiecesSize", spec := "piecesSize", unfollowed := true, recurses := true, apart := false }
def PiecesSizeSaid : Prop := piecesSizeRow.holds Try.pinned (OpenSpec.ofChange piecesSizeSpec)

/-- ITS FALSE NEIGHBOUR: 'it returns false'. Refute it at one input. -/
def piecesSizeWrong : ChangeSpec := { name := "piecesSize", fn := fun _ => fun
  | [d1, d2] => { results := [.lit (.bool false)], args := [d1, d2] }
  | _ => none }
def PiecesSizeWrongFalsely : Prop := piecesSizeRow.holds Try.pinned (OpenSpec.ofChange piecesSizeWrong)

/-- 'regletlaw03.PiecesCopies': WHATEVER THE INPUT: true; the input reads as it did. -/
def piecesCopiesSpec : ChangeSpec := { name := "piecesCopies", fn := fun _ => fun
  | [d1, d2, d3] => { results := [.lit (.bool true)], args := [d1, d2, d3] }
  | _ => none }
def piecesCopiesRow : OpenClaim := { program := "ytieieindakbpoaa", sum := "69afde9c7e8817a5e4bb06a86343e838ffddf1dc76f50ef572b9d7d98968cd5f", func := "reglet/regletlaw03.PiecesCopies", spec := "piecesCopies", unfollowed := true, recurses := true, apart := false }
def PiecesCopiesSaid : Prop := piecesCopiesRow.holds Try.pinned (OpenSpec.ofChange piecesCopiesSpec)

/-- ITS FALSE NEIGHBOUR: 'it returns false'. Refute it at one input. -/
def piecesCopiesWrong : ChangeSpec := { name := "piecesCopies", fn := fun _ => fun
  | [d1, d2, d3] => { results := [.lit (.bool false)], args := [d1, d2, d3] }
  | _ => none }
def PiecesCopiesWrongFalsely : Prop := piecesCopiesRow.holds Try.pinned (OpenSpec.ofChange piecesCopiesWrong)

/-- 'regletlaw03.PiecesBack': WHATEVER THE INPUT: true; the input reads as it did. -/
def piecesBackSpec : ChangeSpec := { name := "piecesBack", fn := fun _ => fun
  | [d1, d2, d3] => { results := [.lit (.bool true)], args := [d1, d2, d3] }
  | _ => none }
def piecesBackRow : OpenClaim := { program := "ytieieindakbpoaa", sum := "69afde9c7e8817a5e4bb06a86343e838ffddf1dc76f50ef572b9d7d98968cd5f", func := "reglet/regletlaw03.PiecesBack", spec := "piecesBack", unfollowed := true, recurses := true, apart := false }
def PiecesBackSaid : Prop := piecesBackRow.holds Try.pinned (OpenSpec.ofChange piecesBackSpec)

/-- ITS FALSE NEIGHBOUR: 'it returns false'. Refute it at one input. -/
def piecesBackWrong : ChangeSpec := { name := "piecesBack", fn := fun _ => fun
  | [d1, d2, d3] => { results := [.lit (.bool false)], args := [d1, d2, d3] }
  | _ => none }
def PiecesBackWrongFalsely : Prop := piecesBackRow.holds Try.pinned (OpenSpec.ofChange piecesBackWrong)

/-- 'regletlaw03.PiecesReads': WHATEVER THE INPUT: true; the input reads as it did. -/
def piecesReadsSpec : ChangeSpec := { name := "piecesReads", fn := fun _ => fun
  | [d1, d2, d3] => { results := [.lit (.bool true)], args := [d1, d2, d3] }
  | _ => none }
def piecesReadsRow : OpenClaim := { program := "ytieieindakbpoaa", sum := "69afde9c7e8817a5e4bb06a86343e838ffddf1dc76f50ef572b9d7d98968cd5f", func := "reglet/regletlaw03.PiecesReads", spec := "piecesReads", unfollowed := true, recurses := true, apart := false }
def PiecesReadsSaid : Prop := piecesReadsRow.holds Try.pinned (OpenSpec.ofChange piecesReadsSpec)

/-- ITS FALSE NEIGHBOUR: 'it returns false'. Refute it at one input. -/
def piecesReadsWrong : ChangeSpec := { name := "piecesReads", fn := fun _ => fun
  | [d1, d2, d3] => { results := [.lit (.bool false)], args := [d1, d2, d3] }
  | _ => none }
def PiecesReadsWrongFalsely : Prop := piecesReadsRow.holds Try.pinned (OpenSpec.ofChange piecesReadsWrong)

/-- 'regletlaw03.PiecesCounts': WHATEVER THE INPUT: true; the input reads as it did. -/
def piecesCountsSpec : ChangeSpec := { name := "piecesCounts", fn := fun _ => fun
  | [d1, d2, d3] => { results := [.lit (.bool true)], args := [d1, d2, d3] }
  | _ => none }
def piecesCountsRow : OpenClaim := { program := "ytieieindakbpoaa", sum := "69afde9c7e8817a5e4bb06a86343e838ffddf1dc76f50ef572b9d7d98968cd5f", func := "reglet/regletlaw03.PiecesCounts", spec := "piecesCounts", unfollowed := true, recurses := true, apart := false }
def PiecesCountsSaid : Prop := piecesCountsRow.holds Try.pinned (OpenSpec.ofChange piecesCountsSpec)

/-- ITS FALSE NEIGHBOUR: 'it returns false'. Refute it at one input. -/
def piecesCountsWrong : ChangeSpec := { name := "piecesCounts", fn := fun _ => fun
  | [d1, d2, d3] => { results := [.lit (.bool false)], args := [d1, d2, d3] }
  | _ => none }
def PiecesCountsWrongFalsely : Prop := piecesCountsRow.holds Try.pinned (OpenSpec.ofChange piecesCountsWrong)

/- THE SECOND FORM. 'bulk': how many values and letters a reading holds, each counted each time it is reached (what is shared counts as often as it is met; a slice's spare places count too). A statement '..UptoSaid' is the law's where the arguments, and the package variables that the reading takes, are together of bulk at most 1048576: NARROWER than '..Said'. Prove '..Said' where nothing that the law and all that it calls make is longer than what came in: it says more and counts as full. Else prove '..UptoSaid'. A law counts once. -/
mutual
def uptoBulk {H : Type} : DataW H → Nat
  | .lit (.string bytes) => bytes.length + 1
  | .lit _ => 1
  | .nil => 1
  | .ptr d => uptoBulk d + 1
  | .slice elems spare => uptoBulkAll elems + uptoBulkAll spare + 1
  | .agg parts => uptoBulkAll parts + 1
  | .iface _ d => uptoBulk d + 1
  | .map entries => uptoBulkEntries entries + 1
  | .held _ => 1
def uptoBulkAll {H : Type} : List (DataW H) → Nat
  | [] => 0
  | d :: r => uptoBulk d + uptoBulkAll r
def uptoBulkEntries {H : Type} : List (Lit × DataW H) → Nat
  | [] => 0
  | x :: r => uptoBulkEntry x + uptoBulkEntries r
def uptoBulkEntry {H : Type} : Lit × DataW H → Nat
  | (.string bytes, d) => bytes.length + uptoBulk d + 1
  | (_, d) => uptoBulk d + 1
 end
def uptoSmall : (H : Type) → List (DataW H) → Bool := fun _ ds => decide (uptoBulkAll ds ≤ 1048576)
def OpenSpec.upto (s : _root_.Go.ChangeSpec) : _root_.Go.OpenSpec := { _root_.Go.OpenSpec.ofChange s with cond := some uptoSmall }

/-- 'regletlaw03.PiecesBegins', WHERE WHAT IT READS IS OF BULK AT MOST 1048576: true; the input reads as it did. -/
def piecesBeginsUptoRow : OpenClaim := { program := "ytieieindakbpoaa", sum := "69afde9c7e8817a5e4bb06a86343e838ffddf1dc76f50ef572b9d7d98968cd5f", func := "reglet/regletlaw03.PiecesBegins", spec := "piecesBegins", unfollowed := true, recurses := true, apart := false, narrowed := true }
def PiecesBeginsUptoSaid : Prop := piecesBeginsUptoRow.holds Try.pinned (OpenSpec.upto piecesBeginsSpec)

/-- 'regletlaw03.PiecesChunks', WHERE WHAT IT READS IS OF BULK AT MOST 1048576: true; the input reads as it did. -/
def piecesChunksUptoRow : OpenClaim := { program := "ytieieindakbpoaa", sum := "69afde9c7e8817a5e4bb06a86343e838ffddf1dc76f50ef572b9d7d98968cd5f", func := "reglet/regletlaw03.PiecesChunks", spec := "piecesChunks", unfollowed := true, recurses := true, apart := false, narrowed := true }
def PiecesChunksUptoSaid : Prop := piecesChunksUptoRow.holds Try.pinned (OpenSpec.upto piecesChunksSpec)

/-- 'regletlaw03.PiecesPlays', WHERE WHAT IT READS IS OF BULK AT MOST 1048576: true; the input reads as it did. -/
def piecesPlaysUptoRow : OpenClaim := { program := "ytieieindakbpoaa", sum := "69afde9c7e8817a5e4bb06a86343e838ffddf1dc76f50ef572b9d7d98968cd5f", func := "reglet/regletlaw03.PiecesPlays", spec := "piecesPlays", unfollowed := true, recurses := true, apart := false, narrowed := true }
def PiecesPlaysUptoSaid : Prop := piecesPlaysUptoRow.holds Try.pinned (OpenSpec.upto piecesPlaysSpec)

/-- 'regletlaw03.PiecesShape', WHERE WHAT IT READS IS OF BULK AT MOST 1048576: true; the input reads as it did. -/
def piecesShapeUptoRow : OpenClaim := { program := "ytieieindakbpoaa", sum := "69afde9c7e8817a5e4bb06a86343e838ffddf1dc76f50ef572b9d7d98968cd5f", func := "reglet/regletlaw03.PiecesShape", spec := "piecesShape", unfollowed := true, recurses := true, apart := false, narrowed := true }
def PiecesShapeUptoSaid : Prop := piecesShapeUptoRow.holds Try.pinned (OpenSpec.upto piecesShapeSpec)

/-- 'regletlaw03.PiecesSize', WHERE WHAT IT READS IS OF BULK AT MOST 1048576: true; the input reads as it did. -/
def piecesSizeUptoRow : OpenClaim := { program := "ytieieindakbpoaa", sum := "69afde9c7e8817a5e4bb06a86343e838ffddf1dc76f50ef572b9d7d98968cd5f", func := "reglet/regletlaw03.PiecesSize", spec := "piecesSize", unfollowed := true, recurses := true, apart := false, narrowed := true }
def PiecesSizeUptoSaid : Prop := piecesSizeUptoRow.holds Try.pinned (OpenSpec.upto piecesSizeSpec)

/-- 'regletlaw03.PiecesCopies', WHERE WHAT IT READS IS OF BULK AT MOST 1048576: true; the input reads as it did. -/
def piecesCopiesUptoRow : OpenClaim := { program := "ytieieindakbpoaa", sum := "69afde9c7e8817a5e4bb06a86343e838ffddf1dc76f50ef572b9d7d98968cd5f", func := "reglet/regletlaw03.PiecesCopies", spec := "piecesCopies", unfollowed := true, recurses := true, apart := false, narrowed := true }
def PiecesCopiesUptoSaid : Prop := piecesCopiesUptoRow.holds Try.pinned (OpenSpec.upto piecesCopiesSpec)

/-- 'regletlaw03.PiecesBack', WHERE WHAT IT READS IS OF BULK AT MOST 1048576: true; the input reads as it did. -/
def piecesBackUptoRow : OpenClaim := { program := "ytieieindakbpoaa", sum := "69afde9c7e8817a5e4bb06a86343e838ffddf1dc76f50ef572b9d7d98968cd5f", func := "reglet/regletlaw03.PiecesBack", spec := "piecesBack", unfollowed := true, recurses := true, apart := false, narrowed := true }
def PiecesBackUptoSaid : Prop := piecesBackUptoRow.holds Try.pinned (OpenSpec.upto piecesBackSpec)

/-- 'regletlaw03.PiecesReads', WHERE WHAT IT READS IS OF BULK AT MOST 1048576: true; the input reads as it did. -/
def piecesReadsUptoRow : OpenClaim := { program := "ytieieindakbpoaa", sum := "69afde9c7e8817a5e4bb06a86343e838ffddf1dc76f50ef572b9d7d98968cd5f", func := "reglet/regletlaw03.PiecesReads", spec := "piecesReads", unfollowed := true, recurses := true, apart := false, narrowed := true }
def PiecesReadsUptoSaid : Prop := piecesReadsUptoRow.holds Try.pinned (OpenSpec.upto piecesReadsSpec)

/-- 'regletlaw03.PiecesCounts', WHERE WHAT IT READS IS OF BULK AT MOST 1048576: true; the input reads as it did. -/
def piecesCountsUptoRow : OpenClaim := { program := "ytieieindakbpoaa", sum := "69afde9c7e8817a5e4bb06a86343e838ffddf1dc76f50ef572b9d7d98968cd5f", func := "reglet/regletlaw03.PiecesCounts", spec := "piecesCounts", unfollowed := true, recurses := true, apart := false, narrowed := true }
def PiecesCountsUptoSaid : Prop := piecesCountsUptoRow.holds Try.pinned (OpenSpec.upto piecesCountsSpec)

end Rows
end Go.Proofs.Ytieieindakbpoaa
