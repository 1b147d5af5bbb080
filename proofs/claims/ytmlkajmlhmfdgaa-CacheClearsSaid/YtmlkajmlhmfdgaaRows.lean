/-
  No cell of these rows narrows 'for every input' (looked for: loops, veiled, ifaces, maps, wideKeys, modest, calm, conditions, laid).
  DERIVED. THE GIVEN ROWS OF THIS SEAT. 6 by the template 'for every input the law returns true; each argument reads behind the call as it read before'; 0 by the template 'total and deterministic' (their statements: YtmlkajmlhmfdgaaTotals.lean).
  GIVEN WITH THE SEED: the statements are not yours to turn. If you find one false, say at which input.
  Laid BY PROGRAM, IN A SANDBOX (cutbox-rows.mjs): the forced cells as the released guide's own fill.sh prints them over the translation 5b8cc36e31d680f0… (all of the seat's roots in one cut). By AI agents, Wed Nov 11 2026. No macro, syntax, notation, axiom, sorry.
-/
import Derived.Test.YtmlkajmlhmfdgaaChecked
import GoSem.Claim
import GoSem.ClaimJoined
import GoSem.ClaimMapViews
import Derived.JoinedTies
import Derived.KernelRfl
namespace Go.Proofs.Ytmlkajmlhmfdgaa
/- THE CELL 'sum', in the pinned program and in every row, IS THE sha256 OF THE DUMP (.gsa) THAT YtmlkajmlhmfdgaaProg.lean LOADS. Nothing in Lean hashes anything: it is a label: what it is worth is what the hold of that sum in a sandbox is worth. -/
noncomputable def Try.pinned : Pinned := { name := "ytmlkajmlhmfdgaa", sum := "5b8cc36e31d680f00d1fdf937fc03230eedc9c72ef3fa5382a1eab32760302a9", checked := Try.checked }
namespace Rows
def none {H : Type} : Left H := { results := [], args := [] }

/-- 'regletlaw11.CacheRooms': WHATEVER THE INPUT: true; the input reads as it did. -/
def cacheRoomsSpec : ChangeSpec := { name := "cacheRooms", fn := fun _ => fun
  | [d] => { results := [.lit (.bool true)], args := [d] }
  | _ => none }
def cacheRoomsRow : OpenClaim := { program := "ytmlkajmlhmfdgaa", sum := "5b8cc36e31d680f00d1fdf937fc03230eedc9c72ef3fa5382a1eab32760302a9", func := "reglet/regletlaw11.CacheRooms", spec := "cacheRooms", apart := false }
def CacheRoomsSaid : Prop := cacheRoomsRow.holds Try.pinned (OpenSpec.ofChange cacheRoomsSpec)

/-- ITS FALSE NEIGHBOUR: 'it returns false'. Refute it at one input. -/
def cacheRoomsWrong : ChangeSpec := { name := "cacheRooms", fn := fun _ => fun
  | [d] => { results := [.lit (.bool false)], args := [d] }
  | _ => none }
def CacheRoomsWrongFalsely : Prop := cacheRoomsRow.holds Try.pinned (OpenSpec.ofChange cacheRoomsWrong)

/-- 'regletlaw11.CacheKeys': WHATEVER THE INPUT: true; the input reads as it did. -/
def cacheKeysSpec : ChangeSpec := { name := "cacheKeys", fn := fun _ => fun
  | [d1, d2] => { results := [.lit (.bool true)], args := [d1, d2] }
  | _ => none }
def cacheKeysRow : OpenClaim := { program := "ytmlkajmlhmfdgaa", sum := "5b8cc36e31d680f00d1fdf937fc03230eedc9c72ef3fa5382a1eab32760302a9", func := "reglet/regletlaw11.CacheKeys", spec := "cacheKeys", apart := false }
def CacheKeysSaid : Prop := cacheKeysRow.holds Try.pinned (OpenSpec.ofChange cacheKeysSpec)

/-- ITS FALSE NEIGHBOUR: 'it returns false'. Refute it at one input. -/
def cacheKeysWrong : ChangeSpec := { name := "cacheKeys", fn := fun _ => fun
  | [d1, d2] => { results := [.lit (.bool false)], args := [d1, d2] }
  | _ => none }
def CacheKeysWrongFalsely : Prop := cacheKeysRow.holds Try.pinned (OpenSpec.ofChange cacheKeysWrong)

/-- 'regletlaw11.CacheKeeps': WHATEVER THE INPUT: true; the input reads as it did. -/
def cacheKeepsSpec : ChangeSpec := { name := "cacheKeeps", fn := fun _ => fun
  | [d1, d2, d3] => { results := [.lit (.bool true)], args := [d1, d2, d3] }
  | _ => none }
def cacheKeepsRow : OpenClaim := { program := "ytmlkajmlhmfdgaa", sum := "5b8cc36e31d680f00d1fdf937fc03230eedc9c72ef3fa5382a1eab32760302a9", func := "reglet/regletlaw11.CacheKeeps", spec := "cacheKeeps", apart := false }
def CacheKeepsSaid : Prop := cacheKeepsRow.holds Try.pinned (OpenSpec.ofChange cacheKeepsSpec)

/-- ITS FALSE NEIGHBOUR: 'it returns false'. Refute it at one input. -/
def cacheKeepsWrong : ChangeSpec := { name := "cacheKeeps", fn := fun _ => fun
  | [d1, d2, d3] => { results := [.lit (.bool false)], args := [d1, d2, d3] }
  | _ => none }
def CacheKeepsWrongFalsely : Prop := cacheKeepsRow.holds Try.pinned (OpenSpec.ofChange cacheKeepsWrong)

/-- 'regletlaw11.CacheGoes': WHATEVER THE INPUT: true; the input reads as it did. -/
def cacheGoesSpec : ChangeSpec := { name := "cacheGoes", fn := fun _ => fun
  | [d1, d2] => { results := [.lit (.bool true)], args := [d1, d2] }
  | _ => none }
def cacheGoesRow : OpenClaim := { program := "ytmlkajmlhmfdgaa", sum := "5b8cc36e31d680f00d1fdf937fc03230eedc9c72ef3fa5382a1eab32760302a9", func := "reglet/regletlaw11.CacheGoes", spec := "cacheGoes", apart := false }
def CacheGoesSaid : Prop := cacheGoesRow.holds Try.pinned (OpenSpec.ofChange cacheGoesSpec)

/-- ITS FALSE NEIGHBOUR: 'it returns false'. Refute it at one input. -/
def cacheGoesWrong : ChangeSpec := { name := "cacheGoes", fn := fun _ => fun
  | [d1, d2] => { results := [.lit (.bool false)], args := [d1, d2] }
  | _ => none }
def CacheGoesWrongFalsely : Prop := cacheGoesRow.holds Try.pinned (OpenSpec.ofChange cacheGoesWrong)

/-- 'regletlaw11.CachePlays': WHATEVER THE INPUT: true; the input reads as it did. -/
def cachePlaysSpec : ChangeSpec := { name := "cachePlays", fn := fun _ => fun
  | [d1, d2] => { results := [.lit (.bool true)], args := [d1, d2] }
  | _ => none }
def cachePlaysRow : OpenClaim := { program := "ytmlkajmlhmfdgaa", sum := "5b8cc36e31d680f00d1fdf937fc03230eedc9c72ef3fa5382a1eab32760302a9", func := "reglet/regletlaw11.CachePlays", spec := "cachePlays", apart := false }
def CachePlaysSaid : Prop := cachePlaysRow.holds Try.pinned (OpenSpec.ofChange cachePlaysSpec)

/-- ITS FALSE NEIGHBOUR: 'it returns false'. Refute it at one input. -/
def cachePlaysWrong : ChangeSpec := { name := "cachePlays", fn := fun _ => fun
  | [d1, d2] => { results := [.lit (.bool false)], args := [d1, d2] }
  | _ => none }
def CachePlaysWrongFalsely : Prop := cachePlaysRow.holds Try.pinned (OpenSpec.ofChange cachePlaysWrong)

/-- 'regletlaw11.CacheClears': WHATEVER THE INPUT: true; the input reads as it did. -/
def cacheClearsSpec : ChangeSpec := { name := "cacheClears", fn := fun _ => fun
  | [d1, d2, d3] => { results := [.lit (.bool true)], args := [d1, d2, d3] }
  | _ => none }
def cacheClearsRow : OpenClaim := { program := "ytmlkajmlhmfdgaa", sum := "5b8cc36e31d680f00d1fdf937fc03230eedc9c72ef3fa5382a1eab32760302a9", func := "reglet/regletlaw11.CacheClears", spec := "cacheClears", apart := false }
def CacheClearsSaid : Prop := cacheClearsRow.holds Try.pinned (OpenSpec.ofChange cacheClearsSpec)

/-- ITS FALSE NEIGHBOUR: 'it returns false'. Refute it at one input. -/
def cacheClearsWrong : ChangeSpec := { name := "cacheClears", fn := fun _ => fun
  | [d1, d2, d3] => { results := [.lit (.bool false)], args := [d1, d2, d3] }
  | _ => none }
def CacheClearsWrongFalsely : Prop := cacheClearsRow.holds Try.pinned (OpenSpec.ofChange cacheClearsWrong)

/- THE SECOND FORM. 'bulk': how many values and letters a reading holds, each counted each time it is reached (what is shared counts as often as it is met; a slice's spare places count too). A statement '..UptoSaid' is the law's where the arguments, and the package variables that the reading takes, are together of bulk at most 1048576: NARROWER than '..Said'. Prove '..Said' where nothing that the law and all that it calls make is longer than what came in: it says more and counts as full. Else prove '..UptoSaid'. A law counts once. -/
mutual
def uptoBulk {H : Type} : DataW H → Nat
  | .lit (.string bytes) => bytes.length + 1
  | .lit _ => 1
  | .nil => 1
  | .ptr d => uptoBulk d + 1
  | .slice elems spare => uptoBulkAll elems + uptoBulkAll spare + 1
  | .agg parts => uptoBulkAll parts + 1
  | .iface _ d => uptoBulk d + 1
  | .map entries => uptoBulkEntries entries + 1
  | .held _ => 1
def uptoBulkAll {H : Type} : List (DataW H) → Nat
  | [] => 0
  | d :: r => uptoBulk d + uptoBulkAll r
def uptoBulkEntries {H : Type} : List (Lit × DataW H) → Nat
  | [] => 0
  | x :: r => uptoBulkEntry x + uptoBulkEntries r
def uptoBulkEntry {H : Type} : Lit × DataW H → Nat
  | (.string bytes, d) => bytes.length + uptoBulk d + 1
  | (_, d) => uptoBulk d + 1
 end
def uptoSmall : (H : Type) → List (DataW H) → Bool := fun _ ds => decide (uptoBulkAll ds ≤ 1048576)
def OpenSpec.upto (s : _root_.Go.ChangeSpec) : _root_.Go.OpenSpec := { _root_.Go.OpenSpec.ofChange s with cond := some uptoSmall }

/-- 'regletlaw11.CacheRooms', WHERE WHAT IT READS IS OF BULK AT MOST 1048576: true; the input reads as it did. -/
def cacheRoomsUptoRow : OpenClaim := { program := "ytmlkajmlhmfdgaa", sum := "5b8cc36e31d680f00d1fdf937fc03230eedc9c72ef3fa5382a1eab32760302a9", func := "reglet/regletlaw11.CacheRooms", spec := "cacheRooms", apart := false, narrowed := true }
def CacheRoomsUptoSaid : Prop := cacheRoomsUptoRow.holds Try.pinned (OpenSpec.upto cacheRoomsSpec)

/-- 'regletlaw11.CacheKeys', WHERE WHAT IT READS IS OF BULK AT MOST 1048576: true; the input reads as it did. -/
def cacheKeysUptoRow : OpenClaim := { program := "ytmlkajmlhmfdgaa", sum := "5b8cc36e31d680f00d1fdf937fc03230eedc9c72ef3fa5382a1eab32760302a9", func := "reglet/regletlaw11.CacheKeys", spec := "cacheKeys", apart := false, narrowed := true }
def CacheKeysUptoSaid : Prop := cacheKeysUptoRow.holds Try.pinned (OpenSpec.upto cacheKeysSpec)

/-- 'regletlaw11.CacheKeeps', WHERE WHAT IT READS IS OF BULK AT MOST 1048576: true; the input reads as it did. -/
def cacheKeepsUptoRow : OpenClaim := { program := "ytmlkajmlhmfdgaa", sum := "5b8cc36e31d680f00d1fdf937fc03230eedc9c72ef3fa5382a1eab32760302a9", func := "reglet/regletlaw11.CacheKeeps", spec := "cacheKeeps", apart := false, narrowed := true }
def CacheKeepsUptoSaid : Prop := cacheKeepsUptoRow.holds Try.pinned (OpenSpec.upto cacheKeepsSpec)

/-- 'regletlaw11.CacheGoes', WHERE WHAT IT READS IS OF BULK AT MOST 1048576: true; the input reads as it did. -/
def cacheGoesUptoRow : OpenClaim := { program := "ytmlkajmlhmfdgaa", sum := "5b8cc36e31d680f00d1fdf937fc03230eedc9c72ef3fa5382a1eab32760302a9", func := "reglet/regletlaw11.CacheGoes", spec := "cacheGoes", apart := false, narrowed := true }
def CacheGoesUptoSaid : Prop := cacheGoesUptoRow.holds Try.pinned (OpenSpec.upto cacheGoesSpec)

/-- 'regletlaw11.CachePlays', WHERE WHAT IT READS IS OF BULK AT MOST 1048576: true; the input reads as it did. -/
def cachePlaysUptoRow : OpenClaim := { program := "ytmlkajmlhmfdgaa", sum := "5b8cc36e31d680f00d1fdf937fc03230eedc9c72ef3fa5382a1eab32760302a9", func := "reglet/regletlaw11.CachePlays", spec := "cachePlays", apart := false, narrowed := true }
def CachePlaysUptoSaid : Prop := cachePlaysUptoRow.holds Try.pinned (OpenSpec.upto cachePlaysSpec)

/-- 'regletlaw11.CacheClears', WHERE WHAT IT READS IS OF BULK AT MOST 1048576: true; the input reads as it did. -/
def cacheClearsUptoRow : OpenClaim := { program := "ytmlkajmlhmfdgaa", sum := "5b8cc36e31d680f00d1fdf937fc03230eedc9c72ef3fa5382a1eab32760302a9", func := "reglet/regletlaw11.CacheClears", spec := "cacheClears", apart := false, narrowed := true }
def CacheClearsUptoSaid : Prop := cacheClearsUptoRow.holds Try.pinned (OpenSpec.upto cacheClearsSpec)

end Rows
end Go.Proofs.Ytmlkajmlhmfdgaa
