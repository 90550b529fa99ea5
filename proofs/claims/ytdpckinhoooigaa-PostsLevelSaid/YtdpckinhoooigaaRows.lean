/-
  No cell of these rows narrows 'for every input' (looked for: loops, veiled, ifaces, maps, wideKeys, modest, calm, conditions, laid).
  DERIVED. THE GIVEN ROWS OF THIS SEAT. 14 by the template 'for every input the law returns true; each argument reads behind the call as it read before'; 0 by the template 'total and deterministic' (their statements: YtdpckinhoooigaaTotals.lean).
  GIVEN WITH THE SEED: the statements are not yours to turn. If you find one false, say at which input.
  Laid BY PROGRAM, IN A SANDBOX (cutbox-rows.mjs): the forced cells as the released guide's own fill.sh prints them over the translation c7559842e75d2238… (all of the seat's roots in one cut). By AI agents, Wed Nov 11 2026. No macro, syntax, notation, axiom, sorry.
-/
import Derived.Test.YtdpckinhoooigaaChecked
import GoSem.Claim
import GoSem.ClaimJoined
import GoSem.ClaimMapViews
import Derived.JoinedTies
import Derived.KernelRfl
namespace Go.Proofs.Ytdpckinhoooigaa
/- THE CELL 'sum', in the pinned program and in every row, IS THE sha256 OF THE DUMP (.gsa) THAT YtdpckinhoooigaaProg.lean LOADS. Nothing in Lean hashes anything: it is a label: what it is worth is what the hold of that sum in a sandbox is worth. -/
noncomputable def Try.pinned : Pinned := { name := "ytdpckinhoooigaa", sum := "c7559842e75d22381f0d10b83f497acc4c8cb9be2ae9ad23c055fd89ce158e6b", checked := Try.checked }
namespace Rows
def none {H : Type} : Left H := { results := [], args := [] }

/-- 'lampboxlaw07.PostsExchanges': WHATEVER THE INPUT: true; the input reads as it did. -/
def postsExchangesSpec : ChangeSpec := { name := "postsExchanges", fn := fun _ => fun
  | [d1, d2, d3] => { results := [.lit (.bool true)], args := [d1, d2, d3] }
  | _ => none }
def postsExchangesRow : OpenClaim := { program := "ytdpckinhoooigaa", sum := "c7559842e75d22381f0d10b83f497acc4c8cb9be2ae9ad23c055fd89ce158e6b", func := "lampbox/lampboxlaw07.PostsExchanges", spec := "postsExchanges", unfollowed := true, recurses := true, plainKeys := false, apart := false }
def PostsExchangesSaid : Prop := postsExchangesRow.holds Try.pinned (OpenSpec.ofChange postsExchangesSpec)

/-- ITS FALSE NEIGHBOUR: 'it returns false'. Refute it at one input. -/
def postsExchangesWrong : ChangeSpec := { name := "postsExchanges", fn := fun _ => fun
  | [d1, d2, d3] => { results := [.lit (.bool false)], args := [d1, d2, d3] }
  | _ => none }
def PostsExchangesWrongFalsely : Prop := postsExchangesRow.holds Try.pinned (OpenSpec.ofChange postsExchangesWrong)

/-- 'lampboxlaw07.PostsWithout': WHATEVER THE INPUT: true; the input reads as it did. -/
def postsWithoutSpec : ChangeSpec := { name := "postsWithout", fn := fun _ => fun
  | [d1, d2] => { results := [.lit (.bool true)], args := [d1, d2] }
  | _ => none }
def postsWithoutRow : OpenClaim := { program := "ytdpckinhoooigaa", sum := "c7559842e75d22381f0d10b83f497acc4c8cb9be2ae9ad23c055fd89ce158e6b", func := "lampbox/lampboxlaw07.PostsWithout", spec := "postsWithout", unfollowed := true, recurses := true, plainKeys := false, apart := false }
def PostsWithoutSaid : Prop := postsWithoutRow.holds Try.pinned (OpenSpec.ofChange postsWithoutSpec)

/-- ITS FALSE NEIGHBOUR: 'it returns false'. Refute it at one input. -/
def postsWithoutWrong : ChangeSpec := { name := "postsWithout", fn := fun _ => fun
  | [d1, d2] => { results := [.lit (.bool false)], args := [d1, d2] }
  | _ => none }
def PostsWithoutWrongFalsely : Prop := postsWithoutRow.holds Try.pinned (OpenSpec.ofChange postsWithoutWrong)

/-- 'lampboxlaw07.PostsExpands': WHATEVER THE INPUT: true; the input reads as it did. -/
def postsExpandsSpec : ChangeSpec := { name := "postsExpands", fn := fun _ => fun
  | [d1, d2, d3] => { results := [.lit (.bool true)], args := [d1, d2, d3] }
  | _ => none }
def postsExpandsRow : OpenClaim := { program := "ytdpckinhoooigaa", sum := "c7559842e75d22381f0d10b83f497acc4c8cb9be2ae9ad23c055fd89ce158e6b", func := "lampbox/lampboxlaw07.PostsExpands", spec := "postsExpands", unfollowed := true, recurses := true, plainKeys := false, apart := false }
def PostsExpandsSaid : Prop := postsExpandsRow.holds Try.pinned (OpenSpec.ofChange postsExpandsSpec)

/-- ITS FALSE NEIGHBOUR: 'it returns false'. Refute it at one input. -/
def postsExpandsWrong : ChangeSpec := { name := "postsExpands", fn := fun _ => fun
  | [d1, d2, d3] => { results := [.lit (.bool false)], args := [d1, d2, d3] }
  | _ => none }
def PostsExpandsWrongFalsely : Prop := postsExpandsRow.holds Try.pinned (OpenSpec.ofChange postsExpandsWrong)

/-- 'lampboxlaw07.PostsLevel': WHATEVER THE INPUT: true; the input reads as it did. -/
def postsLevelSpec : ChangeSpec := { name := "postsLevel", fn := fun _ => fun
  | [d1, d2] => { results := [.lit (.bool true)], args := [d1, d2] }
  | _ => none }
def postsLevelRow : OpenClaim := { program := "ytdpckinhoooigaa", sum := "c7559842e75d22381f0d10b83f497acc4c8cb9be2ae9ad23c055fd89ce158e6b", func := "lampbox/lampboxlaw07.PostsLevel", spec := "postsLevel", unfollowed := true, recurses := true, plainKeys := false, apart := false }
def PostsLevelSaid : Prop := postsLevelRow.holds Try.pinned (OpenSpec.ofChange postsLevelSpec)

/-- ITS FALSE NEIGHBOUR: 'it returns false'. Refute it at one input. -/
def postsLevelWrong : ChangeSpec := { name := "postsLevel", fn := fun _ => fun
  | [d1, d2] => { results := [.lit (.bool false)], args := [d1, d2] }
  | _ => none }
def PostsLevelWrongFalsely : Prop := postsLevelRow.holds Try.pinned (OpenSpec.ofChange postsLevelWrong)

/-- 'lampboxlaw07.PostsMost': WHATEVER THE INPUT: true; the input reads as it did. -/
def postsMostSpec : ChangeSpec := { name := "postsMost", fn := fun _ => fun
  | [d] => { results := [.lit (.bool true)], args := [d] }
  | _ => none }
def postsMostRow : OpenClaim := { program := "ytdpckinhoooigaa", sum := "c7559842e75d22381f0d10b83f497acc4c8cb9be2ae9ad23c055fd89ce158e6b", func := "lampbox/lampboxlaw07.PostsMost", spec := "postsMost", unfollowed := true, recurses := true, plainKeys := false, apart := false }
def PostsMostSaid : Prop := postsMostRow.holds Try.pinned (OpenSpec.ofChange postsMostSpec)

/-- ITS FALSE NEIGHBOUR: 'it returns false'. Refute it at one input. -/
def postsMostWrong : ChangeSpec := { name := "postsMost", fn := fun _ => fun
  | [d] => { results := [.lit (.bool false)], args := [d] }
  | _ => none }
def PostsMostWrongFalsely : Prop := postsMostRow.holds Try.pinned (OpenSpec.ofChange postsMostWrong)

/-- 'lampboxlaw07.PostsLines': WHATEVER THE INPUT: true; the input reads as it did. -/
def postsLinesSpec : ChangeSpec := { name := "postsLines", fn := fun _ => fun
  | [d1, d2, d3] => { results := [.lit (.bool true)], args := [d1, d2, d3] }
  | _ => none }
def postsLinesRow : OpenClaim := { program := "ytdpckinhoooigaa", sum := "c7559842e75d22381f0d10b83f497acc4c8cb9be2ae9ad23c055fd89ce158e6b", func := "lampbox/lampboxlaw07.PostsLines", spec := "postsLines", unfollowed := true, recurses := true, plainKeys := false, apart := false }
def PostsLinesSaid : Prop := postsLinesRow.holds Try.pinned (OpenSpec.ofChange postsLinesSpec)

/-- ITS FALSE NEIGHBOUR: 'it returns false'. Refute it at one input. -/
def postsLinesWrong : ChangeSpec := { name := "postsLines", fn := fun _ => fun
  | [d1, d2, d3] => { results := [.lit (.bool false)], args := [d1, d2, d3] }
  | _ => none }
def PostsLinesWrongFalsely : Prop := postsLinesRow.holds Try.pinned (OpenSpec.ofChange postsLinesWrong)

/-- 'lampboxlaw07.PostsChooses': WHATEVER THE INPUT: true; the input reads as it did. -/
def postsChoosesSpec : ChangeSpec := { name := "postsChooses", fn := fun _ => fun
  | [d] => { results := [.lit (.bool true)], args := [d] }
  | _ => none }
def postsChoosesRow : OpenClaim := { program := "ytdpckinhoooigaa", sum := "c7559842e75d22381f0d10b83f497acc4c8cb9be2ae9ad23c055fd89ce158e6b", func := "lampbox/lampboxlaw07.PostsChooses", spec := "postsChooses", unfollowed := true, recurses := true, plainKeys := false, apart := false }
def PostsChoosesSaid : Prop := postsChoosesRow.holds Try.pinned (OpenSpec.ofChange postsChoosesSpec)

/-- ITS FALSE NEIGHBOUR: 'it returns false'. Refute it at one input. -/
def postsChoosesWrong : ChangeSpec := { name := "postsChooses", fn := fun _ => fun
  | [d] => { results := [.lit (.bool false)], args := [d] }
  | _ => none }
def PostsChoosesWrongFalsely : Prop := postsChoosesRow.holds Try.pinned (OpenSpec.ofChange postsChoosesWrong)

/-- 'lampboxlaw07.PostsChoiceChecks': WHATEVER THE INPUT: true; the input reads as it did. -/
def postsChoiceChecksSpec : ChangeSpec := { name := "postsChoiceChecks", fn := fun _ => fun
  | [d1, d2, d3] => { results := [.lit (.bool true)], args := [d1, d2, d3] }
  | _ => none }
def postsChoiceChecksRow : OpenClaim := { program := "ytdpckinhoooigaa", sum := "c7559842e75d22381f0d10b83f497acc4c8cb9be2ae9ad23c055fd89ce158e6b", func := "lampbox/lampboxlaw07.PostsChoiceChecks", spec := "postsChoiceChecks", unfollowed := true, recurses := true, plainKeys := false, apart := false }
def PostsChoiceChecksSaid : Prop := postsChoiceChecksRow.holds Try.pinned (OpenSpec.ofChange postsChoiceChecksSpec)

/-- ITS FALSE NEIGHBOUR: 'it returns false'. Refute it at one input. -/
def postsChoiceChecksWrong : ChangeSpec := { name := "postsChoiceChecks", fn := fun _ => fun
  | [d1, d2, d3] => { results := [.lit (.bool false)], args := [d1, d2, d3] }
  | _ => none }
def PostsChoiceChecksWrongFalsely : Prop := postsChoiceChecksRow.holds Try.pinned (OpenSpec.ofChange postsChoiceChecksWrong)

/-- 'lampboxlaw07.PostsOnce': WHATEVER THE INPUT: true; the input reads as it did. -/
def postsOnceSpec : ChangeSpec := { name := "postsOnce", fn := fun _ => fun
  | [d1, d2, d3] => { results := [.lit (.bool true)], args := [d1, d2, d3] }
  | _ => none }
def postsOnceRow : OpenClaim := { program := "ytdpckinhoooigaa", sum := "c7559842e75d22381f0d10b83f497acc4c8cb9be2ae9ad23c055fd89ce158e6b", func := "lampbox/lampboxlaw07.PostsOnce", spec := "postsOnce", unfollowed := true, recurses := true, plainKeys := false, apart := false }
def PostsOnceSaid : Prop := postsOnceRow.holds Try.pinned (OpenSpec.ofChange postsOnceSpec)

/-- ITS FALSE NEIGHBOUR: 'it returns false'. Refute it at one input. -/
def postsOnceWrong : ChangeSpec := { name := "postsOnce", fn := fun _ => fun
  | [d1, d2, d3] => { results := [.lit (.bool false)], args := [d1, d2, d3] }
  | _ => none }
def PostsOnceWrongFalsely : Prop := postsOnceRow.holds Try.pinned (OpenSpec.ofChange postsOnceWrong)

/-- 'lampboxlaw07.PostsPermanents': WHATEVER THE INPUT: true; the input reads as it did. -/
def postsPermanentsSpec : ChangeSpec := { name := "postsPermanents", fn := fun _ => fun
  | [d1, d2] => { results := [.lit (.bool true)], args := [d1, d2] }
  | _ => none }
def postsPermanentsRow : OpenClaim := { program := "ytdpckinhoooigaa", sum := "c7559842e75d22381f0d10b83f497acc4c8cb9be2ae9ad23c055fd89ce158e6b", func := "lampbox/lampboxlaw07.PostsPermanents", spec := "postsPermanents", unfollowed := true, recurses := true, plainKeys := false, apart := false }
def PostsPermanentsSaid : Prop := postsPermanentsRow.holds Try.pinned (OpenSpec.ofChange postsPermanentsSpec)

/-- ITS FALSE NEIGHBOUR: 'it returns false'. Refute it at one input. -/
def postsPermanentsWrong : ChangeSpec := { name := "postsPermanents", fn := fun _ => fun
  | [d1, d2] => { results := [.lit (.bool false)], args := [d1, d2] }
  | _ => none }
def PostsPermanentsWrongFalsely : Prop := postsPermanentsRow.holds Try.pinned (OpenSpec.ofChange postsPermanentsWrong)

/-- 'lampboxlaw07.PostsItems': WHATEVER THE INPUT: true; the input reads as it did. -/
def postsItemsSpec : ChangeSpec := { name := "postsItems", fn := fun _ => fun
  | [d1, d2] => { results := [.lit (.bool true)], args := [d1, d2] }
  | _ => none }
def postsItemsRow : OpenClaim := { program := "ytdpckinhoooigaa", sum := "c7559842e75d22381f0d10b83f497acc4c8cb9be2ae9ad23c055fd89ce158e6b", func := "lampbox/lampboxlaw07.PostsItems", spec := "postsItems", unfollowed := true, recurses := true, plainKeys := false, apart := false }
def PostsItemsSaid : Prop := postsItemsRow.holds Try.pinned (OpenSpec.ofChange postsItemsSpec)

/-- ITS FALSE NEIGHBOUR: 'it returns false'. Refute it at one input. -/
def postsItemsWrong : ChangeSpec := { name := "postsItems", fn := fun _ => fun
  | [d1, d2] => { results := [.lit (.bool false)], args := [d1, d2] }
  | _ => none }
def PostsItemsWrongFalsely : Prop := postsItemsRow.holds Try.pinned (OpenSpec.ofChange postsItemsWrong)

/-- 'lampboxlaw07.PostsSplitChecks': WHATEVER THE INPUT: true; the input reads as it did. -/
def postsSplitChecksSpec : ChangeSpec := { name := "postsSplitChecks", fn := fun _ => fun
  | [d1, d2] => { results := [.lit (.bool true)], args := [d1, d2] }
  | _ => none }
def postsSplitChecksRow : OpenClaim := { program := "ytdpckinhoooigaa", sum := "c7559842e75d22381f0d10b83f497acc4c8cb9be2ae9ad23c055fd89ce158e6b", func := "lampbox/lampboxlaw07.PostsSplitChecks", spec := "postsSplitChecks", unfollowed := true, recurses := true, plainKeys := false, apart := false }
def PostsSplitChecksSaid : Prop := postsSplitChecksRow.holds Try.pinned (OpenSpec.ofChange postsSplitChecksSpec)

/-- ITS FALSE NEIGHBOUR: 'it returns false'. Refute it at one input. -/
def postsSplitChecksWrong : ChangeSpec := { name := "postsSplitChecks", fn := fun _ => fun
  | [d1, d2] => { results := [.lit (.bool false)], args := [d1, d2] }
  | _ => none }
def PostsSplitChecksWrongFalsely : Prop := postsSplitChecksRow.holds Try.pinned (OpenSpec.ofChange postsSplitChecksWrong)

/-- 'lampboxlaw07.PostsOwn': WHATEVER THE INPUT: true; the input reads as it did. -/
def postsOwnSpec : ChangeSpec := { name := "postsOwn", fn := fun _ => fun
  | [d1, d2] => { results := [.lit (.bool true)], args := [d1, d2] }
  | _ => none }
def postsOwnRow : OpenClaim := { program := "ytdpckinhoooigaa", sum := "c7559842e75d22381f0d10b83f497acc4c8cb9be2ae9ad23c055fd89ce158e6b", func := "lampbox/lampboxlaw07.PostsOwn", spec := "postsOwn", unfollowed := true, recurses := true, plainKeys := false, apart := false }
def PostsOwnSaid : Prop := postsOwnRow.holds Try.pinned (OpenSpec.ofChange postsOwnSpec)

/-- ITS FALSE NEIGHBOUR: 'it returns false'. Refute it at one input. -/
def postsOwnWrong : ChangeSpec := { name := "postsOwn", fn := fun _ => fun
  | [d1, d2] => { results := [.lit (.bool false)], args := [d1, d2] }
  | _ => none }
def PostsOwnWrongFalsely : Prop := postsOwnRow.holds Try.pinned (OpenSpec.ofChange postsOwnWrong)

/-- 'lampboxlaw07.PostsSplits': WHATEVER THE INPUT: true; the input reads as it did. -/
def postsSplitsSpec : ChangeSpec := { name := "postsSplits", fn := fun _ => fun
  | [d] => { results := [.lit (.bool true)], args := [d] }
  | _ => none }
def postsSplitsRow : OpenClaim := { program := "ytdpckinhoooigaa", sum := "c7559842e75d22381f0d10b83f497acc4c8cb9be2ae9ad23c055fd89ce158e6b", func := "lampbox/lampboxlaw07.PostsSplits", spec := "postsSplits", unfollowed := true, recurses := true, plainKeys := false, apart := false }
def PostsSplitsSaid : Prop := postsSplitsRow.holds Try.pinned (OpenSpec.ofChange postsSplitsSpec)

/-- ITS FALSE NEIGHBOUR: 'it returns false'. Refute it at one input. -/
def postsSplitsWrong : ChangeSpec := { name := "postsSplits", fn := fun _ => fun
  | [d] => { results := [.lit (.bool false)], args := [d] }
  | _ => none }
def PostsSplitsWrongFalsely : Prop := postsSplitsRow.holds Try.pinned (OpenSpec.ofChange postsSplitsWrong)

/- THE SECOND FORM. 'bulk': how many values and letters a reading holds, each counted each time it is reached (what is shared counts as often as it is met; a slice's spare places count too). A statement '..UptoSaid' is the law's where the arguments, and the package variables that the reading takes, are together of bulk at most 1048576: NARROWER than '..Said'. Prove '..Said' where nothing that the law and all that it calls make is longer than what came in: it says more and counts as full. Else prove '..UptoSaid'. A law counts once. -/
mutual
def uptoBulk {H : Type} : DataW H → Nat
  | .lit (.string bytes) => bytes.length + 1
  | .lit _ => 1
  | .nil => 1
  | .ptr d => uptoBulk d + 1
  | .slice elems spare => uptoBulkAll elems + uptoBulkAll spare + 1
  | .agg parts => uptoBulkAll parts + 1
  | .iface _ d => uptoBulk d + 1
  | .map entries => uptoBulkEntries entries + 1
  | .held _ => 1
def uptoBulkAll {H : Type} : List (DataW H) → Nat
  | [] => 0
  | d :: r => uptoBulk d + uptoBulkAll r
def uptoBulkEntries {H : Type} : List (Lit × DataW H) → Nat
  | [] => 0
  | x :: r => uptoBulkEntry x + uptoBulkEntries r
def uptoBulkEntry {H : Type} : Lit × DataW H → Nat
  | (.string bytes, d) => bytes.length + uptoBulk d + 1
  | (_, d) => uptoBulk d + 1
 end
def uptoSmall : (H : Type) → List (DataW H) → Bool := fun _ ds => decide (uptoBulkAll ds ≤ 1048576)
def OpenSpec.upto (s : _root_.Go.ChangeSpec) : _root_.Go.OpenSpec := { _root_.Go.OpenSpec.ofChange s with cond := some uptoSmall }

/-- 'lampboxlaw07.PostsExchanges', WHERE WHAT IT READS IS OF BULK AT MOST 1048576: true; the input reads as it did. -/
def postsExchangesUptoRow : OpenClaim := { program := "ytdpckinhoooigaa", sum := "c7559842e75d22381f0d10b83f497acc4c8cb9be2ae9ad23c055fd89ce158e6b", func := "lampbox/lampboxlaw07.PostsExchanges", spec := "postsExchanges", unfollowed := true, recurses := true, plainKeys := false, apart := false, narrowed := true }
def PostsExchangesUptoSaid : Prop := postsExchangesUptoRow.holds Try.pinned (OpenSpec.upto postsExchangesSpec)

/-- 'lampboxlaw07.PostsWithout', WHERE WHAT IT READS IS OF BULK AT MOST 1048576: true; the input reads as it did. -/
def postsWithoutUptoRow : OpenClaim := { program := "ytdpckinhoooigaa", sum := "c7559842e75d22381f0d10b83f497acc4c8cb9be2ae9ad23c055fd89ce158e6b", func := "lampbox/lampboxlaw07.PostsWithout", spec := "postsWithout", unfollowed := true, recurses := true, plainKeys := false, apart := false, narrowed := true }
def PostsWithoutUptoSaid : Prop := postsWithoutUptoRow.holds Try.pinned (OpenSpec.upto postsWithoutSpec)

/-- 'lampboxlaw07.PostsExpands', WHERE WHAT IT READS IS OF BULK AT MOST 1048576: true; the input reads as it did. -/
def postsExpandsUptoRow : OpenClaim := { program := "ytdpckinhoooigaa", sum := "c7559842e75d22381f0d10b83f497acc4c8cb9be2ae9ad23c055fd89ce158e6b", func := "lampbox/lampboxlaw07.PostsExpands", spec := "postsExpands", unfollowed := true, recurses := true, plainKeys := false, apart := false, narrowed := true }
def PostsExpandsUptoSaid : Prop := postsExpandsUptoRow.holds Try.pinned (OpenSpec.upto postsExpandsSpec)

/-- 'lampboxlaw07.PostsLevel', WHERE WHAT IT READS IS OF BULK AT MOST 1048576: true; the input reads as it did. -/
def postsLevelUptoRow : OpenClaim := { program := "ytdpckinhoooigaa", sum := "c7559842e75d22381f0d10b83f497acc4c8cb9be2ae9ad23c055fd89ce158e6b", func := "lampbox/lampboxlaw07.PostsLevel", spec := "postsLevel", unfollowed := true, recurses := true, plainKeys := false, apart := false, narrowed := true }
def PostsLevelUptoSaid : Prop := postsLevelUptoRow.holds Try.pinned (OpenSpec.upto postsLevelSpec)

/-- 'lampboxlaw07.PostsMost', WHERE WHAT IT READS IS OF BULK AT MOST 1048576: true; the input reads as it did. -/
def postsMostUptoRow : OpenClaim := { program := "ytdpckinhoooigaa", sum := "c7559842e75d22381f0d10b83f497acc4c8cb9be2ae9ad23c055fd89ce158e6b", func := "lampbox/lampboxlaw07.PostsMost", spec := "postsMost", unfollowed := true, recurses := true, plainKeys := false, apart := false, narrowed := true }
def PostsMostUptoSaid : Prop := postsMostUptoRow.holds Try.pinned (OpenSpec.upto postsMostSpec)

/-- 'lampboxlaw07.PostsLines', WHERE WHAT IT READS IS OF BULK AT MOST 1048576: true; the input reads as it did. -/
def postsLinesUptoRow : OpenClaim := { program := "ytdpckinhoooigaa", sum := "c7559842e75d22381f0d10b83f497acc4c8cb9be2ae9ad23c055fd89ce158e6b", func := "lampbox/lampboxlaw07.PostsLines", spec := "postsLines", unfollowed := true, recurses := true, plainKeys := false, apart := false, narrowed := true }
def PostsLinesUptoSaid : Prop := postsLinesUptoRow.holds Try.pinned (OpenSpec.upto postsLinesSpec)

/-- 'lampboxlaw07.PostsChooses', WHERE WHAT IT READS IS OF BULK AT MOST 1048576: true; the input reads as it did. -/
def postsChoosesUptoRow : OpenClaim := { program := "ytdpckinhoooigaa", sum := "c7559842e75d22381f0d10b83f497acc4c8cb9be2ae9ad23c055fd89ce158e6b", func := "lampbox/lampboxlaw07.PostsChooses", spec := "postsChooses", unfollowed := true, recurses := true, plainKeys := false, apart := false, narrowed := true }
def PostsChoosesUptoSaid : Prop := postsChoosesUptoRow.holds Try.pinned (OpenSpec.upto postsChoosesSpec)

/-- 'lampboxlaw07.PostsChoiceChecks', WHERE WHAT IT READS IS OF BULK AT MOST 1048576: true; the input reads as it did. -/
def postsChoiceChecksUptoRow : OpenClaim := { program := "ytdpckinhoooigaa", sum := "c7559842e75d22381f0d10b83f497acc4c8cb9be2ae9ad23c055fd89ce158e6b", func := "lampbox/lampboxlaw07.PostsChoiceChecks", spec := "postsChoiceChecks", unfollowed := true, recurses := true, plainKeys := false, apart := false, narrowed := true }
def PostsChoiceChecksUptoSaid : Prop := postsChoiceChecksUptoRow.holds Try.pinned (OpenSpec.upto postsChoiceChecksSpec)

/-- 'lampboxlaw07.PostsOnce', WHERE WHAT IT READS IS OF BULK AT MOST 1048576: true; the input reads as it did. -/
def postsOnceUptoRow : OpenClaim := { program := "ytdpckinhoooigaa", sum := "c7559842e75d22381f0d10b83f497acc4c8cb9be2ae9ad23c055fd89ce158e6b", func := "lampbox/lampboxlaw07.PostsOnce", spec := "postsOnce", unfollowed := true, recurses := true, plainKeys := false, apart := false, narrowed := true }
def PostsOnceUptoSaid : Prop := postsOnceUptoRow.holds Try.pinned (OpenSpec.upto postsOnceSpec)

/-- 'lampboxlaw07.PostsPermanents', WHERE WHAT IT READS IS OF BULK AT MOST 1048576: true; the input reads as it did. -/
def postsPermanentsUptoRow : OpenClaim := { program := "ytdpckinhoooigaa", sum := "c7559842e75d22381f0d10b83f497acc4c8cb9be2ae9ad23c055fd89ce158e6b", func := "lampbox/lampboxlaw07.PostsPermanents", spec := "postsPermanents", unfollowed := true, recurses := true, plainKeys := false, apart := false, narrowed := true }
def PostsPermanentsUptoSaid : Prop := postsPermanentsUptoRow.holds Try.pinned (OpenSpec.upto postsPermanentsSpec)

/-- 'lampboxlaw07.PostsItems', WHERE WHAT IT READS IS OF BULK AT MOST 1048576: true; the input reads as it did. -/
def postsItemsUptoRow : OpenClaim := { program := "ytdpckinhoooigaa", sum := "c7559842e75d22381f0d10b83f497acc4c8cb9be2ae9ad23c055fd89ce158e6b", func := "lampbox/lampboxlaw07.PostsItems", spec := "postsItems", unfollowed := true, recurses := true, plainKeys := false, apart := false, narrowed := true }
def PostsItemsUptoSaid : Prop := postsItemsUptoRow.holds Try.pinned (OpenSpec.upto postsItemsSpec)

/-- 'lampboxlaw07.PostsSplitChecks', WHERE WHAT IT READS IS OF BULK AT MOST 1048576: true; the input reads as it did. -/
def postsSplitChecksUptoRow : OpenClaim := { program := "ytdpckinhoooigaa", sum := "c7559842e75d22381f0d10b83f497acc4c8cb9be2ae9ad23c055fd89ce158e6b", func := "lampbox/lampboxlaw07.PostsSplitChecks", spec := "postsSplitChecks", unfollowed := true, recurses := true, plainKeys := false, apart := false, narrowed := true }
def PostsSplitChecksUptoSaid : Prop := postsSplitChecksUptoRow.holds Try.pinned (OpenSpec.upto postsSplitChecksSpec)

/-- 'lampboxlaw07.PostsOwn', WHERE WHAT IT READS IS OF BULK AT MOST 1048576: true; the input reads as it did. -/
def postsOwnUptoRow : OpenClaim := { program := "ytdpckinhoooigaa", sum := "c7559842e75d22381f0d10b83f497acc4c8cb9be2ae9ad23c055fd89ce158e6b", func := "lampbox/lampboxlaw07.PostsOwn", spec := "postsOwn", unfollowed := true, recurses := true, plainKeys := false, apart := false, narrowed := true }
def PostsOwnUptoSaid : Prop := postsOwnUptoRow.holds Try.pinned (OpenSpec.upto postsOwnSpec)

/-- 'lampboxlaw07.PostsSplits', WHERE WHAT IT READS IS OF BULK AT MOST 1048576: true; the input reads as it did. -/
def postsSplitsUptoRow : OpenClaim := { program := "ytdpckinhoooigaa", sum := "c7559842e75d22381f0d10b83f497acc4c8cb9be2ae9ad23c055fd89ce158e6b", func := "lampbox/lampboxlaw07.PostsSplits", spec := "postsSplits", unfollowed := true, recurses := true, plainKeys := false, apart := false, narrowed := true }
def PostsSplitsUptoSaid : Prop := postsSplitsUptoRow.holds Try.pinned (OpenSpec.upto postsSplitsSpec)

end Rows
end Go.Proofs.Ytdpckinhoooigaa
