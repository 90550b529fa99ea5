/-
  No cell of these rows narrows 'for every input' (looked for: loops, veiled, ifaces, maps, wideKeys, modest, calm, conditions, laid).
  DERIVED. THE GIVEN ROWS OF THIS SEAT. 14 by the template 'for every input the law returns true; each argument reads behind the call as it read before'; 0 by the template 'total and deterministic' (their statements: YtkdakleckdkhiaaTotals.lean).
  GIVEN WITH THE SEED: the statements are not yours to turn. If you find one false, say at which input.
  Laid BY PROGRAM, IN A SANDBOX (cutbox-rows.mjs): the forced cells as the released guide's own fill.sh prints them over the translation 775781ebb9b41e49… (all of the seat's roots in one cut). By AI agents, Wed Nov 11 2026. No macro, syntax, notation, axiom, sorry.
-/
import Derived.Test.YtkdakleckdkhiaaChecked
import GoSem.Claim
import GoSem.ClaimJoined
import GoSem.ClaimMapViews
import Derived.JoinedTies
import Derived.KernelRfl
namespace Go.Proofs.Ytkdakleckdkhiaa
/- THE CELL 'sum', in the pinned program and in every row, IS THE sha256 OF THE DUMP (.gsa) THAT YtkdakleckdkhiaaProg.lean LOADS. Nothing in Lean hashes anything: it is a label: what it is worth is what the hold of that sum in a sandbox is worth. -/
noncomputable def Try.pinned : Pinned := { name := "ytkdakleckdkhiaa", sum := "775781ebb9b41e493a89a49aa198dc0b6bbd3afab2e0163f41dbb8a53757c9da", checked := Try.checked }
namespace Rows
def none {H : Type} : Left H := { results := [], args := [] }

/-- 'lampboxlaw03.ForksTrees': WHATEVER THE INPUT: true; the input reads as it did. -/
def forksTreesSpec : ChangeSpec := { name := "forksTrees", fn := fun _ => fun
  | [d] => { results := [.lit (.bool true)], args := [d] }
  | _ => none }
def forksTreesRow : OpenClaim := { program := "ytkdakleckdkhiaa", sum := "775781ebb9b41e493a89a49aa198dc0b6bbd3afab2e0163f41dbb8a53757c9da", func := "lampbox/lampboxlaw03.ForksTrees", spec := "forksTrees", unfollowed := true, recurses := true, apart := false }
def ForksTreesSaid : Prop := forksTreesRow.holds Try.pinned (OpenSpec.ofChange forksTreesSpec)

/-- ITS FALSE NEIGHBOUR: 'it returns false'. Refute it at one input. -/
def forksTreesWrong : ChangeSpec := { name := "forksTrees", fn := fun _ => fun
  | [d] => { results := [.lit (.bool false)], args := [d] }
  | _ => none }
def ForksTreesWrongFalsely : Prop := forksTreesRow.holds Try.pinned (OpenSpec.ofChange forksTreesWrong)

/-- 'lampboxlaw03.ForksWays': WHATEVER THE INPUT: true; the input reads as it did. -/
def forksWaysSpec : ChangeSpec := { name := "forksWays", fn := fun _ => fun
  | [d1, d2] => { results := [.lit (.bool true)], args := [d1, d2] }
  | _ => none }
def forksWaysRow : OpenClaim := { program := "ytkdakleckdkhiaa", sum := "775781ebb9b41e493a89a49aa198dc0b6bbd3afab2e0163f41dbb8a53757c9da", func := "lampbox/lampboxlaw03.ForksWays", spec := "forksWays", unfollowed := true, recurses := true, apart := false }
def ForksWaysSaid : Prop := forksWaysRow.holds Try.pinned (OpenSpec.ofChange forksWaysSpec)

/-- ITS FALSE NEIGHBOUR: 'it returns false'. Refute it at one input. -/
def forksWaysWrong : ChangeSpec := { name := "forksWays", fn := fun _ => fun
  | [d1, d2] => { results := [.lit (.bool false)], args := [d1, d2] }
  | _ => none }
def ForksWaysWrongFalsely : Prop := forksWaysRow.holds Try.pinned (OpenSpec.ofChange forksWaysWrong)

/-- 'lampboxlaw03.ForksLongest': WHATEVER THE INPUT: true; the input reads as it did. -/
def forksLongestSpec : ChangeSpec := { name := "forksLongest", fn := fun _ => fun
  | [d1, d2] => { results := [.lit (.bool true)], args := [d1, d2] }
  | _ => none }
def forksLongestRow : OpenClaim := { program := "ytkdakleckdkhiaa", sum := "775781ebb9b41e493a89a49aa198dc0b6bbd3afab2e0163f41dbb8a53757c9da", func := "lampbox/lampboxlaw03.ForksLongest", spec := "forksLongest", unfollowed := true, recurses := true, apart := false }
def ForksLongestSaid : Prop := forksLongestRow.holds Try.pinned (OpenSpec.ofChange forksLongestSpec)

/-- ITS FALSE NEIGHBOUR: 'it returns false'. Refute it at one input. -/
def forksLongestWrong : ChangeSpec := { name := "forksLongest", fn := fun _ => fun
  | [d1, d2] => { results := [.lit (.bool false)], args := [d1, d2] }
  | _ => none }
def ForksLongestWrongFalsely : Prop := forksLongestRow.holds Try.pinned (OpenSpec.ofChange forksLongestWrong)

/-- 'lampboxlaw03.ForksOwn': WHATEVER THE INPUT: true; the input reads as it did. -/
def forksOwnSpec : ChangeSpec := { name := "forksOwn", fn := fun _ => fun
  | [d1, d2, d3] => { results := [.lit (.bool true)], args := [d1, d2, d3] }
  | _ => none }
def forksOwnRow : OpenClaim := { program := "ytkdakleckdkhiaa", sum := "775781ebb9b41e493a89a49aa198dc0b6bbd3afab2e0163f41dbb8a53757c9da", func := "lampbox/lampboxlaw03.ForksOwn", spec := "forksOwn", unfollowed := true, recurses := true, apart := false }
def ForksOwnSaid : Prop := forksOwnRow.holds Try.pinned (OpenSpec.ofChange forksOwnSpec)

/-- ITS FALSE NEIGHBOUR: 'it returns false'. Refute it at one input. -/
def forksOwnWrong : ChangeSpec := { name := "forksOwn", fn := fun _ => fun
  | [d1, d2, d3] => { results := [.lit (.bool false)], args := [d1, d2, d3] }
  | _ => none }
def ForksOwnWrongFalsely : Prop := forksOwnRow.holds Try.pinned (OpenSpec.ofChange forksOwnWrong)

/-- 'lampboxlaw03.ForksReached': WHATEVER THE INPUT: true; the input reads as it did. -/
def forksReachedSpec : ChangeSpec := { name := "forksReached", fn := fun _ => fun
  | [d1, d2, d3] => { results := [.lit (.bool true)], args := [d1, d2, d3] }
  | _ => none }
def forksReachedRow : OpenClaim := { program := "ytkdakleckdkhiaa", sum := "775781ebb9b41e493a89a49aa198dc0b6bbd3afab2e0163f41dbb8a53757c9da", func := "lampbox/lampboxlaw03.ForksReached", spec := "forksReached", unfollowed := true, recurses := true, apart := false }
def ForksReachedSaid : Prop := forksReachedRow.holds Try.pinned (OpenSpec.ofChange forksReachedSpec)

/-- ITS FALSE NEIGHBOUR: 'it returns false'. Refute it at one input. -/
def forksReachedWrong : ChangeSpec := { name := "forksReached", fn := fun _ => fun
  | [d1, d2, d3] => { results := [.lit (.bool false)], args := [d1, d2, d3] }
  | _ => none }
def ForksReachedWrongFalsely : Prop := forksReachedRow.holds Try.pinned (OpenSpec.ofChange forksReachedWrong)

/-- 'lampboxlaw03.ForksTurns': WHATEVER THE INPUT: true; the input reads as it did. -/
def forksTurnsSpec : ChangeSpec := { name := "forksTurns", fn := fun _ => fun
  | [d1, d2, d3] => { results := [.lit (.bool true)], args := [d1, d2, d3] }
  | _ => none }
def forksTurnsRow : OpenClaim := { program := "ytkdakleckdkhiaa", sum := "775781ebb9b41e493a89a49aa198dc0b6bbd3afab2e0163f41dbb8a53757c9da", func := "lampbox/lampboxlaw03.ForksTurns", spec := "forksTurns", unfollowed := true, recurses := true, apart := false }
def ForksTurnsSaid : Prop := forksTurnsRow.holds Try.pinned (OpenSpec.ofChange forksTurnsSpec)

/-- ITS FALSE NEIGHBOUR: 'it returns false'. Refute it at one input. -/
def forksTurnsWrong : ChangeSpec := { name := "forksTurns", fn := fun _ => fun
  | [d1, d2, d3] => { results := [.lit (.bool false)], args := [d1, d2, d3] }
  | _ => none }
def ForksTurnsWrongFalsely : Prop := forksTurnsRow.holds Try.pinned (OpenSpec.ofChange forksTurnsWrong)

/-- 'lampboxlaw03.ForksShort': WHATEVER THE INPUT: true; the input reads as it did. -/
def forksShortSpec : ChangeSpec := { name := "forksShort", fn := fun _ => fun
  | [d1, d2, d3, d4] => { results := [.lit (.bool true)], args := [d1, d2, d3, d4] }
  | _ => none }
def forksShortRow : OpenClaim := { program := "ytkdakleckdkhiaa", sum := "775781ebb9b41e493a89a49aa198dc0b6bbd3afab2e0163f41dbb8a53757c9da", func := "lampbox/lampboxlaw03.ForksShort", spec := "forksShort", unfollowed := true, recurses := true, apart := false }
def ForksShortSaid : Prop := forksShortRow.holds Try.pinned (OpenSpec.ofChange forksShortSpec)

/-- ITS FALSE NEIGHBOUR: 'it returns false'. Refute it at one input. -/
def forksShortWrong : ChangeSpec := { name := "forksShort", fn := fun _ => fun
  | [d1, d2, d3, d4] => { results := [.lit (.bool false)], args := [d1, d2, d3, d4] }
  | _ => none }
def ForksShortWrongFalsely : Prop := forksShortRow.holds Try.pinned (OpenSpec.ofChange forksShortWrong)

/-- 'lampboxlaw03.ForksComb': WHATEVER THE INPUT: true; the input reads as it did. -/
def forksCombSpec : ChangeSpec := { name := "forksComb", fn := fun _ => fun
  | [d1, d2] => { results := [.lit (.bool true)], args := [d1, d2] }
  | _ => none }
def forksCombRow : OpenClaim := { program := "ytkdakleckdkhiaa", sum := "775781ebb9b41e493a89a49aa198dc0b6bbd3afab2e0163f41dbb8a53757c9da", func := "lampbox/lampboxlaw03.ForksComb", spec := "forksComb", unfollowed := true, recurses := true, apart := false }
def ForksCombSaid : Prop := forksCombRow.holds Try.pinned (OpenSpec.ofChange forksCombSpec)

/-- ITS FALSE NEIGHBOUR: 'it returns false'. Refute it at one input. -/
def forksCombWrong : ChangeSpec := { name := "forksComb", fn := fun _ => fun
  | [d1, d2] => { results := [.lit (.bool false)], args := [d1, d2] }
  | _ => none }
def ForksCombWrongFalsely : Prop := forksCombRow.holds Try.pinned (OpenSpec.ofChange forksCombWrong)

/-- 'lampboxlaw03.ForksItems': WHATEVER THE INPUT: true; the input reads as it did. -/
def forksItemsSpec : ChangeSpec := { name := "forksItems", fn := fun _ => fun
  | [d1, d2] => { results := [.lit (.bool true)], args := [d1, d2] }
  | _ => none }
def forksItemsRow : OpenClaim := { program := "ytkdakleckdkhiaa", sum := "775781ebb9b41e493a89a49aa198dc0b6bbd3afab2e0163f41dbb8a53757c9da", func := "lampbox/lampboxlaw03.ForksItems", spec := "forksItems", unfollowed := true, recurses := true, apart := false }
def ForksItemsSaid : Prop := forksItemsRow.holds Try.pinned (OpenSpec.ofChange forksItemsSpec)

/-- ITS FALSE NEIGHBOUR: 'it returns false'. Refute it at one input. -/
def forksItemsWrong : ChangeSpec := { name := "forksItems", fn := fun _ => fun
  | [d1, d2] => { results := [.lit (.bool false)], args := [d1, d2] }
  | _ => none }
def ForksItemsWrongFalsely : Prop := forksItemsRow.holds Try.pinned (OpenSpec.ofChange forksItemsWrong)

/-- 'lampboxlaw03.ForksOrders': WHATEVER THE INPUT: true; the input reads as it did. -/
def forksOrdersSpec : ChangeSpec := { name := "forksOrders", fn := fun _ => fun
  | [d1, d2] => { results := [.lit (.bool true)], args := [d1, d2] }
  | _ => none }
def forksOrdersRow : OpenClaim := { program := "ytkdakleckdkhiaa", sum := "775781ebb9b41e493a89a49aa198dc0b6bbd3afab2e0163f41dbb8a53757c9da", func := "lampbox/lampboxlaw03.ForksOrders", spec := "forksOrders", unfollowed := true, recurses := true, apart := false }
def ForksOrdersSaid : Prop := forksOrdersRow.holds Try.pinned (OpenSpec.ofChange forksOrdersSpec)

/-- ITS FALSE NEIGHBOUR: 'it returns false'. Refute it at one input. -/
def forksOrdersWrong : ChangeSpec := { name := "forksOrders", fn := fun _ => fun
  | [d1, d2] => { results := [.lit (.bool false)], args := [d1, d2] }
  | _ => none }
def ForksOrdersWrongFalsely : Prop := forksOrdersRow.holds Try.pinned (OpenSpec.ofChange forksOrdersWrong)

/-- 'lampboxlaw03.ForksLattice': WHATEVER THE INPUT: true; the input reads as it did. -/
def forksLatticeSpec : ChangeSpec := { name := "forksLattice", fn := fun _ => fun
  | [d1, d2] => { results := [.lit (.bool true)], args := [d1, d2] }
  | _ => none }
def forksLatticeRow : OpenClaim := { program := "ytkdakleckdkhiaa", sum := "775781ebb9b41e493a89a49aa198dc0b6bbd3afab2e0163f41dbb8a53757c9da", func := "lampbox/lampboxlaw03.ForksLattice", spec := "forksLattice", unfollowed := true, recurses := true, apart := false }
def ForksLatticeSaid : Prop := forksLatticeRow.holds Try.pinned (OpenSpec.ofChange forksLatticeSpec)

/-- ITS FALSE NEIGHBOUR: 'it returns false'. Refute it at one input. -/
def forksLatticeWrong : ChangeSpec := { name := "forksLattice", fn := fun _ => fun
  | [d1, d2] => { results := [.lit (.bool false)], args := [d1, d2] }
  | _ => none }
def ForksLatticeWrongFalsely : Prop := forksLatticeRow.holds Try.pinned (OpenSpec.ofChange forksLatticeWrong)

/-- 'lampboxlaw03.ForksCounted': WHATEVER THE INPUT: true; the input reads as it did. -/
def forksCountedSpec : ChangeSpec := { name := "forksCounted", fn := fun _ => fun
  | [d] => { results := [.lit (.bool true)], args := [d] }
  | _ => none }
def forksCountedRow : OpenClaim := { program := "ytkdakleckdkhiaa", sum := "775781ebb9b41e493a89a49aa198dc0b6bbd3afab2e0163f41dbb8a53757c9da", func := "lampbox/lampboxlaw03.ForksCounted", spec := "forksCounted", unfollowed := true, recurses := true, apart := false }
def ForksCountedSaid : Prop := forksCountedRow.holds Try.pinned (OpenSpec.ofChange forksCountedSpec)

/-- ITS FALSE NEIGHBOUR: 'it returns false'. Refute it at one input. -/
def forksCountedWrong : ChangeSpec := { name := "forksCounted", fn := fun _ => fun
  | [d] => { results := [.lit (.bool false)], args := [d] }
  | _ => none }
def ForksCountedWrongFalsely : Prop := forksCountedRow.holds Try.pinned (OpenSpec.ofChange forksCountedWrong)

/-- 'lampboxlaw03.ForksVectors': WHATEVER THE INPUT: true; the input reads as it did. -/
def forksVectorsSpec : ChangeSpec := { name := "forksVectors", fn := fun _ => fun
  | [d] => { results := [.lit (.bool true)], args := [d] }
  | _ => none }
def forksVectorsRow : OpenClaim := { program := "ytkdakleckdkhiaa", sum := "775781ebb9b41e493a89a49aa198dc0b6bbd3afab2e0163f41dbb8a53757c9da", func := "lampbox/lampboxlaw03.ForksVectors", spec := "forksVectors", unfollowed := true, recurses := true, apart := false }
def ForksVectorsSaid : Prop := forksVectorsRow.holds Try.pinned (OpenSpec.ofChange forksVectorsSpec)

/-- ITS FALSE NEIGHBOUR: 'it returns false'. Refute it at one input. -/
def forksVectorsWrong : ChangeSpec := { name := "forksVectors", fn := fun _ => fun
  | [d] => { results := [.lit (.bool false)], args := [d] }
  | _ => none }
def ForksVectorsWrongFalsely : Prop := forksVectorsRow.holds Try.pinned (OpenSpec.ofChange forksVectorsWrong)

/-- 'lampboxlaw03.ForksBack': WHATEVER THE INPUT: true; the input reads as it did. -/
def forksBackSpec : ChangeSpec := { name := "forksBack", fn := fun _ => fun
  | [d1, d2, d3] => { results := [.lit (.bool true)], args := [d1, d2, d3] }
  | _ => none }
def forksBackRow : OpenClaim := { program := "ytkdakleckdkhiaa", sum := "775781ebb9b41e493a89a49aa198dc0b6bbd3afab2e0163f41dbb8a53757c9da", func := "lampbox/lampboxlaw03.ForksBack", spec := "forksBack", unfollowed := true, recurses := true, apart := false }
def ForksBackSaid : Prop := forksBackRow.holds Try.pinned (OpenSpec.ofChange forksBackSpec)

/-- ITS FALSE NEIGHBOUR: 'it returns false'. Refute it at one input. -/
def forksBackWrong : ChangeSpec := { name := "forksBack", fn := fun _ => fun
  | [d1, d2, d3] => { results := [.lit (.bool false)], args := [d1, d2, d3] }
  | _ => none }
def ForksBackWrongFalsely : Prop := forksBackRow.holds Try.pinned (OpenSpec.ofChange forksBackWrong)

/- THE SECOND FORM. 'bulk': how many values and letters a reading holds, each counted each time it is reached (what is shared counts as often as it is met; a slice's spare places count too). A statement '..UptoSaid' is the law's where the arguments, and the package variables that the reading takes, are together of bulk at most 1048576: NARROWER than '..Said'. Prove '..Said' where nothing that the law and all that it calls make is longer than what came in: it says more and counts as full. Else prove '..UptoSaid'. A law counts once. -/
mutual
def uptoBulk {H : Type} : DataW H → Nat
  | .lit (.string bytes) => bytes.length + 1
  | .lit _ => 1
  | .nil => 1
  | .ptr d => uptoBulk d + 1
  | .slice elems spare => uptoBulkAll elems + uptoBulkAll spare + 1
  | .agg parts => uptoBulkAll parts + 1
  | .iface _ d => uptoBulk d + 1
  | .map entries => uptoBulkEntries entries + 1
  | .held _ => 1
def uptoBulkAll {H : Type} : List (DataW H) → Nat
  | [] => 0
  | d :: r => uptoBulk d + uptoBulkAll r
def uptoBulkEntries {H : Type} : List (Lit × DataW H) → Nat
  | [] => 0
  | x :: r => uptoBulkEntry x + uptoBulkEntries r
def uptoBulkEntry {H : Type} : Lit × DataW H → Nat
  | (.string bytes, d) => bytes.length + uptoBulk d + 1
  | (_, d) => uptoBulk d + 1
 end
def uptoSmall : (H : Type) → List (DataW H) → Bool := fun _ ds => decide (uptoBulkAll ds ≤ 1048576)
def OpenSpec.upto (s : _root_.Go.ChangeSpec) : _root_.Go.OpenSpec := { _root_.Go.OpenSpec.ofChange s with cond := some uptoSmall }

/-- 'lampboxlaw03.ForksTrees', WHERE WHAT IT READS IS OF BULK AT MOST 1048576: true; the input reads as it did. -/
def forksTreesUptoRow : OpenClaim := { program := "ytkdakleckdkhiaa", sum := "775781ebb9b41e493a89a49aa198dc0b6bbd3afab2e0163f41dbb8a53757c9da", func := "lampbox/lampboxlaw03.ForksTrees", spec := "forksTrees", unfollowed := true, recurses := true, apart := false, narrowed := true }
def ForksTreesUptoSaid : Prop := forksTreesUptoRow.holds Try.pinned (OpenSpec.upto forksTreesSpec)

/-- 'lampboxlaw03.ForksWays', WHERE WHAT IT READS IS OF BULK AT MOST 1048576: true; the input reads as it did. -/
def forksWaysUptoRow : OpenClaim := { program := "ytkdakleckdkhiaa", sum := "775781ebb9b41e493a89a49aa198dc0b6bbd3afab2e0163f41dbb8a53757c9da", func := "lampbox/lampboxlaw03.ForksWays", spec := "forksWays", unfollowed := true, recurses := true, apart := false, narrowed := true }
def ForksWaysUptoSaid : Prop := forksWaysUptoRow.holds Try.pinned (OpenSpec.upto forksWaysSpec)

/-- 'lampboxlaw03.ForksLongest', WHERE WHAT IT READS IS OF BULK AT MOST 1048576: true; the input reads as it did. -/
def forksLongestUptoRow : OpenClaim := { program := "ytkdakleckdkhiaa", sum := "775781ebb9b41e493a89a49aa198dc0b6bbd3afab2e0163f41dbb8a53757c9da", func := "lampbox/lampboxlaw03.ForksLongest", spec := "forksLongest", unfollowed := true, recurses := true, apart := false, narrowed := true }
def ForksLongestUptoSaid : Prop := forksLongestUptoRow.holds Try.pinned (OpenSpec.upto forksLongestSpec)

/-- 'lampboxlaw03.ForksOwn', WHERE WHAT IT READS IS OF BULK AT MOST 1048576: true; the input reads as it did. -/
def forksOwnUptoRow : OpenClaim := { program := "ytkdakleckdkhiaa", sum := "775781ebb9b41e493a89a49aa198dc0b6bbd3afab2e0163f41dbb8a53757c9da", func := "lampbox/lampboxlaw03.ForksOwn", spec := "forksOwn", unfollowed := true, recurses := true, apart := false, narrowed := true }
def ForksOwnUptoSaid : Prop := forksOwnUptoRow.holds Try.pinned (OpenSpec.upto forksOwnSpec)

/-- 'lampboxlaw03.ForksReached', WHERE WHAT IT READS IS OF BULK AT MOST 1048576: true; the input reads as it did. -/
def forksReachedUptoRow : OpenClaim := { program := "ytkdakleckdkhiaa", sum := "775781ebb9b41e493a89a49aa198dc0b6bbd3afab2e0163f41dbb8a53757c9da", func := "lampbox/lampboxlaw03.ForksReached", spec := "forksReached", unfollowed := true, recurses := true, apart := false, narrowed := true }
def ForksReachedUptoSaid : Prop := forksReachedUptoRow.holds Try.pinned (OpenSpec.upto forksReachedSpec)

/-- 'lampboxlaw03.ForksTurns', WHERE WHAT IT READS IS OF BULK AT MOST 1048576: true; the input reads as it did. -/
def forksTurnsUptoRow : OpenClaim := { program := "ytkdakleckdkhiaa", sum := "775781ebb9b41e493a89a49aa198dc0b6bbd3afab2e0163f41dbb8a53757c9da", func := "lampbox/lampboxlaw03.ForksTurns", spec := "forksTurns", unfollowed := true, recurses := true, apart := false, narrowed := true }
def ForksTurnsUptoSaid : Prop := forksTurnsUptoRow.holds Try.pinned (OpenSpec.upto forksTurnsSpec)

/-- 'lampboxlaw03.ForksShort', WHERE WHAT IT READS IS OF BULK AT MOST 1048576: true; the input reads as it did. -/
def forksShortUptoRow : OpenClaim := { program := "ytkdakleckdkhiaa", sum := "775781ebb9b41e493a89a49aa198dc0b6bbd3afab2e0163f41dbb8a53757c9da", func := "lampbox/lampboxlaw03.ForksShort", spec := "forksShort", unfollowed := true, recurses := true, apart := false, narrowed := true }
def ForksShortUptoSaid : Prop := forksShortUptoRow.holds Try.pinned (OpenSpec.upto forksShortSpec)

/-- 'lampboxlaw03.ForksComb', WHERE WHAT IT READS IS OF BULK AT MOST 1048576: true; the input reads as it did. -/
def forksCombUptoRow : OpenClaim := { program := "ytkdakleckdkhiaa", sum := "775781ebb9b41e493a89a49aa198dc0b6bbd3afab2e0163f41dbb8a53757c9da", func := "lampbox/lampboxlaw03.ForksComb", spec := "forksComb", unfollowed := true, recurses := true, apart := false, narrowed := true }
def ForksCombUptoSaid : Prop := forksCombUptoRow.holds Try.pinned (OpenSpec.upto forksCombSpec)

/-- 'lampboxlaw03.ForksItems', WHERE WHAT IT READS IS OF BULK AT MOST 1048576: true; the input reads as it did. -/
def forksItemsUptoRow : OpenClaim := { program := "ytkdakleckdkhiaa", sum := "775781ebb9b41e493a89a49aa198dc0b6bbd3afab2e0163f41dbb8a53757c9da", func := "lampbox/lampboxlaw03.ForksItems", spec := "forksItems", unfollowed := true, recurses := true, apart := false, narrowed := true }
def ForksItemsUptoSaid : Prop := forksItemsUptoRow.holds Try.pinned (OpenSpec.upto forksItemsSpec)

/-- 'lampboxlaw03.ForksOrders', WHERE WHAT IT READS IS OF BULK AT MOST 1048576: true; the input reads as it did. -/
def forksOrdersUptoRow : OpenClaim := { program := "ytkdakleckdkhiaa", sum := "775781ebb9b41e493a89a49aa198dc0b6bbd3afab2e0163f41dbb8a53757c9da", func := "lampbox/lampboxlaw03.ForksOrders", spec := "forksOrders", unfollowed := true, recurses := true, apart := false, narrowed := true }
def ForksOrdersUptoSaid : Prop := forksOrdersUptoRow.holds Try.pinned (OpenSpec.upto forksOrdersSpec)

/-- 'lampboxlaw03.ForksLattice', WHERE WHAT IT READS IS OF BULK AT MOST 1048576: true; the input reads as it did. -/
def forksLatticeUptoRow : OpenClaim := { program := "ytkdakleckdkhiaa", sum := "775781ebb9b41e493a89a49aa198dc0b6bbd3afab2e0163f41dbb8a53757c9da", func := "lampbox/lampboxlaw03.ForksLattice", spec := "forksLattice", unfollowed := true, recurses := true, apart := false, narrowed := true }
def ForksLatticeUptoSaid : Prop := forksLatticeUptoRow.holds Try.pinned (OpenSpec.upto forksLatticeSpec)

/-- 'lampboxlaw03.ForksCounted', WHERE WHAT IT READS IS OF BULK AT MOST 1048576: true; the input reads as it did. -/
def forksCountedUptoRow : OpenClaim := { program := "ytkdakleckdkhiaa", sum := "775781ebb9b41e493a89a49aa198dc0b6bbd3afab2e0163f41dbb8a53757c9da", func := "lampbox/lampboxlaw03.ForksCounted", spec := "forksCounted", unfollowed := true, recurses := true, apart := false, narrowed := true }
def ForksCountedUptoSaid : Prop := forksCountedUptoRow.holds Try.pinned (OpenSpec.upto forksCountedSpec)

/-- 'lampboxlaw03.ForksVectors', WHERE WHAT IT READS IS OF BULK AT MOST 1048576: true; the input reads as it did. -/
def forksVectorsUptoRow : OpenClaim := { program := "ytkdakleckdkhiaa", sum := "775781ebb9b41e493a89a49aa198dc0b6bbd3afab2e0163f41dbb8a53757c9da", func := "lampbox/lampboxlaw03.ForksVectors", spec := "forksVectors", unfollowed := true, recurses := true, apart := false, narrowed := true }
def ForksVectorsUptoSaid : Prop := forksVectorsUptoRow.holds Try.pinned (OpenSpec.upto forksVectorsSpec)

/-- 'lampboxlaw03.ForksBack', WHERE WHAT IT READS IS OF BULK AT MOST 1048576: true; the input reads as it did. -/
def forksBackUptoRow : OpenClaim := { program := "ytkdakleckdkhiaa", sum := "775781ebb9b41e493a89a49aa198dc0b6bbd3afab2e0163f41dbb8a53757c9da", func := "lampbox/lampboxlaw03.ForksBack", spec := "forksBack", unfollowed := true, recurses := true, apart := false, narrowed := true }
def ForksBackUptoSaid : Prop := forksBackUptoRow.holds Try.pinned (OpenSpec.upto forksBackSpec)

end Rows
end Go.Proofs.Ytkdakleckdkhiaa
