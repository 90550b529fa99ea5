/-
  No cell of these rows narrows 'for every input' (looked for: loops, veiled, ifaces, maps, wideKeys, modest, calm, conditions, laid).
  DERIVED. THE GIVEN ROWS OF THIS SEAT. 11 by the template 'for every input the law returns true; each argument reads behind the call as it read before'; 0 by the template 'total and deterministic' (their statements: YtibegggcinonkaaTotals.lean).
  GIVEN WITH THE SEED: the statements are not yours to turn. If you find one false, say at which input.
  Laid BY PROGRAM, IN A SANDBOX (cutbox-rows.mjs): the forced cells as the released guide's own fill.sh prints them over the translation 4a9ff0c500ccab5a… (all of the seat's roots in one cut). By AI agents, Wed Nov 11 2026. No macro, syntax, notation, axiom, sorry.
-/
import Derived.Test.YtibegggcinonkaaChecked
import GoSem.Claim
import GoSem.ClaimJoined
import GoSem.ClaimMapViews
import Derived.JoinedTies
import Derived.KernelRfl
namespace Go.Proofs.Ytibegggcinonkaa
/- THE CELL 'sum', in the pinned program and in every row, IS THE sha256 OF THE DUMP (.gsa) THAT YtibegggcinonkaaProg.lean LOADS. Nothing in Lean hashes anything: it is a label: what it is worth is what the hold of that sum in a sandbox is worth. -/
noncomputable def Try.pinned : Pinned := { name := "ytibegggcinonkaa", sum := "4a9ff0c500ccab5a289decec7cabc518095ece68ed4953a9d3ec5014dfe00a3f", checked := Try.checked }
namespace Rows
def none {H : Type} : Left H := { results := [], args := [] }

/-- 'lampboxlaw01.BagsHeights': WHATEVER THE INPUT: true; the input reads as it did. -/
def bagsHeightsSpec : ChangeSpec := { name := "bagsHeights", fn := fun _ => fun
  | [d1, d2, d3] => { results := [.lit (.bool true)], args := [d1, d2, d3] }
  | _ => none }
def bagsHeightsRow : OpenClaim := { program := "ytibegggcinonkaa", sum := "4a9ff0c500ccab5a289decec7cabc518095ece68ed4953a9d3ec5014dfe00a3f", func := "lampbox/lampboxlaw01.BagsHeights", spec := "bagsHeights", unfollowed := true, recurses := true, plainKeys := false, apart := false }
def BagsHeightsSaid : Prop := bagsHeightsRow.holds Try.pinned (OpenSpec.ofChange bagsHeightsSpec)

/-- ITS FALSE NEIGHBOUR: 'it returns false'. Refute it at one input. -/
def bagsHeightsWrong : ChangeSpec := { name := "bagsHeights", fn := fun _ => fun
  | [d1, d2, d3] => { results := [.lit (.bool false)], args := [d1, d2, d3] }
  | _ => none }
def BagsHeightsWrongFalsely : Prop := bagsHeightsRow.holds Try.pinned (OpenSpec.ofChange bagsHeightsWrong)

/-- 'lampboxlaw01.BagsCores': WHATEVER THE INPUT: true; the input reads as it did. -/
def bagsCoresSpec : ChangeSpec := { name := "bagsCores", fn := fun _ => fun
  | [d1, d2] => { results := [.lit (.bool true)], args := [d1, d2] }
  | _ => none }
def bagsCoresRow : OpenClaim := { program := "ytibegggcinonkaa", sum := "4a9ff0c500ccab5a289decec7cabc518095ece68ed4953a9d3ec5014dfe00a3f", func := "lampbox/lampboxlaw01.BagsCores", spec := "bagsCores", unfollowed := true, recurses := true, plainKeys := false, apart := false }
def BagsCoresSaid : Prop := bagsCoresRow.holds Try.pinned (OpenSpec.ofChange bagsCoresSpec)

/-- ITS FALSE NEIGHBOUR: 'it returns false'. Refute it at one input. -/
def bagsCoresWrong : ChangeSpec := { name := "bagsCores", fn := fun _ => fun
  | [d1, d2] => { results := [.lit (.bool false)], args := [d1, d2] }
  | _ => none }
def BagsCoresWrongFalsely : Prop := bagsCoresRow.holds Try.pinned (OpenSpec.ofChange bagsCoresWrong)

/-- 'lampboxlaw01.BagsBeside': WHATEVER THE INPUT: true; the input reads as it did. -/
def bagsBesideSpec : ChangeSpec := { name := "bagsBeside", fn := fun _ => fun
  | [d1, d2, d3] => { results := [.lit (.bool true)], args := [d1, d2, d3] }
  | _ => none }
def bagsBesideRow : OpenClaim := { program := "ytibegggcinonkaa", sum := "4a9ff0c500ccab5a289decec7cabc518095ece68ed4953a9d3ec5014dfe00a3f", func := "lampbox/lampboxlaw01.BagsBeside", spec := "bagsBeside", unfollowed := true, recurses := true, plainKeys := false, apart := false }
def BagsBesideSaid : Prop := bagsBesideRow.holds Try.pinned (OpenSpec.ofChange bagsBesideSpec)

/-- ITS FALSE NEIGHBOUR: 'it returns false'. Refute it at one input. -/
def bagsBesideWrong : ChangeSpec := { name := "bagsBeside", fn := fun _ => fun
  | [d1, d2, d3] => { results := [.lit (.bool false)], args := [d1, d2, d3] }
  | _ => none }
def BagsBesideWrongFalsely : Prop := bagsBesideRow.holds Try.pinned (OpenSpec.ofChange bagsBesideWrong)

/-- 'lampboxlaw01.BagsGreatest': WHATEVER THE INPUT: true; the input reads as it did. -/
def bagsGreatestSpec : ChangeSpec := { name := "bagsGreatest", fn := fun _ => fun
  | [d1, d2, d3] => { results := [.lit (.bool true)], args := [d1, d2, d3] }
  | _ => none }
def bagsGreatestRow : OpenClaim := { program := "ytibegggcinonkaa", sum := "4a9ff0c500ccab5a289decec7cabc518095ece68ed4953a9d3ec5014dfe00a3f", func := "lampbox/lampboxlaw01.BagsGreatest", spec := "bagsGreatest", unfollowed := true, recurses := true, plainKeys := false, apart := false }
def BagsGreatestSaid : Prop := bagsGreatestRow.holds Try.pinned (OpenSpec.ofChange bagsGreatestSpec)

/-- ITS FALSE NEIGHBOUR: 'it returns false'. Refute it at one input. -/
def bagsGreatestWrong : ChangeSpec := { name := "bagsGreatest", fn := fun _ => fun
  | [d1, d2, d3] => { results := [.lit (.bool false)], args := [d1, d2, d3] }
  | _ => none }
def BagsGreatestWrongFalsely : Prop := bagsGreatestRow.holds Try.pinned (OpenSpec.ofChange bagsGreatestWrong)

/-- 'lampboxlaw01.BagsOrients': WHATEVER THE INPUT: true; the input reads as it did. -/
def bagsOrientsSpec : ChangeSpec := { name := "bagsOrients", fn := fun _ => fun
  | [d1, d2] => { results := [.lit (.bool true)], args := [d1, d2] }
  | _ => none }
def bagsOrientsRow : OpenClaim := { program := "ytibegggcinonkaa", sum := "4a9ff0c500ccab5a289decec7cabc518095ece68ed4953a9d3ec5014dfe00a3f", func := "lampbox/lampboxlaw01.BagsOrients", spec := "bagsOrients", unfollowed := true, recurses := true, plainKeys := false, apart := false }
def BagsOrientsSaid : Prop := bagsOrientsRow.holds Try.pinned (OpenSpec.ofChange bagsOrientsSpec)

/-- ITS FALSE NEIGHBOUR: 'it returns false'. Refute it at one input. -/
def bagsOrientsWrong : ChangeSpec := { name := "bagsOrients", fn := fun _ => fun
  | [d1, d2] => { results := [.lit (.bool false)], args := [d1, d2] }
  | _ => none }
def BagsOrientsWrongFalsely : Prop := bagsOrientsRow.holds Try.pinned (OpenSpec.ofChange bagsOrientsWrong)

/-- 'lampboxlaw01.BagsMore': WHATEVER THE INPUT: true; the input reads as it did. -/
def bagsMoreSpec : ChangeSpec := { name := "bagsMore", fn := fun _ => fun
  | [d1, d2, d3] => { results := [.lit (.bool true)], args := [d1, d2, d3] }
  | _ => none }
def bagsMoreRow : OpenClaim := { program := "ytibegggcinonkaa", sum := "4a9ff0c500ccab5a289decec7cabc518095ece68ed4953a9d3ec5014dfe00a3f", func := "lampbox/lampboxlaw01.BagsMore", spec := "bagsMore", unfollowed := true, recurses := true, plainKeys := false, apart := false }
def BagsMoreSaid : Prop := bagsMoreRow.holds Try.pinned (OpenSpec.ofChange bagsMoreSpec)

/-- ITS FALSE NEIGHBOUR: 'it returns false'. Refute it at one input. -/
def bagsMoreWrong : ChangeSpec := { name := "bagsMore", fn := fun _ => fun
  | [d1, d2, d3] => { results := [.lit (.bool false)], args := [d1, d2, d3] }
  | _ => none }
def BagsMoreWrongFalsely : Prop := bagsMoreRow.holds Try.pinned (OpenSpec.ofChange bagsMoreWrong)

/-- 'lampboxlaw01.BagsBetween': WHATEVER THE INPUT: true; the input reads as it did. -/
def bagsBetweenSpec : ChangeSpec := { name := "bagsBetween", fn := fun _ => fun
  | [d1, d2] => { results := [.lit (.bool true)], args := [d1, d2] }
  | _ => none }
def bagsBetweenRow : OpenClaim := { program := "ytibegggcinonkaa", sum := "4a9ff0c500ccab5a289decec7cabc518095ece68ed4953a9d3ec5014dfe00a3f", func := "lampbox/lampboxlaw01.BagsBetween", spec := "bagsBetween", unfollowed := true, recurses := true, plainKeys := false, apart := false }
def BagsBetweenSaid : Prop := bagsBetweenRow.holds Try.pinned (OpenSpec.ofChange bagsBetweenSpec)

/-- ITS FALSE NEIGHBOUR: 'it returns false'. Refute it at one input. -/
def bagsBetweenWrong : ChangeSpec := { name := "bagsBetween", fn := fun _ => fun
  | [d1, d2] => { results := [.lit (.bool false)], args := [d1, d2] }
  | _ => none }
def BagsBetweenWrongFalsely : Prop := bagsBetweenRow.holds Try.pinned (OpenSpec.ofChange bagsBetweenWrong)

/-- 'lampboxlaw01.BagsHeads': WHATEVER THE INPUT: true; the input reads as it did. -/
def bagsHeadsSpec : ChangeSpec := { name := "bagsHeads", fn := fun _ => fun
  | [d1, d2, d3] => { results := [.lit (.bool true)], args := [d1, d2, d3] }
  | _ => none }
def bagsHeadsRow : OpenClaim := { program := "ytibegggcinonkaa", sum := "4a9ff0c500ccab5a289decec7cabc518095ece68ed4953a9d3ec5014dfe00a3f", func := "lampbox/lampboxlaw01.BagsHeads", spec := "bagsHeads", unfollowed := true, recurses := true, plainKeys := false, apart := false }
def BagsHeadsSaid : Prop := bagsHeadsRow.holds Try.pinned (OpenSpec.ofChange bagsHeadsSpec)

/-- ITS FALSE NEIGHBOUR: 'it returns false'. Refute it at one input. -/
def bagsHeadsWrong : ChangeSpec := { name := "bagsHeads", fn := fun _ => fun
  | [d1, d2, d3] => { results := [.lit (.bool false)], args := [d1, d2, d3] }
  | _ => none }
def BagsHeadsWrongFalsely : Prop := bagsHeadsRow.holds Try.pinned (OpenSpec.ofChange bagsHeadsWrong)

/-- 'lampboxlaw01.BagsOwn': WHATEVER THE INPUT: true; the input reads as it did. -/
def bagsOwnSpec : ChangeSpec := { name := "bagsOwn", fn := fun _ => fun
  | [d1, d2] => { results := [.lit (.bool true)], args := [d1, d2] }
  | _ => none }
def bagsOwnRow : OpenClaim := { program := "ytibegggcinonkaa", sum := "4a9ff0c500ccab5a289decec7cabc518095ece68ed4953a9d3ec5014dfe00a3f", func := "lampbox/lampboxlaw01.BagsOwn", spec := "bagsOwn", unfollowed := true, recurses := true, plainKeys := false, apart := false }
def BagsOwnSaid : Prop := bagsOwnRow.holds Try.pinned (OpenSpec.ofChange bagsOwnSpec)

/-- ITS FALSE NEIGHBOUR: 'it returns false'. Refute it at one input. -/
def bagsOwnWrong : ChangeSpec := { name := "bagsOwn", fn := fun _ => fun
  | [d1, d2] => { results := [.lit (.bool false)], args := [d1, d2] }
  | _ => none }
def BagsOwnWrongFalsely : Prop := bagsOwnRow.holds Try.pinned (OpenSpec.ofChange bagsOwnWrong)

/-- 'lampboxlaw01.BagsDensest': WHATEVER THE INPUT: true; the input reads as it did. -/
def bagsDensestSpec : ChangeSpec := { name := "bagsDensest", fn := fun _ => fun
  | [d1, d2] => { results := [.lit (.bool true)], args := [d1, d2] }
  | _ => none }
def bagsDensestRow : OpenClaim := { program := "ytibegggcinonkaa", sum := "4a9ff0c500ccab5a289decec7cabc518095ece68ed4953a9d3ec5014dfe00a3f", func := "lampbox/lampboxlaw01.BagsDensest", spec := "bagsDensest", unfollowed := true, recurses := true, plainKeys := false, apart := false }
def BagsDensestSaid : Prop := bagsDensestRow.holds Try.pinned (OpenSpec.ofChange bagsDensestSpec)

/-- ITS FALSE NEIGHBOUR: 'it returns false'. Refute it at one input. -/
def bagsDensestWrong : ChangeSpec := { name := "bagsDensest", fn := fun _ => fun
  | [d1, d2] => { results := [.lit (.bool false)], args := [d1, d2] }
  | _ => none }
def BagsDensestWrongFalsely : Prop := bagsDensestRow.holds Try.pinned (OpenSpec.ofChange bagsDensestWrong)

/-- 'lampboxlaw01.BagsChecks': WHATEVER THE INPUT: true; the input reads as it did. -/
def bagsChecksSpec : ChangeSpec := { name := "bagsChecks", fn := fun _ => fun
  | [d1, d2, d3] => { results := [.lit (.bool true)], args := [d1, d2, d3] }
  | _ => none }
def bagsChecksRow : OpenClaim := { program := "ytibegggcinonkaa", sum := "4a9ff0c500ccab5a289decec7cabc518095ece68ed4953a9d3ec5014dfe00a3f", func := "lampbox/lampboxlaw01.BagsChecks", spec := "bagsChecks", unfollowed := true, recurses := true, plainKeys := false, apart := false }
def BagsChecksSaid : Prop := bagsChecksRow.holds Try.pinned (OpenSpec.ofChange bagsChecksSpec)

/-- ITS FALSE NEIGHBOUR: 'it returns false'. Refute it at one input. -/
def bagsChecksWrong : ChangeSpec := { name := "bagsChecks", fn := fun _ => fun
  | [d1, d2, d3] => { results := [.lit (.bool false)], args := [d1, d2, d3] }
  | _ => none }
def BagsChecksWrongFalsely : Prop := bagsChecksRow.holds Try.pinned (OpenSpec.ofChange bagsChecksWrong)

/- THE SECOND FORM. 'bulk': how many values and letters a reading holds, each counted each time it is reached (what is shared counts as often as it is met; a slice's spare places count too). A statement '..UptoSaid' is the law's where the arguments, and the package variables that the reading takes, are together of bulk at most 1048576: NARROWER than '..Said'. Prove '..Said' where nothing that the law and all that it calls make is longer than what came in: it says more and counts as full. Else prove '..UptoSaid'. A law counts once. -/
mutual
def uptoBulk {H : Type} : DataW H → Nat
  | .lit (.string bytes) => bytes.length + 1
  | .lit _ => 1
  | .nil => 1
  | .ptr d => uptoBulk d + 1
  | .slice elems spare => uptoBulkAll elems + uptoBulkAll spare + 1
  | .agg parts => uptoBulkAll parts + 1
  | .iface _ d => uptoBulk d + 1
  | .map entries => uptoBulkEntries entries + 1
  | .held _ => 1
def uptoBulkAll {H : Type} : List (DataW H) → Nat
  | [] => 0
  | d :: r => uptoBulk d + uptoBulkAll r
def uptoBulkEntries {H : Type} : List (Lit × DataW H) → Nat
  | [] => 0
  | x :: r => uptoBulkEntry x + uptoBulkEntries r
def uptoBulkEntry {H : Type} : Lit × DataW H → Nat
  | (.string bytes, d) => bytes.length + uptoBulk d + 1
  | (_, d) => uptoBulk d + 1
 end
def uptoSmall : (H : Type) → List (DataW H) → Bool := fun _ ds => decide (uptoBulkAll ds ≤ 1048576)
def OpenSpec.upto (s : _root_.Go.ChangeSpec) : _root_.Go.OpenSpec := { _root_.Go.OpenSpec.ofChange s with cond := some uptoSmall }

/-- 'lampboxlaw01.BagsHeights', WHERE WHAT IT READS IS OF BULK AT MOST 1048576: true; the input reads as it did. -/
def bagsHeightsUptoRow : OpenClaim := { program := "ytibegggcinonkaa", sum := "4a9ff0c500ccab5a289decec7cabc518095ece68ed4953a9d3ec5014dfe00a3f", func := "lampbox/lampboxlaw01.BagsHeights", spec := "bagsHeights", unfollowed := true, recurses := true, plainKeys := false, apart := false, narrowed := true }
def BagsHeightsUptoSaid : Prop := bagsHeightsUptoRow.holds Try.pinned (OpenSpec.upto bagsHeightsSpec)

/-- 'lampboxlaw01.BagsCores', WHERE WHAT IT READS IS OF BULK AT MOST 1048576: true; the input reads as it did. -/
def bagsCoresUptoRow : OpenClaim := { program := "ytibegggcinonkaa", sum := "4a9ff0c500ccab5a289decec7cabc518095ece68ed4953a9d3ec5014dfe00a3f", func := "lampbox/lampboxlaw01.BagsCores", spec := "bagsCores", unfollowed := true, recurses := true, plainKeys := false, apart := false, narrowed := true }
def BagsCoresUptoSaid : Prop := bagsCoresUptoRow.holds Try.pinned (OpenSpec.upto bagsCoresSpec)

/-- 'lampboxlaw01.BagsBeside', WHERE WHAT IT READS IS OF BULK AT MOST 1048576: true; the input reads as it did. -/
def bagsBesideUptoRow : OpenClaim := { program := "ytibegggcinonkaa", sum := "4a9ff0c500ccab5a289decec7cabc518095ece68ed4953a9d3ec5014dfe00a3f", func := "lampbox/lampboxlaw01.BagsBeside", spec := "bagsBeside", unfollowed := true, recurses := true, plainKeys := false, apart := false, narrowed := true }
def BagsBesideUptoSaid : Prop := bagsBesideUptoRow.holds Try.pinned (OpenSpec.upto bagsBesideSpec)

/-- 'lampboxlaw01.BagsGreatest', WHERE WHAT IT READS IS OF BULK AT MOST 1048576: true; the input reads as it did. -/
def bagsGreatestUptoRow : OpenClaim := { program := "ytibegggcinonkaa", sum := "4a9ff0c500ccab5a289decec7cabc518095ece68ed4953a9d3ec5014dfe00a3f", func := "lampbox/lampboxlaw01.BagsGreatest", spec := "bagsGreatest", unfollowed := true, recurses := true, plainKeys := false, apart := false, narrowed := true }
def BagsGreatestUptoSaid : Prop := bagsGreatestUptoRow.holds Try.pinned (OpenSpec.upto bagsGreatestSpec)

/-- 'lampboxlaw01.BagsOrients', WHERE WHAT IT READS IS OF BULK AT MOST 1048576: true; the input reads as it did. -/
def bagsOrientsUptoRow : OpenClaim := { program := "ytibegggcinonkaa", sum := "4a9ff0c500ccab5a289decec7cabc518095ece68ed4953a9d3ec5014dfe00a3f", func := "lampbox/lampboxlaw01.BagsOrients", spec := "bagsOrients", unfollowed := true, recurses := true, plainKeys := false, apart := false, narrowed := true }
def BagsOrientsUptoSaid : Prop := bagsOrientsUptoRow.holds Try.pinned (OpenSpec.upto bagsOrientsSpec)

/-- 'lampboxlaw01.BagsMore', WHERE WHAT IT READS IS OF BULK AT MOST 1048576: true; the input reads as it did. -/
def bagsMoreUptoRow : OpenClaim := { program := "ytibegggcinonkaa", sum := "4a9ff0c500ccab5a289decec7cabc518095ece68ed4953a9d3ec5014dfe00a3f", func := "lampbox/lampboxlaw01.BagsMore", spec := "bagsMore", unfollowed := true, recurses := true, plainKeys := false, apart := false, narrowed := true }
def BagsMoreUptoSaid : Prop := bagsMoreUptoRow.holds Try.pinned (OpenSpec.upto bagsMoreSpec)

/-- 'lampboxlaw01.BagsBetween', WHERE WHAT IT READS IS OF BULK AT MOST 1048576: true; the input reads as it did. -/
def bagsBetweenUptoRow : OpenClaim := { program := "ytibegggcinonkaa", sum := "4a9ff0c500ccab5a289decec7cabc518095ece68ed4953a9d3ec5014dfe00a3f", func := "lampbox/lampboxlaw01.BagsBetween", spec := "bagsBetween", unfollowed := true, recurses := true, plainKeys := false, apart := false, narrowed := true }
def BagsBetweenUptoSaid : Prop := bagsBetweenUptoRow.holds Try.pinned (OpenSpec.upto bagsBetweenSpec)

/-- 'lampboxlaw01.BagsHeads', WHERE WHAT IT READS IS OF BULK AT MOST 1048576: true; the input reads as it did. -/
def bagsHeadsUptoRow : OpenClaim := { program := "ytibegggcinonkaa", sum := "4a9ff0c500ccab5a289decec7cabc518095ece68ed4953a9d3ec5014dfe00a3f", func := "lampbox/lampboxlaw01.BagsHeads", spec := "bagsHeads", unfollowed := true, recurses := true, plainKeys := false, apart := false, narrowed := true }
def BagsHeadsUptoSaid : Prop := bagsHeadsUptoRow.holds Try.pinned (OpenSpec.upto bagsHeadsSpec)

/-- 'lampboxlaw01.BagsOwn', WHERE WHAT IT READS IS OF BULK AT MOST 1048576: true; the input reads as it did. -/
def bagsOwnUptoRow : OpenClaim := { program := "ytibegggcinonkaa", sum := "4a9ff0c500ccab5a289decec7cabc518095ece68ed4953a9d3ec5014dfe00a3f", func := "lampbox/lampboxlaw01.BagsOwn", spec := "bagsOwn", unfollowed := true, recurses := true, plainKeys := false, apart := false, narrowed := true }
def BagsOwnUptoSaid : Prop := bagsOwnUptoRow.holds Try.pinned (OpenSpec.upto bagsOwnSpec)

/-- 'lampboxlaw01.BagsDensest', WHERE WHAT IT READS IS OF BULK AT MOST 1048576: true; the input reads as it did. -/
def bagsDensestUptoRow : OpenClaim := { program := "ytibegggcinonkaa", sum := "4a9ff0c500ccab5a289decec7cabc518095ece68ed4953a9d3ec5014dfe00a3f", func := "lampbox/lampboxlaw01.BagsDensest", spec := "bagsDensest", unfollowed := true, recurses := true, plainKeys := false, apart := false, narrowed := true }
def BagsDensestUptoSaid : Prop := bagsDensestUptoRow.holds Try.pinned (OpenSpec.upto bagsDensestSpec)

/-- 'lampboxlaw01.BagsChecks', WHERE WHAT IT READS IS OF BULK AT MOST 1048576: true; the input reads as it did. -/
def bagsChecksUptoRow : OpenClaim := { program := "ytibegggcinonkaa", sum := "4a9ff0c500ccab5a289decec7cabc518095ece68ed4953a9d3ec5014dfe00a3f", func := "lampbox/lampboxlaw01.BagsChecks", spec := "bagsChecks", unfollowed := true, recurses := true, plainKeys := false, apart := false, narrowed := true }
def BagsChecksUptoSaid : Prop := bagsChecksUptoRow.holds Try.pinned (OpenSpec.upto bagsChecksSpec)

end Rows
end Go.Proofs.Ytibegggcinonkaa
