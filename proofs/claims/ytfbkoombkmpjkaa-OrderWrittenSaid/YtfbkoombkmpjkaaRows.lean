/-
  No cell of these rows narrows 'for every input' (looked for: loops, veiled, ifaces, maps, wideKeys, modest, calm, conditions, laid).
  DERIVED. THE GIVEN ROWS OF THIS SEAT. 12 by the template 'for every input the law returns true; each argument reads behind the call as it read before'; 0 by the template 'total and deterministic' (their statements: YtfbkoombkmpjkaaTotals.lean).
  GIVEN WITH THE SEED: the statements are not yours to turn. If you find one false, say at which input.
  Laid BY PROGRAM, IN A SANDBOX (cutbox-rows.mjs): the forced cells as the released guide's own fill.sh prints them over the translation 37a2ba29ac075678… (all of the seat's roots in one cut). By AI agents, Wed Nov 11 2026. No macro, syntax, notation, axiom, sorry.
-/
import Derived.Test.YtfbkoombkmpjkaaChecked
import GoSem.Claim
import GoSem.ClaimJoined
import GoSem.ClaimMapViews
import Derived.JoinedTies
import Derived.KernelRfl
namespace Go.Proofs.Ytfbkoombkmpjkaa
/- THE CELL 'sum', in the pinned program and in every row, IS THE sha256 OF THE DUMP (.gsa) THAT YtfbkoombkmpjkaaProg.lean LOADS. Nothing in Lean hashes anything: it is a label: what it is worth is what the hold of that sum in a sandbox is worth. -/
noncomputable def Try.pinned : Pinned := { name := "ytfbkoombkmpjkaa", sum := "37a2ba29ac0756786fc11d35801b059996a801816d63923fde40d46f169c09a9", checked := Try.checked }
namespace Rows
def none {H : Type} : Left H := { results := [], args := [] }

/-- 'lampboxlaw06.OrderSums': WHATEVER THE INPUT: true; the input reads as it did. -/
def orderSumsSpec : ChangeSpec := { name := "orderSums", fn := fun _ => fun
  | [d1, d2] => { results := [.lit (.bool true)], args := [d1, d2] }
  | _ => none }
def orderSumsRow : OpenClaim := { program := "ytfbkoombkmpjkaa", sum := "37a2ba29ac0756786fc11d35801b059996a801816d63923fde40d46f169c09a9", func := "lampbox/lampboxlaw06.OrderSums", spec := "orderSums", unfollowed := true, recurses := true, apart := false }
def OrderSumsSaid : Prop := orderSumsRow.holds Try.pinned (OpenSpec.ofChange orderSumsSpec)

/-- ITS FALSE NEIGHBOUR: 'it returns false'. Refute it at one input. -/
def orderSumsWrong : ChangeSpec := { name := "orderSums", fn := fun _ => fun
  | [d1, d2] => { results := [.lit (.bool false)], args := [d1, d2] }
  | _ => none }
def OrderSumsWrongFalsely : Prop := orderSumsRow.holds Try.pinned (OpenSpec.ofChange orderSumsWrong)

/-- 'lampboxlaw06.OrderInverse': WHATEVER THE INPUT: true; the input reads as it did. -/
def orderInverseSpec : ChangeSpec := { name := "orderInverse", fn := fun _ => fun
  | [d] => { results := [.lit (.bool true)], args := [d] }
  | _ => none }
def orderInverseRow : OpenClaim := { program := "ytfbkoombkmpjkaa", sum := "37a2ba29ac0756786fc11d35801b059996a801816d63923fde40d46f169c09a9", func := "lampbox/lampboxlaw06.OrderInverse", spec := "orderInverse", unfollowed := true, recurses := true, apart := false }
def OrderInverseSaid : Prop := orderInverseRow.holds Try.pinned (OpenSpec.ofChange orderInverseSpec)

/-- ITS FALSE NEIGHBOUR: 'it returns false'. Refute it at one input. -/
def orderInverseWrong : ChangeSpec := { name := "orderInverse", fn := fun _ => fun
  | [d] => { results := [.lit (.bool false)], args := [d] }
  | _ => none }
def OrderInverseWrongFalsely : Prop := orderInverseRow.holds Try.pinned (OpenSpec.ofChange orderInverseWrong)

/-- 'lampboxlaw06.OrderWritten': WHATEVER THE INPUT: true; the input reads as it did. -/
def orderWrittenSpec : ChangeSpec := { name := "orderWritten", fn := fun _ => fun
  | [d] => { results := [.lit (.bool true)], args := [d] }
  | _ => none }
def orderWrittenRow : OpenClaim := { program := "ytfbkoombkmpjkaa", sum := "37a2ba29ac0756786fc11d35801b059996a801816d63923fde40d46f169c09a9", func := "lampbox/lampboxlaw06.OrderWritten", spec := "orderWritten", unfollowed := true, recurses := true, apart := false }
def OrderWrittenSaid : Prop := orderWrittenRow.holds Try.pinned (OpenSpec.ofChange orderWrittenSpec)

/-- ITS FALSE NEIGHBOUR: 'it returns false'. Refute it at one input. -/
def orderWrittenWrong : ChangeSpec := { name := "orderWritten", fn := fun _ => fun
  | [d] => { results := [.lit (.bool false)], args := [d] }
  | _ => none }
def OrderWrittenWrongFalsely : Prop := orderWrittenRow.holds Try.pinned (OpenSpec.ofChange orderWrittenWrong)

/-- 'lampboxlaw06.OrderTables': WHATEVER THE INPUT: true; the input reads as it did. -/
def orderTablesSpec : ChangeSpec := { name := "orderTables", fn := fun _ => fun
  | [d] => { results := [.lit (.bool true)], args := [d] }
  | _ => none }
def orderTablesRow : OpenClaim := { program := "ytfbkoombkmpjkaa", sum := "37a2ba29ac0756786fc11d35801b059996a801816d63923fde40d46f169c09a9", func := "lampbox/lampboxlaw06.OrderTables", spec := "orderTables", unfollowed := true, recurses := true, apart := false }
def OrderTablesSaid : Prop := orderTablesRow.holds Try.pinned (OpenSpec.ofChange orderTablesSpec)

/-- ITS FALSE NEIGHBOUR: 'it returns false'. Refute it at one input. -/
def orderTablesWrong : ChangeSpec := { name := "orderTables", fn := fun _ => fun
  | [d] => { results := [.lit (.bool false)], args := [d] }
  | _ => none }
def OrderTablesWrongFalsely : Prop := orderTablesRow.holds Try.pinned (OpenSpec.ofChange orderTablesWrong)

/-- 'lampboxlaw06.OrderNumbers': WHATEVER THE INPUT: true; the input reads as it did. -/
def orderNumbersSpec : ChangeSpec := { name := "orderNumbers", fn := fun _ => fun
  | [d] => { results := [.lit (.bool true)], args := [d] }
  | _ => none }
def orderNumbersRow : OpenClaim := { program := "ytfbkoombkmpjkaa", sum := "37a2ba29ac0756786fc11d35801b059996a801816d63923fde40d46f169c09a9", func := "lampbox/lampboxlaw06.OrderNumbers", spec := "orderNumbers", unfollowed := true, recurses := true, apart := false }
def OrderNumbersSaid : Prop := orderNumbersRow.holds Try.pinned (OpenSpec.ofChange orderNumbersSpec)

/-- ITS FALSE NEIGHBOUR: 'it returns false'. Refute it at one input. -/
def orderNumbersWrong : ChangeSpec := { name := "orderNumbers", fn := fun _ => fun
  | [d] => { results := [.lit (.bool false)], args := [d] }
  | _ => none }
def OrderNumbersWrongFalsely : Prop := orderNumbersRow.holds Try.pinned (OpenSpec.ofChange orderNumbersWrong)

/-- 'lampboxlaw06.OrderCounts': WHATEVER THE INPUT: true; the input reads as it did. -/
def orderCountsSpec : ChangeSpec := { name := "orderCounts", fn := fun _ => fun
  | [d1, d2] => { results := [.lit (.bool true)], args := [d1, d2] }
  | _ => none }
def orderCountsRow : OpenClaim := { program := "ytfbkoombkmpjkaa", sum := "37a2ba29ac0756786fc11d35801b059996a801816d63923fde40d46f169c09a9", func := "lampbox/lampboxlaw06.OrderCounts", spec := "orderCounts", unfollowed := true, recurses := true, apart := false }
def OrderCountsSaid : Prop := orderCountsRow.holds Try.pinned (OpenSpec.ofChange orderCountsSpec)

/-- ITS FALSE NEIGHBOUR: 'it returns false'. Refute it at one input. -/
def orderCountsWrong : ChangeSpec := { name := "orderCounts", fn := fun _ => fun
  | [d1, d2] => { results := [.lit (.bool false)], args := [d1, d2] }
  | _ => none }
def OrderCountsWrongFalsely : Prop := orderCountsRow.holds Try.pinned (OpenSpec.ofChange orderCountsWrong)

/-- 'lampboxlaw06.OrderNext': WHATEVER THE INPUT: true; the input reads as it did. -/
def orderNextSpec : ChangeSpec := { name := "orderNext", fn := fun _ => fun
  | [d1, d2] => { results := [.lit (.bool true)], args := [d1, d2] }
  | _ => none }
def orderNextRow : OpenClaim := { program := "ytfbkoombkmpjkaa", sum := "37a2ba29ac0756786fc11d35801b059996a801816d63923fde40d46f169c09a9", func := "lampbox/lampboxlaw06.OrderNext", spec := "orderNext", unfollowed := true, recurses := true, apart := false }
def OrderNextSaid : Prop := orderNextRow.holds Try.pinned (OpenSpec.ofChange orderNextSpec)

/-- ITS FALSE NEIGHBOUR: 'it returns false'. Refute it at one input. -/
def orderNextWrong : ChangeSpec := { name := "orderNext", fn := fun _ => fun
  | [d1, d2] => { results := [.lit (.bool false)], args := [d1, d2] }
  | _ => none }
def OrderNextWrongFalsely : Prop := orderNextRow.holds Try.pinned (OpenSpec.ofChange orderNextWrong)

/-- 'lampboxlaw06.OrderAll': WHATEVER THE INPUT: true; the input reads as it did. -/
def orderAllSpec : ChangeSpec := { name := "orderAll", fn := fun _ => fun
  | [d] => { results := [.lit (.bool true)], args := [d] }
  | _ => none }
def orderAllRow : OpenClaim := { program := "ytfbkoombkmpjkaa", sum := "37a2ba29ac0756786fc11d35801b059996a801816d63923fde40d46f169c09a9", func := "lampbox/lampboxlaw06.OrderAll", spec := "orderAll", unfollowed := true, recurses := true, apart := false }
def OrderAllSaid : Prop := orderAllRow.holds Try.pinned (OpenSpec.ofChange orderAllSpec)

/-- ITS FALSE NEIGHBOUR: 'it returns false'. Refute it at one input. -/
def orderAllWrong : ChangeSpec := { name := "orderAll", fn := fun _ => fun
  | [d] => { results := [.lit (.bool false)], args := [d] }
  | _ => none }
def OrderAllWrongFalsely : Prop := orderAllRow.holds Try.pinned (OpenSpec.ofChange orderAllWrong)

/-- 'lampboxlaw06.OrderOwn': WHATEVER THE INPUT: true; the input reads as it did. -/
def orderOwnSpec : ChangeSpec := { name := "orderOwn", fn := fun _ => fun
  | [d] => { results := [.lit (.bool true)], args := [d] }
  | _ => none }
def orderOwnRow : OpenClaim := { program := "ytfbkoombkmpjkaa", sum := "37a2ba29ac0756786fc11d35801b059996a801816d63923fde40d46f169c09a9", func := "lampbox/lampboxlaw06.OrderOwn", spec := "orderOwn", unfollowed := true, recurses := true, apart := false }
def OrderOwnSaid : Prop := orderOwnRow.holds Try.pinned (OpenSpec.ofChange orderOwnSpec)

/-- ITS FALSE NEIGHBOUR: 'it returns false'. Refute it at one input. -/
def orderOwnWrong : ChangeSpec := { name := "orderOwn", fn := fun _ => fun
  | [d] => { results := [.lit (.bool false)], args := [d] }
  | _ => none }
def OrderOwnWrongFalsely : Prop := orderOwnRow.holds Try.pinned (OpenSpec.ofChange orderOwnWrong)

/-- 'lampboxlaw06.OrderFoata': WHATEVER THE INPUT: true; the input reads as it did. -/
def orderFoataSpec : ChangeSpec := { name := "orderFoata", fn := fun _ => fun
  | [d] => { results := [.lit (.bool true)], args := [d] }
  | _ => none }
def orderFoataRow : OpenClaim := { program := "ytfbkoombkmpjkaa", sum := "37a2ba29ac0756786fc11d35801b059996a801816d63923fde40d46f169c09a9", func := "lampbox/lampboxlaw06.OrderFoata", spec := "orderFoata", unfollowed := true, recurses := true, apart := false }
def OrderFoataSaid : Prop := orderFoataRow.holds Try.pinned (OpenSpec.ofChange orderFoataSpec)

/-- ITS FALSE NEIGHBOUR: 'it returns false'. Refute it at one input. -/
def orderFoataWrong : ChangeSpec := { name := "orderFoata", fn := fun _ => fun
  | [d] => { results := [.lit (.bool false)], args := [d] }
  | _ => none }
def OrderFoataWrongFalsely : Prop := orderFoataRow.holds Try.pinned (OpenSpec.ofChange orderFoataWrong)

/-- 'lampboxlaw06.OrderTurned': WHATEVER THE INPUT: true; the input reads as it did. -/
def orderTurnedSpec : ChangeSpec := { name := "orderTurned", fn := fun _ => fun
  | [d] => { results := [.lit (.bool true)], args := [d] }
  | _ => none }
def orderTurnedRow : OpenClaim := { program := "ytfbkoombkmpjkaa", sum := "37a2ba29ac0756786fc11d35801b059996a801816d63923fde40d46f169c09a9", func := "lampbox/lampboxlaw06.OrderTurned", spec := "orderTurned", unfollowed := true, recurses := true, apart := false }
def OrderTurnedSaid : Prop := orderTurnedRow.holds Try.pinned (OpenSpec.ofChange orderTurnedSpec)

/-- ITS FALSE NEIGHBOUR: 'it returns false'. Refute it at one input. -/
def orderTurnedWrong : ChangeSpec := { name := "orderTurned", fn := fun _ => fun
  | [d] => { results := [.lit (.bool false)], args := [d] }
  | _ => none }
def OrderTurnedWrongFalsely : Prop := orderTurnedRow.holds Try.pinned (OpenSpec.ofChange orderTurnedWrong)

/-- 'lampboxlaw06.OrderTabled': WHATEVER THE INPUT: true; the input reads as it did. -/
def orderTabledSpec : ChangeSpec := { name := "orderTabled", fn := fun _ => fun
  | [d] => { results := [.lit (.bool true)], args := [d] }
  | _ => none }
def orderTabledRow : OpenClaim := { program := "ytfbkoombkmpjkaa", sum := "37a2ba29ac0756786fc11d35801b059996a801816d63923fde40d46f169c09a9", func := "lampbox/lampboxlaw06.OrderTabled", spec := "orderTabled", unfollowed := true, recurses := true, apart := false }
def OrderTabledSaid : Prop := orderTabledRow.holds Try.pinned (OpenSpec.ofChange orderTabledSpec)

/-- ITS FALSE NEIGHBOUR: 'it returns false'. Refute it at one input. -/
def orderTabledWrong : ChangeSpec := { name := "orderTabled", fn := fun _ => fun
  | [d] => { results := [.lit (.bool false)], args := [d] }
  | _ => none }
def OrderTabledWrongFalsely : Prop := orderTabledRow.holds Try.pinned (OpenSpec.ofChange orderTabledWrong)

/- THE SECOND FORM. 'bulk': how many values and letters a reading holds, each counted each time it is reached (what is shared counts as often as it is met; a slice's spare places count too). A statement '..UptoSaid' is the law's where the arguments, and the package variables that the reading takes, are together of bulk at most 1048576: NARROWER than '..Said'. Prove '..Said' where nothing that the law and all that it calls make is longer than what came in: it says more and counts as full. Else prove '..UptoSaid'. A law counts once. -/
mutual
def uptoBulk {H : Type} : DataW H → Nat
  | .lit (.string bytes) => bytes.length + 1
  | .lit _ => 1
  | .nil => 1
  | .ptr d => uptoBulk d + 1
  | .slice elems spare => uptoBulkAll elems + uptoBulkAll spare + 1
  | .agg parts => uptoBulkAll parts + 1
  | .iface _ d => uptoBulk d + 1
  | .map entries => uptoBulkEntries entries + 1
  | .held _ => 1
def uptoBulkAll {H : Type} : List (DataW H) → Nat
  | [] => 0
  | d :: r => uptoBulk d + uptoBulkAll r
def uptoBulkEntries {H : Type} : List (Lit × DataW H) → Nat
  | [] => 0
  | x :: r => uptoBulkEntry x + uptoBulkEntries r
def uptoBulkEntry {H : Type} : Lit × DataW H → Nat
  | (.string bytes, d) => bytes.length + uptoBulk d + 1
  | (_, d) => uptoBulk d + 1
 end
def uptoSmall : (H : Type) → List (DataW H) → Bool := fun _ ds => decide (uptoBulkAll ds ≤ 1048576)
def OpenSpec.upto (s : _root_.Go.ChangeSpec) : _root_.Go.OpenSpec := { _root_.Go.OpenSpec.ofChange s with cond := some uptoSmall }

/-- 'lampboxlaw06.OrderSums', WHERE WHAT IT READS IS OF BULK AT MOST 1048576: true; the input reads as it did. -/
def orderSumsUptoRow : OpenClaim := { program := "ytfbkoombkmpjkaa", sum := "37a2ba29ac0756786fc11d35801b059996a801816d63923fde40d46f169c09a9", func := "lampbox/lampboxlaw06.OrderSums", spec := "orderSums", unfollowed := true, recurses := true, apart := false, narrowed := true }
def OrderSumsUptoSaid : Prop := orderSumsUptoRow.holds Try.pinned (OpenSpec.upto orderSumsSpec)

/-- 'lampboxlaw06.OrderInverse', WHERE WHAT IT READS IS OF BULK AT MOST 1048576: true; the input reads as it did. -/
def orderInverseUptoRow : OpenClaim := { program := "ytfbkoombkmpjkaa", sum := "37a2ba29ac0756786fc11d35801b059996a801816d63923fde40d46f169c09a9", func := "lampbox/lampboxlaw06.OrderInverse", spec := "orderInverse", unfollowed := true, recurses := true, apart := false, narrowed := true }
def OrderInverseUptoSaid : Prop := orderInverseUptoRow.holds Try.pinned (OpenSpec.upto orderInverseSpec)

/-- 'lampboxlaw06.OrderWritten', WHERE WHAT IT READS IS OF BULK AT MOST 1048576: true; the input reads as it did. -/
def orderWrittenUptoRow : OpenClaim := { program := "ytfbkoombkmpjkaa", sum := "37a2ba29ac0756786fc11d35801b059996a801816d63923fde40d46f169c09a9", func := "lampbox/lampboxlaw06.OrderWritten", spec := "orderWritten", unfollowed := true, recurses := true, apart := false, narrowed := true }
def OrderWrittenUptoSaid : Prop := orderWrittenUptoRow.holds Try.pinned (OpenSpec.upto orderWrittenSpec)

/-- 'lampboxlaw06.OrderTables', WHERE WHAT IT READS IS OF BULK AT MOST 1048576: true; the input reads as it did. -/
def orderTablesUptoRow : OpenClaim := { program := "ytfbkoombkmpjkaa", sum := "37a2ba29ac0756786fc11d35801b059996a801816d63923fde40d46f169c09a9", func := "lampbox/lampboxlaw06.OrderTables", spec := "orderTables", unfollowed := true, recurses := true, apart := false, narrowed := true }
def OrderTablesUptoSaid : Prop := orderTablesUptoRow.holds Try.pinned (OpenSpec.upto orderTablesSpec)

/-- 'lampboxlaw06.OrderNumbers', WHERE WHAT IT READS IS OF BULK AT MOST 1048576: true; the input reads as it did. -/
def orderNumbersUptoRow : OpenClaim := { program := "ytfbkoombkmpjkaa", sum := "37a2ba29ac0756786fc11d35801b059996a801816d63923fde40d46f169c09a9", func := "lampbox/lampboxlaw06.OrderNumbers", spec := "orderNumbers", unfollowed := true, recurses := true, apart := false, narrowed := true }
def OrderNumbersUptoSaid : Prop := orderNumbersUptoRow.holds Try.pinned (OpenSpec.upto orderNumbersSpec)

/-- 'lampboxlaw06.OrderCounts', WHERE WHAT IT READS IS OF BULK AT MOST 1048576: true; the input reads as it did. -/
def orderCountsUptoRow : OpenClaim := { program := "ytfbkoombkmpjkaa", sum := "37a2ba29ac0756786fc11d35801b059996a801816d63923fde40d46f169c09a9", func := "lampbox/lampboxlaw06.OrderCounts", spec := "orderCounts", unfollowed := true, recurses := true, apart := false, narrowed := true }
def OrderCountsUptoSaid : Prop := orderCountsUptoRow.holds Try.pinned (OpenSpec.upto orderCountsSpec)

/-- 'lampboxlaw06.OrderNext', WHERE WHAT IT READS IS OF BULK AT MOST 1048576: true; the input reads as it did. -/
def orderNextUptoRow : OpenClaim := { program := "ytfbkoombkmpjkaa", sum := "37a2ba29ac0756786fc11d35801b059996a801816d63923fde40d46f169c09a9", func := "lampbox/lampboxlaw06.OrderNext", spec := "orderNext", unfollowed := true, recurses := true, apart := false, narrowed := true }
def OrderNextUptoSaid : Prop := orderNextUptoRow.holds Try.pinned (OpenSpec.upto orderNextSpec)

/-- 'lampboxlaw06.OrderAll', WHERE WHAT IT READS IS OF BULK AT MOST 1048576: true; the input reads as it did. -/
def orderAllUptoRow : OpenClaim := { program := "ytfbkoombkmpjkaa", sum := "37a2ba29ac0756786fc11d35801b059996a801816d63923fde40d46f169c09a9", func := "lampbox/lampboxlaw06.OrderAll", spec := "orderAll", unfollowed := true, recurses := true, apart := false, narrowed := true }
def OrderAllUptoSaid : Prop := orderAllUptoRow.holds Try.pinned (OpenSpec.upto orderAllSpec)

/-- 'lampboxlaw06.OrderOwn', WHERE WHAT IT READS IS OF BULK AT MOST 1048576: true; the input reads as it did. -/
def orderOwnUptoRow : OpenClaim := { program := "ytfbkoombkmpjkaa", sum := "37a2ba29ac0756786fc11d35801b059996a801816d63923fde40d46f169c09a9", func := "lampbox/lampboxlaw06.OrderOwn", spec := "orderOwn", unfollowed := true, recurses := true, apart := false, narrowed := true }
def OrderOwnUptoSaid : Prop := orderOwnUptoRow.holds Try.pinned (OpenSpec.upto orderOwnSpec)

/-- 'lampboxlaw06.OrderFoata', WHERE WHAT IT READS IS OF BULK AT MOST 1048576: true; the input reads as it did. -/
def orderFoataUptoRow : OpenClaim := { program := "ytfbkoombkmpjkaa", sum := "37a2ba29ac0756786fc11d35801b059996a801816d63923fde40d46f169c09a9", func := "lampbox/lampboxlaw06.OrderFoata", spec := "orderFoata", unfollowed := true, recurses := true, apart := false, narrowed := true }
def OrderFoataUptoSaid : Prop := orderFoataUptoRow.holds Try.pinned (OpenSpec.upto orderFoataSpec)

/-- 'lampboxlaw06.OrderTurned', WHERE WHAT IT READS IS OF BULK AT MOST 1048576: true; the input reads as it did. -/
def orderTurnedUptoRow : OpenClaim := { program := "ytfbkoombkmpjkaa", sum := "37a2ba29ac0756786fc11d35801b059996a801816d63923fde40d46f169c09a9", func := "lampbox/lampboxlaw06.OrderTurned", spec := "orderTurned", unfollowed := true, recurses := true, apart := false, narrowed := true }
def OrderTurnedUptoSaid : Prop := orderTurnedUptoRow.holds Try.pinned (OpenSpec.upto orderTurnedSpec)

/-- 'lampboxlaw06.OrderTabled', WHERE WHAT IT READS IS OF BULK AT MOST 1048576: true; the input reads as it did. -/
def orderTabledUptoRow : OpenClaim := { program := "ytfbkoombkmpjkaa", sum := "37a2ba29ac0756786fc11d35801b059996a801816d63923fde40d46f169c09a9", func := "lampbox/lampboxlaw06.OrderTabled", spec := "orderTabled", unfollowed := true, recurses := true, apart := false, narrowed := true }
def OrderTabledUptoSaid : Prop := orderTabledUptoRow.holds Try.pinned (OpenSpec.upto orderTabledSpec)

end Rows
end Go.Proofs.Ytfbkoombkmpjkaa
