/-
  No cell of these rows narrows 'for every input' (looked for: loops, veiled, ifaces, maps, wideKeys, modest, calm, conditions, laid).
  DERIVED. THE GIVEN ROWS OF THIS SEAT. 6 by the template 'for every input the law returns true; each argument reads behind the call as it read before'; 0 by the template 'total and deterministic' (their statements: YtocgehoffdjijaaGreatTotals.lean).
  GIVEN WITH THE SEED: the statements are not yours to turn. If you find one false, say at which input.
  Laid BY PROGRAM, IN A SANDBOX (cutbox-rows.mjs): the forced cells as the released guide's own fill.sh prints them over the translation c942fc2d58c0667b… (all of the seat's roots in one cut). By AI agents, Wed Nov 11 2026. No macro, syntax, notation, axiom, sorry.
-/
import Derived.Test.YtocgehoffdjijaaGreatChecked
import GoSem.Claim
import GoSem.ClaimJoined
import GoSem.ClaimMapViews
import Derived.JoinedTies
import Derived.KernelRfl
namespace Go.Proofs.YtocgehoffdjijaaGreat
/- THE CELL 'sum', in the pinned program and in every row, IS THE sha256 OF THE DUMP (.gsa) THAT YtocgehoffdjijaaGreatProg.lean LOADS. Nothing in Lean hashes anything: it is a label: what it is worth is what the hold of that sum in a sandbox is worth. -/
noncomputable def Tryz.pinned : Pinned := { name := "ytocgehoffdjijaagreat", sum := "c942fc2d58c0667bff55037be031bfab0aa69302b46cce2d97d6cc8b9d464d2f", checked := Tryz.checked }
namespace Rows
def none {H : Type} : Left H := { results := [], args := [] }

/-- 'lampboxtop.TopForked': WHATEVER THE INPUT: true; the input reads as it did. -/
def topForkedSpec : ChangeSpec := { name := "topForked", fn := fun _ => fun
  | [d1, d2] => { results := [.lit (.bool true)], args := [d1, d2] }
  | _ => none }
def topForkedRow : OpenClaim := { program := "ytocgehoffdjijaagreat", sum := "c942fc2d58c0667bff55037be031bfab0aa69302b46cce2d97d6cc8b9d464d2f", func := "lampbox/lampboxtop.TopForked", spec := "topForked", unfollowed := true, recurses := true, plainKeys := false, apart := false }
def TopForkedSaid : Prop := topForkedRow.holds Tryz.pinned (OpenSpec.ofChange topForkedSpec)

/-- ITS FALSE NEIGHBOUR: 'it returns false'. Refute it at one input. -/
def topForkedWrong : ChangeSpec := { name := "topForked", fn := fun _ => fun
  | [d1, d2] => { results := [.lit (.bool false)], args := [d1, d2] }
  | _ => none }
def TopForkedWrongFalsely : Prop := topForkedRow.holds Tryz.pinned (OpenSpec.ofChange topForkedWrong)

/-- 'lampboxtop.TopBranches': WHATEVER THE INPUT: true; the input reads as it did. -/
def topBranchesSpec : ChangeSpec := { name := "topBranches", fn := fun _ => fun
  | [d1, d2] => { results := [.lit (.bool true)], args := [d1, d2] }
  | _ => none }
def topBranchesRow : OpenClaim := { program := "ytocgehoffdjijaagreat", sum := "c942fc2d58c0667bff55037be031bfab0aa69302b46cce2d97d6cc8b9d464d2f", func := "lampbox/lampboxtop.TopBranches", spec := "topBranches", unfollowed := true, recurses := true, plainKeys := false, apart := false }
def TopBranchesSaid : Prop := topBranchesRow.holds Tryz.pinned (OpenSpec.ofChange topBranchesSpec)

/-- ITS FALSE NEIGHBOUR: 'it returns false'. Refute it at one input. -/
def topBranchesWrong : ChangeSpec := { name := "topBranches", fn := fun _ => fun
  | [d1, d2] => { results := [.lit (.bool false)], args := [d1, d2] }
  | _ => none }
def TopBranchesWrongFalsely : Prop := topBranchesRow.holds Tryz.pinned (OpenSpec.ofChange topBranchesWrong)

/-- 'lampboxtop.TopTours': WHATEVER THE INPUT: true; the input reads as it did. -/
def topToursSpec : ChangeSpec := { name := "topTours", fn := fun _ => fun
  | [d1, d2] => { results := [.lit (.bool true)], args := [d1, d2] }
  | _ => none }
def topToursRow : OpenClaim := { program := "ytocgehoffdjijaagreat", sum := "c942fc2d58c0667bff55037be031bfab0aa69302b46cce2d97d6cc8b9d464d2f", func := "lampbox/lampboxtop.TopTours", spec := "topTours", unfollowed := true, recurses := true, plainKeys := false, apart := false }
def TopToursSaid : Prop := topToursRow.holds Tryz.pinned (OpenSpec.ofChange topToursSpec)

/-- ITS FALSE NEIGHBOUR: 'it returns false'. Refute it at one input. -/
def topToursWrong : ChangeSpec := { name := "topTours", fn := fun _ => fun
  | [d1, d2] => { results := [.lit (.bool false)], args := [d1, d2] }
  | _ => none }
def TopToursWrongFalsely : Prop := topToursRow.holds Tryz.pinned (OpenSpec.ofChange topToursWrong)

/-- 'lampboxtop.TopCayley': WHATEVER THE INPUT: true; the input reads as it did. -/
def topCayleySpec : ChangeSpec := { name := "topCayley", fn := fun _ => fun
  | [d1, d2] => { results := [.lit (.bool true)], args := [d1, d2] }
  | _ => none }
def topCayleyRow : OpenClaim := { program := "ytocgehoffdjijaagreat", sum := "c942fc2d58c0667bff55037be031bfab0aa69302b46cce2d97d6cc8b9d464d2f", func := "lampbox/lampboxtop.TopCayley", spec := "topCayley", unfollowed := true, recurses := true, plainKeys := false, apart := false }
def TopCayleySaid : Prop := topCayleyRow.holds Tryz.pinned (OpenSpec.ofChange topCayleySpec)

/-- ITS FALSE NEIGHBOUR: 'it returns false'. Refute it at one input. -/
def topCayleyWrong : ChangeSpec := { name := "topCayley", fn := fun _ => fun
  | [d1, d2] => { results := [.lit (.bool false)], args := [d1, d2] }
  | _ => none }
def TopCayleyWrongFalsely : Prop := topCayleyRow.holds Tryz.pinned (OpenSpec.ofChange topCayleyWrong)

/-- 'lampboxtop.TopRobin': WHATEVER THE INPUT: true; the input reads as it did. -/
def topRobinSpec : ChangeSpec := { name := "topRobin", fn := fun _ => fun
  | [d] => { results := [.lit (.bool true)], args := [d] }
  | _ => none }
def topRobinRow : OpenClaim := { program := "ytocgehoffdjijaagreat", sum := "c942fc2d58c0667bff55037be031bfab0aa69302b46cce2d97d6cc8b9d464d2f", func := "lampbox/lampboxtop.TopRobin", spec := "topRobin", unfollowed := true, recurses := true, plainKeys := false, apart := false }
def TopRobinSaid : Prop := topRobinRow.holds Tryz.pinned (OpenSpec.ofChange topRobinSpec)

/-- ITS FALSE NEIGHBOUR: 'it returns false'. Refute it at one input. -/
def topRobinWrong : ChangeSpec := { name := "topRobin", fn := fun _ => fun
  | [d] => { results := [.lit (.bool false)], args := [d] }
  | _ => none }
def TopRobinWrongFalsely : Prop := topRobinRow.holds Tryz.pinned (OpenSpec.ofChange topRobinWrong)

/-- 'lampboxtop.TopSpanning': WHATEVER THE INPUT: true; the input reads as it did. -/
def topSpanningSpec : ChangeSpec := { name := "topSpanning", fn := fun _ => fun
  | [d1, d2] => { results := [.lit (.bool true)], args := [d1, d2] }
  | _ => none }
def topSpanningRow : OpenClaim := { program := "ytocgehoffdjijaagreat", sum := "c942fc2d58c0667bff55037be031bfab0aa69302b46cce2d97d6cc8b9d464d2f", func := "lampbox/lampboxtop.TopSpanning", spec := "topSpanning", unfollowed := true, recurses := true, plainKeys := false, apart := false }
def TopSpanningSaid : Prop := topSpanningRow.holds Tryz.pinned (OpenSpec.ofChange topSpanningSpec)

/-- ITS FALSE NEIGHBOUR: 'it returns false'. Refute it at one input. -/
def topSpanningWrong : ChangeSpec := { name := "topSpanning", fn := fun _ => fun
  | [d1, d2] => { results := [.lit (.bool false)], args := [d1, d2] }
  | _ => none }
def TopSpanningWrongFalsely : Prop := topSpanningRow.holds Tryz.pinned (OpenSpec.ofChange topSpanningWrong)

/- THE SECOND FORM. 'bulk': how many values and letters a reading holds, each counted each time it is reached (what is shared counts as often as it is met; a slice's spare places count too). A statement '..UptoSaid' is the law's where the arguments, and the package variables that the reading takes, are together of bulk at most 1048576: NARROWER than '..Said'. Prove '..Said' where nothing that the law and all that it calls make is longer than what came in: it says more and counts as full. Else prove '..UptoSaid'. A law counts once. -/
mutual
def uptoBulk {H : Type} : DataW H → Nat
  | .lit (.string bytes) => bytes.length + 1
  | .lit _ => 1
  | .nil => 1
  | .ptr d => uptoBulk d + 1
  | .slice elems spare => uptoBulkAll elems + uptoBulkAll spare + 1
  | .agg parts => uptoBulkAll parts + 1
  | .iface _ d => uptoBulk d + 1
  | .map entries => uptoBulkEntries entries + 1
  | .held _ => 1
def uptoBulkAll {H : Type} : List (DataW H) → Nat
  | [] => 0
  | d :: r => uptoBulk d + uptoBulkAll r
def uptoBulkEntries {H : Type} : List (Lit × DataW H) → Nat
  | [] => 0
  | x :: r => uptoBulkEntry x + uptoBulkEntries r
def uptoBulkEntry {H : Type} : Lit × DataW H → Nat
  | (.string bytes, d) => bytes.length + uptoBulk d + 1
  | (_, d) => uptoBulk d + 1
 end
def uptoSmall : (H : Type) → List (DataW H) → Bool := fun _ ds => decide (uptoBulkAll ds ≤ 1048576)
def OpenSpec.upto (s : _root_.Go.ChangeSpec) : _root_.Go.OpenSpec := { _root_.Go.OpenSpec.ofChange s with cond := some uptoSmall }

/-- 'lampboxtop.TopForked', WHERE WHAT IT READS IS OF BULK AT MOST 1048576: true; the input reads as it did. -/
def topForkedUptoRow : OpenClaim := { program := "ytocgehoffdjijaagreat", sum := "c942fc2d58c0667bff55037be031bfab0aa69302b46cce2d97d6cc8b9d464d2f", func := "lampbox/lampboxtop.TopForked", spec := "topForked", unfollowed := true, recurses := true, plainKeys := false, apart := false, narrowed := true }
def TopForkedUptoSaid : Prop := topForkedUptoRow.holds Tryz.pinned (OpenSpec.upto topForkedSpec)

/-- 'lampboxtop.TopBranches', WHERE WHAT IT READS IS OF BULK AT MOST 1048576: true; the input reads as it did. -/
def topBranchesUptoRow : OpenClaim := { program := "ytocgehoffdjijaagreat", sum := "c942fc2d58c0667bff55037be031bfab0aa69302b46cce2d97d6cc8b9d464d2f", func := "lampbox/lampboxtop.TopBranches", spec := "topBranches", unfollowed := true, recurses := true, plainKeys := false, apart := false, narrowed := true }
def TopBranchesUptoSaid : Prop := topBranchesUptoRow.holds Tryz.pinned (OpenSpec.upto topBranchesSpec)

/-- 'lampboxtop.TopTours', WHERE WHAT IT READS IS OF BULK AT MOST 1048576: true; the input reads as it did. -/
def topToursUptoRow : OpenClaim := { program := "ytocgehoffdjijaagreat", sum := "c942fc2d58c0667bff55037be031bfab0aa69302b46cce2d97d6cc8b9d464d2f", func := "lampbox/lampboxtop.TopTours", spec := "topTours", unfollowed := true, recurses := true, plainKeys := false, apart := false, narrowed := true }
def TopToursUptoSaid : Prop := topToursUptoRow.holds Tryz.pinned (OpenSpec.upto topToursSpec)

/-- 'lampboxtop.TopCayley', WHERE WHAT IT READS IS OF BULK AT MOST 1048576: true; the input reads as it did. -/
def topCayleyUptoRow : OpenClaim := { program := "ytocgehoffdjijaagreat", sum := "c942fc2d58c0667bff55037be031bfab0aa69302b46cce2d97d6cc8b9d464d2f", func := "lampbox/lampboxtop.TopCayley", spec := "topCayley", unfollowed := true, recurses := true, plainKeys := false, apart := false, narrowed := true }
def TopCayleyUptoSaid : Prop := topCayleyUptoRow.holds Tryz.pinned (OpenSpec.upto topCayleySpec)

/-- 'lampboxtop.TopRobin', WHERE WHAT IT READS IS OF BULK AT MOST 1048576: true; the input reads as it did. -/
def topRobinUptoRow : OpenClaim := { program := "ytocgehoffdjijaagreat", sum := "c942fc2d58c0667bff55037be031bfab0aa69302b46cce2d97d6cc8b9d464d2f", func := "lampbox/lampboxtop.TopRobin", spec := "topRobin", unfollowed := true, recurses := true, plainKeys := false, apart := false, narrowed := true }
def TopRobinUptoSaid : Prop := topRobinUptoRow.holds Tryz.pinned (OpenSpec.upto topRobinSpec)

/-- 'lampboxtop.TopSpanning', WHERE WHAT IT READS IS OF BULK AT MOST 1048576: true; the input reads as it did. -/
def topSpanningUptoRow : OpenClaim := { program := "ytocgehoffdjijaagreat", sum := "c942fc2d58c0667bff55037be031bfab0aa69302b46cce2d97d6cc8b9d464d2f", func := "lampbox/lampboxtop.TopSpanning", spec := "topSpanning", unfollowed := true, recurses := true, plainKeys := false, apart := false, narrowed := true }
def TopSpanningUptoSaid : Prop := topSpanningUptoRow.holds Tryz.pinned (OpenSpec.upto topSpanningSpec)

end Rows
end Go.Proofs.YtocgehoffdjijaaGreat
