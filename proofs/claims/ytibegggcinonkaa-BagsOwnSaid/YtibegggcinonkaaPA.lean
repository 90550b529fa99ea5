/- Plain law: the graph of 'awake'. -/
import Derived.Test.YtibegggcinonkaaPG
namespace Go.Proofs.Ytibegggcinonkaa
abbrev L0 : List (Int × Int) := [(0, 1), (0, 2), (1, 2), (2, 3)]
theorem shr0 : Shr L0 [(1, 0), (0, 1), (1, 0), (0, 1)] ([1, 1, 1, 1] ++ List.replicate 12 0) 1 1 :=
  ⟨by decide, by decide, by decide, by decide, by decide, by decide⟩
theorem dens0 : Dens 4 L0 [0, 1, 2, 3] := by
  have hc : Clo L0 [(1, 0), (0, 1), (1, 0), (0, 1)] ([1, 1, 1, 1] ++ List.replicate 12 0) 1 4 [0, 1, 2, 3] := ⟨by decide, by decide, by decide, by decide⟩
  refine (Dens.of_clo shr0 (by decide) (by decide) (by decide) ?_ hc (fun T hT v hv => ?_) (T0 := [0, 1, 2, 3]) (by decide) (by decide) (by decide) (by decide)).1
  · intro i h0 hi
    have : i = 1 ∨ i = 2 ∨ i = 3 := by simp at hi; omega
    rcases this with rfl | rfl | rfl <;> decide
  · have := hT.rng v hv
    have : v = 0 ∨ v = 1 ∨ v = 2 ∨ v = 3 := by omega
    simpa using this
theorem peC0 : peC L0 4 4 = [2, 2, 2, 1] := by decide +kernel
theorem peO0 : peO L0 4 4 = [3, 0, 1, 2] := by decide +kernel
theorem peM0 : peM L0 4 4 = 2 := by decide +kernel
end Go.Proofs.Ytibegggcinonkaa
