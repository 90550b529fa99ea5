/- posts: maps with [2]int keys. -/
import Derived.Test.YtdpckinhoooigaaKeyP
import Derived.Test.YtdpckinhoooigaaAgg2
namespace Go.Proofs.Ytdpckinhoooigaa
open Gv
theorem arrK : Go.WideMaps.ArrKey Try.prog 23 3 2 := ⟨Try.underlying23, by kernel_rfl, by kernel_rfl, by kernel_rfl⟩
theorem kiP : KeyOf Try.prog 23 encP := key_pair arrK Try.underlying3
theorem mp88 : mapT Try.prog 88 = some (23, 3, .int .i64 0) := by kernel_rfl
theorem ag23 : aggT Try.prog 23 2 = true := by kernel_rfl
end Go.Proofs.Ytdpckinhoooigaa
