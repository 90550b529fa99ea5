/- append of so many zeros to a nil slice (slices.Grow). -/
import Derived.Lib.AppendZeros
import Derived.Test.YtocgehoffdjijaaGreatMem
namespace Go.Proofs.YtocgehoffdjijaaGreat
namespace Gv
open Go.RowKit
section
variable {P : Program} {K : Env → World → Prop} {ρ : Env} {w : World} {d : Nat} {ty : TypeId} {pos : String} {aft : Array Edge} {gd : Option (Nat × Bool)}
variable {x y : Operand} {t tn e : TypeId} {z : Value} {by_ : Nat}
theorem r_growz {n : Nat} {k kn : IntKind} (hi : elemI P t = some (e, z, 1, by_)) (hzs : z.cells.size = 1) (htn : P.underlying tn = some (.int kn)) (hx : ev ρ x = .slice none 0 0) (hy : ev ρ y = .int k (n : Int)) (h0 : 0 < n) (hn : n * by_ ≤ 140737488355328) (hm : n ≤ maxLen)
    (h : ∀ w' c, n ≤ c → Own w' w.heap.size e (.slice (some ⟨w.heap.size, 0, none⟩) 0 c) [] → Ext w w' → w'.heap.size = w.heap.size + 1 → K (up ρ d (.slice (some ⟨w.heap.size, 0, none⟩) n c)) w') :
    w1 P false ⟨some d, .call ⟨.builtin .append, #[x, y], #[t, tn]⟩, ty, pos, aft, gd⟩ K ρ w := by
  obtain ⟨ht, i, hi', hz, hs, hbb⟩ := elemI_spec hi
  have hr := Lib.run_append_nil_zeros (P := P) w t tn ty e i z k kn ht htn hi' hz n h0 (by omega) (by simp only [maxLen] at hm; omega) (by rw [hbb]; omega)
  have hge := grownCap_ge w n 0 e
  have hcm := grownCap_le_maxLen w n 0 e hm
  refine w1_val' (v := .slice (some ⟨w.heap.size, 0, none⟩) n (grownCap w n 0 e)) (w' := w.drew.alloc (.cells (Builtin.zeroCells z.cells n ++ Builtin.zeroCells z.cells (grownCap w n 0 e - n)) e)) ?_ (h _ _ hge ?_ ((Ext.drew w).trans (Ch.alloc w.drew _)) (by simp))
  · simp [execOp, resolve, invoke, builtin, hx, hy, hr]
  · refine ⟨rfl, .inr ⟨w.heap.size, _, _, rfl, Nat.le_refl _, alloc_new w.drew _, Nat.zero_le _, hcm, ?_, by simp⟩⟩
    simp only [Array.size_append, size_zeroCells, hzs]
    omega
end
end Gv
end Go.Proofs.YtocgehoffdjijaaGreat
