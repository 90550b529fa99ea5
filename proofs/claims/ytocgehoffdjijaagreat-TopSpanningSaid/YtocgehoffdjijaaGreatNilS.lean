/- '!= nil' for slices; a slice of one new cell. -/
import Derived.Test.YtocgehoffdjijaaGreatMem
namespace Go.Proofs.YtocgehoffdjijaaGreat
namespace Gv
open Go.RowKit
section
variable {P : Program} {st : Bool} {K : Env → World → Prop} {ρ : Env} {w : World} {d : Nat} {ty : TypeId} {pos : String} {aft : Array Edge} {gd : Option (Nat × Bool)}
variable {x y : Operand} {t e : TypeId} {z u : Value} {by_ : Nat}
theorem r_neqnil {t2 : TypeId} {p : Option Addr} {n c : Nat} (ht : sliceT P t = true) (hx : ev ρ x = .slice p n c) (hy : ev ρ y = .slice none 0 0) (h : K (up ρ d (.bool p.isSome)) w) :
    w1 P st ⟨some d, .binOp .neq t x y t2, ty, pos, aft, gd⟩ K ρ w := by
  unfold sliceT at ht
  split at ht
  · rename_i e he
    have hq : ∀ D : Nat, (Op.equalIn (D + 1) t (.slice p n c) (.slice none 0 0)).run P w = .ok (!p.isSome) w := fun D => by
      cases p <;> simp [Op.equalIn, run_underlying he]
    refine w1_val (v := .bool p.isSome) ?_ h
    have hq' := hq 9999
    simp [execOp, hx, hy, eqGuard, binOp, Op.equal, Op.maxDepth, hq']
  · cases ht
theorem r_neqnil_t {t2 : TypeId} {p : Option Addr} {n c : Nat} (ht : sliceT P t = true) (hx : ev ρ x = .slice p n c) (hy : ev ρ y = .slice none 0 0) (hp : p.isSome = true) (h : K (up ρ d (.bool true)) w) :
    w1 P st ⟨some d, .binOp .neq t x y t2, ty, pos, aft, gd⟩ K ρ w := r_neqnil ht hx hy (by rw [hp]; exact h)
theorem r_neqnil_f {t2 : TypeId} {n c : Nat} (ht : sliceT P t = true) (hx : ev ρ x = .slice none n c) (hy : ev ρ y = .slice none 0 0) (h : K (up ρ d (.bool false)) w) :
    w1 P st ⟨some d, .binOp .neq t x y t2, ty, pos, aft, gd⟩ K ρ w := r_neqnil ht hx hy h
theorem r_buildS1 (hi : elemI P t = some (e, z, 1, by_)) (hx : ev ρ x = u) (hu : u.oneCell' = true)
    (h : ∀ w', Own w' w.heap.size e (.slice (some ⟨w.heap.size, 0, none⟩) 1 1) [u] → Ext w w' → w'.heap.size = w.heap.size + 1 → K (up ρ d (.slice (some ⟨w.heap.size, 0, none⟩) 1 1)) w') :
    w1 P false ⟨some d, .buildSlice t 1 #[(0, x)], ty, pos, aft, gd⟩ K ρ w := by
  refine w1_val' (v := .slice (some ⟨w.heap.size, 0, none⟩) 1 1) (w' := w.alloc (.cells #[u] e)) ?_ (h _ ⟨rfl, .inr ⟨w.heap.size, 1, #[u], rfl, Nat.le_refl _, alloc_new w _, Nat.le_refl _, by simp [maxLen], rfl, rfl⟩⟩ (Ch.alloc w _) (by simp))
  simp [execOp, hx, run_buildSlice1 hi hu]
end
end Gv
end Go.Proofs.YtocgehoffdjijaaGreat
