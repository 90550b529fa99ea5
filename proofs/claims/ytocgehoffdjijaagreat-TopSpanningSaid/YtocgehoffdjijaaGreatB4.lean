/- Slices of four: of ints, of pairs; 'a[:]' of an array variable. -/
import Derived.Test.YtocgehoffdjijaaGreatShR
import Derived.Test.YtocgehoffdjijaaGreatDelS
namespace Go.Proofs.YtocgehoffdjijaaGreat
namespace Gv
open Go.RowKit
section
variable {P : Program} {st : Bool} {K : Env → World → Prop} {ρ : Env} {w : World} {d : Nat} {ty : TypeId} {pos : String} {aft : Array Edge} {gd : Option (Nat × Bool)}
variable {x y x1 x2 x3 x4 : Operand} {t e : TypeId} {b n : Nat} {a1 a2 a3 a4 c1 c2 c3 c4 : Int} {by_ : Nat}
/-- '[]int{a, b, c, d}'. -/
theorem r_buildI4 (hi : elemI P t = some (e, .int .i64 0, 1, by_)) (h1 : ev ρ x1 = .int .i64 a1) (h2 : ev ρ x2 = .int .i64 a2) (h3 : ev ρ x3 = .int .i64 a3) (h4 : ev ρ x4 = .int .i64 a4)
    (h : ∀ w', OwnI w' w.heap.size e (.slice (some ⟨w.heap.size, 0, none⟩) 4 4) [a1, a2, a3, a4] → Ext w w' → w'.heap.size = w.heap.size + 1 → K (up ρ d (.slice (some ⟨w.heap.size, 0, none⟩) 4 4)) w') :
    w1 P false ⟨some d, .buildSlice t 4 #[(0, x1), (1, x2), (2, x3), (3, x4)], ty, pos, aft, gd⟩ K ρ w := by
  refine w1_val' (v := .slice (some ⟨w.heap.size, 0, none⟩) 4 4) (w' := w.alloc (.cells #[.int .i64 a1, .int .i64 a2, .int .i64 a3, .int .i64 a4] e)) ?_ (h _ ⟨rfl, .inr ⟨w.heap.size, 4, #[.int .i64 a1, .int .i64 a2, .int .i64 a3, .int .i64 a4], rfl, Nat.le_refl _, alloc_new w _, Nat.le_refl _, by simp [maxLen], rfl, rfl⟩⟩ (Ch.alloc w _) (by simp))
  obtain ⟨ht, i, hi, hz, hs', hbb⟩ := elemI_spec hi
  have ha : ∀ f : Nat → Value, (((((Array.range 4).map f).setIfInBounds 0 (.int .i64 a1)).setIfInBounds 1 (.int .i64 a2)).setIfInBounds 2 (.int .i64 a3)).setIfInBounds 3 (.int .i64 a4) = #[.int .i64 a1, .int .i64 a2, .int .i64 a3, .int .i64 a4] := by
    intro f; apply Array.ext'; simp [Array.toList_setIfInBounds, List.range_succ]
  simp [execOp, h1, h2, h3, h4, Instr.buildSlice, run_underlying ht, sizeOf, typeInfo, hi, hs', zeroValue, hz, Instr.fill, Value.cells, newRow, newObj, ha]
  rfl
/-- Four structs of two ints. -/
theorem r_buildP4 (hi : elemI P t = some (e, .agg #[.int .i64 0, .int .i64 0], 2, by_)) (h1 : ev ρ x1 = .agg #[.int .i64 a1, .int .i64 c1]) (h2 : ev ρ x2 = .agg #[.int .i64 a2, .int .i64 c2]) (h3 : ev ρ x3 = .agg #[.int .i64 a3, .int .i64 c3]) (h4 : ev ρ x4 = .agg #[.int .i64 a4, .int .i64 c4])
    (h : ∀ w', OwnP w' w.heap.size e (.slice (some ⟨w.heap.size, 0, none⟩) 4 4) [(a1, c1), (a2, c2), (a3, c3), (a4, c4)] → Ext w w' → w'.heap.size = w.heap.size + 1 → K (up ρ d (.slice (some ⟨w.heap.size, 0, none⟩) 4 4)) w') :
    w1 P false ⟨some d, .buildSlice t 4 #[(0, x1), (1, x2), (2, x3), (3, x4)], ty, pos, aft, gd⟩ K ρ w := by
  refine w1_val' (v := .slice (some ⟨w.heap.size, 0, none⟩) 4 4) (w' := w.alloc (.cells (prc [(a1, c1), (a2, c2), (a3, c3), (a4, c4)]).toArray e)) ?_ (h _ ⟨rfl, .inr ⟨w.heap.size, 4, _, rfl, Nat.le_refl _, alloc_new w _, Nat.le_refl _, by simp [maxLen], rfl, rfl⟩⟩ (Ch.alloc w _) (by simp))
  obtain ⟨ht, i, hi, hz, hs', hbb⟩ := elemI_spec hi
  have ha : ∀ f : Nat → Value, (((((((((Array.range 8).map f).setIfInBounds 0 (.int .i64 a1)).setIfInBounds 1 (.int .i64 c1)).setIfInBounds 2 (.int .i64 a2)).setIfInBounds 3 (.int .i64 c2)).setIfInBounds 4 (.int .i64 a3)).setIfInBounds 5 (.int .i64 c3)).setIfInBounds 6 (.int .i64 a4)).setIfInBounds 7 (.int .i64 c4) = (prc [(a1, c1), (a2, c2), (a3, c3), (a4, c4)]).toArray := by
    intro f; apply Array.ext'; simp [Array.toList_setIfInBounds, List.range_succ, prc]
  have hz2 : ∀ p q : Int, #[Value.int .i64 p, .int .i64 q].zipIdx = #[(.int .i64 p, 0), (.int .i64 q, 1)] := fun _ _ => rfl
  simp [execOp, h1, h2, h3, h4, Instr.buildSlice, run_underlying ht, sizeOf, typeInfo, hi, hs', zeroValue, hz, Instr.fill, Value.cells, newRow, newObj, hz2, ha]
  rfl
/-- 'a[:]' of an array variable. -/
theorem r_sliceAll (ht : arrSz P t = some (n, 1)) (hx : ev ρ x = .pointer (some ⟨b, 0, none⟩)) (h : K (up ρ d (.slice (some ⟨b, 0, none⟩) n n)) w) :
    w1 P st ⟨some d, .slice t x none none none, ty, pos, aft, gd⟩ K ρ w := by
  unfold arrSz at ht
  split at ht
  · rename_i n' e hs
    cases hi : P.info? e with
    | none => rw [hi] at ht; cases ht
    | some i =>
      rw [hi] at ht
      simp only [Option.bind_some] at ht
      split at ht
      · cases ht
      · simp only [Option.some.injEq, Prod.mk.injEq] at ht
        obtain ⟨rfl, hs1⟩ := ht
        refine w1_val (v := .slice (some ⟨b, 0, none⟩) n' n') ?_ h
        simp [execOp, Instr.sliceAt, Instr.sureAddr, Instr.sliceBounds, hx, run_underlying hs, sizeOf, typeInfo, hi, Addr.add]
  · cases ht
end
end Gv
end Go.Proofs.YtocgehoffdjijaaGreat
