/- Variables that are arrays or structs of two cells: made, stored, loaded whole. -/
import Derived.Test.YtocgehoffdjijaaGreatMem
namespace Go.Proofs.YtocgehoffdjijaaGreat
namespace Gv
open Go.RowKit
def aggT (P : Program) (t : TypeId) (n : Nat) : Bool := match P.underlying t with | some (.struct _) | some (.array _ _) => Nat.beq (P.cellsOf t) n | _ => false
theorem aggT_spec {P : Program} {t : TypeId} {n : Nat} (h : aggT P t n = true) : (∀ w, (isAgg t).run P w = .ok true w) ∧ ∃ i, P.info? t = some i ∧ i.size = n ∨ n = 0 := by
  unfold aggT at h
  split at h
  · rename_i fs hu
    refine ⟨fun w => by simp [isAgg, run_underlying hu], ?_⟩
    have h1 := Nat.eq_of_beq_eq_true h
    unfold Program.cellsOf at h1
    cases hi : P.info? t with
    | none => rw [hi] at h1; exact ⟨default, .inr h1.symm⟩
    | some i => rw [hi] at h1; exact ⟨i, .inl ⟨rfl, h1⟩⟩
  · rename_i m e hu
    refine ⟨fun w => by simp [isAgg, run_underlying hu], ?_⟩
    have h1 := Nat.eq_of_beq_eq_true h
    unfold Program.cellsOf at h1
    cases hi : P.info? t with
    | none => rw [hi] at h1; exact ⟨default, .inr h1.symm⟩
    | some i => rw [hi] at h1; exact ⟨i, .inl ⟨rfl, h1⟩⟩
  · cases h
section
variable {P : Program} {st : Bool} {K : Env → World → Prop} {ρ : Env} {w : World} {d : Nat} {ty : TypeId} {pos : String} {aft : Array Edge} {gd : Option (Nat × Bool)}
variable {x y : Operand} {t : TypeId} {b : Nat} {u v : Value}
theorem r_alloc2 {z1 z2 : Value} (hi : (P.info? t).bind (·.zero) = some (.agg #[z1, z2]))
    (h : ∀ w', Blk w' w.heap.size t [z1, z2] → Ext w w' → w'.heap.size = w.heap.size + 1 → K (up ρ d (.pointer (some ⟨w.heap.size, 0, none⟩))) w') :
    w1 P false ⟨some d, .alloc t, ty, pos, aft, gd⟩ K ρ w := by
  cases hinfo : P.info? t with
  | none => rw [hinfo] at hi; cases hi
  | some i =>
    rw [hinfo] at hi
    simp only [Option.bind_some] at hi
    refine w1_val' (v := .pointer (some ⟨w.heap.size, 0, none⟩)) (w' := w.alloc (.cells #[z1, z2] t)) ?_ (h _ (alloc_new w _) (Ch.alloc w _) (by simp))
    simp [execOp, Instr.alloc, zeroValue, typeInfo, hinfo, hi, newVar, newRow, newObj, Value.cells]
    rfl
theorem r_st2 {t' : TypeId} {a1 a2 : Value} (hsz : aggT P t 2 = true) (hb : Blk w b t' [u, v]) (hx : ev ρ x = .pointer (some ⟨b, 0, none⟩)) (hy : ev ρ y = .agg #[a1, a2]) (h1 : a1.oneCell' = true) (h2 : a2.oneCell' = true)
    (h : ∀ w', Blk w' b t' [a1, a2] → Ch (fun k => k = b) w w' → w'.heap.size = w.heap.size → K ρ w') :
    w1 P false ⟨none, .store t x y, ty, pos, aft, gd⟩ K ρ w := by
  obtain ⟨_, i, hi | hi⟩ := aggT_spec hsz
  · obtain ⟨hi, hs⟩ := hi
    have hst := run_storeCells_at P b 0 t' [a1, a2] 0 #[u, v] w hb (by simp) (by intro q hq; simp at hq; rcases hq with rfl | rfl <;> assumption)
    simp only [Nat.add_zero, List.take_zero, List.nil_append, List.length_cons, List.length_nil] at hst
    refine w1_skip' (w' := w.setRow b #[a1, a2]) ?_ (h _ ?_ ?_ ?_)
    · have hst' : (storeCells ⟨b, 0, none⟩ [a1, a2]).run P w = .ok () (w.setRow b #[a1, a2]) := by rw [hst]; rfl
      simp [execOp, Instr.storeAt, Instr.sureAddr, hx, hy, storeVar, sizeOf, typeInfo, hi, hs, Value.cells, hst']
    · exact setRow_heap w b _ _ _ _ hb
    · exact ⟨rfl, rfl, rfl, by simp, fun k _ hk => setRow_other w b k _ hk⟩
    · simp
  · cases hi
theorem r_ld2 {t' : TypeId} {a1 a2 : Value} (hsz : aggT P t 2 = true) (hb : Blk w b t' [a1, a2]) (hx : ev ρ x = .pointer (some ⟨b, 0, none⟩)) (h : K (up ρ d (.agg #[a1, a2])) w) :
    w1 P st ⟨some d, .load t x, ty, pos, aft, gd⟩ K ρ w := by
  obtain ⟨ha, i, hi | hi⟩ := aggT_spec hsz
  · obtain ⟨hi, hs⟩ := hi
    have c0 : w.cell? ⟨b, 0, none⟩ = some a1 := by rw [cell_of_row w b 0 _ _ _ hb]; rfl
    have c1 : w.cell? ⟨b, 1, none⟩ = some a2 := by rw [cell_of_row w b 1 _ _ _ hb]; rfl
    refine w1_val (v := .agg #[a1, a2]) ?_ h
    simp [execOp, Instr.loadAt, Instr.sureAddr, hx, loadVar, ha, sizeOf, typeInfo, hi, hs, loadCells, loadCellsFrom, Addr.add_lit, load, Sem.run, c0, c1]
  · cases hi
end
end Gv
end Go.Proofs.YtocgehoffdjijaaGreat
