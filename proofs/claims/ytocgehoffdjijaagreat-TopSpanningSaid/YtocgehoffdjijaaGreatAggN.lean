/- Variables that are arrays or structs of several one-cell parts: made, stored, loaded whole; a part of such a value. -/
import Derived.Test.YtocgehoffdjijaaGreatAgg2
import Derived.Laws.Cells
namespace Go.Proofs.YtocgehoffdjijaaGreat
namespace Gv
open Go.RowKit
section
variable {P : Program} {st : Bool} {K : Env → World → Prop} {ρ : Env} {w : World} {d : Nat} {ty : TypeId} {pos : String} {aft : Array Edge} {gd : Option (Nat × Bool)}
variable {x y : Operand} {t : TypeId} {b : Nat} {v : Value} {zs vs ws : List Value} {n : Nat}
theorem r_allocN (hi : (P.info? t).bind (·.zero) = some (.agg zs.toArray))
    (h : ∀ w', Blk w' w.heap.size t zs → Ext w w' → w'.heap.size = w.heap.size + 1 → K (up ρ d (.pointer (some ⟨w.heap.size, 0, none⟩))) w') :
    w1 P false ⟨some d, .alloc t, ty, pos, aft, gd⟩ K ρ w := by
  cases hinfo : P.info? t with
  | none => rw [hinfo] at hi; cases hi
  | some i =>
    rw [hinfo] at hi
    simp only [Option.bind_some] at hi
    refine w1_val' (v := .pointer (some ⟨w.heap.size, 0, none⟩)) (w' := w.alloc (.cells zs.toArray t)) ?_ (h _ (alloc_new w _) (Ch.alloc w _) (by simp))
    simp [execOp, Instr.alloc, zeroValue, typeInfo, hinfo, hi, newVar, newRow, newObj, Value.cells]
    rfl
theorem r_stN {t' : TypeId} (hsz : aggT P t n = true) (h0 : 0 < n) (hb : Blk w b t' vs) (hl : vs.length = n) (hl' : ws.length = n) (hx : ev ρ x = .pointer (some ⟨b, 0, none⟩)) (hy : ev ρ y = .agg ws.toArray) (h1 : ∀ q ∈ ws, q.oneCell' = true)
    (h : ∀ w', Blk w' b t' ws → Ch (fun k => k = b) w w' → w'.heap.size = w.heap.size → K ρ w') :
    w1 P false ⟨none, .store t x y, ty, pos, aft, gd⟩ K ρ w := by
  obtain ⟨_, i, hi | hi⟩ := aggT_spec hsz
  · obtain ⟨hi, hs⟩ := hi
    have hst := run_storeCells_at P b 0 t' ws 0 vs.toArray w hb (by simp [hl, hl']) h1
    have e : (List.take (0 + 0) vs.toArray.toList ++ ws ++ List.drop (0 + 0 + ws.length) vs.toArray.toList).toArray = ws.toArray := by
      simp [hl, hl']
    rw [e] at hst
    refine w1_skip' (w' := w.setRow b ws.toArray) ?_ (h _ ?_ ?_ ?_)
    · simp [execOp, Instr.storeAt, Instr.sureAddr, hx, hy, storeVar, sizeOf, typeInfo, hi, hs, Value.cells, hl', hst]
    · exact setRow_heap w b _ _ _ _ hb
    · exact ⟨rfl, rfl, rfl, by simp, fun k _ hk => setRow_other w b k _ hk⟩
    · simp
  · omega
theorem r_ldN {t' : TypeId} (hsz : aggT P t n = true) (h0 : 0 < n) (hb : Blk w b t' vs) (hl : vs.length = n) (hx : ev ρ x = .pointer (some ⟨b, 0, none⟩)) (h : K (up ρ d (.agg vs.toArray)) w) :
    w1 P st ⟨some d, .load t x, ty, pos, aft, gd⟩ K ρ w := by
  obtain ⟨ha, i, hi | hi⟩ := aggT_spec hsz
  · obtain ⟨hi, hs⟩ := hi
    have hr := run_loadCells_list (P := P) (w := w) ⟨b, 0, none⟩ vs fun j q hq => by
      rw [Addr.add_lit]
      rw [cell_of_row w b (0 + j) _ _ _ hb]
      simpa using hq
    refine w1_val (v := .agg vs.toArray) ?_ h
    simp [execOp, Instr.loadAt, Instr.sureAddr, hx, loadVar, ha, sizeOf, typeInfo, hi, hs, ← hl, hr]
  · omega
def arrV (P : Program) (t : TypeId) : Option Nat := match P.underlying t with
  | some (.array n e) => if cellT P e = true ∧ (P.info? e).map (·.size) = some 1 then some n else none
  | _ => none
/-- 'a[i]' of an array that is no variable. -/
theorem r_index {m : Nat} {k : IntKind} {a : Int} {cs : Array Value} (ht : arrV P t = some m) (hx : ev ρ x = .agg cs) (hy : ev ρ y = .int k a) (h0 : 0 ≤ a) (h1 : a < m) (hv : cs[a.toNat]? = some v) (h : K (up ρ d v) w) :
    w1 P st ⟨some d, .index t x y, ty, pos, aft, gd⟩ K ρ w := by
  unfold arrV at ht
  split at ht
  · rename_i n e hs
    split at ht
    · rename_i hc
      cases ht
      obtain ⟨hc1, hc2⟩ := hc
      cases hi : P.info? e with
      | none => rw [hi] at hc2; cases hc2
      | some i =>
        rw [hi] at hc2
        simp only [Option.map_some, Option.some.injEq] at hc2
        have hagg := cellT_spec hc1 w
        refine w1_val (v := v) ?_ h
        simp [execOp, Instr.index, hx, hy, asIntOf, run_underlying hs, h0, h1, sizeOf, typeInfo, hi, hc2, part, hagg, hv]
    · cases ht
  · cases ht
theorem run_loadVarN {t' : TypeId} (hsz : aggT P t n = true) (h0 : 0 < n) (hb : Blk w b t' vs) (hl : vs.length = n) : (loadVar t ⟨b, 0, none⟩).run P w = .ok (.agg vs.toArray) w := by
  obtain ⟨ha, i, hi | hi⟩ := aggT_spec hsz
  · obtain ⟨hi, hs⟩ := hi
    have hr := run_loadCells_list (P := P) (w := w) ⟨b, 0, none⟩ vs fun j q hq => by
      rw [Addr.add_lit]
      rw [cell_of_row w b (0 + j) _ _ _ hb]
      simpa using hq
    simp [loadVar, ha, sizeOf, typeInfo, hi, hs, ← hl, hr]
  · omega
/-- A result that is a variable of its own. -/
theorem post_c1 {fn : Func} {R : Value → World → Prop} {c : Nat} {t' : TypeId} (h : fn.results = #[.cell c t]) (hc : ρ c = .pointer (some ⟨b, 0, none⟩)) (hsz : aggT P t n = true) (h0 : 0 < n) (hb : Blk w b t' vs) (hl : vs.length = n)
    (hR : R (.agg vs.toArray) w) (hm : ρ 1000000 = mkv [] := by exact rfl) (hc' : c ≠ 1000000 := by decide) : post P fn R .ret ρ w := by
  refine postM hm (fun tmps ht => ?_) hR
  have h1 := ht c hc'
  simp only [Array.getD_eq_getD_getElem?] at h1
  simp [results, h, h1, hc, asAddr, run_loadVarN hsz h0 hb hl]
theorem post_c1n {fn : Func} {R : Value → World → Prop} {c : Nat} {t' : TypeId} (h : fn.results = #[.cell c t]) (hc : ρ c = .pointer (some ⟨b, 0, none⟩)) (hsz : aggT P t n = true) (h0 : 0 < n) (hb : Blk w b t' vs) (hl : vs.length = n)
    (hR : R (.agg vs.toArray) w) (hm : ρ 1000000 = mkv [] := by exact rfl) (hc' : c ≠ 1000000 := by decide) : post P fn R .normal ρ w := by
  refine ⟨[], hm, Mk.nil w, _, fun tmps ht => ?_, hR⟩
  have h1 := ht c hc'
  simp only [Array.getD_eq_getD_getElem?] at h1
  simp [results, h, h1, hc, asAddr, closeM, run_loadVarN hsz h0 hb hl]
theorem post_c2 {fn : Func} {R : Value → World → Prop} {c u : Nat} {t' : TypeId} (h : fn.results = #[.cell c t, .tmp u]) (hc : ρ c = .pointer (some ⟨b, 0, none⟩)) (hu : ρ u = v) (hsz : aggT P t n = true) (h0 : 0 < n) (hb : Blk w b t' vs) (hl : vs.length = n)
    (hR : R (.tuple #[.agg vs.toArray, v]) w) (hm : ρ 1000000 = mkv [] := by exact rfl) (hc' : c ≠ 1000000 := by decide) (hu' : u ≠ 1000000 := by decide) : post P fn R .ret ρ w := by
  refine postM hm (fun tmps ht => ?_) hR
  have h1 := ht c hc'
  have h2 := ht u hu'
  simp only [Array.getD_eq_getD_getElem?] at h1 h2
  simp [results, h, h1, h2, hc, hu, asAddr, run_loadVarN hsz h0 hb hl]
def arrSz (P : Program) (t : TypeId) : Option (Nat × Nat) := match P.underlying t with
  | some (.array n e) => (P.info? e).bind fun i => if n ≤ 1 then none else some (n, i.size)
  | _ => none
theorem r_idxA {n sz : Nat} {k : IntKind} {a : Int} (ht : arrSz P t = some (n, sz)) (hx : ev ρ x = .pointer (some ⟨b, 0, none⟩)) (hy : ev ρ y = .int k a) (h0 : 0 ≤ a) (h1 : a < n)
    (h : K (up ρ d (.pointer (some ⟨b, a.toNat * sz, none⟩))) w) : w1 P st ⟨some d, .indexAddr t x y, ty, pos, aft, gd⟩ K ρ w := by
  unfold arrSz at ht
  split at ht
  · rename_i n' e hs
    cases hi : P.info? e with
    | none => rw [hi] at ht; cases ht
    | some i =>
      rw [hi] at ht
      simp only [Option.bind_some] at ht
      split at ht
      · cases ht
      · cases ht
        refine w1_val (v := .pointer (some ⟨b, a.toNat * i.size, none⟩)) ?_ h
        simp [execOp, Instr.indexAt, Instr.sureAddr, hx, hy, asIntOf, run_underlying hs, h0, h1, sizeOf, typeInfo, hi, Addr.add]
        exact Eq.symm
  · cases ht
end
end Gv
end Go.Proofs.YtocgehoffdjijaaGreat
