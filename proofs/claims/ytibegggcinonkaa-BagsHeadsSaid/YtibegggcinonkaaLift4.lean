/- An argument of a law that is a list of structs of two ints, or of pairs of ints. -/
import Derived.Test.YtibegggcinonkaaLift3
import Derived.Test.YtibegggcinonkaaPairs
namespace Go.Proofs.Ytibegggcinonkaa
open Go.ChangeShapes Go.WideShapes Go.ChangeAt Go.RowKit Go.WideMaps Gv
theorem prc_flat (Y : Nat → Int × Int) (n : Nat) : prc ((List.range n).map Y) = (List.range n).flatMap fun i => [Value.int .i64 (Y i).1, Value.int .i64 (Y i).2] := by
  unfold prc; rw [List.flatMap_map]
/-- Cells that hold two ints each. -/
theorem pairs_of {w : World} {a : Addr} {len cap : Nat} (hl : len ≤ cap) (each : ∀ i, i < len → ∃ y : Int × Int, w.cell? ((a.add (i * 2)).add 0) = some (.int .i64 y.1) ∧ w.cell? ((a.add (i * 2)).add 1) = some (.int .i64 y.2)) :
    ∃ L : List (Int × Int), Pairs2 w (.slice (some a) len cap) L ∧ L.length = len := by
  have each' : ∀ i, ∃ y : Int × Int, i < len → w.cell? ((a.add (i * 2)).add 0) = some (.int .i64 y.1) ∧ w.cell? ((a.add (i * 2)).add 1) = some (.int .i64 y.2) := fun i => by
    by_cases hi : i < len
    · obtain ⟨y, hy⟩ := each i hi; exact ⟨y, fun _ => hy⟩
    · exact ⟨(0, 0), fun h => absurd h hi⟩
  obtain ⟨Y, hY⟩ : ∃ Y : Nat → Int × Int, ∀ i, i < len → w.cell? ((a.add (i * 2)).add 0) = some (.int .i64 (Y i).1) ∧ w.cell? ((a.add (i * 2)).add 1) = some (.int .i64 (Y i).2) :=
    ⟨fun i => Classical.choose (each' i), fun i => Classical.choose_spec (each' i)⟩
  have hpg := pair_get (fun i => Value.int .i64 (Y i).1) (fun i => Value.int .i64 (Y i).2) len
  refine ⟨(List.range len).map Y, ?_, by simp⟩
  have hlen : ((List.range len).map Y).length = len := by simp
  unfold Pairs2
  rw [hlen, prc_flat]
  have hxl : ((List.range len).flatMap fun i => [Value.int .i64 (Y i).1, Value.int .i64 (Y i).2]).length = len * 2 := by
    rw [← prc_flat, prc_length, hlen]
  refine ⟨some a, cap, rfl, hl, hxl, ?_⟩
  rcases Nat.eq_zero_or_pos len with hz | hz
  · exact .inl hz
  · obtain ⟨b, o, sp⟩ := a
    have h1 := (hY 0 hz).1
    have hsn : sp = none := by
      cases sp with
      | none => rfl
      | some _ => simp [World.cell?, Addr.add] at h1; split at h1 <;> simp at h1
    subst hsn
    rw [Addr.add_lit, Addr.add_lit] at h1
    refine .inr ⟨b, o, rfl, World.block_lt_of_cell? _ _ h1, fun j u hj => ?_⟩
    have hjl := (List.getElem?_eq_some_iff.1 hj).1
    rw [hxl] at hjl
    have hi : j / 2 < len := by omega
    obtain ⟨p1, p2⟩ := hpg (j / 2) hi
    obtain ⟨q1, q2⟩ := hY (j / 2) hi
    rw [Addr.add_lit, Addr.add_lit] at q1 q2
    rcases (by omega : j = j / 2 * 2 + 0 ∨ j = j / 2 * 2 + 1) with e | e
    · rw [e] at hj ⊢
      rw [p1] at hj; cases hj
      rw [← Nat.add_assoc]; exact q1
    · rw [e] at hj ⊢
      rw [p2] at hj; cases hj
      rw [← Nat.add_assoc]; exact q2
section
variable {H : Type} {enc : TypeId × Value → H} {P : Program}
theorem edges_cells {t e : TypeId} {f0 f1 : Field} {w : World} {fuel : Nat} {cs : List Value} {x : DataW H × List MemPlace} (ht : P.underlying t = some (.slice e)) (he : P.underlying e = some (.struct #[f0, f1])) (h0 : P.underlying f0.type = some (.int .i64)) (h1 : P.underlying f1.type = some (.int .i64))
    (ce : P.cellsOf e = 2) (o0 : f0.offset = 0) (o1 : f1.offset = 1) (c0 : P.cellsOf f0.type = 1) (c1 : P.cellsOf f1.type = 1)
    (hf : DataW.trod enc P w 0 (fun _ => true) true fuel t cs = some x) : ∃ v L, cs = [v] ∧ Pairs2 w v L ∧ L.length ≤ 9223372036854775807 := by
  rcases DataW.trod_slice ht hf with ⟨hcs0, hx⟩ | ⟨a, len, cap, elems, rest, n, _, hcs0, hx, _, hl, hm, hel, hat, _, _⟩
  · exact ⟨_, [], hcs0, Sl.nil _ _, by simp⟩
  obtain ⟨L, hL, hLl⟩ := pairs_of (w := w) (a := a) hl fun i hi => by
    have h2 := hat i hi
    rw [List.getElem?_eq_getElem (by omega), ce, Option.bind_eq_some_iff] at h2
    obtain ⟨cc, hcc, htr⟩ := h2
    obtain ⟨y0, y1, m, _, hlen, ha, hb⟩ := trod_struct2 he htr
    rw [ce] at hlen
    rw [o0, c0] at ha
    rw [o1, c1] at hb
    obtain ⟨x0, x1, rfl⟩ : ∃ x0 x1, cc = [x0, x1] := by
      match cc, hlen with
      | [x, y], _ => exact ⟨x, y, rfl⟩
    have hc := (World.cells?_some hcc).2.2
    obtain ⟨z, ez, _⟩ := DataW.trod_int h0 ha
    obtain ⟨u, eu, _⟩ := DataW.trod_int h1 hb
    simp at ez eu
    subst ez
    subst eu
    exact ⟨(z, u), by simpa using hc 0 (by omega), by simpa using hc 1 (by omega)⟩
  exact ⟨_, L, hcs0, hL, by rw [hLl]; unfold maxLen at hm; omega⟩
theorem open_edges {t e : TypeId} {f0 f1 : Field} {w : World} {v : Value} {d : DataW H} {ps : List MemPlace} (ht : P.underlying t = some (.slice e)) (he : P.underlying e = some (.struct #[f0, f1])) (h0 : P.underlying f0.type = some (.int .i64)) (h1 : P.underlying f1.type = some (.int .i64))
    (ce : P.cellsOf e = 2) (o0 : f0.offset = 0) (o1 : f1.offset = 1) (c0 : P.cellsOf f0.type = 1) (c1 : P.cellsOf f1.type = 1) (hv : v.cells.toList = [v])
    (h : DataW.Trod enc P w 0 (fun _ => true) true t v d ps) : ∃ L, Pairs2 w v L ∧ L.length ≤ 9223372036854775807 := by
  obtain ⟨fuel, hf⟩ := h
  rw [hv] at hf
  obtain ⟨u, L, hu, hL, hl⟩ := edges_cells ht he h0 h1 ce o0 o1 c0 c1 hf
  simp at hu
  subst hu
  exact ⟨L, hL, hl⟩
end
end Go.Proofs.Ytibegggcinonkaa
