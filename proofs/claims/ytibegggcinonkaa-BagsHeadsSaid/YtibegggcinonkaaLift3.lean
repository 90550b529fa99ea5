/- An argument of a law that is a list of structs of an int and a list of ints. -/
import Derived.Test.YtibegggcinonkaaLift2
import Derived.Test.YtibegggcinonkaaLay
namespace Go.Proofs.Ytibegggcinonkaa
open Go.ChangeShapes Go.WideShapes Go.ChangeAt Go.RowKit Go.WideMaps Gv
theorem pair_get {α : Type} (f g : Nat → α) : ∀ (n i : Nat), i < n → ((List.range n).flatMap fun i => [f i, g i])[i * 2 + 0]? = some (f i) ∧ ((List.range n).flatMap fun i => [f i, g i])[i * 2 + 1]? = some (g i)
  | 0, i, h => by omega
  | n + 1, i, h => by
    have hl : ∀ n, ((List.range n).flatMap fun i => [f i, g i]).length = n * 2 := by
      intro n
      induction n with
      | zero => rfl
      | succ n ih => rw [List.range_succ, List.flatMap_append, List.length_append, ih]; simp; omega
    rw [List.range_succ, List.flatMap_append]
    by_cases e : i < n
    · have := pair_get f g n i e
      rw [List.getElem?_append_left (by rw [hl]; omega), List.getElem?_append_left (by rw [hl]; omega)]
      exact this
    · have : i = n := by omega
      subst this
      rw [List.getElem?_append_right (by rw [hl]; omega), List.getElem?_append_right (by rw [hl]; omega), hl, show i * 2 + 0 - i * 2 = 0 by omega, show i * 2 + 1 - i * 2 = 1 by omega]
      simp
section
variable {H : Type} {enc : TypeId × Value → H} {P : Program}
theorem ints_cells {t e : TypeId} {w : World} {fuel : Nat} {cs : List Value} {x : DataW H × List MemPlace} (ht : P.underlying t = some (.slice e)) (he : P.underlying e = some (.int .i64)) (hc : P.cellsOf e = 1)
    (hf : DataW.trod enc P w 0 (fun _ => true) true fuel t cs = some x) : ∃ v L, cs = [v] ∧ Ints w v L ∧ L.length ≤ 9223372036854775807 := by
  rcases Go.ChangeShapes.open_ints ht he hc hf with ⟨hcs0, hx⟩ | ⟨a, len, cap, zs, hcs0, _, hl, hm, hlen, hx, hcell, _⟩
  · exact ⟨_, [], hcs0, Sl.nil _ _, by simp⟩
  · simp only [if_true] at hlen
    have hlz : (zs.take len).length = len := by rw [List.length_take]; omega
    refine ⟨_, zs.take len, hcs0, ?_, by rw [hlz]; unfold maxLen at hm; omega⟩
    unfold Ints
    rw [hlz]
    refine sl_mk hl (by rw [ints_length, hlz]) fun j u hj => ?_
    have hjL : j < len := by
      have := (List.getElem?_eq_some_iff.1 hj).1
      rw [ints_length, hlz] at this; exact this
    rw [hcell j (by omega), ← hj, ints_getD (by omega)]
    congr 2
    simp [List.getD, hjL]
theorem open_lays {t e s : TypeId} {f0 f1 : Field} {w : World} {v : Value} {d : DataW H} {ps : List MemPlace} (ht : P.underlying t = some (.slice e)) (he : P.underlying e = some (.struct #[f0, f1])) (h0 : P.underlying f0.type = some (.int .i64)) (h1 : P.underlying f1.type = some (.slice s))
    (hs : P.underlying s = some (.int .i64)) (ce : P.cellsOf e = 2) (o0 : f0.offset = 0) (o1 : f1.offset = 1) (c0 : P.cellsOf f0.type = 1) (c1 : P.cellsOf f1.type = 1) (cs : P.cellsOf s = 1) (hv : v.cells.toList = [v])
    (h : DataW.Trod enc P w 0 (fun _ => true) true t v d ps) : ∃ L, Lays w v L ∧ L.length ≤ 9223372036854775807 ∧ ∀ x ∈ L, x.2.length ≤ 9223372036854775807 := by
  obtain ⟨fuel, hf⟩ := h
  rw [hv] at hf
  rcases DataW.trod_slice ht hf with ⟨hcs0, hx⟩ | ⟨a, len, cap, elems, rest, n, _, hcs0, hx, _, hl, hm, hel, hat, _, _⟩
  · have hv0 : v = .slice none 0 0 := by simpa using hcs0
    subst hv0
    exact ⟨[], Lays.nil _, by simp, by simp⟩
  have hv0 : v = .slice (some a) len cap := by simpa using hcs0
  subst hv0
  have each : ∀ i, i < len → ∃ y : Int × Value × List Int, w.cell? ((a.add (i * 2)).add 0) = some (.int .i64 y.1) ∧ w.cell? ((a.add (i * 2)).add 1) = some y.2.1 ∧ Ints w y.2.1 y.2.2 ∧ y.2.2.length ≤ 9223372036854775807 := by
    intro i hi
    have h2 := hat i hi
    rw [List.getElem?_eq_getElem (by omega), ce, Option.bind_eq_some_iff] at h2
    obtain ⟨cc, hcc, htr⟩ := h2
    obtain ⟨y0, y1, m, _, hlen, ha, hb⟩ := trod_struct2 he htr
    rw [ce] at hlen
    rw [o0, c0] at ha
    rw [o1, c1] at hb
    obtain ⟨x0, x1, rfl⟩ : ∃ x0 x1, cc = [x0, x1] := by
      match cc, hlen with
      | [x, y], _ => exact ⟨x, y, rfl⟩
    have hc := (World.cells?_some hcc).2.2
    obtain ⟨z, ez, _⟩ := DataW.trod_int h0 ha
    obtain ⟨u, L, eu, hI, hL⟩ := ints_cells h1 hs cs hb
    simp at ez eu
    subst ez
    subst eu
    exact ⟨(z, x1, L), by simpa using hc 0 (by omega), by simpa using hc 1 (by omega), hI, hL⟩
  have each' : ∀ i, ∃ y : Int × Value × List Int, i < len → w.cell? ((a.add (i * 2)).add 0) = some (.int .i64 y.1) ∧ w.cell? ((a.add (i * 2)).add 1) = some y.2.1 ∧ Ints w y.2.1 y.2.2 ∧ y.2.2.length ≤ 9223372036854775807 := fun i => by
    by_cases hi : i < len
    · obtain ⟨y, hy⟩ := each i hi; exact ⟨y, fun _ => hy⟩
    · exact ⟨(0, .slice none 0 0, []), fun h => absurd h hi⟩
  obtain ⟨Y, hY⟩ : ∃ Y : Nat → Int × Value × List Int, ∀ i, i < len → w.cell? ((a.add (i * 2)).add 0) = some (.int .i64 (Y i).1) ∧ w.cell? ((a.add (i * 2)).add 1) = some (Y i).2.1 ∧ Ints w (Y i).2.1 (Y i).2.2 ∧ (Y i).2.2.length ≤ 9223372036854775807 :=
    ⟨fun i => Classical.choose (each' i), fun i => Classical.choose_spec (each' i)⟩
  have hpg := pair_get (fun i => Value.int .i64 (Y i).1) (fun i => (Y i).2.1) len
  have hxl : ((List.range len).flatMap fun i => [Value.int .i64 (Y i).1, (Y i).2.1]).length = len * 2 := by
    have : ∀ n, ((List.range n).flatMap fun i => [Value.int .i64 (Y i).1, (Y i).2.1]).length = n * 2 := by
      intro n
      induction n with
      | zero => rfl
      | succ n ih => rw [List.range_succ, List.flatMap_append, List.length_append, ih]; simp; omega
    exact this len
  have hgd : ∀ i, i < len → ((List.range len).map fun i => ((Y i).1, (Y i).2.2)).getD i (0, []) = ((Y i).1, (Y i).2.2) := fun i hi => by simp [List.getD, hi]
  refine ⟨(List.range len).map fun i => ((Y i).1, (Y i).2.2), ⟨(List.range len).flatMap fun i => [Value.int .i64 (Y i).1, (Y i).2.1], ?_, by rw [hxl]; simp, fun i hi => ?_⟩, by simp; unfold maxLen at hm; omega, fun x hx => ?_⟩
  · rw [List.length_map, List.length_range]
    refine ⟨some a, cap, rfl, hl, hxl, ?_⟩
    rcases Nat.eq_zero_or_pos len with hz | hz
    · exact .inl hz
    · obtain ⟨b, o, sp⟩ := a
      have h1 := (hY 0 hz).1
      have hsn : sp = none := by
        cases sp with
        | none => rfl
        | some _ => simp [World.cell?, Addr.add] at h1; split at h1 <;> simp at h1
      subst hsn
      rw [Addr.add_lit, Addr.add_lit] at h1
      refine .inr ⟨b, o, rfl, World.block_lt_of_cell? _ _ h1, fun j u hj => ?_⟩
      have hjl := (List.getElem?_eq_some_iff.1 hj).1
      rw [hxl] at hjl
      have hi : j / 2 < len := by omega
      obtain ⟨p1, p2⟩ := hpg (j / 2) hi
      obtain ⟨q1, q2, _⟩ := hY (j / 2) hi
      rw [Addr.add_lit, Addr.add_lit] at q1 q2
      rcases (by omega : j = j / 2 * 2 + 0 ∨ j = j / 2 * 2 + 1) with e | e
      · rw [e] at hj ⊢
        rw [p1] at hj; cases hj
        rw [← Nat.add_assoc]; exact q1
      · rw [e] at hj ⊢
        rw [p2] at hj; cases hj
        rw [← Nat.add_assoc]; exact q2
  · have hi' : i < len := by simpa using hi
    obtain ⟨p1, p2⟩ := hpg i hi'
    obtain ⟨_, _, q3, _⟩ := hY i hi'
    rw [hgd i hi']
    exact ⟨p1, _, p2, q3⟩
  · obtain ⟨i, hi, rfl⟩ := List.mem_map.1 hx
    exact (hY i (by simpa using hi)).2.2.2
end
end Go.Proofs.Ytibegggcinonkaa
