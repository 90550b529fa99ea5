/- An argument of a law that is a struct of a list of ints and a list of pairs of ints. -/
import Derived.Test.YtibegggcinonkaaLiftB
namespace Go.Proofs.Ytibegggcinonkaa
open Go.ChangeShapes Go.WideShapes Go.ChangeAt Go.RowKit Go.WideMaps Gv
section
variable {H : Type} {enc : TypeId × Value → H} {P : Program}
theorem pairs_cells {t e i : TypeId} {w : World} {fuel : Nat} {cs : List Value} {x : DataW H × List MemPlace} (ht : P.underlying t = some (.slice e)) (A : ArrKey P e i 2) (hi : P.underlying i = some (.int .i64)) (ce : P.cellsOf e = 2)
    (hf : DataW.trod enc P w 0 (fun _ => true) true fuel t cs = some x) : ∃ v L, cs = [v] ∧ Pairs2 w v L ∧ L.length ≤ 9223372036854775807 := by
  rcases DataW.trod_slice ht hf with ⟨hcs0, hx⟩ | ⟨a, len, cap, elems, rest, n, _, hcs0, hx, _, hl, hm, hel, hat, _, _⟩
  · exact ⟨_, [], hcs0, Sl.nil _ _, by simp⟩
  obtain ⟨L, hL, hLl⟩ := pairs_of (w := w) (a := a) hl fun i hi' => by
    have h2 := hat i hi'
    rw [List.getElem?_eq_getElem (by omega), ce, Option.bind_eq_some_iff] at h2
    obtain ⟨cc, hcc, htr⟩ := h2
    have hc := (World.cells?_some hcc)
    have hsz : cc.length = 2 := hc.2.1
    generalize elems[i] = y at htr
    obtain ⟨d, p⟩ := y
    obtain ⟨z, u, e2⟩ := open_pair A hi (xs := cc.toArray) (by simpa using hsz) (d := d) (ps := p) ⟨_, by simpa [Value.cells] using htr⟩
    have e3 : cc = [.int .i64 z, .int .i64 u] := by simpa using congrArg Array.toList e2
    subst e3
    exact ⟨(z, u), by simpa using hc.2.2 0 (by omega), by simpa using hc.2.2 1 (by omega)⟩
  exact ⟨_, L, hcs0, hL, by rw [hLl]; unfold maxLen at hm; omega⟩
theorem open_answer {t e i s : TypeId} {f0 f1 : Field} {w : World} {cs : Array Value} {d : DataW H} {ps : List MemPlace} (ht : P.underlying t = some (.struct #[f0, f1])) (h0 : P.underlying f0.type = some (.slice s)) (h1 : P.underlying f1.type = some (.slice e))
    (A : ArrKey P e i 2) (hs : P.underlying s = some (.int .i64)) (hi : P.underlying i = some (.int .i64)) (ce : P.cellsOf e = 2) (c2 : P.cellsOf s = 1) (o0 : f0.offset = 0) (o1 : f1.offset = 1) (c0 : P.cellsOf f0.type = 1) (c1 : P.cellsOf f1.type = 1) (hn : cs.size = 2)
    (h : DataW.Trod enc P w 0 (fun _ => true) true t (.agg cs) d ps) : ∃ v1 v2 A B, cs = #[v1, v2] ∧ Ints w v1 A ∧ Pairs2 w v2 B := by
  obtain ⟨fuel, hf⟩ := h
  obtain ⟨x0, x1, rfl⟩ : ∃ x0 x1, cs = #[x0, x1] := by
    rcases cs with ⟨l⟩
    match l, hn with
    | [x, y], _ => exact ⟨x, y, rfl⟩
  have hf' : DataW.trod enc P w 0 (fun _ => true) true fuel t [x0, x1] = some (d, ps) := by simpa [Value.cells] using hf
  obtain ⟨y0, y1, m, _, hlen, ha, hb⟩ := trod_struct2 ht hf'
  rw [o0, c0] at ha
  rw [o1, c1] at hb
  obtain ⟨u0, A', e0, hA, _⟩ := ints_cells h0 hs c2 ha
  obtain ⟨u1, B, e1, hB, _⟩ := pairs_cells h1 A hi ce hb
  simp at e0 e1
  subst e0 e1
  exact ⟨_, _, _, _, rfl, hA, hB⟩
end
end Go.Proofs.Ytibegggcinonkaa
