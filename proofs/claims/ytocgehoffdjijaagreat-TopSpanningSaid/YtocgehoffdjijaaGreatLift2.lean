/- An argument of a law that is a list of ints. -/
import Derived.Test.YtocgehoffdjijaaGreatLift
import Derived.ChangeSlices
namespace Go.Proofs.YtocgehoffdjijaaGreat
open Go.ChangeShapes Go.WideShapes Go.ChangeAt Go.RowKit Go.WideMaps Gv
section
variable {H : Type} {enc : TypeId × Value → H} {P : Program}
theorem open_list {t e : TypeId} {w : World} {v : Value} {d : DataW H} {ps : List MemPlace} (ht : P.underlying t = some (.slice e)) (he : P.underlying e = some (.int .i64)) (hc : P.cellsOf e = 1) (hv : v.cells.toList = [v])
    (h : DataW.Trod enc P w 0 (fun _ => true) true t v d ps) : ∃ L, Ints w v L ∧ L.length ≤ 9223372036854775807 := by
  obtain ⟨fuel, hf⟩ := h
  rw [hv] at hf
  rcases Go.ChangeShapes.open_ints ht he hc hf with ⟨hcs0, hx⟩ | ⟨a, len, cap, zs, hcs0, _, hl, hm, hlen, hx, hcell, _⟩
  · have hv0 : v = .slice none 0 0 := by simpa using hcs0
    subst hv0
    exact ⟨[], Sl.nil _ _, by simp⟩
  · have hv0 : v = .slice (some a) len cap := by simpa using hcs0
    subst hv0
    simp only [if_true] at hlen
    have hlz : (zs.take len).length = len := by rw [List.length_take]; omega
    refine ⟨zs.take len, ?_, by rw [hlz]; unfold maxLen at hm; omega⟩
    unfold Ints
    rw [hlz]
    refine sl_mk hl (by rw [ints_length, hlz]) fun j u hj => ?_
    have hjL : j < len := by
      have := (List.getElem?_eq_some_iff.1 hj).1
      rw [ints_length, hlz] at this; exact this
    rw [hcell j (by omega), ← hj, ints_getD (by omega)]
    congr 2
    simp [List.getD, hjL]
end
end Go.Proofs.YtocgehoffdjijaaGreat
