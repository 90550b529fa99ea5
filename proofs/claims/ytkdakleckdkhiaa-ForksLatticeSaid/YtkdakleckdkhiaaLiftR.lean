/- An argument of a law that is an array of three lists of ints. -/
import Derived.Test.YtkdakleckdkhiaaLift2
namespace Go.Proofs.Ytkdakleckdkhiaa
open Go.ChangeShapes Go.WideShapes Go.ChangeAt Go.RowKit Go.WideMaps Gv
structure ArrOf (P : Program) (k e : TypeId) (n : Nat) : Prop where
  hu : P.underlying k = some (.array n e)
  one : P.cellsOf e = 1
  size : P.cellsOf k = n
theorem okWide_arrOf {P : Program} {W : World} {k e : TypeId} {n : Nat} (A : ArrOf P k e n) {r : Reach} {b0 : Nat} {v : Value} (h : Value.okWide P W r b0 k v) : ∃ xs : Array Value, v = .agg xs ∧ xs.size = n := by
  simp only [Value.okWide, A.hu] at h
  obtain ⟨cs, h1, h2, _⟩ := h
  exact ⟨cs, h1, by rw [h2, A.size]⟩
section
variable {H : Type} {enc : TypeId × Value → H} {P : Program}
theorem intsR_cells {t e : TypeId} {w : World} {fuel : Nat} {cs : List Value} {x : DataW H × List MemPlace} (ht : P.underlying t = some (.slice e)) (he : P.underlying e = some (.int .i64)) (hc : P.cellsOf e = 1)
    (hf : DataW.trod enc P w 0 (fun _ => true) true fuel t cs = some x) : ∃ v L, cs = [v] ∧ Ints w v L ∧ L.length ≤ 9223372036854775807 := by
  rcases Go.ChangeShapes.open_ints ht he hc hf with ⟨hcs0, hx⟩ | ⟨a, len, cap, zs, hcs0, _, hl, hm, hlen, hx, hcell, _⟩
  · exact ⟨_, [], hcs0, Sl.nil _ _, by simp⟩
  · simp only [if_true] at hlen
    have hlz : (zs.take len).length = len := by rw [List.length_take]; omega
    refine ⟨_, zs.take len, hcs0, ?_, by rw [hlz]; unfold maxLen at hm; omega⟩
    unfold Ints
    rw [hlz]
    refine sl_mk hl (by rw [ints_length, hlz]) fun j u hj => ?_
    have hjL : j < len := by
      have := (List.getElem?_eq_some_iff.1 hj).1
      rw [ints_length, hlz] at this; exact this
    rw [hcell j (by omega), ← hj, ints_getD (by omega)]
    congr 2
    simp [List.getD, hjL]
theorem open_arr3 {k e q : TypeId} {w : World} (A : ArrOf P k e 3) (he : P.underlying e = some (.slice q)) (hq : P.underlying q = some (.int .i64)) (cq : P.cellsOf q = 1) {xs : Array Value} (hn : xs.size = 3) {d : DataW H} {ps : List MemPlace}
    (hd : DataW.Trod enc P w 0 (fun _ => true) true k (.agg xs) d ps) : ∃ v0 v1 v2 A B C, xs = #[v0, v1, v2] ∧ (Ints w v0 A ∧ A.length ≤ 9223372036854775807) ∧ (Ints w v1 B ∧ B.length ≤ 9223372036854775807) ∧ (Ints w v2 C ∧ C.length ≤ 9223372036854775807) := by
  obtain ⟨fuel, hf⟩ := hd
  cases fuel with
  | zero => simp [DataW.trod] at hf
  | succ m =>
    rw [DataW.trod_step] at hf
    unfold DataW.trodStep at hf
    simp only [A.hu, Value.cells] at hf
    rw [if_pos (by rw [A.size]; simpa using hn)] at hf
    simp only [Option.map_eq_some_iff] at hf
    obtain ⟨ys, hy, e1⟩ := hf
    rcases xs with ⟨l⟩
    obtain ⟨x, y, z, rfl⟩ : ∃ x y z, l = [x, y, z] := by
      match l, hn with
      | [x, y, z], _ => exact ⟨x, y, z, rfl⟩
    rw [show List.range 3 = [0, 1, 2] from rfl, List.mapM_cons] at hy
    simp only [bind, Option.bind_eq_some_iff] at hy
    obtain ⟨y0, hy0, ys1, hys1, _⟩ := hy
    rw [List.mapM_cons] at hys1
    simp only [bind, Option.bind_eq_some_iff] at hys1
    obtain ⟨y1, hy1, ys2, hys2, _⟩ := hys1
    rw [List.mapM_cons] at hys2
    simp only [bind, Option.bind_eq_some_iff] at hys2
    obtain ⟨y2, hy2, _⟩ := hys2
    obtain ⟨u0, L0, e0, hI0, hl0⟩ := intsR_cells he hq cq hy0
    obtain ⟨u1, L1, e1, hI1, hl1⟩ := intsR_cells he hq cq hy1
    obtain ⟨u2, L2, e2, hI2, hl2⟩ := intsR_cells he hq cq hy2
    rw [A.one] at e0 e1 e2
    simp at e0 e1 e2
    subst e0 e1 e2
    exact ⟨_, _, _, _, _, _, rfl, ⟨hI0, hl0⟩, ⟨hI1, hl1⟩, ⟨hI2, hl2⟩⟩
end
end Go.Proofs.Ytkdakleckdkhiaa
