/- An argument of a law that is a list of [3]int. -/
import Derived.Test.YtocgehoffdjijaaGreatLift2
import Derived.Test.YtocgehoffdjijaaGreatQ
namespace Go.Proofs.YtocgehoffdjijaaGreat
open Go.ChangeShapes Go.WideShapes Go.ChangeAt Go.RowKit Go.WideMaps Gv
/-- Cells that hold three ints each. -/
def Tri (w : World) (q : Option Addr) (n c : Nat) : Prop := n ≤ c ∧ (n = 0 ∨ ∃ b o, q = some ⟨b, o, none⟩ ∧ b < w.heap.size ∧ ∀ i, i < n → ∃ x y z : Int, w.cell? ⟨b, o + i * 3, none⟩ = some (.int .i64 x) ∧ w.cell? ⟨b, o + i * 3 + 1, none⟩ = some (.int .i64 y) ∧ w.cell? ⟨b, o + i * 3 + 2, none⟩ = some (.int .i64 z))
theorem Tri.ext {w w' : World} {q : Option Addr} {n c : Nat} (h : Tri w q n c) (hc : Ext w w') : Tri w' q n c := by
  refine ⟨h.1, h.2.imp_right ?_⟩
  rintro ⟨b, o, rfl, hb, hm⟩
  refine ⟨b, o, rfl, Nat.lt_of_lt_of_le hb hc.size, fun i hi => ?_⟩
  obtain ⟨x, y, z, h1, h2, h3⟩ := hm i hi
  have hk := hc.block b hb (fun e => e)
  exact ⟨x, y, z, by rw [World.cell?_of_block (w := w) hk]; exact h1, by rw [World.cell?_of_block (w := w) hk]; exact h2, by rw [World.cell?_of_block (w := w) hk]; exact h3⟩
theorem Tri.isSome {w : World} {q : Option Addr} {n c : Nat} (h : Tri w q n c) (h0 : 0 < n) : q.isSome = true := by
  rcases h.2 with e | ⟨b, o, rfl, _⟩
  · omega
  · rfl
theorem Tri.rd {w : World} {q : Option Addr} {n c : Nat} (h : Tri w q n c) {i : Nat} (hi : i < n) : ∃ x y z : Int, Gv.rd w ((pidx q i 3).map fun a => a.add 0) = some (.int .i64 x) ∧ Gv.rd w ((pidx q i 3).map fun a => a.add 1) = some (.int .i64 y) ∧ Gv.rd w ((pidx q i 3).map fun a => a.add 2) = some (.int .i64 z) := by
  rcases h.2 with e | ⟨b, o, rfl, _, hm⟩
  · omega
  · obtain ⟨x, y, z, h1, h2, h3⟩ := hm i hi
    refine ⟨x, y, z, ?_, ?_, ?_⟩ <;> simp only [pidx, Gv.rd, Option.map_some, Option.bind_some, Addr.add_lit]
    · exact h1
    · exact h2
    · exact h3
section
variable {H : Type} {enc : TypeId × Value → H} {P : Program}
theorem open_three {k e : TypeId} {w : World} {base : Nat} {sp : Nat → Bool} {held : Bool} (A : ArrKey P k e 3) (he : P.underlying e = some (.int .i64)) {xs : Array Value} (hn : xs.size = 3) {d : DataW H} {ps : List MemPlace}
    (hd : DataW.Trod enc P w base sp held k (.agg xs) d ps) : ∃ a b c, xs = #[.int .i64 a, .int .i64 b, .int .i64 c] := by
  obtain ⟨fuel, hf⟩ := hd
  cases fuel with
  | zero => simp [DataW.trod] at hf
  | succ m =>
    rw [DataW.trod_step] at hf
    unfold DataW.trodStep at hf
    simp only [A.hu, Value.cells] at hf
    rw [if_pos (by rw [A.size]; simpa using hn)] at hf
    simp only [Option.map_eq_some_iff] at hf
    obtain ⟨ys, hy, e1⟩ := hf
    rcases xs with ⟨l⟩
    obtain ⟨x, y, z, rfl⟩ : ∃ x y z, l = [x, y, z] := by
      match l, hn with
      | [x, y, z], _ => exact ⟨x, y, z, rfl⟩
    rw [show List.range 3 = [0, 1, 2] from rfl, List.mapM_cons] at hy
    simp only [bind, Option.bind_eq_some_iff] at hy
    obtain ⟨y0, hy0, ys1, hys1, _⟩ := hy
    rw [List.mapM_cons] at hys1
    simp only [bind, Option.bind_eq_some_iff] at hys1
    obtain ⟨y1, hy1, ys2, hys2, _⟩ := hys1
    rw [List.mapM_cons] at hys2
    simp only [bind, Option.bind_eq_some_iff] at hys2
    obtain ⟨y2, hy2, _⟩ := hys2
    obtain ⟨a, ea, _⟩ := DataW.trod_int he hy0
    obtain ⟨b, eb, _⟩ := DataW.trod_int he hy1
    obtain ⟨c, ec, _⟩ := DataW.trod_int he hy2
    rw [A.one] at ea eb ec
    simp at ea eb ec
    exact ⟨a, b, c, by rw [ea, eb, ec]⟩
theorem open_trips {t e i : TypeId} {w : World} {q : Option Addr} {n c : Nat} {d : DataW H} {ps : List MemPlace} (ht : P.underlying t = some (.slice e)) (A : ArrKey P e i 3) (hi : P.underlying i = some (.int .i64)) (ce : P.cellsOf e = 3)
    (h : DataW.Trod enc P w 0 (fun _ => true) true t (.slice q n c) d ps) : Tri w q n c ∧ n ≤ 9223372036854775807 := by
  obtain ⟨fuel, hf⟩ := h
  rw [show (Value.slice q n c).cells.toList = [.slice q n c] from rfl] at hf
  rcases DataW.trod_slice ht hf with ⟨hcs0, hx⟩ | ⟨a, len, cap, elems, rest, _, _, hcs0, hx, _, hl, hm, hel, hat, _, _⟩
  · simp at hcs0
    obtain ⟨_, rfl, rfl⟩ := hcs0
    exact ⟨⟨Nat.le_refl _, .inl rfl⟩, by omega⟩
  simp at hcs0
  obtain ⟨rfl, rfl, rfl⟩ := hcs0
  refine ⟨⟨hl, ?_⟩, by unfold maxLen at hm; omega⟩
  rcases Nat.eq_zero_or_pos n with hz | hz
  · exact .inl hz
  refine .inr ?_
  have each : ∀ i, i < n → ∃ x y z : Int, w.cell? ((a.add (i * 3)).add 0) = some (.int .i64 x) ∧ w.cell? ((a.add (i * 3)).add 1) = some (.int .i64 y) ∧ w.cell? ((a.add (i * 3)).add 2) = some (.int .i64 z) := fun i hi' => by
    have h2 := hat i hi'
    rw [List.getElem?_eq_getElem (by omega), ce, Option.bind_eq_some_iff] at h2
    obtain ⟨cc, hcc, htr⟩ := h2
    have hc := (World.cells?_some hcc)
    have hsz : cc.length = 3 := hc.2.1
    generalize elems[i] = y at htr
    obtain ⟨d, p⟩ := y
    obtain ⟨z, u, v, e2⟩ := open_three A hi (xs := cc.toArray) (by simpa using hsz) (d := d) (ps := p) ⟨_, by simpa [Value.cells] using htr⟩
    have e3 : cc = [.int .i64 z, .int .i64 u, .int .i64 v] := by simpa using congrArg Array.toList e2
    subst e3
    exact ⟨z, u, v, by simpa using hc.2.2 0 (by omega), by simpa using hc.2.2 1 (by omega), by simpa using hc.2.2 2 (by omega)⟩
  obtain ⟨b, o, sp⟩ := a
  obtain ⟨_, _, _, h1, _⟩ := each 0 hz
  have hsn : sp = none := by
    cases sp with
    | none => rfl
    | some _ => simp [World.cell?, Addr.add] at h1; split at h1 <;> simp at h1
  subst hsn
  rw [Addr.add_lit, Addr.add_lit] at h1
  refine ⟨b, o, rfl, World.block_lt_of_cell? _ _ h1, fun i hi' => ?_⟩
  obtain ⟨x, y, z, g1, g2, g3⟩ := each i hi'
  rw [Addr.add_lit, Addr.add_lit] at g1 g2 g3
  exact ⟨x, y, z, g1, g2, g3⟩
end
end Go.Proofs.YtocgehoffdjijaaGreat
