/- Lists of structs of an int and a list of ints: slices that are read, rules for their elements. -/
import Derived.Test.YtocgehoffdjijaaGreatPairs
import Derived.Test.YtocgehoffdjijaaGreatAgg2
import Derived.Scope
namespace Go.Proofs.YtocgehoffdjijaaGreat
namespace Gv
def LayC (w : World) (L : List (Int × List Int)) (xs : List Value) : Prop :=
  xs.length = L.length * 2 ∧ ∀ i, i < L.length → xs[i * 2 + 0]? = some (.int .i64 (L.getD i (0, [])).1) ∧ ∃ u, xs[i * 2 + 1]? = some u ∧ Ints w u (L.getD i (0, [])).2
def Lays (w : World) (v : Value) (L : List (Int × List Int)) : Prop := ∃ xs, Sl w 2 v L.length xs ∧ LayC w L xs
theorem LayC.ext {w w' : World} {L : List (Int × List Int)} {xs : List Value} (h : LayC w L xs) (hc : Ext w w') : LayC w' L xs :=
  ⟨h.1, fun i hi => by obtain ⟨h1, u, h2, h3⟩ := h.2 i hi; exact ⟨h1, u, h2, h3.ext hc⟩⟩
theorem Lays.ext {w w' : World} {v : Value} {L : List (Int × List Int)} (h : Lays w v L) (hc : Ext w w') : Lays w' v L := by
  obtain ⟨xs, h1, h2⟩ := h; exact ⟨xs, h1.ext hc, h2.ext hc⟩
theorem Lays.nil (w : World) : Lays w (.slice none 0 0) [] := ⟨[], Sl.nil _ _, rfl, fun i hi => by simp at hi⟩
theorem Lays.slice {w : World} {v : Value} {L : List (Int × List Int)} (h : Lays w v L) : ∃ p c, v = .slice p L.length c ∧ L.length ≤ c := by obtain ⟨xs, h1, _⟩ := h; exact h1.slice
theorem Lays.isSome {w : World} {p : Option Addr} {n c : Nat} {L : List (Int × List Int)} (h : Lays w (.slice p n c) L) (hl : 0 < L.length) : p.isSome = true := by obtain ⟨xs, h1, _⟩ := h; exact h1.isSome hl
theorem Lays.rd {w : World} {p : Option Addr} {n c : Nat} {L : List (Int × List Int)} (h : Lays w (.slice p n c) L) {i : Nat} (hi : i < L.length) :
    Gv.rd w ((pidx p i 2).map fun a => a.add 0) = some (.int .i64 (L.getD i (0, [])).1) ∧ ∃ q m, Gv.rd w ((pidx p i 2).map fun a => a.add 1) = some (.slice q (L.getD i (0, [])).2.length m) ∧ Ints w (.slice q (L.getD i (0, [])).2.length m) (L.getD i (0, [])).2 := by
  obtain ⟨xs, h1, h2⟩ := h
  obtain ⟨h3, u, h4, h5⟩ := h2.2 i hi
  obtain ⟨q, m, rfl, _⟩ := h5.slice
  exact ⟨Sl.rd h1 i 0 h3 (by decide), q, m, Sl.rd h1 i 1 h4 (by decide), h5⟩
section
variable {P : Program} {st : Bool} {K : Env → World → Prop} {ρ : Env} {w : World} {d : Nat} {ty : TypeId} {pos : String} {aft : Array Edge} {gd : Option (Nat × Bool)}
variable {x y : Operand} {t e : TypeId} {z v u : Value} {by_ base n m k : Nat}
/-- A field of a struct that lies somewhere. -/
theorem r_faQ {s off : Nat} {q : Option Addr} (hf : fldOff P s k = some off) (hx : ev ρ x = .pointer q) (hq : q.isSome = true) (h : K (up ρ d (.pointer (q.map fun p => p.add off))) w) :
    w1 P st ⟨some d, .fieldAddr s x k, ty, pos, aft, gd⟩ K ρ w := by
  obtain ⟨p, rfl⟩ := Option.isSome_iff_exists.1 hq
  unfold fldOff at hf
  split at hf
  · rename_i fs hs
    cases hfk : fs[k]? with
    | none => rw [hfk] at hf; cases hf
    | some f =>
      rw [hfk] at hf
      simp only [Option.bind_some] at hf
      cases hi : P.info? f.type with
      | none => rw [hi] at hf; cases hf
      | some i =>
        rw [hi] at hf
        simp only [Option.bind_some] at hf
        split at hf
        · cases hf
        · rename_i h0
          cases hf
          refine w1_val (v := .pointer (some (p.add f.offset))) ?_ h
          simp [execOp, Instr.fieldAt, run_underlying hs, hfk, Instr.sureAddr, hx, fieldPlace, sizeOf, typeInfo, hi, h0]
  · cases hf
/-- An element of two cells, read whole. -/
theorem r_ld2Q {q : Option Addr} {a1 a2 : Value} (hsz : aggT P t 2 = true) (hx : ev ρ x = .pointer q) (h1 : rd w (q.map fun a => a.add 0) = some a1) (h2 : rd w (q.map fun a => a.add 1) = some a2) (h : K (up ρ d (.agg #[a1, a2])) w) :
    w1 P st ⟨some d, .load t x, ty, pos, aft, gd⟩ K ρ w := by
  obtain ⟨ha, i, hi | hi⟩ := aggT_spec hsz
  · obtain ⟨hi, hs⟩ := hi
    cases q with
    | none => cases h1
    | some p =>
      have c0 : w.cell? (p.add 0) = some a1 := h1
      have c1 : w.cell? (p.add 1) = some a2 := h2
      refine w1_val (v := .agg #[a1, a2]) ?_ h
      simp [execOp, Instr.loadAt, Instr.sureAddr, hx, loadVar, ha, sizeOf, typeInfo, hi, hs, loadCells, loadCellsFrom, load, Sem.run, c0, c1]
  · cases hi
theorem run_buildSlice1q {z1 z2 a b : Value} (hi : elemI P t = some (e, .agg #[z1, z2], 2, by_)) :
    (Instr.buildSlice t 1 #[(0, .agg #[a, b])]).run P w = .ok (.slice (some ⟨w.heap.size, 0, none⟩) 1 1) (w.alloc (.cells #[a, b] e)) := by
  obtain ⟨ht, i, hi, hz, hs', hbb⟩ := elemI_spec hi
  have ha : ∀ f : Nat → Value, (((Array.range 2).map f).setIfInBounds 0 a).setIfInBounds 1 b = #[a, b] := by intro f; apply Array.ext'; simp [Array.toList_setIfInBounds, List.range_succ]
  have hz2 : #[a, b].zipIdx = #[(a, 0), (b, 1)] := rfl
  simp [Instr.buildSlice, run_underlying ht, sizeOf, typeInfo, hi, hs', zeroValue, hz, Instr.fill, Value.cells, newRow, newObj, hz2, ha]
  rfl
theorem r_buildS1q {z1 z2 a b : Value} (hi : elemI P t = some (e, .agg #[z1, z2], 2, by_)) (hy : ev ρ y = .agg #[a, b])
    (h : ∀ w', Sl w' 2 (.slice (some ⟨w.heap.size, 0, none⟩) 1 1) 1 [a, b] → Ext w w' → w'.heap.size = w.heap.size + 1 → K (up ρ d (.slice (some ⟨w.heap.size, 0, none⟩) 1 1)) w') :
    w1 P false ⟨some d, .buildSlice t 1 #[(0, y)], ty, pos, aft, gd⟩ K ρ w := by
  refine w1_val' (v := .slice (some ⟨w.heap.size, 0, none⟩) 1 1) (w' := w.alloc (.cells #[a, b] e)) ?_ (h _ ?_ (Ch.alloc w _) (by simp))
  · simp [execOp, hy, run_buildSlice1q hi]
  · exact ⟨_, 1, rfl, Nat.le_refl _, rfl, .inr ⟨w.heap.size, 0, rfl, by simp, fun j q hj => by
      rw [cell_of_row _ _ _ _ _ _ (alloc_new w _)]
      match j, hj with
      | 0, hj => simpa using hj
      | 1, hj => simpa using hj
      | j + 2, hj => simp at hj⟩⟩
end
/-- Owned structs, each with a list of its own; lists and structs lie apart. -/
def OwnY (w : World) (base : Nat) (e : TypeId) (v : Value) (L : List (Int × List Int)) : Prop :=
  ∃ xs, w.ownsRow base e 2 v L.length xs ∧ LayC w L xs ∧ ∀ (i : Nat) (u : Value) (g : Nat), i < L.length → xs[i * 2 + 1]? = some u → u.ownBlock = some g → g < w.heap.size ∧ v.ownBlock ≠ some g
theorem OwnY.nil (w : World) (base : Nat) (e : TypeId) : OwnY w base e (.slice none 0 0) [] := ⟨[], World.ownsRow_nil w base e 2, ⟨rfl, fun i hi => by simp at hi⟩, fun i u g hi => by simp at hi⟩
theorem OwnY.lays {w : World} {base : Nat} {e : TypeId} {v : Value} {L : List (Int × List Int)} (h : OwnY w base e v L) : Lays w v L := by
  obtain ⟨xs, h1, h2, _⟩ := h; exact ⟨xs, ownsRow_sl h1, h2⟩
theorem OwnY.ext {w w' : World} {base : Nat} {e : TypeId} {v : Value} {L : List (Int × List Int)} (h : OwnY w base e v L) (hc : Ext w w') : OwnY w' base e v L := by
  obtain ⟨xs, h1, h2, h3⟩ := h
  exact ⟨xs, ownsRow_ext h1 hc, h2.ext hc, fun i u g hi hu hg => ⟨Nat.lt_of_lt_of_le (h3 i u g hi hu hg).1 hc.size, (h3 i u g hi hu hg).2⟩⟩
theorem getD_snocL {α : Type} {L : List α} {x d : α} {i : Nat} (hi : i < L.length) : (L ++ [x]).getD i d = L.getD i d := by simp [List.getD, List.getElem?_append, hi]
theorem getD_snocE {α : Type} {L : List α} {x d : α} : (L ++ [x]).getD L.length d = x := by simp [List.getD]
section
variable {P : Program} {K : Env → World → Prop} {ρ : Env} {w : World} {d : Nat} {ty : TypeId} {pos : String} {aft : Array Edge} {gd : Option (Nat × Bool)}
variable {x y : Operand} {t e : TypeId} {z v s u : Value} {by_ base : Nat} {L : List (Int × List Int)} {a : Int} {l : List Int}
/-- 'append(out, s...)' where s is one new struct. -/
theorem r_appendY {z1 z2 : Value} (hi : elemI P t = some (e, .agg #[z1, z2], 2, by_)) (hby : 0 < by_ ∧ by_ ≤ 1024) (hown : OwnY w base e v L) (hs : Sl w 2 s 1 [.int .i64 a, u]) (hu : Ints w u l) (hub : ∀ g, u.ownBlock = some g → g < w.heap.size ∧ v.ownBlock ≠ some g)
    (hx : ev ρ x = v) (hy : ev ρ y = s) (hb : L.length + 1 ≤ 137438953472) (hbase : base ≤ w.heap.size)
    (h : ∀ v' w', OwnY w' base e v' (L ++ [(a, l)]) → Ch (fun k => v.ownBlock = some k) w w' → (∀ g, v'.ownBlock = some g → v.ownBlock = some g ∨ w.heap.size ≤ g) → K (up ρ d v') w') :
    w1 P false ⟨some d, .call ⟨.builtin .append, #[x, y], #[t, t]⟩, ty, pos, aft, gd⟩ K ρ w := by
  obtain ⟨xs, h1, h2, h3⟩ := hown
  have hone : u.oneCell' = true := by obtain ⟨q, m, rfl, _⟩ := hu.slice; rfl
  refine r_append hi rfl (by decide) hby.1 h1 hs hx hy (by intro q hq; simp at hq; rcases hq with rfl | rfl <;> first | rfl | exact hone) ?_ hbase ?_
  · have := Nat.mul_le_mul hb hby.2; omega
  intro v' w' g1 g2 g3 g4
  have hC : Ch (fun k => v.ownBlock = some k) w w' := Ch.grown g2 fun k hk => hk
  have key : ∀ (i : Nat) (q : Value), (xs ++ [.int .i64 a, u])[i * 2 + 1]? = some q → (i < L.length ∧ xs[i * 2 + 1]? = some q) ∨ (i = L.length ∧ q = u) := fun i q hq => by
    have hl := h2.1
    by_cases hi : i < L.length
    · rw [List.getElem?_append_left (by omega)] at hq; exact .inl ⟨hi, hq⟩
    · rw [List.getElem?_append_right (by omega)] at hq
      have : i = L.length := by
        have := (List.getElem?_eq_some_iff.1 hq).1
        simp at this; omega
      subst this
      rw [hl, show L.length * 2 + 1 - L.length * 2 = 1 by omega] at hq
      simp at hq; exact .inr ⟨rfl, hq.symm⟩
  refine h v' w' ⟨xs ++ [.int .i64 a, u], by rw [List.length_append]; exact g1, ⟨by simp [h2.1]; omega, fun i hi => ?_⟩, fun i q g hi hq hg => ?_⟩ hC g4
  · simp only [List.length_append, List.length_singleton] at hi
    by_cases hiL : i < L.length
    · obtain ⟨a1, q, a2, a3⟩ := h2.2 i hiL
      have hl := h2.1
      rw [getD_snocL hiL, List.getElem?_append_left (by omega), List.getElem?_append_left (by omega)]
      exact ⟨a1, q, a2, a3.keep hC fun g hg e => (h3 i q g hiL a2 hg).2 e⟩
    · have hie : i = L.length := by omega
      subst hie
      have hl := h2.1
      rw [getD_snocE, List.getElem?_append_right (by omega), List.getElem?_append_right (by omega), hl, show L.length * 2 + 0 - L.length * 2 = 0 by omega, show L.length * 2 + 1 - L.length * 2 = 1 by omega]
      exact ⟨rfl, u, rfl, hu.keep hC fun g hg e => (hub g hg).2 e⟩
  · have hgw : g < w.heap.size ∧ v.ownBlock ≠ some g := by
      rcases key i q hq with ⟨hiL, hq'⟩ | ⟨_, rfl⟩
      · exact h3 i q g hiL hq' hg
      · exact hub g hg
    refine ⟨Nat.lt_of_lt_of_le hgw.1 hC.size, fun e => ?_⟩
    rcases g4 g e with e1 | e1
    · exact hgw.2 e1
    · omega
end
/-- A function whose body opens a scope. -/
theorem calls_of_wc_scope {P : Program} {f : FuncId} {fn : Func} {r b : Code} {args : List Value} {w : World} {R : Value → World → Prop}
    (hf : P.funcs[f]? = some fn) (hb : fn.body = some (.seq r (.scope b))) (hk : (codeOk (args.length + (fn.ntmps - args.length)) (.seq r (.scope b)) && Nat.ble (args.length + (fn.ntmps - args.length)) 1000000) = true)
    (h' : wc P r (thenQ (wc P b (post P fn R)) (post P fn R)) (env0 args) w) : Calls P f args.toArray w (Ret R) := by
  refine calls_of_wc hf hb hk (wc_seq (wc_mono h' fun e ρ' w' h => ?_))
  cases e with
  | normal =>
    unfold thenQ at h ⊢
    refine wc_scope (wc_mono h fun e ρ' w' h => ?_)
    unfold noG
    cases e with
    | goto i => exact h.elim
    | _ => exact h
  | _ => unfold thenQ at h ⊢; exact h
end Gv
end Go.Proofs.YtocgehoffdjijaaGreat
