/- Lists of pairs of ints: slices whose elements have two cells. -/
import Derived.Test.YtocgehoffdjijaaGreatMem
namespace Go.Proofs.YtocgehoffdjijaaGreat
namespace Gv
def prc (L : List (Int × Int)) : List Value := L.flatMap fun x => [.int .i64 x.1, .int .i64 x.2]
theorem prc_length : ∀ L : List (Int × Int), (prc L).length = L.length * 2
  | [] => rfl
  | x :: L => by
    have := prc_length L
    unfold prc at *
    rw [List.flatMap_cons, List.length_append, this]; simp; omega
theorem prc_append (A B : List (Int × Int)) : prc (A ++ B) = prc A ++ prc B := by simp [prc]
theorem prc_get : ∀ {L : List (Int × Int)} {i : Nat}, i < L.length → (prc L)[i * 2 + 0]? = some (.int .i64 (L.getD i (0, 0)).1) ∧ (prc L)[i * 2 + 1]? = some (.int .i64 (L.getD i (0, 0)).2)
  | [], i, h => by simp at h
  | x :: L, 0, _ => by simp [prc]
  | x :: L, i + 1, h => by
    have := prc_get (L := L) (i := i) (by simpa using h)
    have e : prc (x :: L) = .int .i64 x.1 :: .int .i64 x.2 :: prc L := rfl
    rw [e]
    constructor
    · have h1 := this.1
      rw [Nat.add_zero] at h1
      rw [show (i + 1) * 2 + 0 = i * 2 + 1 + 1 by omega, List.getElem?_cons_succ, List.getElem?_cons_succ, h1]; simp
    · rw [show (i + 1) * 2 + 1 = (i * 2 + 1) + 1 + 1 by omega, List.getElem?_cons_succ, List.getElem?_cons_succ, this.2]; simp
theorem prc_one (L : List (Int × Int)) : ∀ q ∈ prc L, q.oneCell' = true := by
  intro q hq
  simp only [prc, List.mem_flatMap] at hq
  obtain ⟨x, _, h⟩ := hq
  simp at h
  rcases h with rfl | rfl <;> rfl
def Pairs2 (w : World) (v : Value) (L : List (Int × Int)) : Prop := Sl w 2 v L.length (prc L)
def OwnP (w : World) (base : Nat) (e : TypeId) (v : Value) (L : List (Int × Int)) : Prop := w.ownsRow base e 2 v L.length (prc L)
theorem OwnP.pairs {w : World} {base : Nat} {e : TypeId} {v : Value} {L : List (Int × Int)} (h : OwnP w base e v L) : Pairs2 w v L := ownsRow_sl h
theorem Pairs2.ext {w w' : World} {v : Value} {L : List (Int × Int)} (h : Pairs2 w v L) (hc : Ext w w') : Pairs2 w' v L := Sl.ext h hc
theorem Pairs2.keep {S : Nat → Prop} {w w' : World} {v : Value} {L : List (Int × Int)} (h : Pairs2 w v L) (hc : Ch S w w') (hs : ∀ g, v.ownBlock = some g → ¬ S g) : Pairs2 w' v L := Sl.keep h hc hs
theorem Pairs2.rd {w : World} {p : Option Addr} {n c : Nat} {L : List (Int × Int)} (h : Pairs2 w (.slice p n c) L) {i : Nat} (hi : i < L.length) :
    rd w ((pidx p i 2).map fun a => a.add 0) = some (.int .i64 (L.getD i (0, 0)).1) ∧ rd w ((pidx p i 2).map fun a => a.add 1) = some (.int .i64 (L.getD i (0, 0)).2) :=
  ⟨Sl.rd h i 0 (prc_get hi).1 (by decide), Sl.rd h i 1 (prc_get hi).2 (by decide)⟩
theorem Pairs2.isSome {w : World} {p : Option Addr} {n c : Nat} {L : List (Int × Int)} (h : Pairs2 w (.slice p n c) L) (hl : 0 < L.length) : p.isSome = true := Sl.isSome h hl
theorem Pairs2.slice {w : World} {v : Value} {L : List (Int × Int)} (h : Pairs2 w v L) : ∃ p c, v = .slice p L.length c ∧ L.length ≤ c := Sl.slice h
theorem OwnP.nil (w : World) (base : Nat) (e : TypeId) : OwnP w base e (.slice none 0 0) [] := World.ownsRow_nil w base e 2
def arrSz0 (P : Program) (t : TypeId) : Option (Nat × Nat) := match P.underlying t with
  | some (.array n e) => (P.info? e).bind fun i => if n ≤ 1 then none else some (n, i.size)
  | _ => none
section
variable {P : Program} {st : Bool} {K : Env → World → Prop} {ρ : Env} {w : World} {d : Nat} {ty : TypeId} {pos : String} {aft : Array Edge} {gd : Option (Nat × Bool)}
variable {x y : Operand} {t e : TypeId} {z v u : Value} {by_ base n m : Nat} {A B : List (Int × Int)} {a b : Int} {k : IntKind}
/-- An index into an array that lies somewhere. -/
theorem r_idxQ {n sz : Nat} {q : Option Addr} (ht : arrSz0 P t = some (n, sz)) (hx : ev ρ x = .pointer q) (hq : q.isSome = true) (hy : ev ρ y = .int k a) (h0 : 0 ≤ a) (h1 : a < n)
    (h : K (up ρ d (.pointer (q.map fun p => p.add (a.toNat * sz)))) w) : w1 P st ⟨some d, .indexAddr t x y, ty, pos, aft, gd⟩ K ρ w := by
  obtain ⟨p, rfl⟩ := Option.isSome_iff_exists.1 hq
  unfold arrSz0 at ht
  split at ht
  · rename_i n' e hs
    cases hi : P.info? e with
    | none => rw [hi] at ht; cases ht
    | some i =>
      rw [hi] at ht
      simp only [Option.bind_some] at ht
      split at ht
      · cases ht
      · cases ht
        refine w1_val (v := .pointer (some (p.add (a.toNat * i.size)))) ?_ h
        simp [execOp, Instr.indexAt, Instr.sureAddr, hx, hy, asIntOf, run_underlying hs, h0, h1, sizeOf, typeInfo, hi]
        try exact Eq.symm
  · cases ht
theorem pidx_isSome {p : Option Addr} {i sz : Nat} (h : p.isSome = true) : (pidx p i sz).isSome = true := by
  obtain ⟨q, rfl⟩ := Option.isSome_iff_exists.1 h; rfl
theorem run_buildSlice1p (hi : elemI P t = some (e, .agg #[.int .i64 0, .int .i64 0], 2, by_)) :
    (Instr.buildSlice t 1 #[(0, .agg #[.int .i64 a, .int .i64 b])]).run P w = .ok (.slice (some ⟨w.heap.size, 0, none⟩) 1 1) (w.alloc (.cells #[.int .i64 a, .int .i64 b] e)) := by
  obtain ⟨ht, i, hi, hz, hs', hbb⟩ := elemI_spec hi
  have ha : ∀ f : Nat → Value, (((Array.range 2).map f).setIfInBounds 0 (.int .i64 a)).setIfInBounds 1 (.int .i64 b) = #[.int .i64 a, .int .i64 b] := by intro f; apply Array.ext'; simp [Array.toList_setIfInBounds, List.range_succ]
  have hz2 : #[(Value.int .i64 a), .int .i64 b].zipIdx = #[(.int .i64 a, 0), (.int .i64 b, 1)] := rfl
  simp [Instr.buildSlice, run_underlying ht, sizeOf, typeInfo, hi, hs', zeroValue, hz, Instr.fill, Value.cells, newRow, newObj, hz2, ha]
  rfl
/-- 'append(s, [2]int{a, b})'. -/
theorem r_append1_p {ops : Array Oper} {r : List Oper} {d' dm : Nat} {ty2 : TypeId} {pos' : String} {aft' : Array Edge} (hi : elemI P t = some (e, .agg #[.int .i64 0, .int .i64 0], 2, by_)) (hby : 0 < by_ ∧ by_ ≤ 1024)
    (hown : OwnP w base e v A) (hy : ev ρ y = .agg #[.int .i64 a, .int .i64 b]) (hx : ev (up ρ dm (.slice (some ⟨w.heap.size, 0, none⟩) 1 1)) (.tmp d') = v) (hb : A.length + 1 ≤ 137438953472) (hbase : base ≤ w.heap.size)
    (h : ∀ v' w' q, OwnP w' base e v' (A ++ [(a, b)]) → w.grownBy w' v.ownBlock → v' ≠ .slice none 0 0 → (∀ g, v'.ownBlock = some g → v.ownBlock = some g ∨ w.heap.size ≤ g) → wl P false ops r K (up (up ρ dm q) d v') w') (hdm : Nat.beq dm 1000000 = false := by first | assumption | rfl) :
    w1 P false ⟨some dm, .buildSlice t 1 #[(0, y)], ty, pos, aft, none⟩ (wl P false ops (⟨some d, .call ⟨.builtin .append, #[.tmp d', .tmp dm], #[t, t]⟩, ty2, pos', aft', none⟩ :: r) K) ρ w := by
  refine w1_val' (v := .slice (some ⟨w.heap.size, 0, none⟩) 1 1) (w' := w.alloc (.cells #[.int .i64 a, .int .i64 b] e)) ?_ ?_
  · simp [execOp, hy, run_buildSlice1p hi]
  · refine wl_plain ?_
    have hsl : Sl (w.alloc (.cells #[.int .i64 a, .int .i64 b] e)) 2 (.slice (some ⟨w.heap.size, 0, none⟩) 1 1) 1 [.int .i64 a, .int .i64 b] :=
      ⟨_, 1, rfl, Nat.le_refl _, rfl, .inr ⟨w.heap.size, 0, rfl, by simp, fun j q hj => by
        rw [cell_of_row _ _ _ _ _ _ (alloc_new w _)]
        match j, hj with
        | 0, hj => simpa using hj
        | 1, hj => simpa using hj
        | j + 2, hj => simp at hj⟩⟩
    refine r_append hi rfl (by decide) hby.1 (hown.alloc _) hsl hx (by simp [ev, upo, up, hdm]) (by intro q hq; simp at hq; rcases hq with rfl | rfl <;> rfl) ?_ (by simp; omega) ?_
    · have := Nat.mul_le_mul hb hby.2; omega
    intro v' w' h2 h3 h4 h5
    refine h v' w' _ ?_ ((fun hg => ⟨hg.os, hg.tape, hg.output, Nat.le_trans (by simp) hg.size, fun k hk hn => (hg.block k (by simp; omega) hn).trans (alloc_old w _ k hk)⟩) h3) (fun e => ?_) (fun g hg => ?_)
    · unfold OwnP; rw [List.length_append, prc_append]; exact h2
    · have := h4.1 e
      omega
    · rcases h5 g hg with h6 | h6
      · exact .inl h6
      · simp at h6; exact .inr (by omega)
end
/-- Blocks of two rows stay apart while one grows. -/
theorem apart_grow {w : World} {v v' u : Value} (h5 : ∀ g, v'.ownBlock = some g → v.ownBlock = some g ∨ w.heap.size ≤ g) (hu : ∀ g, u.ownBlock = some g → g < w.heap.size) (hd : ∀ g, v.ownBlock = some g → u.ownBlock ≠ some g) :
    ∀ g, v'.ownBlock = some g → u.ownBlock ≠ some g := fun g hg e => by
  rcases h5 g hg with h | h
  · exact hd g h e
  · have := hu g e; omega
end Gv
end Go.Proofs.YtocgehoffdjijaaGreat
