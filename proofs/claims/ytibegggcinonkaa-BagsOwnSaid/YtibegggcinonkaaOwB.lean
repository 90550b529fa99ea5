/- bags: rows that were made by several makers, put together in one list and written to; pairs written whole. -/
import Derived.Test.YtibegggcinonkaaDN
namespace Go.Proofs.Ytibegggcinonkaa
open Gv
/-- Owned rows of ints; their blocks lie in B, no two the same. -/
def OwnB (w : World) (B : Nat → Prop) (eo ei : TypeId) (v : Value) (T : List (List Int)) : Prop :=
  ∃ vs, Gv.Own w 0 eo v vs ∧ vs.length = T.length ∧ (∀ (i : Nat) (u : Value), vs[i]? = some u → OwnI w 0 ei u (T.getD i [])) ∧
    (∀ (i j : Nat) (u u' : Value) (g : Nat), vs[i]? = some u → vs[j]? = some u' → u.ownBlock = some g → u'.ownBlock = some g → i = j) ∧
    (∀ (i : Nat) (u : Value) (g : Nat), vs[i]? = some u → u.ownBlock = some g → B g ∧ v.ownBlock ≠ some g) ∧ (∀ g, v.ownBlock = some g → B g)
section
variable {w w' : World} {B B' : Nat → Prop} {lo hi : Nat} {eo ei : TypeId} {v u : Value} {T : List (List Int)} {L : List Int}
theorem OwnT.toB (h : OwnT w lo hi eo ei v T) : OwnB w (fun k => lo ≤ k ∧ k < hi) eo ei v T := by
  obtain ⟨vs, h1, h2, h3, h4, h5, h6⟩ := h
  exact ⟨vs, h1.mono (Nat.zero_le _), h2, fun i u hu => ownsRow_mono (h3 i u hu) (Nat.zero_le _), h4,
    fun i u g hu hg => ⟨⟨(World.ownsRow.lt (h3 i u hu) g hg).1, (h5 i u g hu hg).1⟩, (h5 i u g hu hg).2⟩, fun g hg => ⟨(h1.lt g hg).1, h6 g hg⟩⟩
theorem OwnB.tab (h : OwnB w B eo ei v T) : Tab w v T := by
  obtain ⟨vs, h1, h2, h3, _⟩ := h
  refine ⟨vs, h2 ▸ h1.sl, fun i hi => ?_⟩
  have hi' : i < vs.length := by omega
  refine ⟨vs[i], by simp [hi'], ?_⟩
  have := (h3 i vs[i] (by simp [hi'])).ints
  rwa [show T.getD i [] = T[i] by simp [List.getD, hi]] at this
theorem OwnB.keep {S : Nat → Prop} (h : OwnB w B eo ei v T) (hc : Ch S w w') (hs : ∀ g, B g → ¬ S g) : OwnB w' B eo ei v T := by
  obtain ⟨vs, h1, h2, h3, h4, h5, h6⟩ := h
  exact ⟨vs, h1.keep hc fun g hg => hs g (h6 g hg), h2,
    fun i u hu => ownsRow_keep (h3 i u hu) hc fun g hg => hs g (h5 i u g hu hg).1, h4, h5, h6⟩
theorem OwnB.ext (h : OwnB w B eo ei v T) (hc : Ext w w') : OwnB w' B eo ei v T := h.keep hc fun _ _ e => e
theorem OwnB.mono (h : OwnB w B eo ei v T) (hB : ∀ k, B k → B' k) : OwnB w B' eo ei v T := by
  obtain ⟨vs, h1, h2, h3, h4, h5, h6⟩ := h
  exact ⟨vs, h1, h2, h3, h4, fun i u g hu hg => ⟨hB _ (h5 i u g hu hg).1, (h5 i u g hu hg).2⟩, fun g hg => hB _ (h6 g hg)⟩
theorem OwnB.lt (h : OwnB w B eo ei v T) : ∀ g, v.ownBlock = some g → B g ∧ g < w.heap.size := by
  obtain ⟨vs, h1, h2, h3, h4, h5, h6⟩ := h
  exact fun g hg => ⟨h6 g hg, (h1.lt g hg).2⟩
/-- A row, to be read and written. -/
theorem OwnB.row {p : Option Addr} {n c : Nat} (h : OwnB w B eo ei (.slice p n c) T) {i : Nat} (hi' : i < T.length) :
    ∃ q m, Gv.rd w (pidx p i 1) = some (.slice q (T.getD i []).length m) ∧ OwnI w 0 ei (.slice q (T.getD i []).length m) (T.getD i []) ∧
      (∀ g, (Value.slice q (T.getD i []).length m).ownBlock = some g → B g) ∧
      (∀ w' L', L'.length = (T.getD i []).length → OwnI w' 0 ei (.slice q (T.getD i []).length m) L' → Ch (fun k => (Value.slice q (T.getD i []).length m).ownBlock = some k) w w' → OwnB w' B eo ei (.slice p n c) (T.set i L')) := by
  obtain ⟨vs, h1, h2, h3, h4, h5, h6⟩ := h
  have hiv : i < vs.length := by omega
  have hu : vs[i]? = some vs[i] := by simp [hiv]
  have ho := h3 i vs[i] hu
  obtain ⟨q, m, hq, _⟩ := ho.ints.slice
  rw [hq] at ho hu
  refine ⟨q, m, Sl.rd1 h1.sl i hu, ho, fun g hg => (h5 i _ g hu hg).1, fun w' L' hl ho' hc => ?_⟩
  refine ⟨vs, h1.keep hc fun g hg' => fun e => (h5 i _ g hu e).2 hg', by simp [h2], fun j u hj => ?_, h4, h5, h6⟩
  by_cases hji : j = i
  · subst hji
    rw [hu] at hj
    cases hj
    have : (T.set j L').getD j [] = L' := by simp [List.getD, hi']
    rw [this]
    exact ho'
  · have : (T.set i L').getD j [] = T.getD j [] := by simp [List.getD, Ne.symm hji]
    rw [this]
    exact ownsRow_keep (h3 j u hj) hc fun g hg' e => hji (h4 j i u _ g hj hu hg' e)
end
section
variable {P : Program} {K : Env → World → Prop} {ρ : Env} {w : World} {d : Nat} {ty : TypeId} {pos : String} {aft : Array Edge} {gd : Option (Nat × Bool)} {t e : TypeId}
theorem run_buildSlice4 {z u1 u2 u3 u4 : Value} {by_ : Nat} (hi : elemI P t = some (e, z, 1, by_)) (h1 : u1.oneCell' = true) (h2 : u2.oneCell' = true) (h3 : u3.oneCell' = true) (h4 : u4.oneCell' = true) :
    (Instr.buildSlice t 4 #[(0, u1), (1, u2), (2, u3), (3, u4)]).run P w = .ok (.slice (some ⟨w.heap.size, 0, none⟩) 4 4) (w.alloc (.cells #[u1, u2, u3, u4] e)) := by
  obtain ⟨ht, i, hi, hz, hs', hbb⟩ := elemI_spec hi
  have c1 : u1.cells = #[u1] := by cases u1 <;> first | rfl | cases h1
  have c2 : u2.cells = #[u2] := by cases u2 <;> first | rfl | cases h2
  have c3 : u3.cells = #[u3] := by cases u3 <;> first | rfl | cases h3
  have c4 : u4.cells = #[u4] := by cases u4 <;> first | rfl | cases h4
  have ha : ∀ f : Nat → Value, (((((Array.range 4).map f).setIfInBounds 0 u1).setIfInBounds 1 u2).setIfInBounds 2 u3).setIfInBounds 3 u4 = #[u1, u2, u3, u4] := by intro f; apply Array.ext'; simp [Array.toList_setIfInBounds, List.range_succ]
  simp [Instr.buildSlice, run_underlying ht, sizeOf, typeInfo, hi, hs', zeroValue, hz, Instr.fill, c1, c2, c3, c4, newRow, newObj, ha]
  rfl
theorem r_buildS4 {x1 x2 x3 x4 : Operand} {zv u1 u2 u3 u4 : Value} {by_ : Nat} (hi : elemI P t = some (e, zv, 1, by_)) (hx1 : ev ρ x1 = u1) (hx2 : ev ρ x2 = u2) (hx3 : ev ρ x3 = u3) (hx4 : ev ρ x4 = u4) (h1 : u1.oneCell' = true) (h2 : u2.oneCell' = true) (h3 : u3.oneCell' = true) (h4 : u4.oneCell' = true)
    (h : ∀ w', Gv.Own w' w.heap.size e (.slice (some ⟨w.heap.size, 0, none⟩) 4 4) [u1, u2, u3, u4] → Ext w w' → w'.heap.size = w.heap.size + 1 → K (up ρ d (.slice (some ⟨w.heap.size, 0, none⟩) 4 4)) w') :
    w1 P false ⟨some d, .buildSlice t 4 #[(0, x1), (1, x2), (2, x3), (3, x4)], ty, pos, aft, gd⟩ K ρ w := by
  refine w1_val' (v := .slice (some ⟨w.heap.size, 0, none⟩) 4 4) (w' := w.alloc (.cells #[u1, u2, u3, u4] e)) ?_ (h _ ⟨rfl, .inr ⟨w.heap.size, 4, #[u1, u2, u3, u4], rfl, Nat.le_refl _, alloc_new w _, Nat.le_refl _, by simp [maxLen], rfl, rfl⟩⟩ (Ch.alloc w _) (by simp))
  simp [execOp, hx1, hx2, hx3, hx4, run_buildSlice4 hi h1 h2 h3 h4]
end
section
variable {P : Program} {K : Env → World → Prop} {ρ : Env} {w : World} {ty : TypeId} {pos : String} {aft : Array Edge} {gd : Option (Nat × Bool)} {x y : Operand} {t e : TypeId} {base n c : Nat} {q : Option Addr} {A : List (Int × Int)} {a b : Int}
theorem prc_put : ∀ {A : List (Int × Int)} {i : Nat}, i < A.length → (prc A).take (i * 2) ++ [.int .i64 a, .int .i64 b] ++ (prc A).drop (i * 2 + 2) = prc (A.set i (a, b))
  | [], i, h => by simp at h
  | p :: A, 0, _ => by simp [prc]
  | p :: A, i + 1, h => by
    have := prc_put (A := A) (i := i) (by simpa using h)
    have e : prc (p :: A) = .int .i64 p.1 :: .int .i64 p.2 :: prc A := rfl
    rw [e, show (i + 1) * 2 = i * 2 + 1 + 1 by omega, List.take_succ_cons, List.take_succ_cons, show i * 2 + 1 + 1 + 2 = i * 2 + 2 + 1 + 1 by omega, List.drop_succ_cons, List.drop_succ_cons, List.set_cons_succ, List.cons_append, List.cons_append, List.cons_append, List.cons_append, this]
    rfl
/-- 'pairs[i] = pair'. -/
theorem r_st_pp {i : Nat} (hsz : aggT P t 2 = true) (hown : OwnP w base e (.slice q n c) A) (hx : ev ρ x = .pointer (pidx q i 2)) (hy : ev ρ y = .agg #[.int .i64 a, .int .i64 b]) (hi : i < A.length)
    (h : ∀ w', OwnP w' base e (.slice q n c) (A.set i (a, b)) → Ch (fun k => (Value.slice q n c).ownBlock = some k) w w' → w'.heap.size = w.heap.size → K ρ w') :
    w1 P false ⟨none, .store t x y, ty, pos, aft, gd⟩ K ρ w := by
  rcases hown.2 with ⟨hv, hn⟩ | ⟨g, cap, cur, hv, hb, hg, hnc, hcm, hcs, htk⟩
  · omega
  · cases hv
    have hlen := prc_length A
    have hcur : A.length * 2 ≤ cur.size := by rw [hcs]; exact Nat.mul_le_mul_right _ hnc
    obtain ⟨_, k, hk | hk⟩ := aggT_spec hsz
    · obtain ⟨hk, hs⟩ := hk
      have hst := run_storeCells_at P g (i * 2) e [.int .i64 a, .int .i64 b] 0 cur w hg (by simp only [List.length_cons, List.length_nil]; omega) (by intro q hq; simp at hq; rcases hq with rfl | rfl <;> rfl)
      refine w1_skip' (w' := w.setRow g (cur.toList.take (i * 2 + 0) ++ [Value.int .i64 a, Value.int .i64 b] ++ cur.toList.drop (i * 2 + 0 + [Value.int .i64 a, Value.int .i64 b].length)).toArray) ?_ (h _ ?_ ?_ ?_)
      · simp only [List.length_cons, List.length_nil, Nat.add_zero, Nat.zero_add] at hst ⊢
        simp [execOp, Instr.storeAt, Instr.sureAddr, hx, hy, storeVar, sizeOf, typeInfo, hk, hs, Value.cells, pidx, Addr.add_lit, hst]
      · refine ⟨?_, .inr ⟨g, c, _, ?_, hb, setRow_heap w g cur _ e _ hg, ?_, hcm, ?_, ?_⟩⟩
        · rw [← prc_put hi, List.length_set]
          have := prc_length (A.set i (a, b))
          rw [List.length_set] at this
          rw [prc_put hi]; exact this
        · simp
        · simpa using hnc
        · simp only [List.length_cons, List.length_nil, List.size_toArray, List.length_append, List.length_take, List.length_drop, Array.length_toList]
          omega
        · rw [← prc_put hi, ← htk]
          apply List.ext_getElem?
          intro m
          simp only [List.length_cons, List.length_nil, Nat.add_zero, Nat.zero_add, List.getElem?_take, List.getElem?_append, List.length_take, List.length_append, List.getElem?_drop, Array.length_toList, List.length_set]
          grind
      · exact ⟨rfl, rfl, rfl, by simp, fun k _ hk => setRow_other w g k _ (fun e => hk (by simp [Value.ownBlock, e]))⟩
      · simp
    · omega
end
end Go.Proofs.Ytibegggcinonkaa
