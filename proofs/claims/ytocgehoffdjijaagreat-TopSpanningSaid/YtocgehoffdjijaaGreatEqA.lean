/- '==' and '!=' for structs and arrays of ints. -/
import Derived.Test.YtocgehoffdjijaaGreatMem
import Derived.Laws.StructEq
import Derived.ChangeKeysEq
namespace Go.Proofs.YtocgehoffdjijaaGreat
namespace Gv
open Go.RowKit
section
variable {P : Program} {e : TypeId} {w : World}
/-- The fields are ints, one behind the other. -/
def intFields (e : TypeId) : List Field → Nat → Bool
  | [], _ => true
  | f :: fs, i => (f.name != "_") && (f.type == e) && (f.offset == i) && intFields e fs (i + 1)
theorem drop_cons {A : List Int} {i : Nat} (h : i < A.length) : A.drop i = A.getD i 0 :: A.drop (i + 1) := by
  rw [List.drop_eq_getElem_cons h, getD_lt h]
theorem part_int (hp : P.plainKey e = true) {A : List Int} {i : Nat} (h : i < A.length) : (part e (ints A).toArray i).run P w = .ok (.int .i64 (A.getD i 0)) w :=
  run_part_plain w hp (by simpa using ints_getD h)
theorem run_eqf (he : P.underlying e = some (.int .i64)) (hp : P.plainKey e = true) {A B : List Int} (D : Nat) : ∀ {fs : List Field} {i : Nat}, intFields e fs i = true → A.length = i + fs.length → B.length = i + fs.length →
    (Op.eqFields (D + 1) (ints A).toArray (ints B).toArray fs).run P w = .ok (decide (A.drop i = B.drop i)) w
  | [], i, _, hA, hB => by
    rw [List.drop_of_length_le (by simp at hA; omega), List.drop_of_length_le (by simp at hB; omega)]
    simp [Op.eqFields]
  | f :: fs, i, hf, hA, hB => by
    simp only [intFields, Bool.and_eq_true, bne_iff_ne, ne_eq, beq_iff_eq] at hf
    obtain ⟨⟨⟨h1, h2⟩, h3⟩, h4⟩ := hf
    simp only [List.length_cons] at hA hB
    have hcell : ∀ a b : Int, (Op.equalIn (D + 1) e (.int .i64 a) (.int .i64 b)).run P w = .ok (a == b) w := fun a b => by simp [Op.equalIn, run_underlying he]
    have ih := run_eqf he hp (A := A) (B := B) D (fs := fs) (i := i + 1) h4 (by omega) (by omega)
    rw [drop_cons (A := A) (i := i) (by omega), drop_cons (A := B) (i := i) (by omega)]
    simp only [Op.eqFields, h1, ne_eq, not_false_eq_true, if_true, Sem.run_bind, h2, h3, part_int hp (A := A) (i := i) (by omega), part_int hp (A := B) (i := i) (by omega), Result.andThen_ok, hcell]
    generalize A.getD i 0 = a
    generalize B.getD i 0 = b
    by_cases h : a = b
    · simp only [h, beq_self_eq_true, Bool.not_true, Bool.false_eq_true, if_false, ih]
      simp
    · simp [h]
theorem run_eqi (he : P.underlying e = some (.int .i64)) (hp : P.plainKey e = true) {A B : List Int} (D : Nat) : ∀ {n i : Nat}, A.length = i + n → B.length = i + n →
    (Op.eqItems (D + 1) e 1 (ints A).toArray (ints B).toArray (List.range' i n)).run P w = .ok (decide (A.drop i = B.drop i)) w
  | 0, i, hA, hB => by
    rw [List.drop_of_length_le (by omega), List.drop_of_length_le (by omega)]
    simp [Op.eqItems]
  | n + 1, i, hA, hB => by
    have hcell : ∀ a b : Int, (Op.equalIn (D + 1) e (.int .i64 a) (.int .i64 b)).run P w = .ok (a == b) w := fun a b => by simp [Op.equalIn, run_underlying he]
    have ih := run_eqi he hp (A := A) (B := B) D (n := n) (i := i + 1) (by omega) (by omega)
    rw [drop_cons (A := A) (i := i) (by omega), drop_cons (A := B) (i := i) (by omega)]
    simp only [List.range'_succ, Op.eqItems, Sem.run_bind, Nat.mul_one, part_int hp (A := A) (i := i) (by omega), part_int hp (A := B) (i := i) (by omega), Result.andThen_ok, hcell]
    generalize A.getD i 0 = a
    generalize B.getD i 0 = b
    by_cases h : a = b
    · simp only [h, beq_self_eq_true, Bool.not_true, Bool.false_eq_true, if_false, ih]
      simp
    · simp [h]
/-- A struct or an array of n ints that may be compared. -/
def eqInts (P : Program) (t e : TypeId) (n : Nat) : Bool :=
  (match P.underlying e with | some (.int .i64) => true | _ => false) && P.plainKey e && (P.cellsOf e == 1) && !P.eqGuardType P.depth t &&
  (match P.underlying t with
    | some (.struct fs) => intFields e fs.toList 0 && (fs.size == n) && !P.stoodInHeld t
    | some (.array m e') => (e' == e) && (m == n)
    | _ => false)
theorem run_eqA {t : TypeId} {n : Nat} (h : eqInts P t e n = true) {A B : List Int} (hA : A.length = n) (hB : B.length = n) :
    (Op.equalIn 10000 t (.agg (ints A).toArray) (.agg (ints B).toArray)).run P w = .ok (decide (A = B)) w := by
  unfold eqInts at h
  simp only [Bool.and_eq_true, Bool.not_eq_true', beq_iff_eq] at h
  obtain ⟨⟨⟨⟨h1, h2⟩, h3⟩, _⟩, h5⟩ := h
  have he : P.underlying e = some (.int .i64) := by
    split at h1
    · assumption
    · cases h1
  split at h5
  · rename_i fs hfs
    simp only [Bool.and_eq_true, Bool.not_eq_true', beq_iff_eq] at h5
    have hfo : P.fieldsOf t = fs := by unfold Program.fieldsOf; rw [hfs]
    rw [run_equalIn_struct w 9999 t _ _ (by rw [hfo]; exact hfs) h5.2, hfo]
    have := run_eqf (w := w) he h2 (A := A) (B := B) 9998 h5.1.1 (by simp; omega) (by simp; omega)
    simpa using this
  · rename_i m e' hfs
    simp only [Bool.and_eq_true, beq_iff_eq] at h5
    obtain ⟨rfl, rfl⟩ := h5
    obtain ⟨i, hi⟩ : ∃ i, P.info? e' = some i := by
      have h3' := h3
      unfold Program.cellsOf at h3'
      cases hi : P.info? e' with
      | none => rw [hi] at h3'; cases h3'
      | some i => exact ⟨i, rfl⟩
    rw [run_equalIn_array w 9999 _ _ hfs hi, h3, List.range_eq_range']
    have := run_eqi (w := w) he h2 (A := A) (B := B) 9998 (n := m) (i := 0) (by omega) (by omega)
    simpa using this
  · cases h5
end
section
variable {P : Program} {st : Bool} {K : Env → World → Prop} {ρ : Env} {w : World} {d : Nat} {ty : TypeId} {pos : String} {aft : Array Edge} {gd : Option (Nat × Bool)}
variable {x y : Operand} {t t2 e : TypeId} {n : Nat} {A B : List Int}
theorem r_eqA (h : eqInts P t e n = true) (hx : ev ρ x = .agg (ints A).toArray) (hy : ev ρ y = .agg (ints B).toArray) (hA : A.length = n) (hB : B.length = n) (hk : K (up ρ d (.bool (decide (A = B)))) w) :
    w1 P st ⟨some d, .binOp .eql t x y t2, ty, pos, aft, gd⟩ K ρ w := by
  refine w1_val (v := .bool (decide (A = B))) ?_ hk
  have hg : P.eqGuardType P.depth t = false := by
    unfold eqInts at h
    simp only [Bool.and_eq_true, Bool.not_eq_true'] at h
    exact h.1.2
  have hq := run_eqA (w := w) h hA hB
  have h1 := run_eqGuard_agg w .eql t x y (ints A).toArray (ints B).toArray hg
  have h2 := run_eql_struct (P := P) w t (ints A).toArray (ints B).toArray
  rw [hq] at h2
  simp [execOp, hx, hy, h1, h2]
theorem r_neqA (h : eqInts P t e n = true) (hx : ev ρ x = .agg (ints A).toArray) (hy : ev ρ y = .agg (ints B).toArray) (hA : A.length = n) (hB : B.length = n) (hk : K (up ρ d (.bool (!decide (A = B)))) w) :
    w1 P st ⟨some d, .binOp .neq t x y t2, ty, pos, aft, gd⟩ K ρ w := by
  refine w1_val (v := .bool (!decide (A = B))) ?_ hk
  have hg : P.eqGuardType P.depth t = false := by
    unfold eqInts at h
    simp only [Bool.and_eq_true, Bool.not_eq_true'] at h
    exact h.1.2
  have hq := run_eqA (w := w) h hA hB
  have h1 := run_eqGuard_agg w .neq t x y (ints A).toArray (ints B).toArray hg
  have h2 := run_neq_struct (P := P) w t (ints A).toArray (ints B).toArray
  rw [hq] at h2
  simp [execOp, hx, hy, h1, h2]
theorem r_eqA_t (h : eqInts P t e n = true) (hx : ev ρ x = .agg (ints A).toArray) (hy : ev ρ y = .agg (ints B).toArray) (hA : A.length = n) (hB : B.length = n) (he : A = B) (hk : K (up ρ d (.bool true)) w) :
    w1 P st ⟨some d, .binOp .eql t x y t2, ty, pos, aft, gd⟩ K ρ w := r_eqA h hx hy hA hB (by rw [decide_eq_true he]; exact hk)
theorem r_neqA_f (h : eqInts P t e n = true) (hx : ev ρ x = .agg (ints A).toArray) (hy : ev ρ y = .agg (ints B).toArray) (hA : A.length = n) (hB : B.length = n) (he : A = B) (hk : K (up ρ d (.bool false)) w) :
    w1 P st ⟨some d, .binOp .neq t x y t2, ty, pos, aft, gd⟩ K ρ w := r_neqA h hx hy hA hB (by rw [decide_eq_true he]; exact hk)
theorem run_buildSlice3 {z u1 u2 u3 : Value} {by_ : Nat} (hi : elemI P t = some (e, z, 1, by_)) (h1 : u1.oneCell' = true) (h2 : u2.oneCell' = true) (h3 : u3.oneCell' = true) :
    (Instr.buildSlice t 3 #[(0, u1), (1, u2), (2, u3)]).run P w = .ok (.slice (some ⟨w.heap.size, 0, none⟩) 3 3) (w.alloc (.cells #[u1, u2, u3] e)) := by
  obtain ⟨ht, i, hi, hz, hs', hbb⟩ := elemI_spec hi
  have c1 : u1.cells = #[u1] := by cases u1 <;> first | rfl | cases h1
  have c2 : u2.cells = #[u2] := by cases u2 <;> first | rfl | cases h2
  have c3 : u3.cells = #[u3] := by cases u3 <;> first | rfl | cases h3
  have ha : ∀ f : Nat → Value, ((((Array.range 3).map f).setIfInBounds 0 u1).setIfInBounds 1 u2).setIfInBounds 2 u3 = #[u1, u2, u3] := by intro f; apply Array.ext'; simp [Array.toList_setIfInBounds, List.range_succ]
  simp [Instr.buildSlice, run_underlying ht, sizeOf, typeInfo, hi, hs', zeroValue, hz, Instr.fill, c1, c2, c3, newRow, newObj, ha]
  rfl
theorem r_buildS3 {x1 x2 x3 : Operand} {zv u1 u2 u3 : Value} {by_ : Nat} (hi : elemI P t = some (e, zv, 1, by_)) (hx1 : ev ρ x1 = u1) (hx2 : ev ρ x2 = u2) (hx3 : ev ρ x3 = u3) (h1 : u1.oneCell' = true) (h2 : u2.oneCell' = true) (h3 : u3.oneCell' = true)
    (h : ∀ w', Own w' w.heap.size e (.slice (some ⟨w.heap.size, 0, none⟩) 3 3) [u1, u2, u3] → Ext w w' → w'.heap.size = w.heap.size + 1 → K (up ρ d (.slice (some ⟨w.heap.size, 0, none⟩) 3 3)) w') :
    w1 P false ⟨some d, .buildSlice t 3 #[(0, x1), (1, x2), (2, x3)], ty, pos, aft, gd⟩ K ρ w := by
  refine w1_val' (v := .slice (some ⟨w.heap.size, 0, none⟩) 3 3) (w' := w.alloc (.cells #[u1, u2, u3] e)) ?_ (h _ ⟨rfl, .inr ⟨w.heap.size, 3, #[u1, u2, u3], rfl, Nat.le_refl _, alloc_new w _, Nat.le_refl _, by simp [maxLen], rfl, rfl⟩⟩ (Ch.alloc w _) (by simp))
  simp [execOp, hx1, hx2, hx3, run_buildSlice3 hi h1 h2 h3]
end
end Gv
end Go.Proofs.YtocgehoffdjijaaGreat
