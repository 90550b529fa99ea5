/- Structs in blocks: nested structs and arrays; a cell of a list of pairs is stored. -/
import Derived.Test.YtocgehoffdjijaaGreatLay
import Derived.Test.YtocgehoffdjijaaGreatLdP
import Derived.Test.YtocgehoffdjijaaGreatMaps
namespace Go.Proofs.YtocgehoffdjijaaGreat
namespace Gv
open Go.RowKit
section
variable {P : Program} {st : Bool} {K : Env → World → Prop} {ρ : Env} {w : World} {d : Nat} {ty : TypeId} {pos : String} {aft : Array Edge} {gd : Option (Nat × Bool)}
variable {x y : Operand} {t e ty' : TypeId} {b base n m : Nat} {v : Value} {vs ws : List Value} {a : Int} {k : IntKind} {A : List (Int × Int)}
theorem r_faE {s off o o' f : Nat} (hf : fldOff P s f = some off) (hx : ev ρ x = .pointer (some ⟨b, o, none⟩)) (ho : Nat.beq (o + off) o' = true) (h : K (up ρ d (.pointer (some ⟨b, o', none⟩))) w) :
    w1 P st ⟨some d, .fieldAddr s x f, ty, pos, aft, gd⟩ K ρ w := r_fa hf hx (by rw [Nat.eq_of_beq_eq_true ho]; exact h)
theorem r_idxE {o : Nat} (ht : arrSz P t = some (n, 1)) (hx : ev ρ x = .pointer (some ⟨b, o, none⟩)) (hy : ev ρ y = .int k a) (h0 : 0 ≤ a) (h1 : a < n)
    (h : K (up ρ d (.pointer (some ⟨b, o + a.toNat, none⟩))) w) : w1 P st ⟨some d, .indexAddr t x y, ty, pos, aft, gd⟩ K ρ w := by
  unfold arrSz at ht
  split at ht
  · rename_i n' e hs
    cases hi : P.info? e with
    | none => rw [hi] at ht; cases ht
    | some i =>
      rw [hi] at ht
      simp only [Option.bind_some] at ht
      split at ht
      · cases ht
      · simp only [Option.some.injEq, Prod.mk.injEq] at ht
        obtain ⟨rfl, hsz⟩ := ht
        refine w1_val (v := .pointer (some ⟨b, o + a.toNat, none⟩)) ?_ h
        simp [execOp, Instr.indexAt, Instr.sureAddr, hx, hy, asIntOf, run_underlying hs, h0, h1, sizeOf, typeInfo, hi, hsz, Addr.add_lit]
  · cases ht
theorem rv_faE {s off o o' f : Nat} (hf : fldOff P s f = some off) (hx : ev ρ x = .pointer (some ⟨b, o, none⟩)) (ho : Nat.beq (o + off) o' = true) : (execOp (ev ρ) ⟨some d, .fieldAddr s x f, ty, pos, aft, gd⟩).run P w = .ok (.value (.pointer (some ⟨b, o', none⟩))) w :=
  rv_of rfl (fun _ h => r_faE hf hx ho h) fun _ _ h => val_of h
theorem rv_idxE {o : Nat} (ht : arrSz P t = some (n, 1)) (hx : ev ρ x = .pointer (some ⟨b, o, none⟩)) (hy : ev ρ y = .int k a) (h0 : 0 ≤ a) (h1 : a < n) : (execOp (ev ρ) ⟨some d, .indexAddr t x y, ty, pos, aft, gd⟩).run P w = .ok (.value (.pointer (some ⟨b, o + a.toNat, none⟩))) w :=
  rv_of rfl (fun _ h => r_idxE ht hx hy h0 h1 h) fun _ _ h => val_of h
theorem rv_faQ {s off f : Nat} {q : Option Addr} (hf : fldOff P s f = some off) (hx : ev ρ x = .pointer q) (hq : q.isSome = true) : (execOp (ev ρ) ⟨some d, .fieldAddr s x f, ty, pos, aft, gd⟩).run P w = .ok (.value (.pointer (q.map fun p => p.add off))) w :=
  rv_of rfl (fun _ h => r_faQ hf hx hq h) fun _ _ h => val_of h
theorem r_nilQ {q : Option Addr} (hx : ev ρ x = .pointer q) (hq : q.isSome = true) (h : K (up ρ d (.pointer q)) w) : w1 P st ⟨some d, .nilCheck x, ty, pos, aft, gd⟩ K ρ w := by
  obtain ⟨p, rfl⟩ := Option.isSome_iff_exists.1 hq
  exact r_nilCheck hx h
theorem rv_nilQ {q : Option Addr} (hx : ev ρ x = .pointer q) (hq : q.isSome = true) : (execOp (ev ρ) ⟨some d, .nilCheck x, ty, pos, aft, gd⟩).run P w = .ok (.value (.pointer q)) w :=
  by obtain ⟨p, rfl⟩ := Option.isSome_iff_exists.1 hq; simp [execOp, hx]
theorem rv_min {ts : Array TypeId} {a2 c : Int} (hx : ev ρ x = .int k a) (hy : ev ρ y = .int k a2) (hc : (if a2 < a then a2 else a) = c) : (execOp (ev ρ) ⟨some d, .call ⟨.builtin .min, #[x, y], ts⟩, ty, pos, aft, gd⟩).run P w = .ok (.value (.int k c)) w := by
  simp [execOp, resolve, invoke, builtin, Builtin.min_, Builtin.min2, hx, hy, ← hc]
theorem rv_sub {t2 : TypeId} {a2 : Int} (hx : ev ρ x = .int .i64 a) (hy : ev ρ y = .int .i64 a2) (hc : -9223372036854775808 ≤ a - a2 ∧ a - a2 ≤ 9223372036854775807) : (execOp (ev ρ) ⟨some d, .binOp .sub t x y t2, ty, pos, aft, gd⟩).run P w = .ok (.value (.int .i64 (a - a2))) w :=
  rv_of rfl (fun _ h => r_sub_in hx hy hc h) fun _ _ h => val_of h
theorem map_isSome {q : Option Addr} {f : Addr → Addr} (h : q.isSome = true) : (q.map f).isSome = true := by rw [Option.isSome_map]; exact h
end
theorem rv_lookup {κ : Type} [DecidableEq κ] {enc : κ → Value} {P : Program} {ρ : Env} {w : World} {d : Nat} {ty : TypeId} {pos : String} {aft : Array Edge} {gd : Option (Nat × Bool)} {x y : Operand} {t kt e : TypeId} {z v : Value} {b : Nat} {F : κ → Option Value} {k : κ}
    (ht : mapT P t = some (kt, e, z)) (hk : KeyOf P kt enc) (h0 : MapF enc w b F) (hx : ev ρ x = .map (some b)) (hy : ev ρ y = enc k) (hv : (F k).getD z = v) :
    (execOp (ev ρ) ⟨some d, .lookup t x y false, ty, pos, aft, gd⟩).run P w = .ok (.value v) w := rv_of rfl (fun _ h => r_lookup ht hk h0 hx hy hv h) fun _ _ h => val_of h
section
variable {P : Program} {st : Bool} {K : Env → World → Prop} {ρ : Env} {w : World} {d : Nat} {ty : TypeId} {pos : String} {aft : Array Edge} {gd : Option (Nat × Bool)}
variable {x y : Operand} {t e ty' : TypeId} {b base n m : Nat} {v : Value} {vs ws : List Value} {a : Int} {k : IntKind} {A : List (Int × Int)}
/-- Cells of a struct from a place in it on, read whole. -/
theorem r_ldAt {o : Nat} {t' : TypeId} (hsz : aggT P t n = true) (h0 : 0 < n) (hb : Blk w b t' vs) (hw : (vs.drop o).take n = ws) (hl : ws.length = n) (hx : ev ρ x = .pointer (some ⟨b, o, none⟩)) (h : K (up ρ d (.agg ws.toArray)) w) :
    w1 P st ⟨some d, .load t x, ty, pos, aft, gd⟩ K ρ w := by
  obtain ⟨ha, i, hi | hi⟩ := aggT_spec hsz
  · obtain ⟨hi, hs⟩ := hi
    have hr := run_loadCells_list (P := P) (w := w) ⟨b, o, none⟩ ws fun j q hq => by
      rw [Addr.add_lit]
      rw [cell_of_row w b (o + j) _ _ _ hb]
      rw [← hw, List.getElem?_take] at hq
      split at hq
      · rw [List.getElem?_drop] at hq; simpa using hq
      · cases hq
    refine w1_val (v := .agg ws.toArray) ?_ h
    simp [execOp, Instr.loadAt, Instr.sureAddr, hx, loadVar, ha, sizeOf, typeInfo, hi, hs, ← hl, hr]
  · omega
theorem prc_set0 : ∀ {A : List (Int × Int)} {i : Nat}, (prc A).set (i * 2) (.int .i64 a) = prc (A.set i (a, (A.getD i (0, 0)).2))
  | [], i => by simp [prc]
  | p :: A, 0 => by simp [prc]
  | p :: A, i + 1 => by
    have := prc_set0 (A := A) (i := i)
    have e : prc (p :: A) = .int .i64 p.1 :: .int .i64 p.2 :: prc A := rfl
    rw [e, show (i + 1) * 2 = i * 2 + 1 + 1 by omega, List.set_cons_succ, List.set_cons_succ, this, List.set_cons_succ, List.getD_cons_succ]; rfl
theorem prc_set1 : ∀ {A : List (Int × Int)} {i : Nat}, (prc A).set (i * 2 + 1) (.int .i64 a) = prc (A.set i ((A.getD i (0, 0)).1, a))
  | [], i => by simp [prc]
  | p :: A, 0 => by simp [prc]
  | p :: A, i + 1 => by
    have := prc_set1 (A := A) (i := i)
    have e : prc (p :: A) = .int .i64 p.1 :: .int .i64 p.2 :: prc A := rfl
    rw [e, show (i + 1) * 2 + 1 = i * 2 + 1 + 1 + 1 by omega, List.set_cons_succ, List.set_cons_succ, this, List.set_cons_succ, List.getD_cons_succ]; rfl
/-- A store to one of the two cells of an element. -/
theorem r_st_pc {i j c : Nat} {q : Option Addr} (hsz : P.cellsOf ty' = 1) (hown : OwnP w base e (.slice q n c) A) (hx : ev ρ x = .pointer ((pidx q i 2).map fun p => p.add j)) (hy : ev ρ y = .int .i64 a) (hi : i < A.length) (hj : j < 2)
    (h : ∀ w', OwnP w' base e (.slice q n c) (A.set i (if j = 0 then (a, (A.getD i (0, 0)).2) else ((A.getD i (0, 0)).1, a))) → w.grownBy w' (Value.slice q n c).ownBlock → w'.heap.size = w.heap.size → K ρ w') :
    w1 P false ⟨none, .store ty' x y, ty, pos, aft, gd⟩ K ρ w := by
  have hpl : (prc A).set (i * 2 + j) (.int .i64 a) = prc (A.set i (if j = 0 then (a, (A.getD i (0, 0)).2) else ((A.getD i (0, 0)).1, a))) := by
    have : j = 0 ∨ j = 1 := by omega
    rcases this with rfl | rfl
    · simpa using prc_set0
    · simpa using prc_set1
  rcases hown.2 with ⟨hv, hn⟩ | ⟨g, cap, cur, hv, hb, hg, hnc, hcm, hcs, htk⟩
  · omega
  · cases hv
    have hlen := prc_length A
    have hcur : A.length * 2 ≤ cur.size := by rw [hcs]; exact Nat.mul_le_mul_right _ hnc
    refine w1_skip' (w' := w.setRow g (cur.toList.set (i * 2 + j) (.int .i64 a)).toArray) ?_ (h _ ?_ ?_ ?_)
    · have hr := run_store1 (P := P) (w := w) (ty' := ty') (u := .int .i64 a) (a := ⟨g, i * 2 + j, none⟩) hsz rfl hg (by show i * 2 + j < cur.size; omega)
      simp [execOp, Instr.storeAt, Instr.sureAddr, hx, hy, pidx, Addr.add_lit, hr]
    · refine ⟨?_, .inr ⟨g, c, _, ?_, hb, setRow_heap w g cur _ e _ hg, ?_, hcm, by simpa using hcs, ?_⟩⟩
      · rw [← hpl, List.length_set, List.length_set]; exact hown.1
      · simp
      · simpa using hnc
      · rw [← hpl, ← htk]
        simp [List.take_set]
    · exact ⟨rfl, rfl, rfl, by simp, fun k _ hk => setRow_other w g k _ (fun e => hk (by simp [Value.ownBlock, e]))⟩
    · simp
theorem run_buildSlice2 {z u1 u2 : Value} {by_ : Nat} (hi : elemI P t = some (e, z, 1, by_)) (h1 : u1.oneCell' = true) (h2 : u2.oneCell' = true) :
    (Instr.buildSlice t 2 #[(0, u1), (1, u2)]).run P w = .ok (.slice (some ⟨w.heap.size, 0, none⟩) 2 2) (w.alloc (.cells #[u1, u2] e)) := by
  obtain ⟨ht, i, hi, hz, hs', hbb⟩ := elemI_spec hi
  have c1 : u1.cells = #[u1] := by cases u1 <;> first | rfl | cases h1
  have c2 : u2.cells = #[u2] := by cases u2 <;> first | rfl | cases h2
  have ha : ∀ f : Nat → Value, (((Array.range 2).map f).setIfInBounds 0 u1).setIfInBounds 1 u2 = #[u1, u2] := by intro f; apply Array.ext'; simp [Array.toList_setIfInBounds, List.range_succ]
  simp [Instr.buildSlice, run_underlying ht, sizeOf, typeInfo, hi, hs', zeroValue, hz, Instr.fill, c1, c2, newRow, newObj, ha]
  rfl
/-- '[]int{a, b}'. -/
theorem r_buildS2 {x1 x2 : Operand} {a1 a2 : Int} {by_ : Nat} (hi : elemI P t = some (e, .int .i64 0, 1, by_)) (hx1 : ev ρ x1 = .int .i64 a1) (hx2 : ev ρ x2 = .int .i64 a2)
    (h : ∀ w', OwnI w' w.heap.size e (.slice (some ⟨w.heap.size, 0, none⟩) 2 2) [a1, a2] → Ext w w' → w'.heap.size = w.heap.size + 1 → K (up ρ d (.slice (some ⟨w.heap.size, 0, none⟩) 2 2)) w') :
    w1 P false ⟨some d, .buildSlice t 2 #[(0, x1), (1, x2)], ty, pos, aft, gd⟩ K ρ w := by
  refine w1_val' (v := .slice (some ⟨w.heap.size, 0, none⟩) 2 2) (w' := w.alloc (.cells #[.int .i64 a1, .int .i64 a2] e)) ?_ (h _ ⟨rfl, .inr ⟨w.heap.size, 2, #[.int .i64 a1, .int .i64 a2], rfl, Nat.le_refl _, alloc_new w _, Nat.le_refl _, by simp [maxLen], rfl, rfl⟩⟩ (Ch.alloc w _) (by simp))
  simp [execOp, hx1, hx2, run_buildSlice2 (u1 := .int .i64 a1) (u2 := .int .i64 a2) hi rfl rfl]
theorem prc_replicate : ∀ m : Nat, prc (List.replicate m (0, 0)) = (List.range (m * 2)).map fun _ => .int .i64 0
  | 0 => rfl
  | m + 1 => by
    rw [List.replicate_succ]
    have e : prc ((0, 0) :: List.replicate m (0, 0)) = .int .i64 0 :: .int .i64 0 :: prc (List.replicate m (0, 0)) := rfl
    rw [e, prc_replicate m]
    apply List.ext_getElem
    · simp; omega
    · intro i h1 h2
      match i with
      | 0 => simp
      | 1 => simp
      | i + 2 => simp
/-- 'make([][2]int, n)'. -/
theorem r_make_p {k : IntKind} {m : Nat} (hi : elemI P t = some (e, .agg #[.int .i64 0, .int .i64 0], 2, 16)) (hx : ev ρ x = .int k (m : Int)) (hy : ev ρ y = .int k (m : Int)) (hb : m ≤ 1048576)
    (h : ∀ w', OwnP w' w.heap.size e (.slice (some ⟨w.heap.size, 0, none⟩) m m) (List.replicate m (0, 0)) → Ext w w' → w'.heap.size = w.heap.size + 1 → K (up ρ d (.slice (some ⟨w.heap.size, 0, none⟩) m m)) w') :
    w1 P false ⟨some d, .makeSlice t x y, ty, pos, aft, gd⟩ K ρ w := by
  obtain ⟨ht, i, hi, hz, hs', hbb⟩ := elemI_spec hi
  have hb2 : (i.bytes : Int) * (m : Int) ≤ 281474976710656 := by rw [hbb]; omega
  have hr := run_make (P := P) w t e i _ ht hi hz k k (m : Int) (m : Int) (by omega) (Int.le_refl _) hb2 (by omega)
  simp only [Int.toNat_natCast] at hr
  have hl : (madeCells #[Value.int .i64 0, .int .i64 0] (m * i.size)).toList = prc (List.replicate m (0, 0)) := by
    rw [hs', prc_replicate]
    apply List.ext_getElem
    · simp [madeCells]
    · intro j h1 h2
      have hj : j % 2 = 0 ∨ j % 2 = 1 := by omega
      rcases hj with hj | hj <;> simp [madeCells, hj]
  refine w1_val' (v := .slice (some ⟨w.heap.size, 0, none⟩) m m) (w' := w.alloc (.cells (madeCells #[Value.int .i64 0, .int .i64 0] (m * i.size)) e)) ?_ (h _ ?_ (Ch.alloc w _) (by simp))
  · simp [execOp, hx, hy, hr]
    rfl
  · refine ⟨by rw [prc_length], .inr ⟨w.heap.size, m, _, by rw [List.length_replicate], Nat.le_refl _, alloc_new w _, by simp, by simp only [maxLen]; omega, by rw [size_madeCells, hs'], ?_⟩⟩
    rw [hl, List.take_of_length_le (by rw [prc_length]; exact Nat.le_refl _)]
end
end Gv
end Go.Proofs.YtocgehoffdjijaaGreat
