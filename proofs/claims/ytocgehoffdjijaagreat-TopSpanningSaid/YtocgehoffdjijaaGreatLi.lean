/- forks: lists of lists read as values; slices.Grow, slices.Concat, of ints and of strings; short lists built. -/
import Derived.Test.YtocgehoffdjijaaGreatRd
import Derived.Test.YtocgehoffdjijaaGreatNilS
import Derived.Test.YtocgehoffdjijaaGreatGrowZ
import Derived.Test.YtocgehoffdjijaaGreatUpj
namespace Go.Proofs.YtocgehoffdjijaaGreat
namespace Gv
open Go.RowKit
def TabV (w : World) (v : Value) (T : List (List Value)) : Prop :=
  ∃ vs, Sl w 1 v T.length vs ∧ ∀ i (h : i < T.length), ∃ u, vs[i]? = some u ∧ Sl w 1 u T[i].length T[i]
theorem TabV.ext {w w' : World} {v : Value} {T : List (List Value)} (h : TabV w v T) (hc : Ext w w') : TabV w' v T := by
  obtain ⟨vs, h1, h2⟩ := h
  exact ⟨vs, h1.ext hc, fun i hi => let ⟨u, hu, hl⟩ := h2 i hi; ⟨u, hu, hl.ext hc⟩⟩
theorem TabV.slice {w : World} {v : Value} {T : List (List Value)} (h : TabV w v T) : ∃ p c, v = .slice p T.length c ∧ T.length ≤ c := by
  obtain ⟨vs, h1, _⟩ := h; exact Sl.slice h1
theorem TabV.isSome {w : World} {p : Option Addr} {n c : Nat} {T : List (List Value)} (h : TabV w (.slice p n c) T) (hl : 0 < T.length) : p.isSome = true := by
  obtain ⟨vs, h1, _⟩ := h; exact Sl.isSome h1 hl
theorem TabV.rd {w : World} {p : Option Addr} {n c : Nat} {T : List (List Value)} (h : TabV w (.slice p n c) T) {i : Nat} (hi : i < T.length) :
    ∃ q m, Gv.rd w (pidx p i 1) = some (.slice q (T.getD i []).length m) ∧ Sl w 1 (.slice q (T.getD i []).length m) (T.getD i []).length (T.getD i []) := by
  obtain ⟨vs, h1, h2⟩ := h
  obtain ⟨u, hu, hl⟩ := h2 i hi
  have e : T.getD i [] = T[i] := by simp [List.getD, hi]
  rw [e]
  obtain ⟨q, m, rfl, _⟩ := hl.slice
  exact ⟨q, m, Sl.rd1 h1 i hu, hl⟩
section
variable {P : Program} {K : Env → World → Prop} {ρ : Env} {w : World} {d : Nat} {ty : TypeId} {pos : String} {aft : Array Edge} {gd : Option (Nat × Bool)} {x1 x2 x3 : Operand} {t e : TypeId} {z u1 u2 u3 : Value} {by_ : Nat}
theorem run_buildSlice2v (hi : elemI P t = some (e, z, 1, by_)) (h1 : u1.oneCell' = true) (h2 : u2.oneCell' = true) :
    (Instr.buildSlice t 2 #[(0, u1), (1, u2)]).run P w = .ok (.slice (some ⟨w.heap.size, 0, none⟩) 2 2) (w.alloc (.cells #[u1, u2] e)) := by
  obtain ⟨ht, i, hi, hz, hs', hbb⟩ := elemI_spec hi
  have hc1 : u1.cells = #[u1] := by cases u1 <;> first | rfl | cases h1
  have hc2 : u2.cells = #[u2] := by cases u2 <;> first | rfl | cases h2
  have ha : ∀ f : Nat → Value, (((Array.range 2).map f).setIfInBounds 0 u1).setIfInBounds 1 u2 = #[u1, u2] := by intro f; apply Array.ext'; simp [Array.toList_setIfInBounds, List.range_succ]
  simp [Instr.buildSlice, run_underlying ht, sizeOf, typeInfo, hi, hs', zeroValue, hz, Instr.fill, hc1, hc2, newRow, newObj, ha]
  rfl
theorem run_buildSlice3v (hi : elemI P t = some (e, z, 1, by_)) (h1 : u1.oneCell' = true) (h2 : u2.oneCell' = true) (h3 : u3.oneCell' = true) :
    (Instr.buildSlice t 3 #[(0, u1), (1, u2), (2, u3)]).run P w = .ok (.slice (some ⟨w.heap.size, 0, none⟩) 3 3) (w.alloc (.cells #[u1, u2, u3] e)) := by
  obtain ⟨ht, i, hi, hz, hs', hbb⟩ := elemI_spec hi
  have hc1 : u1.cells = #[u1] := by cases u1 <;> first | rfl | cases h1
  have hc2 : u2.cells = #[u2] := by cases u2 <;> first | rfl | cases h2
  have hc3 : u3.cells = #[u3] := by cases u3 <;> first | rfl | cases h3
  have ha : ∀ f : Nat → Value, ((((Array.range 3).map f).setIfInBounds 0 u1).setIfInBounds 1 u2).setIfInBounds 2 u3 = #[u1, u2, u3] := by intro f; apply Array.ext'; simp [Array.toList_setIfInBounds, List.range_succ]
  simp [Instr.buildSlice, run_underlying ht, sizeOf, typeInfo, hi, hs', zeroValue, hz, Instr.fill, hc1, hc2, hc3, newRow, newObj, ha]
  rfl
theorem r_buildV2 (hi : elemI P t = some (e, z, 1, by_)) (hx1 : ev ρ x1 = u1) (hx2 : ev ρ x2 = u2) (h1 : u1.oneCell' = true) (h2 : u2.oneCell' = true)
    (h : ∀ w', Own w' w.heap.size e (.slice (some ⟨w.heap.size, 0, none⟩) 2 2) [u1, u2] → Ext w w' → w'.heap.size = w.heap.size + 1 → K (up ρ d (.slice (some ⟨w.heap.size, 0, none⟩) 2 2)) w') :
    w1 P false ⟨some d, .buildSlice t 2 #[(0, x1), (1, x2)], ty, pos, aft, gd⟩ K ρ w := by
  refine w1_val' (v := .slice (some ⟨w.heap.size, 0, none⟩) 2 2) (w' := w.alloc (.cells #[u1, u2] e)) ?_ (h _ ⟨rfl, .inr ⟨w.heap.size, 2, #[u1, u2], rfl, Nat.le_refl _, alloc_new w _, Nat.le_refl _, by simp [maxLen], rfl, rfl⟩⟩ (Ch.alloc w _) (by simp))
  simp [execOp, hx1, hx2, run_buildSlice2v hi h1 h2]
theorem r_buildV3 (hi : elemI P t = some (e, z, 1, by_)) (hx1 : ev ρ x1 = u1) (hx2 : ev ρ x2 = u2) (hx3 : ev ρ x3 = u3) (h1 : u1.oneCell' = true) (h2 : u2.oneCell' = true) (h3 : u3.oneCell' = true)
    (h : ∀ w', Own w' w.heap.size e (.slice (some ⟨w.heap.size, 0, none⟩) 3 3) [u1, u2, u3] → Ext w w' → w'.heap.size = w.heap.size + 1 → K (up ρ d (.slice (some ⟨w.heap.size, 0, none⟩) 3 3)) w') :
    w1 P false ⟨some d, .buildSlice t 3 #[(0, x1), (1, x2), (2, x3)], ty, pos, aft, gd⟩ K ρ w := by
  refine w1_val' (v := .slice (some ⟨w.heap.size, 0, none⟩) 3 3) (w' := w.alloc (.cells #[u1, u2, u3] e)) ?_ (h _ ⟨rfl, .inr ⟨w.heap.size, 3, #[u1, u2, u3], rfl, Nat.le_refl _, alloc_new w _, Nat.le_refl _, by simp [maxLen], rfl, rfl⟩⟩ (Ch.alloc w _) (by simp))
  simp [execOp, hx1, hx2, hx3, run_buildSlice3v hi h1 h2 h3]
end
abbrev strs (L : List Str) : List Value := L.map str
theorem strs_len (L : List Str) : (strs L).length = L.length := by simp
theorem strs_one (L : List Str) : ∀ q ∈ strs L, q.oneCell' = true := by
  intro q hq
  simp only [strs, List.mem_map] at hq
  obtain ⟨a, _, rfl⟩ := hq
  rfl
def Strs (w : World) (v : Value) (L : List Str) : Prop := Sl w 1 v L.length (strs L)
def OwnS (w : World) (base : Nat) (v : Value) (L : List Str) : Prop := w.ownsRow base 9 1 v L.length (strs L)
theorem OwnS.strs {w : World} {base : Nat} {v : Value} {L : List Str} (h : OwnS w base v L) : Strs w v L := ownsRow_sl h
theorem OwnS.ext {w w' : World} {base : Nat} {v : Value} {L : List Str} (h : OwnS w base v L) (hc : Ext w w') : OwnS w' base v L := ownsRow_ext h hc
theorem OwnS.own {w : World} {base : Nat} {v : Value} {L : List Str} (h : OwnS w base v L) : Own w base 9 v (Gv.strs L) := by unfold Own; rw [strs_len]; exact h
theorem OwnS.of {w : World} {base : Nat} {v : Value} {L : List Str} (h : Own w base 9 v (Gv.strs L)) : OwnS w base v L := by unfold Own at h; rw [strs_len] at h; exact h
theorem Strs.ext {w w' : World} {v : Value} {L : List Str} (h : Strs w v L) (hc : Ext w w') : Strs w' v L := Sl.ext h hc
theorem Strs.keep {S : Nat → Prop} {w w' : World} {v : Value} {L : List Str} (h : Strs w v L) (hc : Ch S w w') (hs : ∀ g, v.ownBlock = some g → ¬ S g) : Strs w' v L := Sl.keep h hc hs
theorem Strs.slice {w : World} {v : Value} {L : List Str} (h : Strs w v L) : ∃ p c, v = .slice p L.length c ∧ L.length ≤ c := Sl.slice h
theorem Strs.isSome {w : World} {p : Option Addr} {n c : Nat} {L : List Str} (h : Strs w (.slice p n c) L) (hl : 0 < L.length) : p.isSome = true := Sl.isSome h hl
theorem Strs.rd {w : World} {p : Option Addr} {n c : Nat} {L : List Str} (h : Strs w (.slice p n c) L) {i : Nat} (hi : i < L.length) : Gv.rd w (pidx p i 1) = some (str (L.getD i [])) :=
  Sl.rd1 h i (by simp [List.getD, hi])
end Gv
open Gv
theorem el22 : elemI Tryz.prog 27 = some (3, .int .i64 0, 1, 8) := by kernel_rfl
theorem el32 : elemI Tryz.prog 84 = some (9, str [], 1, 16) := by kernel_rfl
theorem el104 : elemI Tryz.prog 137 = some (84, .slice none 0 0, 1, 24) := by kernel_rfl
theorem el122 : elemI Tryz.prog 35 = some (27, .slice none 0 0, 1, 24) := by kernel_rfl
theorem sl22 : sliceT Tryz.prog 27 = true := by kernel_rfl
theorem ss22 : sliceSz Tryz.prog 27 = some 1 := by kernel_rfl
theorem sl32 : sliceT Tryz.prog 84 = true := by kernel_rfl
theorem ss32 : sliceSz Tryz.prog 84 = some 1 := by kernel_rfl
theorem un3 : Tryz.prog.underlying 3 = some (.int .i64) := by kernel_rfl
set_option maxRecDepth 20000 in
set_option maxHeartbeats 1000000 in
theorem growI_any (n : Nat) (w : World) (hn : n ≤ 1000000) :
    Calls Tryz.prog 167 #[.slice none 0 0, .int .i64 n] w (Ret fun v' w' => Gv.Own w' w.heap.size 3 v' [] ∧ Ext w w') := by
  refine calls_of_wc (args := [.slice none 0 0, .int .i64 n]) Tryz.func167 rfl ?_ ?_; kernel_rfl
  repeat' (first|refine za ?_|refine zA ?_|refine zB ?_|refine zb ?_|refine zc ?_|refine ze ?_|refine zd ?_|refine zC ?_|refine zY ?_|refine zk ?_)
  refine r_cap sl22 rfl ?_
  by_cases h0 : n = 0
  · subst h0
    repeat' (first|refine za ?_|refine zA ?_|refine zB ?_|refine zb ?_|refine zc ?_|refine ze ?_|refine zd ?_|refine zE ?_|refine zJ ?_|refine zK ?_|refine zY ?_|refine zk ?_|refine zn ?_)
    refine post1 (v := .slice none 0 0) rfl rfl ?_
    exact ⟨Gv.Own.nil _ _ _, Ext.refl _⟩
  · repeat' (first|refine za ?_|refine zA ?_|refine zB ?_|refine zb ?_|refine zc ?_|refine ze ?_|refine zd ?_|refine zE ?_|refine zJ ?_|refine zK ?_|refine zX ?_)
    refine r_cap sl22 rfl ?_
    repeat' (refine za ?_)
    refine r_slice ss22 (n := 0) (c := 0) (l := 0) (h' := 0) rfl rfl ⟨_, rfl⟩ (Nat.le_refl _) (Nat.le_refl _) ?_
    repeat' (first|refine za ?_|refine zA ?_)
    refine r_growz (n := n) el22 rfl un3 rfl (congrArg (Value.int .i64) (by omega)) (by omega) (by omega) (by simp only [maxLen]; omega) fun w1 c hc hO hE hs => ?_
    repeat' (first|refine za ?_|refine zA ?_|refine zK ?_)
    refine r_slice ss22 (n := n) (c := c) (l := 0) (h' := 0) rfl rfl ⟨_, rfl⟩ (Nat.le_refl _) (by omega) ?_
    have hv : (if c = 0 then some (⟨w.heap.size, 0, none⟩ : Addr) else (some (⟨w.heap.size, 0, none⟩ : Addr)).map fun a => a.add (0 * 1)) = some ⟨w.heap.size, 0, none⟩ := by
      rw [if_neg (by omega)]; simp [Addr.add]
    rw [hv]
    repeat' (first|refine za ?_|refine zA ?_|refine zB ?_|refine zb ?_|refine zc ?_|refine ze ?_|refine zd ?_|refine zn ?_)
    refine post1 (v := .slice (some ⟨w.heap.size, 0, none⟩) 0 c) rfl rfl ?_
    exact ⟨hO, hE⟩
theorem flatV_take {T : List (List Value)} {k : Nat} (h : k < T.length) : (T.take (k + 1)).flatten = (T.take k).flatten ++ T.getD k [] := by
  rw [List.take_succ_eq_append_getElem h, show T.getD k [] = T[k] by simp [List.getD, h], List.flatten_append, List.flatten_cons, List.flatten_nil, List.append_nil]
theorem flatV_take_le {T : List (List Value)} {k : Nat} : (T.take k).flatten.length ≤ T.flatten.length := by
  conv => rhs; rw [← List.take_append_drop k T]
  simp only [List.flatten_append, List.length_append]
  omega
theorem getV_one {T : List (List Value)} {k : Nat} (h : ∀ q ∈ T.flatten, q.oneCell' = true) : ∀ q ∈ T.getD k [], q.oneCell' = true := by
  intro q hq
  by_cases hk : k < T.length
  · have e : T.getD k [] = T[k] := by simp [List.getD, hk]
    rw [e] at hq
    exact h q (List.mem_flatten.2 ⟨_, List.getElem_mem hk, hq⟩)
  · rw [List.getD_eq_getElem?_getD, List.getElem?_eq_none (by omega)] at hq; simp at hq
set_option maxRecDepth 20000 in
set_option maxHeartbeats 2000000 in
theorem concatI_any (v : Value) (T : List (List Value)) (w : World) (h : TabV w v T) (h1 : ∀ q ∈ T.flatten, q.oneCell' = true) (hm : T.length ≤ 1000) (ht : T.flatten.length ≤ 1000000) :
    Calls Tryz.prog 125 #[v] w (Ret fun v' w' => Gv.Own w' w.heap.size 3 v' T.flatten ∧ Ext w w') := by
  obtain ⟨q, c, rfl, hqc⟩ := h.slice
  refine calls_of_wc (args := [.slice q T.length c]) Tryz.func125 rfl ?_ ?_; kernel_rfl
  repeat' (first|refine za ?_|refine zA ?_|refine zB ?_|refine zb ?_|refine zc ?_|refine ze ?_|refine zd ?_|refine zK ?_|refine zl ?_)
  refine wc_loop [0, 2, 9, 10] (fun (k : Nat) => [(11, .int .i64 k), (3, .int .i64 ((T.take k).flatten.length : Int))]) (fun k wk => k ≤ T.length ∧ wk = w) (fun k => T.length - k) 0 rfl ⟨rfl, rfl, trivial⟩ ⟨by omega, rfl⟩ ?_
  rintro k wk x ⟨hk, rfl⟩
  by_cases hkT : k < T.length
  · have hps := h.isSome (by omega)
    obtain ⟨qk, mk, hrk, hIk⟩ := h.rd hkT
    have hfl := flatV_take_le (T := T) (k := k + 1)
    rw [flatV_take hkT, List.length_append] at hfl
    repeat' (first|refine za ?_|refine zA ?_|refine zB ?_|refine zb ?_|refine zc ?_|refine ze ?_|refine zd ?_|refine zC ?_|refine zI ?_|refine zK ?_|refine zL ?_|refine zM ?_|refine zX ?_|refine zY ?_|refine zk ?_|refine zl ?_|refine zh ?_)
    refine ⟨k + 1, ⟨rfl, ?_, trivial⟩, ⟨by omega, rfl⟩, by omega⟩
    show Value.int .i64 _ = Value.int .i64 _
    rw [flatV_take hkT, List.length_append]
    congr 1
  · have hkl : k = T.length := by omega
    subst hkl
    have htk : T.take T.length = T := List.take_length
    rw [htk]
    repeat' (first|refine za ?_|refine zA ?_|refine zb ?_|refine zc ?_|refine ze ?_|refine zd ?_|refine zC ?_|refine zY ?_|refine zm ?_|refine zg ?_|refine zj ?_)
    (refine r_call (R := ?_) rfl ?_ ?_; rotate_left 1; focus exact growI_any T.flatten.length _ (by omega))
    rintro v1 w1 ⟨hO1, hE1⟩
    repeat' (first|refine za ?_|refine zA ?_|refine zB ?_|refine zb ?_|refine zc ?_|refine ze ?_|refine zd ?_|refine zK ?_|refine zl ?_)
    refine wc_loop2 [0, 2, 25, 26] (fun (k : Nat) (vo : Value) => [(27, .int .i64 k), (6, vo)]) (fun k vo wk2 => k ≤ T.length ∧ Ext wk wk2 ∧ Gv.Own wk2 wk.heap.size 3 vo (T.take k).flatten) (fun k _ => T.length - k) 0 v1 rfl ⟨rfl, rfl, trivial⟩ ⟨by omega, hE1, hO1⟩ ?_
    rintro k vo wk2 x2 ⟨hk, hE, hO⟩
    by_cases hkT : k < T.length
    · have hps := h.isSome (by omega)
      obtain ⟨qk, mk, hrk, hIk⟩ := (h.ext hE).rd hkT
      have hfl := flatV_take_le (T := T) (k := k + 1)
      rw [flatV_take hkT, List.length_append] at hfl
      repeat' (first|refine za ?_|refine zA ?_|refine zB ?_|refine zb ?_|refine zc ?_|refine ze ?_|refine zd ?_|refine zC ?_|refine zL ?_|refine zM ?_|refine zX ?_|refine zk ?_|refine zl ?_)
      refine r_append (base := wk.heap.size) el22 rfl (by decide) (by decide) hO hIk rfl rfl (getV_one h1) (by omega) hE.size ?_
      intro v3 w3 hv3 hg3 _ _
      have hC3 : Ch (fun g => wk.heap.size ≤ g) wk2 w3 := Ch.grown hg3 fun g hg => (World.ownsRow.lt hO g hg).1
      repeat' (first|refine za ?_|refine zA ?_|refine zB ?_|refine zb ?_|refine ze ?_|refine zd ?_|refine zI ?_|refine zh ?_)
      refine ⟨k + 1, v3, ⟨rfl, rfl, trivial⟩, ⟨by omega, Ch.ext_new hE hC3 (Nat.le_refl _), ?_⟩, by omega⟩
      unfold Gv.Own
      rw [flatV_take hkT, List.length_append]
      exact hv3
    · have hkl : k = T.length := by omega
      subst hkl
      rw [htk] at hO
      repeat' (first|refine za ?_|refine zA ?_|refine zB ?_|refine zb ?_|refine zc ?_|refine ze ?_|refine zd ?_|refine zC ?_|refine zY ?_|refine zm ?_|refine zn ?_|refine zg ?_|refine zj ?_)
      refine post1 (v := vo) rfl rfl ?_
      exact ⟨hO, hE⟩
end Go.Proofs.YtocgehoffdjijaaGreat
